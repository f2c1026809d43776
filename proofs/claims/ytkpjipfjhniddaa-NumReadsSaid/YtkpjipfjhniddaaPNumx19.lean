/- A walk, written by a program of this session out of the translation (a printed Lean function, and that the Go code comes to its answer). Lean checks it. -/
import Derived.Test.YtkpjipfjhniddaaPNumx0
import Derived.Test.YtkpjipfjhniddaaPNumx5
import Derived.Test.YtkpjipfjhniddaaPNumx6
import Derived.Test.YtkpjipfjhniddaaPNumx7
import Derived.Test.YtkpjipfjhniddaaPNumx11
import Derived.Test.YtkpjipfjhniddaaPNumx12
import Derived.Test.YtkpjipfjhniddaaPNumx13
import Derived.Test.YtkpjipfjhniddaaPNumx14
import Derived.Test.YtkpjipfjhniddaaPNumx15
import Derived.Test.YtkpjipfjhniddaaPNumx16
import Derived.Test.YtkpjipfjhniddaaPNumx18
import Derived.Test.YtkpjipfjhniddaaPuReads
namespace Go.Proofs.Ytkpjipfjhniddaa.PNum
open Go.RowKit Go.Proofs.YtkpjipfjhniddaaW.PrintWords Go.Proofs.YtkpjipfjhniddaaW.PrintLast Go.Proofs.YtkpjipfjhniddaaW.PrintMore
attribute [local go_sem] max2_int min2_int max_two min_two max_three min_three max_four min_four   -- for this text's walks alone
set_option linter.unusedVariables false
set_option linter.unusedSimpArgs false

-- OWNIMPORT Derived.Test.YtkpjipfjhniddaaPuReads
/-! ### cornucopialaw1_NumReads: function 9 -/
/-- What a call comes to: true, for whatever bytes and whatever operations. -/
def cornucopialaw1_NumReads.f (a0 : ByteArray) (a1 : Bool) (l2 : List S74) : Option Bool := if (∀ x ∈ l2, (Lit.int .i64 x.f1).wf = true) then some true else none
theorem cornucopialaw1_NumReads.keep1 {w0 W W1 : World} {g g1 : Nat} {f0 : ByteArray} {f1 : Int} (h : IsS72 w0 W g f0 f1) (hk : KeepBut W W1 g1 none) (hne : g ≠ g1) : IsS72 w0 W1 g f0 f1 := ⟨(hk.2 g h.lt hne (by simp)).trans h.1, h.2⟩
theorem cornucopialaw1_NumReads.keep2 {w0 W W1 : World} {g g1 : Nat} {f0 : ByteArray} {f1 : Int} (h : IsS70 w0 W g f0 f1) (hk : KeepBut W W1 g1 none) (hne : g ≠ g1) : IsS70 w0 W1 g f0 f1 := ⟨(hk.2 g h.lt hne (by simp)).trans h.1, h.2⟩
theorem cornucopialaw1_NumReads.ne {w0 W : World} {g g' : Nat} {f0 f0' : ByteArray} {f1 f1' : Int} (h : IsS72 w0 W g f0 f1) (h' : IsS70 w0 W g' f0' f1') : g' ≠ g := by
  rintro rfl
  have := h.1.symm.trans h'.1
  simp at this
theorem cornucopialaw1_NumReads.new1 {w0 W : World} {g : Nat} (f0 : ByteArray) (f1 : Int) (hB : Below w0.heap.size w0 W) (hg : W.heap.size = g) : IsS72 w0 (W.alloc (.cells #[.string f0, .int .i64 f1] 72)) g f0 f1 := by
  subst hg
  exact IsS72.new _ _ _ _ hB
theorem cornucopialaw1_NumReads.new2 {w0 W : World} {g : Nat} (f0 : ByteArray) (f1 : Int) (hB : Below w0.heap.size w0 W) (hg : W.heap.size = g) : IsS70 w0 (W.alloc (.cells #[.string f0, .int .i64 f1] 70)) g f0 f1 := by
  subst hg
  exact IsS70.new _ _ _ _ hB
def cornucopialaw1_NumReads.endv (b : List Int) (e : Int) : Int := if e = 0 then (if b = [] then 0 else 4) else e
set_option maxHeartbeats 4000000 in
set_option maxRecDepth 100000 in
theorem cornucopialaw1_NumReads.qErr {w0 w : World} {g : Nat} {b : List Int} {e : Int} (h : IsS72 w0 w g (strOfNums b) e) : Calls Try.prog 45 #[.pointer (some ⟨g, 0, none⟩)] w fun ee w' => ee = .returned (.int .i64 e) ∧ w' = w := by
  have h2 := h
  obtain ⟨HG, hg⟩ := h2
  have hc0 := cellS72_0 HG
  have hc1 := cellS72_1 HG
  have hf0 := blk_frozen HG 0
  have hf1 := blk_frozen HG 1
  have H := Aside0.mk h
  clear HG hg h
  go_enter Try.func45, Try.ntmps45
  go_wp2_with (fail)
  go_ret
  exact ⟨rfl, rfl⟩
set_option maxHeartbeats 4000000 in
set_option maxRecDepth 100000 in
theorem cornucopialaw1_NumReads.qLeft {w0 w : World} {g : Nat} {b : List Int} {e : Int} (h : IsS72 w0 w g (strOfNums b) e) : Calls Try.prog 46 #[.pointer (some ⟨g, 0, none⟩)] w fun ee w' => ee = .returned (.int .i64 ((strOfNums b).size : Int)) ∧ w' = w := by
  have h2 := h
  obtain ⟨HG, hg⟩ := h2
  have hc0 := cellS72_0 HG
  have hc1 := cellS72_1 HG
  have hf0 := blk_frozen HG 0
  have hf1 := blk_frozen HG 1
  have H := Aside0.mk h
  clear HG hg h
  go_enter Try.func46, Try.ntmps46
  go_wp2_with (fail)
  go_ret
  exact ⟨rfl, rfl⟩
set_option maxHeartbeats 4000000 in
set_option maxRecDepth 100000 in
theorem cornucopialaw1_NumReads.qEnd {w0 w : World} {g : Nat} {b : List Int} {e : Int} (h : IsS72 w0 w g (strOfNums b) e) : Calls Try.prog 52 #[.pointer (some ⟨g, 0, none⟩)] w fun ee w' => ee = .returned (.int .i64 (cornucopialaw1_NumReads.endv b e)) ∧ w' = w := by
  have h2 := h
  obtain ⟨HG, hg⟩ := h2
  have hc0 := cellS72_0 HG
  have hc1 := cellS72_1 HG
  have hf0 := blk_frozen HG 0
  have hf1 := blk_frozen HG 1
  have H := Aside0.mk h
  clear HG hg h
  unfold cornucopialaw1_NumReads.endv
  by_cases c : e = 0
  · rw [if_pos c]
    have k0 : (e != 0) = false := bne_eq_false_iff_eq.mpr c
    clear c
    by_cases d : b = []
    · rw [if_pos d]
      have k1 : (!(strOfNums b).toList.isEmpty) = false := by rw [(PuRead.S_toList_nil b).2 d]; rfl
      clear d
      go_enter Try.func52, Try.ntmps52
      go_wp2_with (first | (go_at_call 45; refine (cornucopialaw1_NumReads.qErr H.out).mono ?_; rintro ee w1 ⟨rfl, rfl⟩))
      go_ret
      exact ⟨rfl, rfl⟩
    · rw [if_neg d]
      have k1 : (!(strOfNums b).toList.isEmpty) = true := by rw [Bool.not_eq_true', List.isEmpty_eq_false_iff]; exact fun z => d ((PuRead.S_toList_nil b).1 z)
      clear d
      go_enter Try.func52, Try.ntmps52
      go_wp2_with (first | (go_at_call 45; refine (cornucopialaw1_NumReads.qErr H.out).mono ?_; rintro ee w1 ⟨rfl, rfl⟩))
      go_ret
      exact ⟨rfl, rfl⟩
  · rw [if_neg c]
    have k0 : (e != 0) = true := bne_iff_ne.mpr c
    clear c
    go_enter Try.func52, Try.ntmps52
    go_wp2_with (first | (go_at_call 45; refine (cornucopialaw1_NumReads.qErr H.out).mono ?_; rintro ee w1 ⟨rfl, rfl⟩))
    go_ret
    exact ⟨rfl, rfl⟩
set_option maxHeartbeats 4000000 in
set_option maxRecDepth 100000 in
theorem cornucopialaw1_NumReads.qXEnd {w0 w : World} {g : Nat} {b : List Int} {e : Int} (h : IsS70 w0 w g (strOfNums b) e) : Calls Try.prog 61 #[.pointer (some ⟨g, 0, none⟩)] w fun ee w' => ee = .returned (.int .i64 (cornucopialaw1_NumReads.endv b e)) ∧ w' = w := by
  have h2 := h
  obtain ⟨HG, hg⟩ := h2
  have hc0 := cellS70_0 HG
  have hc1 := cellS70_1 HG
  have hf0 := blk_frozen HG 0
  have hf1 := blk_frozen HG 1
  have H := Aside0.mk h
  clear HG hg h
  unfold cornucopialaw1_NumReads.endv
  by_cases c : e = 0
  · rw [if_pos c]
    have k0 : (e != 0) = false := bne_eq_false_iff_eq.mpr c
    clear c
    by_cases d : b = []
    · rw [if_pos d]
      have k1 : decide (0 < (strOfNums b).size) = false := decide_eq_false (by rw [Go.Proofs.YtkpjipfjhniddaaW.Pu.S_size, d]; decide)
      clear d
      go_enter Try.func61, Try.ntmps61
      go_wp2_with (fail)
      go_ret
      exact ⟨rfl, rfl⟩
    · rw [if_neg d]
      have k1 : decide (0 < (strOfNums b).size) = true := decide_eq_true (by rw [Go.Proofs.YtkpjipfjhniddaaW.Pu.S_size]; exact List.length_pos_iff.mpr d)
      clear d
      go_enter Try.func61, Try.ntmps61
      go_wp2_with (fail)
      go_ret
      exact ⟨rfl, rfl⟩
  · rw [if_neg c]
    have k0 : (e != 0) = true := bne_iff_ne.mpr c
    clear c
    go_enter Try.func61, Try.ntmps61
    go_wp2_with (fail)
    go_ret
    exact ⟨rfl, rfl⟩
set_option maxHeartbeats 16000000 in
set_option maxRecDepth 100000 in
theorem cornucopialaw1_NumReads.calls (a0 : ByteArray) (a1 : Bool) (A2 : Option Addr) (c2 : Nat) (l2 : List S74) (r : Bool) (w : World) (hr2 : Kd.C k74 w A2 l2.length l2) (hc2 : l2.length ≤ c2) (h : cornucopialaw1_NumReads.f a0 a1 l2 = some r) :
    Calls Try.prog 9 #[.string a0, .bool a1, .slice A2 l2.length c2] w fun e w' => e = .returned (.bool r) ∧ Below w.heap.size w w' := by
  unfold cornucopialaw1_NumReads.f at h
  split at h
  · rename_i hg
    obtain rfl := Option.some.inj h
    have HW := Aside0.mk hg
    have HR2 := Aside0.mk hr2
    have hlen2 : l2.length ≤ 9223372036854775807 := hr2.2.1
    obtain ⟨ka, hka⟩ := PuNum.alive_ev
    have HAL := Aside0.mk (hka ka (Nat.le_refl _))
    have HB := Aside0.mk (Below.refl w.heap.size w)
    clear h hg hr2 hc2 hka
    by_cases c1 : (a0.size : Int) > 6000
    · skip
      have s0 : decide (6000 < (a0.size : Int)) = true := decide_eq_true (by omega)
      have s0' : decide (6000 < a0.size) = true := decide_eq_true (by omega)
      go_enter Try.func9, Try.ntmps9
      go_wp2_with (first | ((with_reducible refine gate_callee (f := 21) rfl ?_); refine goesL_ (some 19) rfl rfl Try.func21 (by kernel_rfl) rfl #[] rfl (by (try simp only [List.map_toArray, List.map_cons, List.map_nil]); first | done | rfl | (simp only [List.length_drop, List.length_take]; rfl)) ?_; (with_reducible refine (cornucopialaw1_alive.calls ka true _ HAL.out).mono ?_); rintro ee w5 ⟨rfl, hb⟩; refine ⟨_, rfl, ?_⟩; have n0_ := Aside0.mk (below_step (by repeat (first | (with_reducible first | exact HB.out | apply below_alloc | apply pw_below_drewN | apply below_drew1) | exact HB.out)) hb); clear HB; have HB := n0_; clear n0_; (try clear hb)))
      go_ret
      exact ⟨rfl, by repeat (first | (with_reducible first | exact HB.out | apply below_alloc | apply pw_below_drewN | apply below_drew1) | exact HB.out)⟩
    · by_cases c2 : (l2.length : Int) > 300
      · skip
        have s0 : decide (6000 < (a0.size : Int)) = false := decide_eq_false (by omega)
        have s0' : decide (6000 < a0.size) = false := decide_eq_false (by omega)
        have s1 : decide (300 < (l2.length : Int)) = true := decide_eq_true (by omega)
        have s1' : decide (300 < l2.length) = true := decide_eq_true (by omega)
        go_enter Try.func9, Try.ntmps9
        go_wp2_with (first | ((with_reducible refine gate_callee (f := 21) rfl ?_); refine goesL_ (some 19) rfl rfl Try.func21 (by kernel_rfl) rfl #[] rfl (by (try simp only [List.map_toArray, List.map_cons, List.map_nil]); first | done | rfl | (simp only [List.length_drop, List.length_take]; rfl)) ?_; (with_reducible refine (cornucopialaw1_alive.calls ka true _ HAL.out).mono ?_); rintro ee w5 ⟨rfl, hb⟩; refine ⟨_, rfl, ?_⟩; have n0_ := Aside0.mk (below_step (by repeat (first | (with_reducible first | exact HB.out | apply below_alloc | apply pw_below_drewN | apply below_drew1) | exact HB.out)) hb); clear HB; have HB := n0_; clear n0_; (try clear hb)))
        go_ret
        exact ⟨rfl, by repeat (first | (with_reducible first | exact HB.out | apply below_alloc | apply pw_below_drewN | apply below_drew1) | exact HB.out)⟩
      · skip
        have s0 : decide (6000 < (a0.size : Int)) = false := decide_eq_false (by omega)
        have s0' : decide (6000 < a0.size) = false := decide_eq_false (by omega)
        have s1 : decide (300 < (l2.length : Int)) = false := decide_eq_false (by omega)
        have s1' : decide (300 < l2.length) = false := decide_eq_false (by omega)
        have HNW := Aside0.mk (PuRead.New_eq a0 (by omega))
        have HS0 := Aside0.mk (PuReads.small_of a0 (by omega))
        go_enter Try.func9, Try.ntmps9
        go_upto_if 25 with (first | ((with_reducible refine gate_callee (f := 43) rfl ?_); refine goesL_ (some 21) rfl rfl Try.func43 (by kernel_rfl) rfl #[.string a0] rfl (by (try simp only [List.map_toArray, List.map_cons, List.map_nil]); first | done | rfl | (simp only [List.length_drop, List.length_take]; rfl)) ?_; (with_reducible refine (num_NewReader.calls a0 a0 0 w _ ?side1 HNW.out).mono ?_); (case side1 => repeat (first | (with_reducible first | exact HB.out | apply below_alloc | apply pw_below_drewN | apply below_drew1) | exact HB.out)); rintro ee w12 ⟨g200, rfl, hi, hb, hb2⟩; refine ⟨_, rfl, ?_⟩; have n0_ := Aside0.mk (hb); have n1_ := Aside0.mk (hi); clear HB; have HB := n0_; have HI1 := n1_; clear n0_ n1_; (try clear hb); (try clear hb2); (try clear hi)))
        go_cut [7, 8] (fun v7 v8 wc => ∃ (g1 g2 : Nat) (b : List Int), v7 = .pointer (some ⟨g1, 0, none⟩) ∧ v8 = .pointer (some ⟨g2, 0, none⟩) ∧ Aside0 (IsS72 w wc g1 (strOfNums b) 0) ∧ Aside0 (IsS70 w wc g2 (strOfNums b) 0) ∧ Aside0 (PuReads.Small b) ∧ Aside0 (Below w.heap.size w wc))
        case first =>
          cases a1
          · go_wp2_with (fail)
            go_meet
            case rel => exact ⟨_, _, bytesOf a0, rfl, rfl, ⟨by rw [Go.Proofs.YtkpjipfjhniddaaW.Pu.S_of]; repeat (first | (with_reducible first | exact HI1.out | apply IsS72.alloc | apply IsS72.drewN | apply IsS72.drew) | exact HI1.out)⟩, ⟨by rw [Go.Proofs.YtkpjipfjhniddaaW.Pu.S_of]; exact IsS70.new _ _ _ _ HB.out⟩, ⟨HS0.out⟩, ⟨by repeat (first | (with_reducible first | exact HB.out | apply below_alloc | apply pw_below_drewN | apply below_drew1) | exact HB.out)⟩⟩
          · go_wp2_with (fail)
            go_meet
            case rel => exact ⟨_, _, [], rfl, rfl, ⟨IsS72.alloc (cornucopialaw1_NumReads.new1 _ _ (by repeat (first | (with_reducible first | exact HB.out | apply below_alloc | apply pw_below_drewN | apply below_drew1) | exact HB.out)) (by simp)) _⟩, ⟨cornucopialaw1_NumReads.new2 _ _ (by repeat (first | (with_reducible first | exact HB.out | apply below_alloc | apply pw_below_drewN | apply below_drew1) | exact HB.out)) (by simp)⟩, ⟨PuReads.small_nil⟩, ⟨by repeat (first | (with_reducible first | exact HB.out | apply below_alloc | apply pw_below_drewN | apply below_drew1) | exact HB.out)⟩⟩
        case rest =>
          obtain ⟨g1, g2, b, rfl, rfl, HI1, HI2, HS, HB⟩ := hcut
          have HNE : Aside0 (g2 ≠ g1) := ⟨cornucopialaw1_NumReads.ne HI1.out HI2.out⟩
          clear HS0 HNW
          go_wp2_with (fail)
          go_loopw [9] (fun v9 w' => ∃ (j : Nat) (b : List Int) (e : Int), v9 = .int .i64 j ∧ j ≤ l2.length ∧ Aside0 (IsS72 w w' g1 (strOfNums b) e) ∧ Aside0 (IsS70 w w' g2 (strOfNums b) e) ∧ Aside0 (PuReads.Small b) ∧ Aside0 (Below w.heap.size w w')) (fun v9 _ => l2.length - (intOf v9).toNat)
          case atStart => exact ⟨0, b, 0, rfl, Nat.zero_le _, HI1, HI2, HS, HB⟩
          case round =>
            clear HI1 HI2 HS HB
            obtain ⟨j, b, e, rfl, hj, HI1, HI2, HS, HB⟩ := hrel
            by_cases hlt : j < l2.length
            · have p0 : (0 : Int) ≤ (j : Int) := Int.natCast_nonneg _
              have q0 : (j : Int) < (l2.length : Int) := Int.ofNat_lt.mpr hlt
              obtain ⟨ad, e0, hx0, hx1⟩ := at_T74 HR2.out (j : Int) p0 q0
              cases e0
              have y0 := (HB.out.cell (World.block_lt_of_cell? w _ hx0)).trans hx0
              have y1 := (HB.out.cell (World.block_lt_of_cell? w _ hx1)).trans hx1
              clear hx0 hx1
              simp only [Int.toNat_natCast] at y0 y1
              have hen : (Lit.int .i64 (rd_T74 l2 (j : Int)).f1).wf = true := HW.out _ (by simp [rd_T74, hlt])
              have HN := Aside0.mk (Go.Proofs.YtkpjipfjhniddaaW.Pu.i64_wf hen)
              generalize rd_T74 l2 (j : Int) = x at *
              obtain ⟨kd, n⟩ := x
              simp only at y0 y1 HN
              clear hen
              have t0 : decide ((j : Int) < (l2.length : Int)) = true := decide_eq_true q0
              by_cases c1 : kd = 1
              · skip
                have k1 : (kd == 1) = true := beq_iff_eq.mpr c1
                clear c1
                obtain ⟨k, v, b2, e2, hN1, hN2, hsn⟩ := PuReads.step_Var HS.out e
                have HN1 := Aside0.mk hN1
                have HN2 := Aside0.mk hN2
                have HSn := Aside0.mk hsn
                clear hN1 hN2 hsn
                have sv : (v != v) = false := by simp
                go_wp2_with (first | ((with_reducible refine gate_callee (f := 48) rfl ?_); refine goesL_ (some 57) rfl rfl Try.func48 (by kernel_rfl) rfl #[.pointer (some ⟨g1, 0, none⟩)] rfl (by (try simp only [List.map_toArray, List.map_cons, List.map_nil]); first | done | rfl | (simp only [List.length_drop, List.length_take]; rfl)) ?_; (with_reducible refine (num_Reader_Var.calls k g1 (strOfNums b) e v (strOfNums b2) e2 w _ ?side1 ?side2 HN1.out).mono ?_); (case side1 => repeat (first | (with_reducible first | exact HI1.out | apply IsS72.alloc | apply IsS72.drewN | apply IsS72.drew) | exact HI1.out)); (case side2 => repeat (first | (with_reducible first | exact HB.out | apply below_alloc | apply pw_below_drewN | apply below_drew1) | exact HB.out)); rintro ee w6 ⟨rfl, hi, hb, hk⟩; refine ⟨_, rfl, ?_⟩; have n0_ := Aside0.mk hi; have n1_ := Aside0.mk hb; have n2_ := Aside0.mk (cornucopialaw1_NumReads.keep2 (by repeat (first | exact HI2.out | (with_reducible first | apply IsS70.alloc | apply IsS70.drewN | apply IsS70.drew))) hk HNE.out); clear HI1; clear HB; clear HI2; have HI1 := n0_; have HB := n1_; have HI2 := n2_; clear n0_ n1_ n2_; (try clear hi); (try clear hb); (try clear hk)) | ((with_reducible refine gate_callee (f := 53) rfl ?_); refine goesL_ (some 59) rfl rfl Try.func53 (by kernel_rfl) rfl #[.pointer (some ⟨g2, 0, none⟩)] rfl (by (try simp only [List.map_toArray, List.map_cons, List.map_nil]); first | done | rfl | (simp only [List.length_drop, List.length_take]; rfl)) ?_; (with_reducible refine (cornucopiaref1_Reader_Var.calls k g2 (strOfNums b) e v (strOfNums b2) e2 w _ ?side1 ?side2 HN2.out).mono ?_); (case side1 => repeat (first | (with_reducible first | exact HI2.out | apply IsS70.alloc | apply IsS70.drewN | apply IsS70.drew) | exact HI2.out)); (case side2 => repeat (first | (with_reducible first | exact HB.out | apply below_alloc | apply pw_below_drewN | apply below_drew1) | exact HB.out)); rintro ee w6 ⟨rfl, hi, hb, hk⟩; refine ⟨_, rfl, ?_⟩; have n0_ := Aside0.mk hi; have n1_ := Aside0.mk hb; have n2_ := Aside0.mk (cornucopialaw1_NumReads.keep1 (by repeat (first | exact HI1.out | (with_reducible first | apply IsS72.alloc | apply IsS72.drewN | apply IsS72.drew))) hk (fun z => HNE.out z.symm)); clear HI2; clear HB; clear HI1; have HI2 := n0_; have HB := n1_; have HI1 := n2_; clear n0_ n1_ n2_; (try clear hi); (try clear hb); (try clear hk); obtain ⟨HGz, hgz⟩ := HI2.out; have hcz_0 := cellS70_0 HGz; have hcz_1 := cellS70_1 HGz; have hfz_0 := blk_frozen HGz 0; have hfz_1 := blk_frozen HGz 1; clear HGz hgz))
                go_quiet (first | (go_at_call 45; exact Calls.quiet_of_same (cornucopialaw1_NumReads.qErr (IsS72.drewN HI1.out _))) | (go_at_call 52; exact Calls.quiet_of_same (cornucopialaw1_NumReads.qEnd (IsS72.drewN HI1.out _))) | (go_at_call 61; exact Calls.quiet_of_same (cornucopialaw1_NumReads.qXEnd (IsS70.drewN HI2.out _))) | (go_at_call 46; exact Calls.quiet_of_same (cornucopialaw1_NumReads.qLeft (IsS72.drewN HI1.out _))))
                go_wp2_with (fail)
                go_roundw
                case rel => exact ⟨j + 1, b2, e2, by go_num, by omega, ⟨by repeat (first | (with_reducible first | exact HI1.out | apply IsS72.alloc | apply IsS72.drewN | apply IsS72.drew) | exact HI1.out)⟩, ⟨by repeat (first | (with_reducible first | exact HI2.out | apply IsS70.alloc | apply IsS70.drewN | apply IsS70.drew) | exact HI2.out)⟩, ⟨HSn.out⟩, ⟨by repeat (first | (with_reducible first | exact HB.out | apply below_alloc | apply pw_below_drewN | apply below_drew1) | exact HB.out)⟩⟩
                case measure => simp [intOf]; omega
              by_cases c2 : kd = 2
              · skip
                have k1 : (kd == 1) = false := beq_eq_false_iff_ne.mpr c1
                have k2 : (kd == 2) = true := beq_iff_eq.mpr c2
                clear c1 c2
                obtain ⟨k, v, b2, e2, hN1, hN2, hsn⟩ := PuReads.step_Int HS.out e
                have HN1 := Aside0.mk hN1
                have HN2 := Aside0.mk hN2
                have HSn := Aside0.mk hsn
                clear hN1 hN2 hsn
                have sv : (v != v) = false := by simp
                go_wp2_with (first | ((with_reducible refine gate_callee (f := 54) rfl ?_); refine goesL_ (some 64) rfl rfl Try.func54 (by kernel_rfl) rfl #[.pointer (some ⟨g1, 0, none⟩)] rfl (by (try simp only [List.map_toArray, List.map_cons, List.map_nil]); first | done | rfl | (simp only [List.length_drop, List.length_take]; rfl)) ?_; (with_reducible refine (num_Reader_Int.calls k g1 (strOfNums b) e v (strOfNums b2) e2 w _ ?side1 ?side2 HN1.out).mono ?_); (case side1 => repeat (first | (with_reducible first | exact HI1.out | apply IsS72.alloc | apply IsS72.drewN | apply IsS72.drew) | exact HI1.out)); (case side2 => repeat (first | (with_reducible first | exact HB.out | apply below_alloc | apply pw_below_drewN | apply below_drew1) | exact HB.out)); rintro ee w6 ⟨rfl, hi, hb, hk⟩; refine ⟨_, rfl, ?_⟩; have n0_ := Aside0.mk hi; have n1_ := Aside0.mk hb; have n2_ := Aside0.mk (cornucopialaw1_NumReads.keep2 (by repeat (first | exact HI2.out | (with_reducible first | apply IsS70.alloc | apply IsS70.drewN | apply IsS70.drew))) hk HNE.out); clear HI1; clear HB; clear HI2; have HI1 := n0_; have HB := n1_; have HI2 := n2_; clear n0_ n1_ n2_; (try clear hi); (try clear hb); (try clear hk)) | ((with_reducible refine gate_callee (f := 55) rfl ?_); refine goesL_ (some 66) rfl rfl Try.func55 (by kernel_rfl) rfl #[.pointer (some ⟨g2, 0, none⟩)] rfl (by (try simp only [List.map_toArray, List.map_cons, List.map_nil]); first | done | rfl | (simp only [List.length_drop, List.length_take]; rfl)) ?_; (with_reducible refine (cornucopiaref1_Reader_Int.calls k g2 (strOfNums b) e v (strOfNums b2) e2 w _ ?side1 ?side2 HN2.out).mono ?_); (case side1 => repeat (first | (with_reducible first | exact HI2.out | apply IsS70.alloc | apply IsS70.drewN | apply IsS70.drew) | exact HI2.out)); (case side2 => repeat (first | (with_reducible first | exact HB.out | apply below_alloc | apply pw_below_drewN | apply below_drew1) | exact HB.out)); rintro ee w6 ⟨rfl, hi, hb, hk⟩; refine ⟨_, rfl, ?_⟩; have n0_ := Aside0.mk hi; have n1_ := Aside0.mk hb; have n2_ := Aside0.mk (cornucopialaw1_NumReads.keep1 (by repeat (first | exact HI1.out | (with_reducible first | apply IsS72.alloc | apply IsS72.drewN | apply IsS72.drew))) hk (fun z => HNE.out z.symm)); clear HI2; clear HB; clear HI1; have HI2 := n0_; have HB := n1_; have HI1 := n2_; clear n0_ n1_ n2_; (try clear hi); (try clear hb); (try clear hk); obtain ⟨HGz, hgz⟩ := HI2.out; have hcz_0 := cellS70_0 HGz; have hcz_1 := cellS70_1 HGz; have hfz_0 := blk_frozen HGz 0; have hfz_1 := blk_frozen HGz 1; clear HGz hgz))
                go_quiet (first | (go_at_call 45; exact Calls.quiet_of_same (cornucopialaw1_NumReads.qErr (IsS72.drewN HI1.out _))) | (go_at_call 52; exact Calls.quiet_of_same (cornucopialaw1_NumReads.qEnd (IsS72.drewN HI1.out _))) | (go_at_call 61; exact Calls.quiet_of_same (cornucopialaw1_NumReads.qXEnd (IsS70.drewN HI2.out _))) | (go_at_call 46; exact Calls.quiet_of_same (cornucopialaw1_NumReads.qLeft (IsS72.drewN HI1.out _))))
                go_wp2_with (fail)
                go_roundw
                case rel => exact ⟨j + 1, b2, e2, by go_num, by omega, ⟨by repeat (first | (with_reducible first | exact HI1.out | apply IsS72.alloc | apply IsS72.drewN | apply IsS72.drew) | exact HI1.out)⟩, ⟨by repeat (first | (with_reducible first | exact HI2.out | apply IsS70.alloc | apply IsS70.drewN | apply IsS70.drew) | exact HI2.out)⟩, ⟨HSn.out⟩, ⟨by repeat (first | (with_reducible first | exact HB.out | apply below_alloc | apply pw_below_drewN | apply below_drew1) | exact HB.out)⟩⟩
                case measure => simp [intOf]; omega
              by_cases c3 : kd = 3
              · skip
                have k1 : (kd == 1) = false := beq_eq_false_iff_ne.mpr c1
                have k2 : (kd == 2) = false := beq_eq_false_iff_ne.mpr c2
                have k3 : (kd == 3) = true := beq_iff_eq.mpr c3
                clear c1 c2 c3
                obtain ⟨k, v, b2, e2, hN1, hN2, hsn⟩ := PuReads.step_Count HS.out e HN.out
                have HN1 := Aside0.mk hN1
                have HN2 := Aside0.mk hN2
                have HSn := Aside0.mk hsn
                clear hN1 hN2 hsn
                have sv : (v != v) = false := by simp
                go_wp2_with (first | ((with_reducible refine gate_callee (f := 44) rfl ?_); refine goesL_ (some 72) rfl rfl Try.func44 (by kernel_rfl) rfl #[.pointer (some ⟨g1, 0, none⟩), .int .i64 n] rfl (by (try simp only [List.map_toArray, List.map_cons, List.map_nil]); first | done | rfl | (simp only [List.length_drop, List.length_take]; rfl)) ?_; (with_reducible refine (num_Reader_Count.calls k g1 (strOfNums b) e n v (strOfNums b2) e2 w _ ?side1 ?side2 HN1.out).mono ?_); (case side1 => repeat (first | (with_reducible first | exact HI1.out | apply IsS72.alloc | apply IsS72.drewN | apply IsS72.drew) | exact HI1.out)); (case side2 => repeat (first | (with_reducible first | exact HB.out | apply below_alloc | apply pw_below_drewN | apply below_drew1) | exact HB.out)); rintro ee w6 ⟨rfl, hi, hb, hk⟩; refine ⟨_, rfl, ?_⟩; have n0_ := Aside0.mk hi; have n1_ := Aside0.mk hb; have n2_ := Aside0.mk (cornucopialaw1_NumReads.keep2 (by repeat (first | exact HI2.out | (with_reducible first | apply IsS70.alloc | apply IsS70.drewN | apply IsS70.drew))) hk HNE.out); clear HI1; clear HB; clear HI2; have HI1 := n0_; have HB := n1_; have HI2 := n2_; clear n0_ n1_ n2_; (try clear hi); (try clear hb); (try clear hk)) | ((with_reducible refine gate_callee (f := 56) rfl ?_); refine goesL_ (some 75) rfl rfl Try.func56 (by kernel_rfl) rfl #[.pointer (some ⟨g2, 0, none⟩), .int .i64 n] rfl (by (try simp only [List.map_toArray, List.map_cons, List.map_nil]); first | done | rfl | (simp only [List.length_drop, List.length_take]; rfl)) ?_; (with_reducible refine (cornucopiaref1_Reader_Count.calls k g2 (strOfNums b) e n v (strOfNums b2) e2 w _ ?side1 ?side2 HN2.out).mono ?_); (case side1 => repeat (first | (with_reducible first | exact HI2.out | apply IsS70.alloc | apply IsS70.drewN | apply IsS70.drew) | exact HI2.out)); (case side2 => repeat (first | (with_reducible first | exact HB.out | apply below_alloc | apply pw_below_drewN | apply below_drew1) | exact HB.out)); rintro ee w6 ⟨rfl, hi, hb, hk⟩; refine ⟨_, rfl, ?_⟩; have n0_ := Aside0.mk hi; have n1_ := Aside0.mk hb; have n2_ := Aside0.mk (cornucopialaw1_NumReads.keep1 (by repeat (first | exact HI1.out | (with_reducible first | apply IsS72.alloc | apply IsS72.drewN | apply IsS72.drew))) hk (fun z => HNE.out z.symm)); clear HI2; clear HB; clear HI1; have HI2 := n0_; have HB := n1_; have HI1 := n2_; clear n0_ n1_ n2_; (try clear hi); (try clear hb); (try clear hk); obtain ⟨HGz, hgz⟩ := HI2.out; have hcz_0 := cellS70_0 HGz; have hcz_1 := cellS70_1 HGz; have hfz_0 := blk_frozen HGz 0; have hfz_1 := blk_frozen HGz 1; clear HGz hgz))
                go_quiet (first | (go_at_call 45; exact Calls.quiet_of_same (cornucopialaw1_NumReads.qErr (IsS72.drewN HI1.out _))) | (go_at_call 52; exact Calls.quiet_of_same (cornucopialaw1_NumReads.qEnd (IsS72.drewN HI1.out _))) | (go_at_call 61; exact Calls.quiet_of_same (cornucopialaw1_NumReads.qXEnd (IsS70.drewN HI2.out _))) | (go_at_call 46; exact Calls.quiet_of_same (cornucopialaw1_NumReads.qLeft (IsS72.drewN HI1.out _))))
                go_wp2_with (fail)
                go_roundw
                case rel => exact ⟨j + 1, b2, e2, by go_num, by omega, ⟨by repeat (first | (with_reducible first | exact HI1.out | apply IsS72.alloc | apply IsS72.drewN | apply IsS72.drew) | exact HI1.out)⟩, ⟨by repeat (first | (with_reducible first | exact HI2.out | apply IsS70.alloc | apply IsS70.drewN | apply IsS70.drew) | exact HI2.out)⟩, ⟨HSn.out⟩, ⟨by repeat (first | (with_reducible first | exact HB.out | apply below_alloc | apply pw_below_drewN | apply below_drew1) | exact HB.out)⟩⟩
                case measure => simp [intOf]; omega
              by_cases c4 : kd = 4
              · skip
                have k1 : (kd == 1) = false := beq_eq_false_iff_ne.mpr c1
                have k2 : (kd == 2) = false := beq_eq_false_iff_ne.mpr c2
                have k3 : (kd == 3) = false := beq_eq_false_iff_ne.mpr c3
                have k4 : (kd == 4) = true := beq_iff_eq.mpr c4
                clear c1 c2 c3 c4
                obtain ⟨k, v, b2, e2, hN1, hN2, hsn⟩ := PuReads.step_Text HS.out e HN.out
                have HN1 := Aside0.mk hN1
                have HN2 := Aside0.mk hN2
                have HSn := Aside0.mk hsn
                clear hN1 hN2 hsn
                have sv : (v.toList != v.toList) = false := by simp
                go_wp2_with (first | ((with_reducible refine gate_callee (f := 49) rfl ?_); refine goesL_ (some 81) rfl rfl Try.func49 (by kernel_rfl) rfl #[.pointer (some ⟨g1, 0, none⟩), .int .i64 n] rfl (by (try simp only [List.map_toArray, List.map_cons, List.map_nil]); first | done | rfl | (simp only [List.length_drop, List.length_take]; rfl)) ?_; (with_reducible refine (num_Reader_Text.calls k g1 (strOfNums b) e n v (strOfNums b2) e2 w _ ?side1 ?side2 HN1.out).mono ?_); (case side1 => repeat (first | (with_reducible first | exact HI1.out | apply IsS72.alloc | apply IsS72.drewN | apply IsS72.drew) | exact HI1.out)); (case side2 => repeat (first | (with_reducible first | exact HB.out | apply below_alloc | apply pw_below_drewN | apply below_drew1) | exact HB.out)); rintro ee w6 ⟨rfl, hi, hb, hk⟩; refine ⟨_, rfl, ?_⟩; have n0_ := Aside0.mk hi; have n1_ := Aside0.mk hb; have n2_ := Aside0.mk (cornucopialaw1_NumReads.keep2 (by repeat (first | exact HI2.out | (with_reducible first | apply IsS70.alloc | apply IsS70.drewN | apply IsS70.drew))) hk HNE.out); clear HI1; clear HB; clear HI2; have HI1 := n0_; have HB := n1_; have HI2 := n2_; clear n0_ n1_ n2_; (try clear hi); (try clear hb); (try clear hk)) | ((with_reducible refine gate_callee (f := 57) rfl ?_); refine goesL_ (some 84) rfl rfl Try.func57 (by kernel_rfl) rfl #[.pointer (some ⟨g2, 0, none⟩), .int .i64 n] rfl (by (try simp only [List.map_toArray, List.map_cons, List.map_nil]); first | done | rfl | (simp only [List.length_drop, List.length_take]; rfl)) ?_; (with_reducible refine (cornucopiaref1_Reader_Text.calls k g2 (strOfNums b) e n v (strOfNums b2) e2 w _ ?side1 ?side2 HN2.out).mono ?_); (case side1 => repeat (first | (with_reducible first | exact HI2.out | apply IsS70.alloc | apply IsS70.drewN | apply IsS70.drew) | exact HI2.out)); (case side2 => repeat (first | (with_reducible first | exact HB.out | apply below_alloc | apply pw_below_drewN | apply below_drew1) | exact HB.out)); rintro ee w6 ⟨rfl, hi, hb, hk⟩; refine ⟨_, rfl, ?_⟩; have n0_ := Aside0.mk hi; have n1_ := Aside0.mk hb; have n2_ := Aside0.mk (cornucopialaw1_NumReads.keep1 (by repeat (first | exact HI1.out | (with_reducible first | apply IsS72.alloc | apply IsS72.drewN | apply IsS72.drew))) hk (fun z => HNE.out z.symm)); clear HI2; clear HB; clear HI1; have HI2 := n0_; have HB := n1_; have HI1 := n2_; clear n0_ n1_ n2_; (try clear hi); (try clear hb); (try clear hk); obtain ⟨HGz, hgz⟩ := HI2.out; have hcz_0 := cellS70_0 HGz; have hcz_1 := cellS70_1 HGz; have hfz_0 := blk_frozen HGz 0; have hfz_1 := blk_frozen HGz 1; clear HGz hgz))
                go_quiet (first | (go_at_call 45; exact Calls.quiet_of_same (cornucopialaw1_NumReads.qErr (IsS72.drewN HI1.out _))) | (go_at_call 52; exact Calls.quiet_of_same (cornucopialaw1_NumReads.qEnd (IsS72.drewN HI1.out _))) | (go_at_call 61; exact Calls.quiet_of_same (cornucopialaw1_NumReads.qXEnd (IsS70.drewN HI2.out _))) | (go_at_call 46; exact Calls.quiet_of_same (cornucopialaw1_NumReads.qLeft (IsS72.drewN HI1.out _))))
                go_wp2_with (fail)
                go_roundw
                case rel => exact ⟨j + 1, b2, e2, by go_num, by omega, ⟨by repeat (first | (with_reducible first | exact HI1.out | apply IsS72.alloc | apply IsS72.drewN | apply IsS72.drew) | exact HI1.out)⟩, ⟨by repeat (first | (with_reducible first | exact HI2.out | apply IsS70.alloc | apply IsS70.drewN | apply IsS70.drew) | exact HI2.out)⟩, ⟨HSn.out⟩, ⟨by repeat (first | (with_reducible first | exact HB.out | apply below_alloc | apply pw_below_drewN | apply below_drew1) | exact HB.out)⟩⟩
                case measure => simp [intOf]; omega
              by_cases c5 : kd = 5
              · skip
                have k1 : (kd == 1) = false := beq_eq_false_iff_ne.mpr c1
                have k2 : (kd == 2) = false := beq_eq_false_iff_ne.mpr c2
                have k3 : (kd == 3) = false := beq_eq_false_iff_ne.mpr c3
                have k4 : (kd == 4) = false := beq_eq_false_iff_ne.mpr c4
                have k5 : (kd == 5) = true := beq_iff_eq.mpr c5
                clear c1 c2 c3 c4 c5
                obtain ⟨v, b2, e2, hN1, hN2, hsn⟩ := PuReads.step_Bool HS.out e
                have HN1 := Aside0.mk hN1
                have HN2 := Aside0.mk hN2
                have HSn := Aside0.mk hsn
                clear hN1 hN2 hsn
                have sv : (v != v) = false := by simp
                go_wp2_with (first | ((with_reducible refine gate_callee (f := 50) rfl ?_); refine goesL_ (some 89) rfl rfl Try.func50 (by kernel_rfl) rfl #[.pointer (some ⟨g1, 0, none⟩)] rfl (by (try simp only [List.map_toArray, List.map_cons, List.map_nil]); first | done | rfl | (simp only [List.length_drop, List.length_take]; rfl)) ?_; (with_reducible refine (num_Reader_Bool.calls g1 (strOfNums b) e v (strOfNums b2) e2 w _ ?side1 ?side2 HN1.out).mono ?_); (case side1 => repeat (first | (with_reducible first | exact HI1.out | apply IsS72.alloc | apply IsS72.drewN | apply IsS72.drew) | exact HI1.out)); (case side2 => repeat (first | (with_reducible first | exact HB.out | apply below_alloc | apply pw_below_drewN | apply below_drew1) | exact HB.out)); rintro ee w6 ⟨rfl, hi, hb, hk⟩; refine ⟨_, rfl, ?_⟩; have n0_ := Aside0.mk hi; have n1_ := Aside0.mk hb; have n2_ := Aside0.mk (cornucopialaw1_NumReads.keep2 (by repeat (first | exact HI2.out | (with_reducible first | apply IsS70.alloc | apply IsS70.drewN | apply IsS70.drew))) hk HNE.out); clear HI1; clear HB; clear HI2; have HI1 := n0_; have HB := n1_; have HI2 := n2_; clear n0_ n1_ n2_; (try clear hi); (try clear hb); (try clear hk)) | ((with_reducible refine gate_callee (f := 58) rfl ?_); refine goesL_ (some 91) rfl rfl Try.func58 (by kernel_rfl) rfl #[.pointer (some ⟨g2, 0, none⟩)] rfl (by (try simp only [List.map_toArray, List.map_cons, List.map_nil]); first | done | rfl | (simp only [List.length_drop, List.length_take]; rfl)) ?_; (with_reducible refine (cornucopiaref1_Reader_Bool.calls g2 (strOfNums b) e v (strOfNums b2) e2 w _ ?side1 ?side2 HN2.out).mono ?_); (case side1 => repeat (first | (with_reducible first | exact HI2.out | apply IsS70.alloc | apply IsS70.drewN | apply IsS70.drew) | exact HI2.out)); (case side2 => repeat (first | (with_reducible first | exact HB.out | apply below_alloc | apply pw_below_drewN | apply below_drew1) | exact HB.out)); rintro ee w6 ⟨rfl, hi, hb, hk⟩; refine ⟨_, rfl, ?_⟩; have n0_ := Aside0.mk hi; have n1_ := Aside0.mk hb; have n2_ := Aside0.mk (cornucopialaw1_NumReads.keep1 (by repeat (first | exact HI1.out | (with_reducible first | apply IsS72.alloc | apply IsS72.drewN | apply IsS72.drew))) hk (fun z => HNE.out z.symm)); clear HI2; clear HB; clear HI1; have HI2 := n0_; have HB := n1_; have HI1 := n2_; clear n0_ n1_ n2_; (try clear hi); (try clear hb); (try clear hk); obtain ⟨HGz, hgz⟩ := HI2.out; have hcz_0 := cellS70_0 HGz; have hcz_1 := cellS70_1 HGz; have hfz_0 := blk_frozen HGz 0; have hfz_1 := blk_frozen HGz 1; clear HGz hgz))
                go_quiet (first | (go_at_call 45; exact Calls.quiet_of_same (cornucopialaw1_NumReads.qErr (IsS72.drewN HI1.out _))) | (go_at_call 52; exact Calls.quiet_of_same (cornucopialaw1_NumReads.qEnd (IsS72.drewN HI1.out _))) | (go_at_call 61; exact Calls.quiet_of_same (cornucopialaw1_NumReads.qXEnd (IsS70.drewN HI2.out _))) | (go_at_call 46; exact Calls.quiet_of_same (cornucopialaw1_NumReads.qLeft (IsS72.drewN HI1.out _))))
                go_wp2_with (fail)
                go_roundw
                case rel => exact ⟨j + 1, b2, e2, by go_num, by omega, ⟨by repeat (first | (with_reducible first | exact HI1.out | apply IsS72.alloc | apply IsS72.drewN | apply IsS72.drew) | exact HI1.out)⟩, ⟨by repeat (first | (with_reducible first | exact HI2.out | apply IsS70.alloc | apply IsS70.drewN | apply IsS70.drew) | exact HI2.out)⟩, ⟨HSn.out⟩, ⟨by repeat (first | (with_reducible first | exact HB.out | apply below_alloc | apply pw_below_drewN | apply below_drew1) | exact HB.out)⟩⟩
                case measure => simp [intOf]; omega
              by_cases c6 : kd = 6
              · skip
                have k1 : (kd == 1) = false := beq_eq_false_iff_ne.mpr c1
                have k2 : (kd == 2) = false := beq_eq_false_iff_ne.mpr c2
                have k3 : (kd == 3) = false := beq_eq_false_iff_ne.mpr c3
                have k4 : (kd == 4) = false := beq_eq_false_iff_ne.mpr c4
                have k5 : (kd == 5) = false := beq_eq_false_iff_ne.mpr c5
                have k6 : (kd == 6) = true := beq_iff_eq.mpr c6
                clear c1 c2 c3 c4 c5 c6
                obtain ⟨k, v, b2, e2, hN1, hN2, hsn⟩ := PuReads.step_Fix HS.out e n
                have HN1 := Aside0.mk hN1
                have HN2 := Aside0.mk hN2
                have HSn := Aside0.mk hsn
                clear hN1 hN2 hsn
                have sv : (v != v) = false := by simp
                go_wp2_with (first | ((with_reducible refine gate_callee (f := 51) rfl ?_); refine goesL_ (some 97) rfl rfl Try.func51 (by kernel_rfl) rfl #[.pointer (some ⟨g1, 0, none⟩), .int .i64 n] rfl (by (try simp only [List.map_toArray, List.map_cons, List.map_nil]); first | done | rfl | (simp only [List.length_drop, List.length_take]; rfl)) ?_; (with_reducible refine (num_Reader_Fix.calls k g1 (strOfNums b) e n v (strOfNums b2) e2 w _ ?side1 ?side2 HN1.out).mono ?_); (case side1 => repeat (first | (with_reducible first | exact HI1.out | apply IsS72.alloc | apply IsS72.drewN | apply IsS72.drew) | exact HI1.out)); (case side2 => repeat (first | (with_reducible first | exact HB.out | apply below_alloc | apply pw_below_drewN | apply below_drew1) | exact HB.out)); rintro ee w6 ⟨rfl, hi, hb, hk⟩; refine ⟨_, rfl, ?_⟩; have n0_ := Aside0.mk hi; have n1_ := Aside0.mk hb; have n2_ := Aside0.mk (cornucopialaw1_NumReads.keep2 (by repeat (first | exact HI2.out | (with_reducible first | apply IsS70.alloc | apply IsS70.drewN | apply IsS70.drew))) hk HNE.out); clear HI1; clear HB; clear HI2; have HI1 := n0_; have HB := n1_; have HI2 := n2_; clear n0_ n1_ n2_; (try clear hi); (try clear hb); (try clear hk)) | ((with_reducible refine gate_callee (f := 59) rfl ?_); refine goesL_ (some 100) rfl rfl Try.func59 (by kernel_rfl) rfl #[.pointer (some ⟨g2, 0, none⟩), .int .i64 n] rfl (by (try simp only [List.map_toArray, List.map_cons, List.map_nil]); first | done | rfl | (simp only [List.length_drop, List.length_take]; rfl)) ?_; (with_reducible refine (cornucopiaref1_Reader_Fix.calls k g2 (strOfNums b) e n v (strOfNums b2) e2 w _ ?side1 ?side2 HN2.out).mono ?_); (case side1 => repeat (first | (with_reducible first | exact HI2.out | apply IsS70.alloc | apply IsS70.drewN | apply IsS70.drew) | exact HI2.out)); (case side2 => repeat (first | (with_reducible first | exact HB.out | apply below_alloc | apply pw_below_drewN | apply below_drew1) | exact HB.out)); rintro ee w6 ⟨rfl, hi, hb, hk⟩; refine ⟨_, rfl, ?_⟩; have n0_ := Aside0.mk hi; have n1_ := Aside0.mk hb; have n2_ := Aside0.mk (cornucopialaw1_NumReads.keep1 (by repeat (first | exact HI1.out | (with_reducible first | apply IsS72.alloc | apply IsS72.drewN | apply IsS72.drew))) hk (fun z => HNE.out z.symm)); clear HI2; clear HB; clear HI1; have HI2 := n0_; have HB := n1_; have HI1 := n2_; clear n0_ n1_ n2_; (try clear hi); (try clear hb); (try clear hk); obtain ⟨HGz, hgz⟩ := HI2.out; have hcz_0 := cellS70_0 HGz; have hcz_1 := cellS70_1 HGz; have hfz_0 := blk_frozen HGz 0; have hfz_1 := blk_frozen HGz 1; clear HGz hgz))
                go_quiet (first | (go_at_call 45; exact Calls.quiet_of_same (cornucopialaw1_NumReads.qErr (IsS72.drewN HI1.out _))) | (go_at_call 52; exact Calls.quiet_of_same (cornucopialaw1_NumReads.qEnd (IsS72.drewN HI1.out _))) | (go_at_call 61; exact Calls.quiet_of_same (cornucopialaw1_NumReads.qXEnd (IsS70.drewN HI2.out _))) | (go_at_call 46; exact Calls.quiet_of_same (cornucopialaw1_NumReads.qLeft (IsS72.drewN HI1.out _))))
                go_wp2_with (fail)
                go_roundw
                case rel => exact ⟨j + 1, b2, e2, by go_num, by omega, ⟨by repeat (first | (with_reducible first | exact HI1.out | apply IsS72.alloc | apply IsS72.drewN | apply IsS72.drew) | exact HI1.out)⟩, ⟨by repeat (first | (with_reducible first | exact HI2.out | apply IsS70.alloc | apply IsS70.drewN | apply IsS70.drew) | exact HI2.out)⟩, ⟨HSn.out⟩, ⟨by repeat (first | (with_reducible first | exact HB.out | apply below_alloc | apply pw_below_drewN | apply below_drew1) | exact HB.out)⟩⟩
                case measure => simp [intOf]; omega
              have k1 : (kd == 1) = false := beq_eq_false_iff_ne.mpr c1
              have k2 : (kd == 2) = false := beq_eq_false_iff_ne.mpr c2
              have k3 : (kd == 3) = false := beq_eq_false_iff_ne.mpr c3
              have k4 : (kd == 4) = false := beq_eq_false_iff_ne.mpr c4
              have k5 : (kd == 5) = false := beq_eq_false_iff_ne.mpr c5
              have k6 : (kd == 6) = false := beq_eq_false_iff_ne.mpr c6
              clear c1 c2 c3 c4 c5 c6
              obtain ⟨b2, e2, hN1, hN2, hsn⟩ := PuReads.step_Fail HS.out e n
              have HN1 := Aside0.mk hN1
              have HN2 := Aside0.mk hN2
              have HSn := Aside0.mk hsn
              clear hN1 hN2 hsn
              go_wp2_with (first | ((with_reducible refine gate_callee (f := 47) rfl ?_); refine goesL_ (some 50) rfl rfl Try.func47 (by kernel_rfl) rfl #[.pointer (some ⟨g1, 0, none⟩), .int .i64 n] rfl (by (try simp only [List.map_toArray, List.map_cons, List.map_nil]); first | done | rfl | (simp only [List.length_drop, List.length_take]; rfl)) ?_; (with_reducible refine (num_Reader_Fail.calls g1 (strOfNums b) e n (strOfNums b2) e2 w _ ?side1 ?side2 HN1.out).mono ?_); (case side1 => repeat (first | (with_reducible first | exact HI1.out | apply IsS72.alloc | apply IsS72.drewN | apply IsS72.drew) | exact HI1.out)); (case side2 => repeat (first | (with_reducible first | exact HB.out | apply below_alloc | apply pw_below_drewN | apply below_drew1) | exact HB.out)); rintro ee w6 ⟨rfl, hi, hb, hk⟩; refine ⟨_, rfl, ?_⟩; have n0_ := Aside0.mk hi; have n1_ := Aside0.mk hb; have n2_ := Aside0.mk (cornucopialaw1_NumReads.keep2 (by repeat (first | exact HI2.out | (with_reducible first | apply IsS70.alloc | apply IsS70.drewN | apply IsS70.drew))) hk HNE.out); clear HI1; clear HB; clear HI2; have HI1 := n0_; have HB := n1_; have HI2 := n2_; clear n0_ n1_ n2_; (try clear hi); (try clear hb); (try clear hk)) | ((with_reducible refine gate_callee (f := 60) rfl ?_); refine goesL_ (some 53) rfl rfl Try.func60 (by kernel_rfl) rfl #[.pointer (some ⟨g2, 0, none⟩), .int .i64 n] rfl (by (try simp only [List.map_toArray, List.map_cons, List.map_nil]); first | done | rfl | (simp only [List.length_drop, List.length_take]; rfl)) ?_; (with_reducible refine (cornucopiaref1_Reader_Fail.calls g2 (strOfNums b) e n (strOfNums b2) e2 w _ ?side1 ?side2 HN2.out).mono ?_); (case side1 => repeat (first | (with_reducible first | exact HI2.out | apply IsS70.alloc | apply IsS70.drewN | apply IsS70.drew) | exact HI2.out)); (case side2 => repeat (first | (with_reducible first | exact HB.out | apply below_alloc | apply pw_below_drewN | apply below_drew1) | exact HB.out)); rintro ee w6 ⟨rfl, hi, hb, hk⟩; refine ⟨_, rfl, ?_⟩; have n0_ := Aside0.mk hi; have n1_ := Aside0.mk hb; have n2_ := Aside0.mk (cornucopialaw1_NumReads.keep1 (by repeat (first | exact HI1.out | (with_reducible first | apply IsS72.alloc | apply IsS72.drewN | apply IsS72.drew))) hk (fun z => HNE.out z.symm)); clear HI2; clear HB; clear HI1; have HI2 := n0_; have HB := n1_; have HI1 := n2_; clear n0_ n1_ n2_; (try clear hi); (try clear hb); (try clear hk); obtain ⟨HGz, hgz⟩ := HI2.out; have hcz_0 := cellS70_0 HGz; have hcz_1 := cellS70_1 HGz; have hfz_0 := blk_frozen HGz 0; have hfz_1 := blk_frozen HGz 1; clear HGz hgz))
              go_quiet (first | (go_at_call 45; exact Calls.quiet_of_same (cornucopialaw1_NumReads.qErr (IsS72.drewN HI1.out _))) | (go_at_call 52; exact Calls.quiet_of_same (cornucopialaw1_NumReads.qEnd (IsS72.drewN HI1.out _))) | (go_at_call 61; exact Calls.quiet_of_same (cornucopialaw1_NumReads.qXEnd (IsS70.drewN HI2.out _))) | (go_at_call 46; exact Calls.quiet_of_same (cornucopialaw1_NumReads.qLeft (IsS72.drewN HI1.out _))))
              go_wp2_with (fail)
              go_roundw
              case rel => exact ⟨j + 1, b2, e2, by go_num, by omega, ⟨by repeat (first | (with_reducible first | exact HI1.out | apply IsS72.alloc | apply IsS72.drewN | apply IsS72.drew) | exact HI1.out)⟩, ⟨by repeat (first | (with_reducible first | exact HI2.out | apply IsS70.alloc | apply IsS70.drewN | apply IsS70.drew) | exact HI2.out)⟩, ⟨HSn.out⟩, ⟨by repeat (first | (with_reducible first | exact HB.out | apply below_alloc | apply pw_below_drewN | apply below_drew1) | exact HB.out)⟩⟩
              case measure => simp [intOf]; omega
            · have t0 : decide ((j : Int) < (l2.length : Int)) = false := decide_eq_false (by omega)
              go_wp2_with (first | ((with_reducible refine gate_callee (f := 21) rfl ?_); refine goesL_ (some 126) rfl rfl Try.func21 (by kernel_rfl) rfl #[] rfl (by (try simp only [List.map_toArray, List.map_cons, List.map_nil]); first | done | rfl | (simp only [List.length_drop, List.length_take]; rfl)) ?_; (with_reducible refine (cornucopialaw1_alive.calls ka true _ HAL.out).mono ?_); rintro ee w5 ⟨rfl, hb⟩; refine ⟨_, rfl, ?_⟩; have n0_ := Aside0.mk (below_step (by repeat (first | (with_reducible first | exact HB.out | apply below_alloc | apply pw_below_drewN | apply below_drew1) | exact HB.out)) hb); clear HB; have HB := n0_; clear n0_; (try clear hb)))
              go_ret
              exact ⟨rfl, by repeat (first | (with_reducible first | exact HB.out | apply below_alloc | apply pw_below_drewN | apply below_drew1) | exact HB.out)⟩
  · cases h


/-- THE ONE PURE STATEMENT of cornucopialaw1_NumReads. -/
def cornucopialaw1_NumReads.Pure : Prop := ∀ (a0 : ByteArray) (a1 : Bool) (l2 : List (S74)), a0.size ≤ 140737488351232 → l2.length * 16 ≤ 140737488351232 → (∀ x_ ∈ l2, wfS74 x_) → cornucopialaw1_NumReads.f a0 a1 l2 = some true
theorem cornucopialaw1_NumReads.walk (P : cornucopialaw1_NumReads.Pure) (a0 : ByteArray) (a1 : Bool) (A2 : Option Addr) (c2 : Nat) (l2 : List (S74)) (w : World) (w0_0 : a0.size ≤ 140737488351232) (hr2 : Kd.C k74 w A2 l2.length l2) (hc2 : l2.length ≤ c2) (w2_0 : l2.length * 16 ≤ 140737488351232) (w2_1 : (∀ x_ ∈ l2, wfS74 x_)) :
    Calls Try.prog 9 #[.string a0, .bool a1, .slice A2 l2.length c2] w fun e w' => e = .returned (.bool true) ∧ Below w.heap.size w w' := by
  have h := P a0 a1 l2 w0_0 w2_0 w2_1
  refine (cornucopialaw1_NumReads.calls a0 a1 _ _ l2 true w hr2 hc2 h).mono ?_
  rintro e w' ⟨rfl, hd⟩
  exact ⟨rfl, hd⟩

end Go.Proofs.Ytkpjipfjhniddaa.PNum
