/- A walk, written by a program of this session out of the translation (a printed Lean function, and that the Go code comes to its answer). Lean checks it. -/
import Derived.Test.YtkpjipfjhniddaaPNumx0
import Derived.Test.YtkpjipfjhniddaaPNumx1
import Derived.Test.YtkpjipfjhniddaaPNumx5
import Derived.Test.YtkpjipfjhniddaaPNumx7
import Derived.Test.YtkpjipfjhniddaaPNumx30
import Derived.Test.YtkpjipfjhniddaaPNumx31
import Derived.Test.YtkpjipfjhniddaaPNumx33
import Derived.Test.YtkpjipfjhniddaaPNumx34
import Derived.Test.YtkpjipfjhniddaaPNumx35
namespace Go.Proofs.Ytkpjipfjhniddaa.PNum
open Go.RowKit Go.Proofs.YtkpjipfjhniddaaW.PrintWords Go.Proofs.YtkpjipfjhniddaaW.PrintLast Go.Proofs.YtkpjipfjhniddaaW.PrintMore
attribute [local go_sem] max2_int min2_int max_two min_two max_three min_three max_four min_four   -- for this text's walks alone
set_option linter.unusedVariables false
set_option linter.unusedSimpArgs false

attribute [local go_sem high] eqA29
/-! ### cornucopialaw5_IkeyBack: function 12 -/
def cornucopialaw5_IkeyBack.f (k : Nat) (a0_0 : ByteArray) (a0_1 : Int) (a0_2 : Int) (a0_3 : ByteArray) : Option (Bool) := (cornucopialaw5_Small.f k (([(⟨a0_0, a0_1, a0_2, a0_3⟩ : S29)] : List (S29)))).bind fun t541 => (if t541 = true then ((ikey_Put.f k a0_0 a0_1 a0_2 a0_3).bind fun bt543 => (if bt543.2 = 0 then ((num_NewReader.f bt543.1).bind fun bt547 => ((cornucopialaw5_alive.f k).bind fun t550 => (if t550 = true then ((ikey_Get.f k bt547.1 bt547.2).bind fun bt551 => (if (bt551.1.toList == a0_0.toList && (bt551.2.1 == a0_1 && (bt551.2.2.1 == a0_2 && (bt551.2.2.2.1.toList == a0_3.toList)))) = true then ((num_Reader_End.f bt551.2.2.2.2.1 bt551.2.2.2.2.2).bind fun bt557 => (if bt557.1 = 0 then ((ikey_Valid.f k a0_0 a0_1 a0_2 a0_3).bind fun t560 => (some t560)) else (none))) else (none))) else (none)))) else ((cornucopialaw5_alive.f k).bind fun t545 => (if t545 = true then (if bt543.2 = 1 then (if bt543.1.toList = ([] : List UInt8) then ((ikey_Valid.f k a0_0 a0_1 a0_2 a0_3).bind fun t546 => (some (!t546))) else (none)) else (none)) else (none))))) else ((cornucopialaw5_alive.f k).bind fun t542 => (some t542)))
theorem cornucopialaw5_IkeyBack.mono : ∀ a0 a1 a2 a3 k, LeO (cornucopialaw5_IkeyBack.f k a0 a1 a2 a3) (cornucopialaw5_IkeyBack.f (k + 1) a0 a1 a2 a3) := by
  intro a0 a1 a2 a3 k
  unfold cornucopialaw5_IkeyBack.f
  repeat' first
      | (with_reducible exact cornucopialaw5_Small.mono _ _)
      | (with_reducible exact cornucopialaw5_alive.mono _)
      | (with_reducible exact ikey_Get.mono _ _ _)
      | (with_reducible exact ikey_Put.mono _ _ _ _ _)
      | (with_reducible exact ikey_Valid.mono _ _ _ _ _)
      | (with_reducible exact LeO.refl _)
      | (with_reducible exact LeO.none _)
      | (with_reducible refine LeO.ite ?_ ?_)
      | (with_reducible refine LeO.bind ?_ (fun _ => ?_))
      | exact cornucopialaw5_Small.mono _ _
      | exact cornucopialaw5_alive.mono _
      | exact ikey_Get.mono _ _ _
      | exact ikey_Put.mono _ _ _ _ _
      | exact ikey_Valid.mono _ _ _ _ _
      | exact LeO.none _
      | refine LeO.ite ?_ ?_
      | refine LeO.bind ?_ (fun _ => ?_)
def cornucopialaw5_IkeyBack.T9 : Bool × List (List Nat × List Nat) := (true, [([], []), ([0, 0], [0]), ([1], [1]), ([2, 1, 1], [1, 2]), ([1], [1]), ([3, 4, 1], [1, 3, 4]), ([1, 5], [1, 5]), ([6, 3], [6]), ([7], [7]), ([8, 7, 7], [7, 8]), ([9, 7], [7, 9]), ([7, 10], [7, 10]), ([11, 9], [11]), ([12], [12]), ([13, 12, 12], [12, 13]), ([12, 14], [12, 14]), ([15, 14, 0, 1, 2, 3, 4, 5, 6, 7, 8, 9, 10, 11, 12, 13, 14, 15], [15])])
def cornucopialaw5_IkeyBack.B9 : List Nat := [0, 1, 3, 7, 3, 31, 63, 127, 255, 511, 1023, 2047, 4095, 8191, 16383, 32767, 65535]
theorem cornucopialaw5_IkeyBack.tab9 : rtab .any (opsOf Try.f12 9) = cornucopialaw5_IkeyBack.T9 := by kernel_rfl
theorem cornucopialaw5_IkeyBack.bits9 : waitsOk cornucopialaw5_IkeyBack.T9.2 cornucopialaw5_IkeyBack.B9 = true := by kernel_rfl
set_option maxHeartbeats 8000000 in
set_option maxRecDepth 100000 in
theorem cornucopialaw5_IkeyBack.calls (k : Nat) (a0_0 : ByteArray) (a0_1 : Int) (a0_2 : Int) (a0_3 : ByteArray) (r : Bool) (w : World) (h : cornucopialaw5_IkeyBack.f k a0_0 a0_1 a0_2 a0_3 = some r) :
    Calls Try.prog 12 #[.agg #[.string a0_0, .int .u64 a0_1, .int .i64 a0_2, .string a0_3]] w fun e w' => e = .returned (.bool r) ∧ Below w.heap.size w w' := by
  have hu29 := Try.underlying29
  have HB := Aside0.mk (Below.refl w.heap.size w)
  have H : ((cornucopialaw5_Small.f k (([(⟨a0_0, a0_1, a0_2, a0_3⟩ : S29)] : List (S29)))).bind fun t541 => (if t541 = true then ((ikey_Put.f k a0_0 a0_1 a0_2 a0_3).bind fun bt543 => (if bt543.2 = 0 then ((num_NewReader.f bt543.1).bind fun bt547 => ((cornucopialaw5_alive.f k).bind fun t550 => (if t550 = true then ((ikey_Get.f k bt547.1 bt547.2).bind fun bt551 => (if (bt551.1.toList == a0_0.toList && (bt551.2.1 == a0_1 && (bt551.2.2.1 == a0_2 && (bt551.2.2.2.1.toList == a0_3.toList)))) = true then ((num_Reader_End.f bt551.2.2.2.2.1 bt551.2.2.2.2.2).bind fun bt557 => (if bt557.1 = 0 then ((ikey_Valid.f k a0_0 a0_1 a0_2 a0_3).bind fun t560 => (some t560)) else (none))) else (none))) else (none)))) else ((cornucopialaw5_alive.f k).bind fun t545 => (if t545 = true then (if bt543.2 = 1 then (if bt543.1.toList = ([] : List UInt8) then ((ikey_Valid.f k a0_0 a0_1 a0_2 a0_3).bind fun t546 => (some (!t546))) else (none)) else (none)) else (none))))) else ((cornucopialaw5_alive.f k).bind fun t542 => (some t542)))) = some r := h
  clear h
  obtain ⟨y538, hy538⟩ : ∃ y_ : List (S29), y_ = (([(⟨a0_0, a0_1, a0_2, a0_3⟩ : S29)] : List (S29))) := ⟨_, rfl⟩
  replace H : ((cornucopialaw5_Small.f k y538).bind fun t541 => (if t541 = true then ((ikey_Put.f k a0_0 a0_1 a0_2 a0_3).bind fun bt543 => (if bt543.2 = 0 then ((num_NewReader.f bt543.1).bind fun bt547 => ((cornucopialaw5_alive.f k).bind fun t550 => (if t550 = true then ((ikey_Get.f k bt547.1 bt547.2).bind fun bt551 => (if (bt551.1.toList == a0_0.toList && (bt551.2.1 == a0_1 && (bt551.2.2.1 == a0_2 && (bt551.2.2.2.1.toList == a0_3.toList)))) = true then ((num_Reader_End.f bt551.2.2.2.2.1 bt551.2.2.2.2.2).bind fun bt557 => (if bt557.1 = 0 then ((ikey_Valid.f k a0_0 a0_1 a0_2 a0_3).bind fun t560 => (some t560)) else (none))) else (none))) else (none)))) else ((cornucopialaw5_alive.f k).bind fun t545 => (if t545 = true then (if bt543.2 = 1 then (if bt543.1.toList = ([] : List UInt8) then ((ikey_Valid.f k a0_0 a0_1 a0_2 a0_3).bind fun t546 => (some (!t546))) else (none)) else (none)) else (none))))) else ((cornucopialaw5_alive.f k).bind fun t542 => (some t542)))) = some r := by first | (rw [hy538]; with_reducible exact H) | (have H2_ := (Option.bind_some _ _).symm.trans H; rw [hy538]; with_reducible exact H2_) | (have H2_ := (Option.bind_some _ _).symm.trans H; with_reducible exact H2_) | with_reducible exact H | (rw [hy538]; exact H) | exact H
  have Ny538 := Aside0.mk hy538
  clear hy538
  replace H := Option.bind_eq_some_iff.mp H
  obtain ⟨t541, A20, H⟩ := H
  replace H : (if t541 = true then ((ikey_Put.f k a0_0 a0_1 a0_2 a0_3).bind fun bt543 => (if bt543.2 = 0 then ((num_NewReader.f bt543.1).bind fun bt547 => ((cornucopialaw5_alive.f k).bind fun t550 => (if t550 = true then ((ikey_Get.f k bt547.1 bt547.2).bind fun bt551 => (if (bt551.1.toList == a0_0.toList && (bt551.2.1 == a0_1 && (bt551.2.2.1 == a0_2 && (bt551.2.2.2.1.toList == a0_3.toList)))) = true then ((num_Reader_End.f bt551.2.2.2.2.1 bt551.2.2.2.2.2).bind fun bt557 => (if bt557.1 = 0 then ((ikey_Valid.f k a0_0 a0_1 a0_2 a0_3).bind fun t560 => (some t560)) else (none))) else (none))) else (none)))) else ((cornucopialaw5_alive.f k).bind fun t545 => (if t545 = true then (if bt543.2 = 1 then (if bt543.1.toList = ([] : List UInt8) then ((ikey_Valid.f k a0_0 a0_1 a0_2 a0_3).bind fun t546 => (some (!t546))) else (none)) else (none)) else (none))))) else ((cornucopialaw5_alive.f k).bind fun t542 => (some t542))) = some r := H
  have A2 := Aside0.mk A20
  clear A20
  by_cases c3 : t541 = true
  · subst c3
    have H1 : ((ikey_Put.f k a0_0 a0_1 a0_2 a0_3).bind fun bt543 => (if bt543.2 = 0 then ((num_NewReader.f bt543.1).bind fun bt547 => ((cornucopialaw5_alive.f k).bind fun t550 => (if t550 = true then ((ikey_Get.f k bt547.1 bt547.2).bind fun bt551 => (if (bt551.1.toList == a0_0.toList && (bt551.2.1 == a0_1 && (bt551.2.2.1 == a0_2 && (bt551.2.2.2.1.toList == a0_3.toList)))) = true then ((num_Reader_End.f bt551.2.2.2.2.1 bt551.2.2.2.2.2).bind fun bt557 => (if bt557.1 = 0 then ((ikey_Valid.f k a0_0 a0_1 a0_2 a0_3).bind fun t560 => (some t560)) else (none))) else (none))) else (none)))) else ((cornucopialaw5_alive.f k).bind fun t545 => (if t545 = true then (if bt543.2 = 1 then (if bt543.1.toList = ([] : List UInt8) then ((ikey_Valid.f k a0_0 a0_1 a0_2 a0_3).bind fun t546 => (some (!t546))) else (none)) else (none)) else (none))))) = some r := by rw [if_pos rfl] at H; exact H
    clear H
    have H := H1
    clear H1
    replace H := Option.bind_eq_some_iff.mp H
    obtain ⟨⟨t543, t544⟩, A40, H⟩ := H
    replace H : (if t544 = 0 then ((num_NewReader.f t543).bind fun bt547 => ((cornucopialaw5_alive.f k).bind fun t550 => (if t550 = true then ((ikey_Get.f k bt547.1 bt547.2).bind fun bt551 => (if (bt551.1.toList == a0_0.toList && (bt551.2.1 == a0_1 && (bt551.2.2.1 == a0_2 && (bt551.2.2.2.1.toList == a0_3.toList)))) = true then ((num_Reader_End.f bt551.2.2.2.2.1 bt551.2.2.2.2.2).bind fun bt557 => (if bt557.1 = 0 then ((ikey_Valid.f k a0_0 a0_1 a0_2 a0_3).bind fun t560 => (some t560)) else (none))) else (none))) else (none)))) else ((cornucopialaw5_alive.f k).bind fun t545 => (if t545 = true then (if t544 = 1 then (if t543.toList = ([] : List UInt8) then ((ikey_Valid.f k a0_0 a0_1 a0_2 a0_3).bind fun t546 => (some (!t546))) else (none)) else (none)) else (none)))) = some r := H
    have A4 := Aside0.mk A40
    clear A40
    by_cases c5 : t544 = 0
    · rw [if_pos c5] at H
      have c5b0 : (t544 == 0) = true := beq_iff_eq.mpr c5
      have c5b1 : (t544 != 0) = false := bne_eq_false_iff_eq.mpr c5
      clear c5
      replace H := Option.bind_eq_some_iff.mp H
      obtain ⟨⟨t547, t548⟩, A60, H⟩ := H
      replace H : ((cornucopialaw5_alive.f k).bind fun t550 => (if t550 = true then ((ikey_Get.f k t547 t548).bind fun bt551 => (if (bt551.1.toList == a0_0.toList && (bt551.2.1 == a0_1 && (bt551.2.2.1 == a0_2 && (bt551.2.2.2.1.toList == a0_3.toList)))) = true then ((num_Reader_End.f bt551.2.2.2.2.1 bt551.2.2.2.2.2).bind fun bt557 => (if bt557.1 = 0 then ((ikey_Valid.f k a0_0 a0_1 a0_2 a0_3).bind fun t560 => (some t560)) else (none))) else (none))) else (none))) = some r := H
      have A6 := Aside0.mk A60
      clear A60
      replace H := Option.bind_eq_some_iff.mp H
      obtain ⟨t550, A70, H⟩ := H
      replace H : (if t550 = true then ((ikey_Get.f k t547 t548).bind fun bt551 => (if (bt551.1.toList == a0_0.toList && (bt551.2.1 == a0_1 && (bt551.2.2.1 == a0_2 && (bt551.2.2.2.1.toList == a0_3.toList)))) = true then ((num_Reader_End.f bt551.2.2.2.2.1 bt551.2.2.2.2.2).bind fun bt557 => (if bt557.1 = 0 then ((ikey_Valid.f k a0_0 a0_1 a0_2 a0_3).bind fun t560 => (some t560)) else (none))) else (none))) else (none)) = some r := H
      have A7 := Aside0.mk A70
      clear A70
      by_cases c8 : t550 = true
      · subst c8
        have H1 : ((ikey_Get.f k t547 t548).bind fun bt551 => (if (bt551.1.toList == a0_0.toList && (bt551.2.1 == a0_1 && (bt551.2.2.1 == a0_2 && (bt551.2.2.2.1.toList == a0_3.toList)))) = true then ((num_Reader_End.f bt551.2.2.2.2.1 bt551.2.2.2.2.2).bind fun bt557 => (if bt557.1 = 0 then ((ikey_Valid.f k a0_0 a0_1 a0_2 a0_3).bind fun t560 => (some t560)) else (none))) else (none))) = some r := by rw [if_pos rfl] at H; exact H
        clear H
        have H := H1
        clear H1
        replace H := Option.bind_eq_some_iff.mp H
        obtain ⟨⟨t551, t552, t553, t554, t555, t556⟩, A90, H⟩ := H
        replace H : (if (t551.toList == a0_0.toList && (t552 == a0_1 && (t553 == a0_2 && (t554.toList == a0_3.toList)))) = true then ((num_Reader_End.f t555 t556).bind fun bt557 => (if bt557.1 = 0 then ((ikey_Valid.f k a0_0 a0_1 a0_2 a0_3).bind fun t560 => (some t560)) else (none))) else (none)) = some r := H
        have A9 := Aside0.mk A90
        clear A90
        by_cases c10 : (t551.toList == a0_0.toList && (t552 == a0_1 && (t553 == a0_2 && (t554.toList == a0_3.toList)))) = true
        · rw [if_pos c10] at H
          have c10b0 : (t551.toList == a0_0.toList && (t552 == a0_1 && (t553 == a0_2 && (t554.toList == a0_3.toList)))) = true := c10
          (try (have c10b1 : decide (t551.toList = a0_0.toList && (t552 == a0_1 && (t553 == a0_2 && (t554.toList == a0_3.toList)))) = true := by simpa using c10))
          (try (have c10b2 : (t551.toList == a0_0.toList && (t552 == a0_1 && (t553 == a0_2 && (t554.toList == a0_3.toList)))) = true := by simpa using c10))
          clear c10
          replace H := Option.bind_eq_some_iff.mp H
          obtain ⟨⟨t557, t558, t559⟩, A110, H⟩ := H
          replace H : (if t557 = 0 then ((ikey_Valid.f k a0_0 a0_1 a0_2 a0_3).bind fun t560 => (some t560)) else (none)) = some r := H
          have A11 := Aside0.mk A110
          clear A110
          by_cases c12 : t557 = 0
          · rw [if_pos c12] at H
            have c12b0 : (t557 == 0) = true := beq_iff_eq.mpr c12
            have c12b1 : (t557 != 0) = false := bne_eq_false_iff_eq.mpr c12
            clear c12
            replace H := Option.bind_eq_some_iff.mp H
            obtain ⟨t560, A130, H⟩ := H
            replace H : (some t560) = some r := H
            have A13 := Aside0.mk A130
            clear A130
            obtain rfl := Option.some.inj H
            go_enter Try.func12, Try.ntmps12
            try go_wp2_with (first | ((with_reducible refine gate_dst (N := 1) rfl ?_); refine box_event ?hg (N := 1) ?hd (cs := #[.string a0_0, .int .u64 a0_1, .int .i64 a0_2, .string a0_3]) (t := 29) ?hr ?_; (case hd => rfl); (case hg => rfl); (case hr => first | (go_simp; done) | (go_simp; rfl)); intro gb537 hg w14 hbox hb; have n0_ := Aside0.mk (below_step (by repeat (first | (with_reducible first | exact HB.out | apply below_alloc | apply pw_below_drewN | apply below_drew1) | exact HB.out)) hb); have n1_ := Aside0.mk (hbox); have n2_ := Aside0.mk ((by rw [hg]; exact (below_size (by repeat (first | (with_reducible first | exact HB.out | apply below_alloc | apply pw_below_drewN | apply below_drew1) | exact HB.out))) : w.heap.size ≤ gb537)); have n3_ := Aside0.mk ((by rw [hg]; exact (below_size (by repeat (first | (with_reducible first | exact HB.out | apply below_alloc | apply pw_below_drewN | apply below_drew1) | exact HB.out))) : w.heap.size ≤ gb537)); clear HB; have HB := n0_; have BK537 := n1_; have GW537 := n2_; have GE537 := n3_; clear n0_ n1_ n2_ n3_; clear hb hbox hg; have hcz15_0 : w14.cell? ⟨gb537, 0, none⟩ = some (.string a0_0) := (blk_cell BK537.out 0).trans rfl; have hcz15_1 : w14.cell? ⟨gb537, 1, none⟩ = some (.int .u64 a0_1) := (blk_cell BK537.out 1).trans rfl; have hcz15_2 : w14.cell? ⟨gb537, 2, none⟩ = some (.int .i64 a0_2) := (blk_cell BK537.out 2).trans rfl; have hcz15_3 : w14.cell? ⟨gb537, 3, none⟩ = some (.string a0_3) := (blk_cell BK537.out 3).trans rfl; have hfz15_0 := blk_frozen BK537.out 0; have hfz15_1 := blk_frozen BK537.out 1; have hfz15_2 := blk_frozen BK537.out 2; have hfz15_3 := blk_frozen BK537.out 3) | ((with_reducible refine gate_dst (N := 7) rfl ?_); refine Kd.R_lit k29 _ 29 ?hg (N := 7) ?hd (xs := ([(⟨a0_0, a0_1, a0_2, a0_3⟩ : S29)] : List (S29))) (inner := [.string a0_0, .int .u64 a0_1, .int .i64 a0_2, .string a0_3]) (ok := fun _ => True) (okp := fun _ => True) ?hr ?hp (fun _ hk => hk) trivial (Below.refl _ _) (Nat.le_refl _) (by simp) ?_; (case hd => rfl); (case hg => rfl); (case hr => first | (go_simp; done) | (go_simp; rfl)); (case hp => exact (Reps.c4 (show Kd.M k29 _ _ _ (⟨a0_0, a0_1, a0_2, a0_3⟩ : S29) [.string a0_0, .int .u64 a0_1, .int .i64 a0_2, .string a0_3] from (k29_mkM _ _ _ (⟨a0_0, a0_1, a0_2, a0_3⟩ : S29) )) (Reps.none _ _))); intro v539 w16 ho17 hb hg_ hnew_; clear hg_ hnew_; (first | rw [← Ny538.out] at ho17 | (simp only [Int.reduceToNat] at ho17; rw [← Ny538.out] at ho17)); have n0_ := Aside0.mk (Kd.R_lower (Kd.R_newB ho17 (g := gb537) (o := .cells #[.string a0_0, .int .u64 a0_1, .int .i64 a0_2, .string a0_3] 29 (0, 0)) (by (with_reducible repeat (first | refine blk_drewN ?_ _ | refine blk_drew ?_ | refine blk_alloc ?_ _)); exact BK537.out)) (below_size (by repeat (first | (with_reducible first | exact HB.out | apply below_alloc | apply pw_below_drewN | apply below_drew1 | refine below_set ?_ GE537.out) | exact HB.out)))); have n1_ := Aside0.mk (blk_below (g := gb537) (o := .cells #[.string a0_0, .int .u64 a0_1, .int .i64 a0_2, .string a0_3] 29 (0, 0)) (by (with_reducible repeat (first | refine blk_drewN ?_ _ | refine blk_drew ?_ | refine blk_alloc ?_ _)); exact BK537.out) hb); have n2_ := Aside0.mk (below_step (by repeat (first | (with_reducible first | exact HB.out | apply below_alloc | apply pw_below_drewN | apply below_drew1 | refine below_set ?_ GE537.out) | exact HB.out)) hb); clear BK537; clear HB; have HO540 := n0_; have BK537 := n1_; have HB := n2_; clear n0_ n1_ n2_; clear hb ho17; obtain ⟨Ao18, co18, eo18⟩ := Kd.R_slice HO540.out; subst eo18) | ((with_reducible refine gate_callee (f := 13) rfl ?_); refine goesL_ (some 8) rfl rfl Try.func13 (by kernel_rfl) rfl #[.slice Ao18 y538.length co18] rfl (by (try simp only [List.map_toArray, List.map_cons, List.map_nil]); first | done | rfl | (simp only [List.length_drop, List.length_take]; rfl)) ?_; (with_reducible refine (cornucopialaw5_Small.calls k _ _ y538 true _ ?side1 ?side2 A2.out).mono ?_); (case side1 => repeat (first | exact (Kd.R_reads' HO540.out).2.2 | (with_reducible refine Kd.C_alloc ?_ _) | (with_reducible refine Kd.C_drewN ?_ _) | (with_reducible refine Kd.C_drew ?_))); (case side2 => exact (Kd.R_reads' HO540.out).2.1); rintro e w19 ⟨rfl, hb⟩; refine ⟨_, rfl, ?_⟩; have n0_ := Aside0.mk (Kd.R_below (by (with_reducible repeat (first | apply Kd.R_alloc | apply Kd.R_drewN | apply Kd.R_drew)); exact HO540.out) hb); have n1_ := Aside0.mk (blk_below (g := gb537) (o := .cells #[.string a0_0, .int .u64 a0_1, .int .i64 a0_2, .string a0_3] 29 (0, 0)) (by (with_reducible repeat (first | refine blk_drewN ?_ _ | refine blk_drew ?_ | refine blk_alloc ?_ _)); exact BK537.out) hb); have n2_ := Aside0.mk (below_step (by repeat (first | (with_reducible first | exact HB.out | apply below_alloc | apply pw_below_drewN | apply below_drew1 | refine below_set ?_ GE537.out) | exact HB.out)) hb); clear HO540; clear BK537; clear HB; have HO540 := n0_; have BK537 := n1_; have HB := n2_; clear n0_ n1_ n2_; (try clear hb); (try clear hb2); (try clear hk); (try clear hi); have hcz20_0 : w19.cell? ⟨gb537, 0, none⟩ = some (.string a0_0) := (blk_cell BK537.out 0).trans rfl; have hcz20_1 : w19.cell? ⟨gb537, 1, none⟩ = some (.int .u64 a0_1) := (blk_cell BK537.out 1).trans rfl; have hcz20_2 : w19.cell? ⟨gb537, 2, none⟩ = some (.int .i64 a0_2) := (blk_cell BK537.out 2).trans rfl; have hcz20_3 : w19.cell? ⟨gb537, 3, none⟩ = some (.string a0_3) := (blk_cell BK537.out 3).trans rfl; have hfz20_0 := blk_frozen BK537.out 0; have hfz20_1 := blk_frozen BK537.out 1; have hfz20_2 := blk_frozen BK537.out 2; have hfz20_3 := blk_frozen BK537.out 3) | ((with_reducible refine gate_callee (f := 62) rfl ?_); refine goesL_ (some 13) rfl rfl Try.func62 (by kernel_rfl) rfl #[.agg #[.string a0_0, .int .u64 a0_1, .int .i64 a0_2, .string a0_3]] rfl (by (try simp only [List.map_toArray, List.map_cons, List.map_nil]); first | done | rfl | (simp only [List.length_drop, List.length_take]; rfl)) ?_; (with_reducible refine (ikey_Put.calls k a0_0 a0_1 a0_2 a0_3 t543 t544 _ A4.out).mono ?_); rintro e w21 ⟨rfl, hb⟩; refine ⟨_, rfl, ?_⟩; have n0_ := Aside0.mk (Kd.R_below (by (with_reducible repeat (first | apply Kd.R_alloc | apply Kd.R_drewN | apply Kd.R_drew)); exact HO540.out) hb); have n1_ := Aside0.mk (blk_below (g := gb537) (o := .cells #[.string a0_0, .int .u64 a0_1, .int .i64 a0_2, .string a0_3] 29 (0, 0)) (by (with_reducible repeat (first | refine blk_drewN ?_ _ | refine blk_drew ?_ | refine blk_alloc ?_ _)); exact BK537.out) hb); have n2_ := Aside0.mk (below_step (by repeat (first | (with_reducible first | exact HB.out | apply below_alloc | apply pw_below_drewN | apply below_drew1 | refine below_set ?_ GE537.out) | exact HB.out)) hb); clear HO540; clear BK537; clear HB; have HO540 := n0_; have BK537 := n1_; have HB := n2_; clear n0_ n1_ n2_; (try clear hb); (try clear hb2); (try clear hk); (try clear hi)) | ((with_reducible refine gate_callee (f := 43) rfl ?_); refine goesL_ (some 33) rfl rfl Try.func43 (by kernel_rfl) rfl #[.string t543] rfl (by (try simp only [List.map_toArray, List.map_cons, List.map_nil]); first | done | rfl | (simp only [List.length_drop, List.length_take]; rfl)) ?_; (with_reducible refine (num_NewReader.calls t543 t547 t548 w _ ?side1 A6.out).mono ?_); (case side1 => repeat (first | (with_reducible first | exact HB.out | apply below_alloc | apply pw_below_drewN | apply below_drew1 | refine below_set ?_ GE537.out) | exact HB.out)); rintro e w22 ⟨g549, rfl, hi, hb, hb2⟩; refine ⟨_, rfl, ?_⟩; have n0_ := Aside0.mk (Kd.R_below (by (with_reducible repeat (first | apply Kd.R_alloc | apply Kd.R_drewN | apply Kd.R_drew)); exact HO540.out) hb2); have n1_ := Aside0.mk (blk_below (g := gb537) (o := .cells #[.string a0_0, .int .u64 a0_1, .int .i64 a0_2, .string a0_3] 29 (0, 0)) (by (with_reducible repeat (first | refine blk_drewN ?_ _ | refine blk_drew ?_ | refine blk_alloc ?_ _)); exact BK537.out) hb2); have n2_ := Aside0.mk (hb); have n3_ := Aside0.mk (hi); have n4_ := Aside0.mk (IsS72.ne_blk hi (blk_below (g := gb537) (o := .cells #[.string a0_0, .int .u64 a0_1, .int .i64 a0_2, .string a0_3] 29 (0, 0)) (by (with_reducible repeat (first | refine blk_drewN ?_ _ | refine blk_drew ?_ | refine blk_alloc ?_ _)); exact BK537.out) hb2) (by decide)); have n5_ := Aside0.mk (Ne.symm (IsS72.ne_blk hi (blk_below (g := gb537) (o := .cells #[.string a0_0, .int .u64 a0_1, .int .i64 a0_2, .string a0_3] 29 (0, 0)) (by (with_reducible repeat (first | refine blk_drewN ?_ _ | refine blk_drew ?_ | refine blk_alloc ?_ _)); exact BK537.out) hb2) (by decide))); clear HO540; clear BK537; clear HB; have HO540 := n0_; have BK537 := n1_; have HB := n2_; have HI549 := n3_; have NB549_537 := n4_; have NB537_549 := n5_; clear n0_ n1_ n2_ n3_ n4_ n5_; (try clear hb); (try clear hb2); (try clear hk); (try clear hi)))
            have n0_ := Aside0.mk (Kd.R_drew HO540.out)
            have n1_ := Aside0.mk (blk_drew BK537.out)
            have n2_ := Aside0.mk (IsS72.drew HI549.out)
            have n3_ := Aside0.mk (below_drew1 HB.out)
            clear HO540
            clear BK537
            clear HI549
            clear HB
            have HO540 := n0_
            have BK537 := n1_
            have HI549 := n2_
            have HB := n3_
            clear n0_ n1_ n2_ n3_
            refine start_ (n := 17) (S := fun w' => w'.cell? ⟨gb537, 0, none⟩ = some (.string a0_0) ∧ w'.cell? ⟨gb537, 1, none⟩ = some (.int .u64 a0_1) ∧ w'.cell? ⟨gb537, 2, none⟩ = some (.int .i64 a0_2) ∧ w'.cell? ⟨gb537, 3, none⟩ = some (.string a0_3)) (ds := []) #[false, false, false, false, false, false, false, false, false, false, false, false, false, false, false, false, false] (by kernel_rfl) rfl rfl ⟨(blk_cell BK537.out 0).trans rfl, (blk_cell BK537.out 1).trans rfl, (blk_cell BK537.out 2).trans rfl, (blk_cell BK537.out 3).trans rfl⟩ (fun hHeld => ?_); refine with_tabW cornucopialaw5_IkeyBack.tab9 cornucopialaw5_IkeyBack.bits9 (fun HT_ HW_ => ?_)
            generalize w22.drew = w23 at HO540 BK537 HI549 HB hHeld ⊢
            refine one_ (i := 0) (N := some 36) #[true, false, false, false, false, false, false, false, false, false, false, false, false, false, false, false, false] rfl rfl (one_of HT_.out (by kernel_rfl)) (by decide) (fun K hK => ?_)
            refine goes_ Try.func15 (by kernel_rfl) rfl #[] (by rfl) rfl rfl (by (try simp only [List.map_toArray, List.map_cons, List.map_nil]); first | done | rfl | (simp only [List.length_drop, List.length_take]; rfl)) ?_
            with_reducible refine (cornucopialaw5_alive.calls k  true _ A7.out).mono ?_
            rintro e w24 ⟨rfl, hb⟩
            refine ⟨_, rfl, ?_⟩
            have n0_ := Aside0.mk (Kd.R_below (by (with_reducible repeat (first | apply Kd.R_alloc | apply Kd.R_drewN | apply Kd.R_drew)); exact HO540.out) hb)
            have n1_ := Aside0.mk (blk_below (g := gb537) (o := .cells #[.string a0_0, .int .u64 a0_1, .int .i64 a0_2, .string a0_3] 29 (0, 0)) (by (with_reducible repeat (first | refine blk_drewN ?_ _ | refine blk_drew ?_ | refine blk_alloc ?_ _)); exact BK537.out) hb)
            have n2_ := Aside0.mk (IsS72.below (by repeat (first | (with_reducible first | exact HI549.out | apply IsS72.alloc | apply IsS72.drewN | apply IsS72.drew | apply IsS72.set_0 | apply IsS72.set_1 | refine IsS72.far ?_ NB549_537.out _) | exact HI549.out)) hb)
            have n3_ := Aside0.mk (below_step (by repeat (first | (with_reducible first | exact HB.out | apply below_alloc | apply pw_below_drewN | apply below_drew1 | refine below_set ?_ (IsS72.ge HI549.out) | refine below_set ?_ GE537.out) | exact HB.out)) hb)
            clear HO540
            clear BK537
            clear HI549
            clear HB
            have HO540 := n0_
            have BK537 := n1_
            have HI549 := n2_
            have HB := n3_
            clear n0_ n1_ n2_ n3_
            (try clear hb)
            (try clear hb2)
            (try clear hk)
            (try clear hi)
            refine hK.out _ _ ⟨(blk_cell BK537.out 0).trans rfl, (blk_cell BK537.out 1).trans rfl, (blk_cell BK537.out 2).trans rfl, (blk_cell BK537.out 3).trans rfl⟩ (fun hHeld => ?_)
            clear hK K
            refine norm_ (a' := ?_) ?_ ?_
            rotate_left
            · show Act.put _ (some 36) _ = _
              simp only [Act.put, List.setIfInBounds_toArray, List.set_cons_zero, List.set_cons_succ, i64_w, i32_w]
              rfl
            refine pure_ (i := 1) (N := some 37) (v := ?_) (a' := ?_) #[true, true, false, false, false, false, false, false, false, false, false, false, false, false, false, false, false] rfl rfl (any_of HT_.out (by kernel_rfl)) (fun _ _ _ h => h) (Or.inl ⟨by rfl, ?_⟩) ?_ ?_
            rotate_left
            · intro w'
              go_simp
              with_reducible rfl
            rotate_left
            · simp only [Act.put, List.setIfInBounds_toArray, List.set_cons_zero, List.set_cons_succ, i64_w, i32_w]
              rfl
            refine pure_ (i := 2) (N := some 38) (v := ?_) (a' := ?_) #[true, true, true, false, false, false, false, false, false, false, false, false, false, false, false, false, false] rfl rfl (any_of HT_.out (by kernel_rfl)) (fun _ _ _ h => h) (Or.inl ⟨by rfl, ?_⟩) ?_ ?_
            rotate_left
            · intro w'
              go_simp
              with_reducible rfl
            rotate_left
            · simp only [Act.put, List.setIfInBounds_toArray, List.set_cons_zero, List.set_cons_succ, i64_w, i32_w]
              rfl
            refine take_ (i := 4) (N := some 40) (v := ?_) (a' := ?_) #[true, true, true, false, true, false, false, false, false, false, false, false, false, false, false, false, false] rfl rfl (take_ofW HT_.out HW_.out (by kernel_rfl)) (fun _ _ _ h => h) (Or.inl ⟨by rfl, ?_⟩) hHeld ?_ ?_
            rotate_left
            · rintro w' ⟨s0, s1, s2, s3⟩
              go_simp
              with_reducible rfl
            rotate_left
            · simp only [Act.put, List.setIfInBounds_toArray, List.set_cons_zero, List.set_cons_succ, i64_w, i32_w]
              rfl
            refine one_ (i := 3) (N := some 39) #[true, true, true, true, true, false, false, false, false, false, false, false, false, false, false, false, false] rfl rfl (one_of HT_.out (by kernel_rfl)) (by decide) (fun K hK => ?_)
            refine goes_ Try.func64 (by kernel_rfl) rfl #[.pointer (some ⟨g549, 0, none⟩)] (by rfl) rfl rfl (by (try simp only [List.map_toArray, List.map_cons, List.map_nil]); first | done | rfl | (simp only [List.length_drop, List.length_take]; rfl)) ?_
            with_reducible refine (ikey_Get.calls k g549 t547 t548 t551 t552 t553 t554 t555 t556 w _ ?side1 ?side2 A9.out).mono ?_
            (case side1 => repeat (first | (with_reducible first | exact HI549.out | apply IsS72.alloc | apply IsS72.drewN | apply IsS72.drew | apply IsS72.set_0 | apply IsS72.set_1 | refine IsS72.far ?_ NB549_537.out _) | exact HI549.out))
            (case side2 => repeat (first | (with_reducible first | exact HB.out | apply below_alloc | apply pw_below_drewN | apply below_drew1 | refine below_set ?_ (IsS72.ge HI549.out) | refine below_set ?_ GE537.out) | exact HB.out))
            rintro e w25 ⟨rfl, hi, hb, hk⟩
            refine ⟨_, rfl, ?_⟩
            have n0_ := Aside0.mk (KeepBut.blk hk (g' := gb537) (o := .cells #[.string a0_0, .int .u64 a0_1, .int .i64 a0_2, .string a0_3] 29 (0, 0)) (by (with_reducible repeat (first | refine blk_drewN ?_ _ | refine blk_drew ?_ | refine blk_alloc ?_ _)); exact BK537.out) NB537_549.out (by simp))
            have n1_ := Aside0.mk (Kd.R_mono (Kd.R_keep (IsS72.apart (show IsS72 w _ g549 t547 t548 from by repeat (first | (with_reducible first | exact HI549.out | apply IsS72.alloc | apply IsS72.drewN | apply IsS72.drew | apply IsS72.set_0 | apply IsS72.set_1 | refine IsS72.far ?_ NB549_537.out _) | exact HI549.out)) (by (with_reducible repeat (first | apply Kd.R_alloc | apply Kd.R_drewN | apply Kd.R_drew)); exact HO540.out) (by decide)) hk (fun _ h => h.2)) (fun _ h => h.1))
            have n2_ := Aside0.mk (hb)
            have n3_ := Aside0.mk (hi)
            clear BK537
            clear HO540
            clear HB
            clear HI549
            have BK537 := n0_
            have HO540 := n1_
            have HB := n2_
            have HI549 := n3_
            clear n0_ n1_ n2_ n3_
            (try clear hb)
            (try clear hb2)
            (try clear hk)
            (try clear hi)
            refine hK.out _ _ ⟨(blk_cell BK537.out 0).trans rfl, (blk_cell BK537.out 1).trans rfl, (blk_cell BK537.out 2).trans rfl, (blk_cell BK537.out 3).trans rfl⟩ (fun hHeld => ?_)
            clear hK K
            refine norm_ (a' := ?_) ?_ ?_
            rotate_left
            · show Act.put _ (some 39) _ = _
              simp only [Act.put, List.setIfInBounds_toArray, List.set_cons_zero, List.set_cons_succ, i64_w, i32_w]
              rfl
            refine pure_ (i := 5) (N := some 41) (v := ?_) (a' := ?_) #[true, true, true, true, true, true, false, false, false, false, false, false, false, false, false, false, false] rfl rfl (any_of HT_.out (by kernel_rfl)) (fun _ _ _ h => h) (Or.inl ⟨by rfl, ?_⟩) ?_ ?_
            rotate_left
            · intro w'
              go_simp
              with_reducible rfl
            rotate_left
            · simp only [Act.put, List.setIfInBounds_toArray, List.set_cons_zero, List.set_cons_succ, i64_w, i32_w]
              rfl
            refine pure_ (i := 6) (N := some 42) (v := ?_) (a' := ?_) #[true, true, true, true, true, true, true, false, false, false, false, false, false, false, false, false, false] rfl rfl (any_of HT_.out (by kernel_rfl)) (fun _ _ _ h => h) (Or.inl ⟨by rfl, ?_⟩) ?_ ?_
            rotate_left
            · intro w'
              go_simp
              with_reducible rfl
            rotate_left
            · simp only [Act.put, List.setIfInBounds_toArray, List.set_cons_zero, List.set_cons_succ, i64_w, i32_w]
              rfl
            refine pure_ (i := 7) (N := some 43) (v := ?_) (a' := ?_) #[true, true, true, true, true, true, true, true, false, false, false, false, false, false, false, false, false] rfl rfl (any_of HT_.out (by kernel_rfl)) (fun _ _ _ h => h) (Or.inl ⟨by rfl, ?_⟩) ?_ ?_
            rotate_left
            · intro w'
              go_simp
              with_reducible rfl
            rotate_left
            · simp only [Act.put, List.setIfInBounds_toArray, List.set_cons_zero, List.set_cons_succ, i64_w, i32_w]
              rfl
            refine pure_ (i := 8) (N := some 44) (v := ?_) (a' := ?_) #[true, true, true, true, true, true, true, true, true, false, false, false, false, false, false, false, false] rfl rfl (any_of HT_.out (by kernel_rfl)) (fun _ _ _ h => h) (Or.inl ⟨by rfl, ?_⟩) ?_ ?_
            rotate_left
            · intro w'
              go_simp
              with_reducible rfl
            rotate_left
            · simp only [Act.put, List.setIfInBounds_toArray, List.set_cons_zero, List.set_cons_succ, i64_w, i32_w]
              rfl
            refine one_ (i := 9) (N := some 45) #[true, true, true, true, true, true, true, true, true, true, false, false, false, false, false, false, false] rfl rfl (one_of HT_.out (by kernel_rfl)) (by decide) (fun K hK => ?_)
            refine goes_ Try.func52 (by kernel_rfl) rfl #[.pointer (some ⟨g549, 0, none⟩)] (by rfl) rfl rfl (by (try simp only [List.map_toArray, List.map_cons, List.map_nil]); first | done | rfl | (simp only [List.length_drop, List.length_take]; rfl)) ?_
            with_reducible refine (num_Reader_End.calls g549 t555 t556 t557 t558 t559 w _ ?side1 ?side2 A11.out).mono ?_
            (case side1 => repeat (first | (with_reducible first | exact HI549.out | apply IsS72.alloc | apply IsS72.drewN | apply IsS72.drew | apply IsS72.set_0 | apply IsS72.set_1 | refine IsS72.far ?_ NB549_537.out _) | exact HI549.out))
            (case side2 => repeat (first | (with_reducible first | exact HB.out | apply below_alloc | apply pw_below_drewN | apply below_drew1 | refine below_set ?_ (IsS72.ge HI549.out) | refine below_set ?_ GE537.out) | exact HB.out))
            rintro e w26 ⟨rfl, hi, hb, hk⟩
            refine ⟨_, rfl, ?_⟩
            have n0_ := Aside0.mk (KeepBut.blk hk (g' := gb537) (o := .cells #[.string a0_0, .int .u64 a0_1, .int .i64 a0_2, .string a0_3] 29 (0, 0)) (by (with_reducible repeat (first | refine blk_drewN ?_ _ | refine blk_drew ?_ | refine blk_alloc ?_ _)); exact BK537.out) NB537_549.out (by simp))
            have n1_ := Aside0.mk (Kd.R_mono (Kd.R_keep (IsS72.apart (show IsS72 w _ g549 t555 t556 from by repeat (first | (with_reducible first | exact HI549.out | apply IsS72.alloc | apply IsS72.drewN | apply IsS72.drew | apply IsS72.set_0 | apply IsS72.set_1 | refine IsS72.far ?_ NB549_537.out _) | exact HI549.out)) (by (with_reducible repeat (first | apply Kd.R_alloc | apply Kd.R_drewN | apply Kd.R_drew)); exact HO540.out) (by decide)) hk (fun _ h => h.2)) (fun _ h => h.1))
            have n2_ := Aside0.mk (hb)
            have n3_ := Aside0.mk (hi)
            clear BK537
            clear HO540
            clear HB
            clear HI549
            have BK537 := n0_
            have HO540 := n1_
            have HB := n2_
            have HI549 := n3_
            clear n0_ n1_ n2_ n3_
            (try clear hb)
            (try clear hb2)
            (try clear hk)
            (try clear hi)
            refine hK.out _ _ ⟨(blk_cell BK537.out 0).trans rfl, (blk_cell BK537.out 1).trans rfl, (blk_cell BK537.out 2).trans rfl, (blk_cell BK537.out 3).trans rfl⟩ (fun hHeld => ?_)
            clear hK K
            refine norm_ (a' := ?_) ?_ ?_
            rotate_left
            · show Act.put _ (some 45) _ = _
              simp only [Act.put, List.setIfInBounds_toArray, List.set_cons_zero, List.set_cons_succ, i64_w, i32_w]
              rfl
            refine pure_ (i := 10) (N := some 46) (v := ?_) (a' := ?_) #[true, true, true, true, true, true, true, true, true, true, true, false, false, false, false, false, false] rfl rfl (any_of HT_.out (by kernel_rfl)) (fun _ _ _ h => h) (Or.inl ⟨by rfl, ?_⟩) ?_ ?_
            rotate_left
            · intro w'
              go_simp
              with_reducible rfl
            rotate_left
            · simp only [Act.put, List.setIfInBounds_toArray, List.set_cons_zero, List.set_cons_succ, i64_w, i32_w]
              rfl
            refine pure_ (i := 11) (N := some 47) (v := ?_) (a' := ?_) #[true, true, true, true, true, true, true, true, true, true, true, true, false, false, false, false, false] rfl rfl (any_of HT_.out (by kernel_rfl)) (fun _ _ _ h => h) (Or.inl ⟨by rfl, ?_⟩) ?_ ?_
            rotate_left
            · intro w'
              go_simp
              with_reducible rfl
            rotate_left
            · simp only [Act.put, List.setIfInBounds_toArray, List.set_cons_zero, List.set_cons_succ, i64_w, i32_w]
              rfl
            refine pure_ (i := 12) (N := some 48) (v := ?_) (a' := ?_) #[true, true, true, true, true, true, true, true, true, true, true, true, true, false, false, false, false] rfl rfl (any_of HT_.out (by kernel_rfl)) (fun _ _ _ h => h) (Or.inl ⟨by rfl, ?_⟩) ?_ ?_
            rotate_left
            · intro w'
              go_simp
              with_reducible rfl
            rotate_left
            · simp only [Act.put, List.setIfInBounds_toArray, List.set_cons_zero, List.set_cons_succ, i64_w, i32_w]
              rfl
            refine take_ (i := 13) (N := some 49) (v := ?_) (a' := ?_) #[true, true, true, true, true, true, true, true, true, true, true, true, true, true, false, false, false] rfl rfl (take_ofW HT_.out HW_.out (by kernel_rfl)) (fun _ _ _ h => h) (Or.inl ⟨by rfl, ?_⟩) hHeld ?_ ?_
            rotate_left
            · rintro w' ⟨s0, s1, s2, s3⟩
              go_simp
              with_reducible rfl
            rotate_left
            · simp only [Act.put, List.setIfInBounds_toArray, List.set_cons_zero, List.set_cons_succ, i64_w, i32_w]
              rfl
            refine one_ (i := 14) (N := some 50) #[true, true, true, true, true, true, true, true, true, true, true, true, true, true, true, false, false] rfl rfl (one_of HT_.out (by kernel_rfl)) (by decide) (fun K hK => ?_)
            refine goes_ Try.func63 (by kernel_rfl) rfl #[.agg #[.string a0_0, .int .u64 a0_1, .int .i64 a0_2, .string a0_3]] (by rfl) rfl rfl (by (try simp only [List.map_toArray, List.map_cons, List.map_nil]); first | done | rfl | (simp only [List.length_drop, List.length_take]; rfl)) ?_
            with_reducible refine (ikey_Valid.calls k a0_0 a0_1 a0_2 a0_3 t560 _ A13.out).mono ?_
            rintro e w27 ⟨rfl, hb⟩
            refine ⟨_, rfl, ?_⟩
            have n0_ := Aside0.mk (Kd.R_below (by (with_reducible repeat (first | apply Kd.R_alloc | apply Kd.R_drewN | apply Kd.R_drew)); exact HO540.out) hb)
            have n1_ := Aside0.mk (blk_below (g := gb537) (o := .cells #[.string a0_0, .int .u64 a0_1, .int .i64 a0_2, .string a0_3] 29 (0, 0)) (by (with_reducible repeat (first | refine blk_drewN ?_ _ | refine blk_drew ?_ | refine blk_alloc ?_ _)); exact BK537.out) hb)
            have n2_ := Aside0.mk (IsS72.below (by repeat (first | (with_reducible first | exact HI549.out | apply IsS72.alloc | apply IsS72.drewN | apply IsS72.drew | apply IsS72.set_0 | apply IsS72.set_1 | refine IsS72.far ?_ NB549_537.out _) | exact HI549.out)) hb)
            have n3_ := Aside0.mk (below_step (by repeat (first | (with_reducible first | exact HB.out | apply below_alloc | apply pw_below_drewN | apply below_drew1 | refine below_set ?_ (IsS72.ge HI549.out) | refine below_set ?_ GE537.out) | exact HB.out)) hb)
            clear HO540
            clear BK537
            clear HI549
            clear HB
            have HO540 := n0_
            have BK537 := n1_
            have HI549 := n2_
            have HB := n3_
            clear n0_ n1_ n2_ n3_
            (try clear hb)
            (try clear hb2)
            (try clear hk)
            (try clear hi)
            refine hK.out _ _ ⟨(blk_cell BK537.out 0).trans rfl, (blk_cell BK537.out 1).trans rfl, (blk_cell BK537.out 2).trans rfl, (blk_cell BK537.out 3).trans rfl⟩ (fun hHeld => ?_)
            clear hK K
            refine norm_ (a' := ?_) ?_ ?_
            rotate_left
            · show Act.put _ (some 50) _ = _
              simp only [Act.put, List.setIfInBounds_toArray, List.set_cons_zero, List.set_cons_succ, i64_w, i32_w]
              rfl
            refine pure_ (i := 15) (N := some 51) (v := ?_) (a' := ?_) #[true, true, true, true, true, true, true, true, true, true, true, true, true, true, true, true, false] rfl rfl (any_of HT_.out (by kernel_rfl)) (fun _ _ _ h => h) (Or.inl ⟨by rfl, ?_⟩) ?_ ?_
            rotate_left
            · intro w'
              go_simp
              with_reducible rfl
            rotate_left
            · simp only [Act.put, List.setIfInBounds_toArray, List.set_cons_zero, List.set_cons_succ, i64_w, i32_w]
              rfl
            refine pure_ (i := 16) (N := some 2) (v := ?_) (a' := ?_) #[true, true, true, true, true, true, true, true, true, true, true, true, true, true, true, true, true] rfl rfl (any_of HT_.out (by kernel_rfl)) (fun _ _ _ h => h) (Or.inl ⟨by rfl, ?_⟩) ?_ ?_
            rotate_left
            · intro w'
              go_simp
              with_reducible rfl
            rotate_left
            · simp only [Act.put, List.setIfInBounds_toArray, List.set_cons_zero, List.set_cons_succ, i64_w, i32_w]
              rfl
            refine done_ (done_of HT_.out (by kernel_rfl)) ?_
            try go_wp2
            go_ret
            exact ⟨by first | rfl | (simp [errW_none, errW_some] <;> rfl) | (simp [*, errW_none, errW_some] <;> rfl), by repeat (first | (with_reducible first | exact HB.out | apply below_alloc | apply pw_below_drewN | apply below_drew1 | refine below_set ?_ (IsS72.ge HI549.out) | refine below_set ?_ GE537.out) | exact HB.out)⟩
          · rw [if_neg c12] at H
            have c12b0 : (t557 == 0) = false := beq_eq_false_iff_ne.mpr c12
            have c12b1 : (t557 != 0) = true := bne_iff_ne.mpr c12
            exact absurd H (by simp)
        · rw [if_neg c10] at H
          have c10b0 : (t551.toList == a0_0.toList && (t552 == a0_1 && (t553 == a0_2 && (t554.toList == a0_3.toList)))) = false := by simpa using c10
          (try (have c10b1 : decide (t551.toList = a0_0.toList && (t552 == a0_1 && (t553 == a0_2 && (t554.toList == a0_3.toList)))) = false := by simpa using c10))
          (try (have c10b2 : (t551.toList == a0_0.toList && (t552 == a0_1 && (t553 == a0_2 && (t554.toList == a0_3.toList)))) = false := by simpa using c10))
          (try (have c10b3 : ¬ (t551.toList = a0_0.toList && (t552 == a0_1 && (t553 == a0_2 && (t554.toList == a0_3.toList)))) := by simpa using c10))
          clear c10
          exact absurd H (by simp)
      · replace c8 := Bool.eq_false_iff.mpr c8
        subst c8
        have H1 : (none) = some r := by rw [if_neg (show ¬ (false = true) by decide)] at H; exact H
        clear H
        have H := H1
        clear H1
        exact absurd H (by simp)
    · rw [if_neg c5] at H
      have c5b0 : (t544 == 0) = false := beq_eq_false_iff_ne.mpr c5
      have c5b1 : (t544 != 0) = true := bne_iff_ne.mpr c5
      replace H := Option.bind_eq_some_iff.mp H
      obtain ⟨t545, A280, H⟩ := H
      replace H : (if t545 = true then (if t544 = 1 then (if t543.toList = ([] : List UInt8) then ((ikey_Valid.f k a0_0 a0_1 a0_2 a0_3).bind fun t546 => (some (!t546))) else (none)) else (none)) else (none)) = some r := H
      have A28 := Aside0.mk A280
      clear A280
      by_cases c29 : t545 = true
      · subst c29
        have H1 : (if t544 = 1 then (if t543.toList = ([] : List UInt8) then ((ikey_Valid.f k a0_0 a0_1 a0_2 a0_3).bind fun t546 => (some (!t546))) else (none)) else (none)) = some r := by rw [if_pos rfl] at H; exact H
        clear H
        have H := H1
        clear H1
        by_cases c30 : t544 = 1
        · rw [if_pos c30] at H
          have c30b0 : (t544 == 1) = true := beq_iff_eq.mpr c30
          have c30b1 : (t544 != 1) = false := bne_eq_false_iff_eq.mpr c30
          clear c30
          by_cases c31 : t543.toList = ([] : List UInt8)
          · rw [if_pos c31] at H
            have c31b0 : (t543.toList == ([] : List UInt8)) = true := beq_iff_eq.mpr c31
            have c31b1 : (t543.toList != ([] : List UInt8)) = false := bne_eq_false_iff_eq.mpr c31
            clear c31
            replace H := Option.bind_eq_some_iff.mp H
            obtain ⟨t546, A320, H⟩ := H
            replace H : (some (!t546)) = some r := H
            have A32 := Aside0.mk A320
            clear A320
            obtain rfl := Option.some.inj H
            go_enter Try.func12, Try.ntmps12
            go_wp2_with (first | ((with_reducible refine gate_dst (N := 1) rfl ?_); refine box_event ?hg (N := 1) ?hd (cs := #[.string a0_0, .int .u64 a0_1, .int .i64 a0_2, .string a0_3]) (t := 29) ?hr ?_; (case hd => rfl); (case hg => rfl); (case hr => first | (go_simp; done) | (go_simp; rfl)); intro gb537 hg w33 hbox hb; have n0_ := Aside0.mk (below_step (by repeat (first | (with_reducible first | exact HB.out | apply below_alloc | apply pw_below_drewN | apply below_drew1) | exact HB.out)) hb); have n1_ := Aside0.mk (hbox); have n2_ := Aside0.mk ((by rw [hg]; exact (below_size (by repeat (first | (with_reducible first | exact HB.out | apply below_alloc | apply pw_below_drewN | apply below_drew1) | exact HB.out))) : w.heap.size ≤ gb537)); have n3_ := Aside0.mk ((by rw [hg]; exact (below_size (by repeat (first | (with_reducible first | exact HB.out | apply below_alloc | apply pw_below_drewN | apply below_drew1) | exact HB.out))) : w.heap.size ≤ gb537)); clear HB; have HB := n0_; have BK537 := n1_; have GW537 := n2_; have GE537 := n3_; clear n0_ n1_ n2_ n3_; clear hb hbox hg; have hcz34_0 : w33.cell? ⟨gb537, 0, none⟩ = some (.string a0_0) := (blk_cell BK537.out 0).trans rfl; have hcz34_1 : w33.cell? ⟨gb537, 1, none⟩ = some (.int .u64 a0_1) := (blk_cell BK537.out 1).trans rfl; have hcz34_2 : w33.cell? ⟨gb537, 2, none⟩ = some (.int .i64 a0_2) := (blk_cell BK537.out 2).trans rfl; have hcz34_3 : w33.cell? ⟨gb537, 3, none⟩ = some (.string a0_3) := (blk_cell BK537.out 3).trans rfl; have hfz34_0 := blk_frozen BK537.out 0; have hfz34_1 := blk_frozen BK537.out 1; have hfz34_2 := blk_frozen BK537.out 2; have hfz34_3 := blk_frozen BK537.out 3) | ((with_reducible refine gate_dst (N := 7) rfl ?_); refine Kd.R_lit k29 _ 29 ?hg (N := 7) ?hd (xs := ([(⟨a0_0, a0_1, a0_2, a0_3⟩ : S29)] : List (S29))) (inner := [.string a0_0, .int .u64 a0_1, .int .i64 a0_2, .string a0_3]) (ok := fun _ => True) (okp := fun _ => True) ?hr ?hp (fun _ hk => hk) trivial (Below.refl _ _) (Nat.le_refl _) (by simp) ?_; (case hd => rfl); (case hg => rfl); (case hr => first | (go_simp; done) | (go_simp; rfl)); (case hp => exact (Reps.c4 (show Kd.M k29 _ _ _ (⟨a0_0, a0_1, a0_2, a0_3⟩ : S29) [.string a0_0, .int .u64 a0_1, .int .i64 a0_2, .string a0_3] from (k29_mkM _ _ _ (⟨a0_0, a0_1, a0_2, a0_3⟩ : S29) )) (Reps.none _ _))); intro v539 w35 ho36 hb hg_ hnew_; clear hg_ hnew_; (first | rw [← Ny538.out] at ho36 | (simp only [Int.reduceToNat] at ho36; rw [← Ny538.out] at ho36)); have n0_ := Aside0.mk (Kd.R_lower (Kd.R_newB ho36 (g := gb537) (o := .cells #[.string a0_0, .int .u64 a0_1, .int .i64 a0_2, .string a0_3] 29 (0, 0)) (by (with_reducible repeat (first | refine blk_drewN ?_ _ | refine blk_drew ?_ | refine blk_alloc ?_ _)); exact BK537.out)) (below_size (by repeat (first | (with_reducible first | exact HB.out | apply below_alloc | apply pw_below_drewN | apply below_drew1 | refine below_set ?_ GE537.out) | exact HB.out)))); have n1_ := Aside0.mk (blk_below (g := gb537) (o := .cells #[.string a0_0, .int .u64 a0_1, .int .i64 a0_2, .string a0_3] 29 (0, 0)) (by (with_reducible repeat (first | refine blk_drewN ?_ _ | refine blk_drew ?_ | refine blk_alloc ?_ _)); exact BK537.out) hb); have n2_ := Aside0.mk (below_step (by repeat (first | (with_reducible first | exact HB.out | apply below_alloc | apply pw_below_drewN | apply below_drew1 | refine below_set ?_ GE537.out) | exact HB.out)) hb); clear BK537; clear HB; have HO540 := n0_; have BK537 := n1_; have HB := n2_; clear n0_ n1_ n2_; clear hb ho36; obtain ⟨Ao37, co37, eo37⟩ := Kd.R_slice HO540.out; subst eo37) | ((with_reducible refine gate_callee (f := 13) rfl ?_); refine goesL_ (some 8) rfl rfl Try.func13 (by kernel_rfl) rfl #[.slice Ao37 y538.length co37] rfl (by (try simp only [List.map_toArray, List.map_cons, List.map_nil]); first | done | rfl | (simp only [List.length_drop, List.length_take]; rfl)) ?_; (with_reducible refine (cornucopialaw5_Small.calls k _ _ y538 true _ ?side1 ?side2 A2.out).mono ?_); (case side1 => repeat (first | exact (Kd.R_reads' HO540.out).2.2 | (with_reducible refine Kd.C_alloc ?_ _) | (with_reducible refine Kd.C_drewN ?_ _) | (with_reducible refine Kd.C_drew ?_))); (case side2 => exact (Kd.R_reads' HO540.out).2.1); rintro e w38 ⟨rfl, hb⟩; refine ⟨_, rfl, ?_⟩; have n0_ := Aside0.mk (Kd.R_below (by (with_reducible repeat (first | apply Kd.R_alloc | apply Kd.R_drewN | apply Kd.R_drew)); exact HO540.out) hb); have n1_ := Aside0.mk (blk_below (g := gb537) (o := .cells #[.string a0_0, .int .u64 a0_1, .int .i64 a0_2, .string a0_3] 29 (0, 0)) (by (with_reducible repeat (first | refine blk_drewN ?_ _ | refine blk_drew ?_ | refine blk_alloc ?_ _)); exact BK537.out) hb); have n2_ := Aside0.mk (below_step (by repeat (first | (with_reducible first | exact HB.out | apply below_alloc | apply pw_below_drewN | apply below_drew1 | refine below_set ?_ GE537.out) | exact HB.out)) hb); clear HO540; clear BK537; clear HB; have HO540 := n0_; have BK537 := n1_; have HB := n2_; clear n0_ n1_ n2_; (try clear hb); (try clear hb2); (try clear hk); (try clear hi); have hcz39_0 : w38.cell? ⟨gb537, 0, none⟩ = some (.string a0_0) := (blk_cell BK537.out 0).trans rfl; have hcz39_1 : w38.cell? ⟨gb537, 1, none⟩ = some (.int .u64 a0_1) := (blk_cell BK537.out 1).trans rfl; have hcz39_2 : w38.cell? ⟨gb537, 2, none⟩ = some (.int .i64 a0_2) := (blk_cell BK537.out 2).trans rfl; have hcz39_3 : w38.cell? ⟨gb537, 3, none⟩ = some (.string a0_3) := (blk_cell BK537.out 3).trans rfl; have hfz39_0 := blk_frozen BK537.out 0; have hfz39_1 := blk_frozen BK537.out 1; have hfz39_2 := blk_frozen BK537.out 2; have hfz39_3 := blk_frozen BK537.out 3) | ((with_reducible refine gate_callee (f := 62) rfl ?_); refine goesL_ (some 13) rfl rfl Try.func62 (by kernel_rfl) rfl #[.agg #[.string a0_0, .int .u64 a0_1, .int .i64 a0_2, .string a0_3]] rfl (by (try simp only [List.map_toArray, List.map_cons, List.map_nil]); first | done | rfl | (simp only [List.length_drop, List.length_take]; rfl)) ?_; (with_reducible refine (ikey_Put.calls k a0_0 a0_1 a0_2 a0_3 t543 t544 _ A4.out).mono ?_); rintro e w40 ⟨rfl, hb⟩; refine ⟨_, rfl, ?_⟩; have n0_ := Aside0.mk (Kd.R_below (by (with_reducible repeat (first | apply Kd.R_alloc | apply Kd.R_drewN | apply Kd.R_drew)); exact HO540.out) hb); have n1_ := Aside0.mk (blk_below (g := gb537) (o := .cells #[.string a0_0, .int .u64 a0_1, .int .i64 a0_2, .string a0_3] 29 (0, 0)) (by (with_reducible repeat (first | refine blk_drewN ?_ _ | refine blk_drew ?_ | refine blk_alloc ?_ _)); exact BK537.out) hb); have n2_ := Aside0.mk (below_step (by repeat (first | (with_reducible first | exact HB.out | apply below_alloc | apply pw_below_drewN | apply below_drew1 | refine below_set ?_ GE537.out) | exact HB.out)) hb); clear HO540; clear BK537; clear HB; have HO540 := n0_; have BK537 := n1_; have HB := n2_; clear n0_ n1_ n2_; (try clear hb); (try clear hb2); (try clear hk); (try clear hi)) | ((with_reducible refine gate_callee (f := 15) rfl ?_); refine goesL_ (some 18) rfl rfl Try.func15 (by kernel_rfl) rfl #[] rfl (by (try simp only [List.map_toArray, List.map_cons, List.map_nil]); first | done | rfl | (simp only [List.length_drop, List.length_take]; rfl)) ?_; (with_reducible refine (cornucopialaw5_alive.calls k  true _ A28.out).mono ?_); rintro e w41 ⟨rfl, hb⟩; refine ⟨_, rfl, ?_⟩; have n0_ := Aside0.mk (Kd.R_below (by (with_reducible repeat (first | apply Kd.R_alloc | apply Kd.R_drewN | apply Kd.R_drew)); exact HO540.out) hb); have n1_ := Aside0.mk (blk_below (g := gb537) (o := .cells #[.string a0_0, .int .u64 a0_1, .int .i64 a0_2, .string a0_3] 29 (0, 0)) (by (with_reducible repeat (first | refine blk_drewN ?_ _ | refine blk_drew ?_ | refine blk_alloc ?_ _)); exact BK537.out) hb); have n2_ := Aside0.mk (below_step (by repeat (first | (with_reducible first | exact HB.out | apply below_alloc | apply pw_below_drewN | apply below_drew1 | refine below_set ?_ GE537.out) | exact HB.out)) hb); clear HO540; clear BK537; clear HB; have HO540 := n0_; have BK537 := n1_; have HB := n2_; clear n0_ n1_ n2_; (try clear hb); (try clear hb2); (try clear hk); (try clear hi); have hcz42_0 : w41.cell? ⟨gb537, 0, none⟩ = some (.string a0_0) := (blk_cell BK537.out 0).trans rfl; have hcz42_1 : w41.cell? ⟨gb537, 1, none⟩ = some (.int .u64 a0_1) := (blk_cell BK537.out 1).trans rfl; have hcz42_2 : w41.cell? ⟨gb537, 2, none⟩ = some (.int .i64 a0_2) := (blk_cell BK537.out 2).trans rfl; have hcz42_3 : w41.cell? ⟨gb537, 3, none⟩ = some (.string a0_3) := (blk_cell BK537.out 3).trans rfl; have hfz42_0 := blk_frozen BK537.out 0; have hfz42_1 := blk_frozen BK537.out 1; have hfz42_2 := blk_frozen BK537.out 2; have hfz42_3 := blk_frozen BK537.out 3) | (go_at_call 63; (with_reducible refine (ikey_Valid.calls k a0_0 a0_1 a0_2 a0_3 t546 _ A32.out).mono ?_); rintro e w43 ⟨rfl, hb⟩; have n0_ := Aside0.mk (Kd.R_below (by (with_reducible repeat (first | apply Kd.R_alloc | apply Kd.R_drewN | apply Kd.R_drew)); exact HO540.out) hb); have n1_ := Aside0.mk (blk_below (g := gb537) (o := .cells #[.string a0_0, .int .u64 a0_1, .int .i64 a0_2, .string a0_3] 29 (0, 0)) (by (with_reducible repeat (first | refine blk_drewN ?_ _ | refine blk_drew ?_ | refine blk_alloc ?_ _)); exact BK537.out) hb); have n2_ := Aside0.mk (below_step (by repeat (first | (with_reducible first | exact HB.out | apply below_alloc | apply pw_below_drewN | apply below_drew1 | refine below_set ?_ GE537.out) | exact HB.out)) hb); clear HO540; clear BK537; clear HB; have HO540 := n0_; have BK537 := n1_; have HB := n2_; clear n0_ n1_ n2_; (try clear hb); (try clear hb2); (try clear hk); (try clear hi)))
            go_ret
            exact ⟨by first | rfl | (simp [errW_none, errW_some] <;> rfl) | (simp [*, errW_none, errW_some] <;> rfl), by repeat (first | (with_reducible first | exact HB.out | apply below_alloc | apply pw_below_drewN | apply below_drew1 | refine below_set ?_ GE537.out) | exact HB.out)⟩
          · rw [if_neg c31] at H
            exact absurd H (by simp)
        · rw [if_neg c30] at H
          exact absurd H (by simp)
      · replace c29 := Bool.eq_false_iff.mpr c29
        subst c29
        have H1 : (none) = some r := by rw [if_neg (show ¬ (false = true) by decide)] at H; exact H
        clear H
        have H := H1
        clear H1
        exact absurd H (by simp)
  · replace c3 := Bool.eq_false_iff.mpr c3
    subst c3
    have H1 : ((cornucopialaw5_alive.f k).bind fun t542 => (some t542)) = some r := by rw [if_neg (show ¬ (false = true) by decide)] at H; exact H
    clear H
    have H := H1
    clear H1
    replace H := Option.bind_eq_some_iff.mp H
    obtain ⟨t542, A440, H⟩ := H
    replace H : (some t542) = some r := H
    have A44 := Aside0.mk A440
    clear A440
    obtain rfl := Option.some.inj H
    go_enter Try.func12, Try.ntmps12
    go_wp2_with (first | ((with_reducible refine gate_dst (N := 1) rfl ?_); refine box_event ?hg (N := 1) ?hd (cs := #[.string a0_0, .int .u64 a0_1, .int .i64 a0_2, .string a0_3]) (t := 29) ?hr ?_; (case hd => rfl); (case hg => rfl); (case hr => first | (go_simp; done) | (go_simp; rfl)); intro gb537 hg w45 hbox hb; have n0_ := Aside0.mk (below_step (by repeat (first | (with_reducible first | exact HB.out | apply below_alloc | apply pw_below_drewN | apply below_drew1) | exact HB.out)) hb); have n1_ := Aside0.mk (hbox); have n2_ := Aside0.mk ((by rw [hg]; exact (below_size (by repeat (first | (with_reducible first | exact HB.out | apply below_alloc | apply pw_below_drewN | apply below_drew1) | exact HB.out))) : w.heap.size ≤ gb537)); have n3_ := Aside0.mk ((by rw [hg]; exact (below_size (by repeat (first | (with_reducible first | exact HB.out | apply below_alloc | apply pw_below_drewN | apply below_drew1) | exact HB.out))) : w.heap.size ≤ gb537)); clear HB; have HB := n0_; have BK537 := n1_; have GW537 := n2_; have GE537 := n3_; clear n0_ n1_ n2_ n3_; clear hb hbox hg; have hcz46_0 : w45.cell? ⟨gb537, 0, none⟩ = some (.string a0_0) := (blk_cell BK537.out 0).trans rfl; have hcz46_1 : w45.cell? ⟨gb537, 1, none⟩ = some (.int .u64 a0_1) := (blk_cell BK537.out 1).trans rfl; have hcz46_2 : w45.cell? ⟨gb537, 2, none⟩ = some (.int .i64 a0_2) := (blk_cell BK537.out 2).trans rfl; have hcz46_3 : w45.cell? ⟨gb537, 3, none⟩ = some (.string a0_3) := (blk_cell BK537.out 3).trans rfl; have hfz46_0 := blk_frozen BK537.out 0; have hfz46_1 := blk_frozen BK537.out 1; have hfz46_2 := blk_frozen BK537.out 2; have hfz46_3 := blk_frozen BK537.out 3) | ((with_reducible refine gate_dst (N := 7) rfl ?_); refine Kd.R_lit k29 _ 29 ?hg (N := 7) ?hd (xs := ([(⟨a0_0, a0_1, a0_2, a0_3⟩ : S29)] : List (S29))) (inner := [.string a0_0, .int .u64 a0_1, .int .i64 a0_2, .string a0_3]) (ok := fun _ => True) (okp := fun _ => True) ?hr ?hp (fun _ hk => hk) trivial (Below.refl _ _) (Nat.le_refl _) (by simp) ?_; (case hd => rfl); (case hg => rfl); (case hr => first | (go_simp; done) | (go_simp; rfl)); (case hp => exact (Reps.c4 (show Kd.M k29 _ _ _ (⟨a0_0, a0_1, a0_2, a0_3⟩ : S29) [.string a0_0, .int .u64 a0_1, .int .i64 a0_2, .string a0_3] from (k29_mkM _ _ _ (⟨a0_0, a0_1, a0_2, a0_3⟩ : S29) )) (Reps.none _ _))); intro v539 w47 ho48 hb hg_ hnew_; clear hg_ hnew_; (first | rw [← Ny538.out] at ho48 | (simp only [Int.reduceToNat] at ho48; rw [← Ny538.out] at ho48)); have n0_ := Aside0.mk (Kd.R_lower (Kd.R_newB ho48 (g := gb537) (o := .cells #[.string a0_0, .int .u64 a0_1, .int .i64 a0_2, .string a0_3] 29 (0, 0)) (by (with_reducible repeat (first | refine blk_drewN ?_ _ | refine blk_drew ?_ | refine blk_alloc ?_ _)); exact BK537.out)) (below_size (by repeat (first | (with_reducible first | exact HB.out | apply below_alloc | apply pw_below_drewN | apply below_drew1 | refine below_set ?_ GE537.out) | exact HB.out)))); have n1_ := Aside0.mk (blk_below (g := gb537) (o := .cells #[.string a0_0, .int .u64 a0_1, .int .i64 a0_2, .string a0_3] 29 (0, 0)) (by (with_reducible repeat (first | refine blk_drewN ?_ _ | refine blk_drew ?_ | refine blk_alloc ?_ _)); exact BK537.out) hb); have n2_ := Aside0.mk (below_step (by repeat (first | (with_reducible first | exact HB.out | apply below_alloc | apply pw_below_drewN | apply below_drew1 | refine below_set ?_ GE537.out) | exact HB.out)) hb); clear BK537; clear HB; have HO540 := n0_; have BK537 := n1_; have HB := n2_; clear n0_ n1_ n2_; clear hb ho48; obtain ⟨Ao49, co49, eo49⟩ := Kd.R_slice HO540.out; subst eo49) | ((with_reducible refine gate_callee (f := 13) rfl ?_); refine goesL_ (some 8) rfl rfl Try.func13 (by kernel_rfl) rfl #[.slice Ao49 y538.length co49] rfl (by (try simp only [List.map_toArray, List.map_cons, List.map_nil]); first | done | rfl | (simp only [List.length_drop, List.length_take]; rfl)) ?_; (with_reducible refine (cornucopialaw5_Small.calls k _ _ y538 false _ ?side1 ?side2 A2.out).mono ?_); (case side1 => repeat (first | exact (Kd.R_reads' HO540.out).2.2 | (with_reducible refine Kd.C_alloc ?_ _) | (with_reducible refine Kd.C_drewN ?_ _) | (with_reducible refine Kd.C_drew ?_))); (case side2 => exact (Kd.R_reads' HO540.out).2.1); rintro e w50 ⟨rfl, hb⟩; refine ⟨_, rfl, ?_⟩; have n0_ := Aside0.mk (Kd.R_below (by (with_reducible repeat (first | apply Kd.R_alloc | apply Kd.R_drewN | apply Kd.R_drew)); exact HO540.out) hb); have n1_ := Aside0.mk (blk_below (g := gb537) (o := .cells #[.string a0_0, .int .u64 a0_1, .int .i64 a0_2, .string a0_3] 29 (0, 0)) (by (with_reducible repeat (first | refine blk_drewN ?_ _ | refine blk_drew ?_ | refine blk_alloc ?_ _)); exact BK537.out) hb); have n2_ := Aside0.mk (below_step (by repeat (first | (with_reducible first | exact HB.out | apply below_alloc | apply pw_below_drewN | apply below_drew1 | refine below_set ?_ GE537.out) | exact HB.out)) hb); clear HO540; clear BK537; clear HB; have HO540 := n0_; have BK537 := n1_; have HB := n2_; clear n0_ n1_ n2_; (try clear hb); (try clear hb2); (try clear hk); (try clear hi)) | ((with_reducible refine gate_callee (f := 15) rfl ?_); refine goesL_ (some 10) rfl rfl Try.func15 (by kernel_rfl) rfl #[] rfl (by (try simp only [List.map_toArray, List.map_cons, List.map_nil]); first | done | rfl | (simp only [List.length_drop, List.length_take]; rfl)) ?_; (with_reducible refine (cornucopialaw5_alive.calls k  t542 _ A44.out).mono ?_); rintro e w51 ⟨rfl, hb⟩; refine ⟨_, rfl, ?_⟩; have n0_ := Aside0.mk (Kd.R_below (by (with_reducible repeat (first | apply Kd.R_alloc | apply Kd.R_drewN | apply Kd.R_drew)); exact HO540.out) hb); have n1_ := Aside0.mk (blk_below (g := gb537) (o := .cells #[.string a0_0, .int .u64 a0_1, .int .i64 a0_2, .string a0_3] 29 (0, 0)) (by (with_reducible repeat (first | refine blk_drewN ?_ _ | refine blk_drew ?_ | refine blk_alloc ?_ _)); exact BK537.out) hb); have n2_ := Aside0.mk (below_step (by repeat (first | (with_reducible first | exact HB.out | apply below_alloc | apply pw_below_drewN | apply below_drew1 | refine below_set ?_ GE537.out) | exact HB.out)) hb); clear HO540; clear BK537; clear HB; have HO540 := n0_; have BK537 := n1_; have HB := n2_; clear n0_ n1_ n2_; (try clear hb); (try clear hb2); (try clear hk); (try clear hi)))
    go_ret
    exact ⟨by first | rfl | (simp [errW_none, errW_some] <;> rfl) | (simp [*, errW_none, errW_some] <;> rfl), by repeat (first | (with_reducible first | exact HB.out | apply below_alloc | apply pw_below_drewN | apply below_drew1 | refine below_set ?_ GE537.out) | exact HB.out)⟩

/-- THE ONE PURE STATEMENT of cornucopialaw5_IkeyBack. -/
def cornucopialaw5_IkeyBack.Pure : Prop := ∀ (s0 : S29), wfS29 s0 → ∃ k, cornucopialaw5_IkeyBack.f k s0.f0 s0.f1 s0.f2 s0.f3 = some true
theorem cornucopialaw5_IkeyBack.walk (P : cornucopialaw5_IkeyBack.Pure) (s0 : S29) (w : World) (w0_0 : wfS29 s0) :
    Calls Try.prog 12 #[.agg #[.string s0.f0, .int .u64 s0.f1, .int .i64 s0.f2, .string s0.f3]] w fun e w' => e = .returned (.bool true) ∧ Below w.heap.size w w' := by
  obtain ⟨k, h⟩ := P s0 w0_0
  refine (cornucopialaw5_IkeyBack.calls k s0.f0 s0.f1 s0.f2 s0.f3 true w h).mono ?_
  rintro e w' ⟨rfl, hd⟩
  exact ⟨rfl, hd⟩

end Go.Proofs.Ytkpjipfjhniddaa.PNum
