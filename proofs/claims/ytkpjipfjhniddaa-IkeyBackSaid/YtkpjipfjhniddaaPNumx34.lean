/- A walk, written by a program of this session out of the translation (a printed Lean function, and that the Go code comes to its answer). Lean checks it. -/
import Derived.Test.YtkpjipfjhniddaaPNumx0
import Derived.Test.YtkpjipfjhniddaaPNumx2
import Derived.Test.YtkpjipfjhniddaaPNumx19
import Derived.Test.YtkpjipfjhniddaaPNumx30
namespace Go.Proofs.Ytkpjipfjhniddaa.PNum
open Go.RowKit Go.Proofs.YtkpjipfjhniddaaW.PrintWords Go.Proofs.YtkpjipfjhniddaaW.PrintLast Go.Proofs.YtkpjipfjhniddaaW.PrintMore
attribute [local go_sem] max2_int min2_int max_two min_two max_three min_three max_four min_four   -- for this text's walks alone
set_option linter.unusedVariables false
set_option linter.unusedSimpArgs false

/-! ### ikey_Put: function 62 -/
def ikey_Put.f (k : Nat) (a0_0 : ByteArray) (a0_1 : Int) (a0_2 : Int) (a0_3 : ByteArray) : Option (ByteArray × Int) := (ikey_Valid.f k a0_0 a0_1 a0_2 a0_3).bind fun t499 => (if t499 = true then ((num_Text.f k (([a0_0] : List ByteArray))).bind fun t503 => ((num_Var.f k (([a0_1, IntKind.u64.wrap (a0_2)] : List Int))).bind fun t507 => (if t503.size + t507.size ≤ 9223372036854775807 then ((num_Text.f k (([a0_3] : List ByteArray))).bind fun t511 => (if (t503 ++ t507).size + t511.size ≤ 9223372036854775807 then (some ((t503 ++ t507) ++ t511, 0)) else (none))) else (none)))) else (some ((⟨#[]⟩ : ByteArray), 1)))
theorem ikey_Put.mono : ∀ a0 a1 a2 a3 k, LeO (ikey_Put.f k a0 a1 a2 a3) (ikey_Put.f (k + 1) a0 a1 a2 a3) := by
  intro a0 a1 a2 a3 k
  unfold ikey_Put.f
  repeat' first
      | (with_reducible exact ikey_Valid.mono _ _ _ _ _)
      | (with_reducible exact num_Text.mono _ _)
      | (with_reducible exact num_Var.mono _ _)
      | (with_reducible exact LeO.refl _)
      | (with_reducible exact LeO.none _)
      | (with_reducible refine LeO.ite ?_ ?_)
      | (with_reducible refine LeO.bind ?_ (fun _ => ?_))
      | exact ikey_Valid.mono _ _ _ _ _
      | exact num_Text.mono _ _
      | exact num_Var.mono _ _
      | exact LeO.none _
      | refine LeO.ite ?_ ?_
      | refine LeO.bind ?_ (fun _ => ?_)
def ikey_Put.T3 : Bool × List (List Nat × List Nat) := (true, [([], []), ([0], [0]), ([1], [1]), ([2], [2]), ([], []), ([4], [4]), ([], []), ([6], [6]), ([7], [7]), ([5, 8], [5, 8]), ([9, 3], [9]), ([3, 10], [3, 10]), ([], []), ([12], [12]), ([13], [13]), ([14, 10], [14]), ([11, 15], [11, 15]), ([16, 15, 0, 1, 2, 3, 4, 5, 6, 7, 8, 9, 10, 11, 12, 13, 14, 15, 16], [16]), ([17, 0, 1, 2, 3, 4, 5, 6, 7, 8, 9, 10, 11, 12, 13, 14, 15, 16, 17], [])])
def ikey_Put.B3 : List Nat := [0, 1, 3, 7, 0, 16, 0, 64, 192, 496, 1023, 2047, 0, 4096, 12288, 30719, 65535, 131071, 262143]
theorem ikey_Put.tab3 : rtab .any (opsOf Try.f62 3) = ikey_Put.T3 := by kernel_rfl
theorem ikey_Put.bits3 : waitsOk ikey_Put.T3.2 ikey_Put.B3 = true := by kernel_rfl
set_option maxHeartbeats 8000000 in
set_option maxRecDepth 100000 in
theorem ikey_Put.calls (k : Nat) (a0_0 : ByteArray) (a0_1 : Int) (a0_2 : Int) (a0_3 : ByteArray) (r1 : ByteArray) (r2 : Int) (w : World) (h : ikey_Put.f k a0_0 a0_1 a0_2 a0_3 = some (r1, r2)) :
    Calls Try.prog 62 #[.agg #[.string a0_0, .int .u64 a0_1, .int .i64 a0_2, .string a0_3]] w fun e w' => e = .returned (.tuple #[.string r1, .int .i64 r2]) ∧ Below w.heap.size w w' := by
  have hu29 := Try.underlying29
  have HB := Aside0.mk (Below.refl w.heap.size w)
  have H : ((ikey_Valid.f k a0_0 a0_1 a0_2 a0_3).bind fun t499 => (if t499 = true then ((num_Text.f k (([a0_0] : List ByteArray))).bind fun t503 => ((num_Var.f k (([a0_1, IntKind.u64.wrap (a0_2)] : List Int))).bind fun t507 => (if t503.size + t507.size ≤ 9223372036854775807 then ((num_Text.f k (([a0_3] : List ByteArray))).bind fun t511 => (if (t503 ++ t507).size + t511.size ≤ 9223372036854775807 then (some ((t503 ++ t507) ++ t511, 0)) else (none))) else (none)))) else (some ((⟨#[]⟩ : ByteArray), 1)))) = some (r1, r2) := h
  clear h
  replace H := Option.bind_eq_some_iff.mp H
  obtain ⟨t499, A20, H⟩ := H
  replace H : (if t499 = true then ((num_Text.f k (([a0_0] : List ByteArray))).bind fun t503 => ((num_Var.f k (([a0_1, IntKind.u64.wrap (a0_2)] : List Int))).bind fun t507 => (if t503.size + t507.size ≤ 9223372036854775807 then ((num_Text.f k (([a0_3] : List ByteArray))).bind fun t511 => (if (t503 ++ t507).size + t511.size ≤ 9223372036854775807 then (some ((t503 ++ t507) ++ t511, 0)) else (none))) else (none)))) else (some ((⟨#[]⟩ : ByteArray), 1))) = some (r1, r2) := H
  have A2 := Aside0.mk A20
  clear A20
  by_cases c3 : t499 = true
  · subst c3
    have H1 : ((num_Text.f k (([a0_0] : List ByteArray))).bind fun t503 => ((num_Var.f k (([a0_1, IntKind.u64.wrap (a0_2)] : List Int))).bind fun t507 => (if t503.size + t507.size ≤ 9223372036854775807 then ((num_Text.f k (([a0_3] : List ByteArray))).bind fun t511 => (if (t503 ++ t507).size + t511.size ≤ 9223372036854775807 then (some ((t503 ++ t507) ++ t511, 0)) else (none))) else (none)))) = some (r1, r2) := by rw [if_pos rfl] at H; exact H
    clear H
    have H := H1
    clear H1
    obtain ⟨y500, hy500⟩ : ∃ y_ : List ByteArray, y_ = (([a0_0] : List ByteArray)) := ⟨_, rfl⟩
    replace H : ((num_Text.f k y500).bind fun t503 => ((num_Var.f k (([a0_1, IntKind.u64.wrap (a0_2)] : List Int))).bind fun t507 => (if t503.size + t507.size ≤ 9223372036854775807 then ((num_Text.f k (([a0_3] : List ByteArray))).bind fun t511 => (if (t503 ++ t507).size + t511.size ≤ 9223372036854775807 then (some ((t503 ++ t507) ++ t511, 0)) else (none))) else (none)))) = some (r1, r2) := by first | (rw [hy500]; with_reducible exact H) | (have H2_ := (Option.bind_some _ _).symm.trans H; rw [hy500]; with_reducible exact H2_) | (have H2_ := (Option.bind_some _ _).symm.trans H; with_reducible exact H2_) | with_reducible exact H | (rw [hy500]; exact H) | exact H
    have Ny500 := Aside0.mk hy500
    clear hy500
    replace H := Option.bind_eq_some_iff.mp H
    obtain ⟨t503, A40, H⟩ := H
    replace H : ((num_Var.f k (([a0_1, IntKind.u64.wrap (a0_2)] : List Int))).bind fun t507 => (if t503.size + t507.size ≤ 9223372036854775807 then ((num_Text.f k (([a0_3] : List ByteArray))).bind fun t511 => (if (t503 ++ t507).size + t511.size ≤ 9223372036854775807 then (some ((t503 ++ t507) ++ t511, 0)) else (none))) else (none))) = some (r1, r2) := H
    have A4 := Aside0.mk A40
    clear A40
    obtain ⟨y504, hy504⟩ : ∃ y_ : List Int, y_ = (([a0_1, IntKind.u64.wrap (a0_2)] : List Int)) := ⟨_, rfl⟩
    replace H : ((num_Var.f k y504).bind fun t507 => (if t503.size + t507.size ≤ 9223372036854775807 then ((num_Text.f k (([a0_3] : List ByteArray))).bind fun t511 => (if (t503 ++ t507).size + t511.size ≤ 9223372036854775807 then (some ((t503 ++ t507) ++ t511, 0)) else (none))) else (none))) = some (r1, r2) := by first | (rw [hy504]; with_reducible exact H) | (have H2_ := (Option.bind_some _ _).symm.trans H; rw [hy504]; with_reducible exact H2_) | (have H2_ := (Option.bind_some _ _).symm.trans H; with_reducible exact H2_) | with_reducible exact H | (rw [hy504]; exact H) | exact H
    have Ny504 := Aside0.mk hy504
    clear hy504
    replace H := Option.bind_eq_some_iff.mp H
    obtain ⟨t507, A50, H⟩ := H
    replace H : (if t503.size + t507.size ≤ 9223372036854775807 then ((num_Text.f k (([a0_3] : List ByteArray))).bind fun t511 => (if (t503 ++ t507).size + t511.size ≤ 9223372036854775807 then (some ((t503 ++ t507) ++ t511, 0)) else (none))) else (none)) = some (r1, r2) := H
    have A5 := Aside0.mk A50
    clear A50
    by_cases c6 : t503.size + t507.size ≤ 9223372036854775807
    · rw [if_pos c6] at H
      have c6b0 := eq_true c6
      have c6b1 : decide (t503.size + t507.size ≤ 9223372036854775807) = true := decide_eq_true c6
      try have c6b2 : (9223372036854775807 < t503.size + t507.size) = False := eq_false (Nat.not_lt.2 c6)
      clear c6
      obtain ⟨y508, hy508⟩ : ∃ y_ : List ByteArray, y_ = (([a0_3] : List ByteArray)) := ⟨_, rfl⟩
      replace H : ((num_Text.f k y508).bind fun t511 => (if (t503 ++ t507).size + t511.size ≤ 9223372036854775807 then (some ((t503 ++ t507) ++ t511, 0)) else (none))) = some (r1, r2) := by first | (rw [hy508]; with_reducible exact H) | (have H2_ := (Option.bind_some _ _).symm.trans H; rw [hy508]; with_reducible exact H2_) | (have H2_ := (Option.bind_some _ _).symm.trans H; with_reducible exact H2_) | with_reducible exact H | (rw [hy508]; exact H) | exact H
      have Ny508 := Aside0.mk hy508
      clear hy508
      replace H := Option.bind_eq_some_iff.mp H
      obtain ⟨t511, A70, H⟩ := H
      replace H : (if (t503 ++ t507).size + t511.size ≤ 9223372036854775807 then (some ((t503 ++ t507) ++ t511, 0)) else (none)) = some (r1, r2) := H
      have A7 := Aside0.mk A70
      clear A70
      by_cases c8 : (t503 ++ t507).size + t511.size ≤ 9223372036854775807
      · rw [if_pos c8] at H
        have c8b0 := eq_true c8
        have c8b1 : decide ((t503 ++ t507).size + t511.size ≤ 9223372036854775807) = true := decide_eq_true c8
        try have c8b2 : (9223372036854775807 < (t503 ++ t507).size + t511.size) = False := eq_false (Nat.not_lt.2 c8)
        (try (have c8b5 := c8b0; simp only [ByteArray.size_append] at c8b5))
        (try (have c8b6 := c8b2; simp only [ByteArray.size_append] at c8b6))
        clear c8
        simp only [Option.some.injEq, Prod.mk.injEq] at H
        obtain ⟨rfl, rfl⟩ := H
        go_enter Try.func62, Try.ntmps62
        try go_wp2_with (first | ((with_reducible refine gate_dst (N := 1) rfl ?_); refine box_event ?hg (N := 1) ?hd (cs := #[.string a0_0, .int .u64 a0_1, .int .i64 a0_2, .string a0_3]) (t := 29) ?hr ?_; (case hd => rfl); (case hg => rfl); (case hr => first | (go_simp; done) | (go_simp; rfl)); intro gb498 hg w9 hbox hb; have n0_ := Aside0.mk (below_step (by repeat (first | (with_reducible first | exact HB.out | apply below_alloc | apply pw_below_drewN | apply below_drew1) | exact HB.out)) hb); have n1_ := Aside0.mk (hbox); have n2_ := Aside0.mk ((by rw [hg]; exact (below_size (by repeat (first | (with_reducible first | exact HB.out | apply below_alloc | apply pw_below_drewN | apply below_drew1) | exact HB.out))) : w.heap.size ≤ gb498)); have n3_ := Aside0.mk ((by rw [hg]; exact (below_size (by repeat (first | (with_reducible first | exact HB.out | apply below_alloc | apply pw_below_drewN | apply below_drew1) | exact HB.out))) : w.heap.size ≤ gb498)); clear HB; have HB := n0_; have BK498 := n1_; have GW498 := n2_; have GE498 := n3_; clear n0_ n1_ n2_ n3_; clear hb hbox hg; have hcz10_0 : w9.cell? ⟨gb498, 0, none⟩ = some (.string a0_0) := (blk_cell BK498.out 0).trans rfl; have hcz10_1 : w9.cell? ⟨gb498, 1, none⟩ = some (.int .u64 a0_1) := (blk_cell BK498.out 1).trans rfl; have hcz10_2 : w9.cell? ⟨gb498, 2, none⟩ = some (.int .i64 a0_2) := (blk_cell BK498.out 2).trans rfl; have hcz10_3 : w9.cell? ⟨gb498, 3, none⟩ = some (.string a0_3) := (blk_cell BK498.out 3).trans rfl; have hfz10_0 := blk_frozen BK498.out 0; have hfz10_1 := blk_frozen BK498.out 1; have hfz10_2 := blk_frozen BK498.out 2; have hfz10_3 := blk_frozen BK498.out 3) | ((with_reducible refine gate_callee (f := 63) rfl ?_); refine goesL_ (some 5) rfl rfl Try.func63 (by kernel_rfl) rfl #[.agg #[.string a0_0, .int .u64 a0_1, .int .i64 a0_2, .string a0_3]] rfl (by (try simp only [List.map_toArray, List.map_cons, List.map_nil]); first | done | rfl | (simp only [List.length_drop, List.length_take]; rfl)) ?_; (with_reducible refine (ikey_Valid.calls k a0_0 a0_1 a0_2 a0_3 true _ A2.out).mono ?_); rintro e w11 ⟨rfl, hb⟩; refine ⟨_, rfl, ?_⟩; have n0_ := Aside0.mk (blk_below (g := gb498) (o := .cells #[.string a0_0, .int .u64 a0_1, .int .i64 a0_2, .string a0_3] 29 (0, 0)) (by (with_reducible repeat (first | refine blk_drewN ?_ _ | refine blk_drew ?_ | refine blk_alloc ?_ _)); exact BK498.out) hb); have n1_ := Aside0.mk (below_step (by repeat (first | (with_reducible first | exact HB.out | apply below_alloc | apply pw_below_drewN | apply below_drew1 | refine below_set ?_ GE498.out) | exact HB.out)) hb); clear BK498; clear HB; have BK498 := n0_; have HB := n1_; clear n0_ n1_; (try clear hb); (try clear hb2); (try clear hk); (try clear hi)))
        have n0_ := Aside0.mk (blk_drew BK498.out)
        have n1_ := Aside0.mk (below_drew1 HB.out)
        clear BK498
        clear HB
        have BK498 := n0_
        have HB := n1_
        clear n0_ n1_
        refine start_ (n := 19) (S := fun w' => True) (ds := []) #[false, false, false, false, false, false, false, false, false, false, false, false, false, false, false, false, false, false, false] (by kernel_rfl) rfl rfl trivial (fun hHeld => ?_); refine with_tabW ikey_Put.tab3 ikey_Put.bits3 (fun HT_ HW_ => ?_)
        generalize w11.drew = w12 at BK498 HB hHeld ⊢
        refine pure_ (i := 0) (N := some 7) (v := ?_) (a' := ?_) #[true, false, false, false, false, false, false, false, false, false, false, false, false, false, false, false, false, false, false] rfl rfl (any_of HT_.out (by kernel_rfl)) (fun _ _ _ h => h) (Or.inl ⟨by rfl, ?_⟩) ?_ ?_
        rotate_left
        · intro w'
          go_simp
          with_reducible rfl
        rotate_left
        · simp only [Act.put, List.setIfInBounds_toArray, List.set_cons_zero, List.set_cons_succ, i64_w, i32_w]
          rfl
        refine pure_ (i := 4) (N := some 11) (v := ?_) (a' := ?_) #[true, false, false, false, true, false, false, false, false, false, false, false, false, false, false, false, false, false, false] rfl rfl (any_of HT_.out (by kernel_rfl)) (fun _ _ _ h => h) (Or.inl ⟨by rfl, ?_⟩) ?_ ?_
        rotate_left
        · intro w'
          go_simp
          with_reducible rfl
        rotate_left
        · simp only [Act.put, List.setIfInBounds_toArray, List.set_cons_zero, List.set_cons_succ, i64_w, i32_w]
          rfl
        refine pure_ (i := 6) (N := some 13) (v := ?_) (a' := ?_) #[true, false, false, false, true, false, true, false, false, false, false, false, false, false, false, false, false, false, false] rfl rfl (any_of HT_.out (by kernel_rfl)) (fun _ _ _ h => h) (Or.inl ⟨by rfl, ?_⟩) ?_ ?_
        rotate_left
        · intro w'
          go_simp
          with_reducible rfl
        rotate_left
        · simp only [Act.put, List.setIfInBounds_toArray, List.set_cons_zero, List.set_cons_succ, i64_w, i32_w]
          rfl
        refine pure_ (i := 12) (N := some 19) (v := ?_) (a' := ?_) #[true, false, false, false, true, false, true, false, false, false, false, false, true, false, false, false, false, false, false] rfl rfl (any_of HT_.out (by kernel_rfl)) (fun _ _ _ h => h) (Or.inl ⟨by rfl, ?_⟩) ?_ ?_
        rotate_left
        · intro w'
          go_simp
          with_reducible rfl
        rotate_left
        · simp only [Act.put, List.setIfInBounds_toArray, List.set_cons_zero, List.set_cons_succ, i64_w, i32_w]
          rfl
        refine inv_at [1, 2, 3, 5, 7, 8, 9, 10, 11, 13, 14, 15, 16, 17, 18] (fun a0_ b a w' => ∃ (v501 : Value) (v505 : Value) (v509 : Value), a = putSel a0_ b [(1, 8, .string a0_0), (2, 9, v501), (3, 10, .string t503), (5, 12, .int .u64 a0_1), (7, 14, .int .i64 a0_2), (8, 15, .int .u64 (IntKind.u64.wrap (a0_2))), (9, 16, v505), (10, 17, .string t507), (11, 18, .string (t503 ++ t507)), (13, 20, .string a0_3), (14, 21, v509), (15, 22, .string t511), (16, 23, .string ((t503 ++ t507) ++ t511)), (17, 2, .string ((t503 ++ t507) ++ t511)), (18, 3, .int .i64 0)] ∧ (w'.heap[gb498]? = some (.cells #[.string a0_0, .int .u64 a0_1, .int .i64 a0_2, .string a0_3] 29 (0, 0))) ∧ (Below w.heap.size w w') ∧ (b 2 = true → Kd.R Kd.string 9 w' w.heap.size (fun _ => True) v501 y500) ∧ (b 9 = true → Kd.R (Kd.int .u64) 24 w' w.heap.size (fun _ => True) v505 y504) ∧ (b 14 = true → Kd.R Kd.string 9 w' w.heap.size (fun _ => True) v509 y508)) HT_.out HW_.out (by kernel_rfl) (by kernel_rfl) ?_ ?_ ?_
        · exact ⟨.bool false, .bool false, .bool false, by simp only [putSel, Bool.false_eq_true, if_false], BK498.out, HB.out, fun h_ => absurd h_ (by decide), fun h_ => absurd h_ (by decide), fun h_ => absurd h_ (by decide)⟩
        · skip
          clear BK498 HB
          refine steps_cons ?_ ?_
          · rintro b a w' ⟨v501, v505, v509, ha, Q_BK498, Q_HB, Q_HO502, Q_HO506, Q_HO510⟩ hb_ hon hoff
            refine ⟨_, rfl, fun K hK => ?_⟩
            have e7 : a.tmps[7]? = some (.pointer (some ⟨gb498, 0, none⟩)) := by rw [ha]; exact (putSel_off rfl).trans rfl
            replace ha := Aside0.mk ha
            have BK498 := Aside0.mk Q_BK498
            have HB := Aside0.mk Q_HB
            have hc0_ : w'.cell? ⟨gb498, 0, none⟩ = some (.string a0_0) := (blk_cell BK498.out 0).trans rfl
            have hc1_ : w'.cell? ⟨gb498, 1, none⟩ = some (.int .u64 a0_1) := (blk_cell BK498.out 1).trans rfl
            have hc2_ : w'.cell? ⟨gb498, 2, none⟩ = some (.int .i64 a0_2) := (blk_cell BK498.out 2).trans rfl
            have hc3_ : w'.cell? ⟨gb498, 3, none⟩ = some (.string a0_3) := (blk_cell BK498.out 3).trans rfl
            refine value_ (w1 := w') (v := .string a0_0) (by rfl) rfl ?_ ?_
            · go_simp
              (try simp only [i64_w])
              try rfl
            refine hK.out _ _ ⟨v501, v505, v509, (by rw [ha.out]; exact putSel_upk 0 hb_ rfl rfl rfl), Q_BK498, Q_HB, fun h0_ => absurd ((hoff 2 (by kernel_rfl)).symm.trans h0_) (by decide), Q_HO506, Q_HO510⟩
          refine steps_cons ?_ ?_
          · rintro b a w' ⟨v501, v505, v509, ha, Q_BK498, Q_HB, Q_HO502, Q_HO506, Q_HO510⟩ hb_ hon hoff
            refine ⟨_, rfl, fun K hK => ?_⟩
            have e8 : a.tmps[8]? = some (.string a0_0) := by rw [ha]; exact putSel_on (e := (1, 8, .string a0_0)) 0 rfl rfl (hon 1 (by kernel_rfl)) rfl
            replace ha := Aside0.mk ha
            have BK498 := Aside0.mk Q_BK498
            have HB := Aside0.mk Q_HB
            refine Kd.R_lit_step Kd.string _ 9 ?hg (N := 9) ?hd (xs := ([a0_0] : List ByteArray)) (inner := [.string a0_0]) (ok := fun _ => True) (okp := fun _ => True) ?hr ?hp (fun _ hk => hk) trivial (Below.refl _ _) (Nat.le_refl _) (by simp) ?_; (case hd => rfl); (case hg => rfl); (case hr => first | (go_simp; done) | (go_simp; rfl)); (case hp => exact (Reps.one (show Kd.M Kd.string _ _ _ a0_0 [.string a0_0] from rfl) (Reps.none _ _)))
            intro v501 w13 ho14 hb hg_ hnew_
            clear hg_ hnew_
            (first | rw [← Ny500.out] at ho14 | (simp only [Int.reduceToNat] at ho14; rw [← Ny500.out] at ho14))
            have n0_ := Aside0.mk (Kd.R_lower ho14 (below_size (by repeat (first | (with_reducible first | exact HB.out | apply below_alloc | apply pw_below_drewN | apply below_drew1 | refine below_set ?_ GE498.out) | exact HB.out))))
            have n1_ := Aside0.mk (blk_below (g := gb498) (o := .cells #[.string a0_0, .int .u64 a0_1, .int .i64 a0_2, .string a0_3] 29 (0, 0)) (by (with_reducible repeat (first | refine blk_drewN ?_ _ | refine blk_drew ?_ | refine blk_alloc ?_ _)); exact BK498.out) hb)
            have n2_ := Aside0.mk (below_step (by repeat (first | (with_reducible first | exact HB.out | apply below_alloc | apply pw_below_drewN | apply below_drew1 | refine below_set ?_ GE498.out) | exact HB.out)) hb)
            have z_HO506 := fun (h0_ : b 9 = true) => (show Kd.R (Kd.int .u64) 24 w13 w.heap.size (fun _ => True) v505 y504 from by first | exact (Kd.R_below (by (with_reducible repeat (first | apply Kd.R_alloc | apply Kd.R_drewN | apply Kd.R_drew)); exact (Q_HO506 h0_)) hb) | exact Kd.R_mono (Kd.R_below (by (with_reducible repeat (first | apply Kd.R_alloc | apply Kd.R_drewN | apply Kd.R_drew)); exact (Q_HO506 h0_)) hb) (fun _ h_ => by first | trivial | exact h_ | exact h_.1))
            have z_HO510 := fun (h0_ : b 14 = true) => (show Kd.R Kd.string 9 w13 w.heap.size (fun _ => True) v509 y508 from by first | exact (Kd.R_elder' (by (with_reducible repeat (first | apply Kd.R_alloc | apply Kd.R_drewN | apply Kd.R_drew)); exact (Q_HO510 h0_)) (Kd.R_base ho14) hb) | exact Kd.R_mono (Kd.R_elder' (by (with_reducible repeat (first | apply Kd.R_alloc | apply Kd.R_drewN | apply Kd.R_drew)); exact (Q_HO510 h0_)) (Kd.R_base ho14) hb) (fun _ h_ => by first | trivial | exact h_ | exact h_.1))
            clear BK498
            clear HB
            have HO502 := n0_
            have BK498 := n1_
            have HB := n2_
            clear n0_ n1_ n2_
            clear hb ho14
            refine hK.out _ _ ⟨v501, v505, v509, (by rw [ha.out]; exact putSel_upk 1 hb_ rfl rfl rfl), (by (with_reducible repeat (first | refine blk_drewN ?_ _ | refine blk_drew ?_ | refine blk_alloc ?_ _)); exact BK498.out), (by repeat (first | (with_reducible first | exact HB.out | apply below_alloc | apply pw_below_drewN | apply below_drew1 | refine below_set ?_ GE498.out) | exact HB.out)), fun _ => (by (with_reducible repeat (first | apply Kd.R_alloc | apply Kd.R_drewN | apply Kd.R_drew)); exact HO502.out), z_HO506, z_HO510⟩
          refine steps_cons ?_ ?_
          · rintro b a w' ⟨v501, v505, v509, ha, Q_BK498, Q_HB, Q_HO502, Q_HO506, Q_HO510⟩ hb_ hon hoff
            refine ⟨_, rfl, fun K hK => ?_⟩
            have e9 : a.tmps[9]? = some (v501) := by rw [ha]; exact putSel_on (e := (2, 9, v501)) 1 rfl rfl (hon 2 (by kernel_rfl)) rfl
            replace ha := Aside0.mk ha
            have BK498 := Aside0.mk Q_BK498
            have HB := Aside0.mk Q_HB
            have HO502 := Aside0.mk (Q_HO502 (hon 2 (by kernel_rfl)))
            obtain ⟨Ao16, co16, eo16⟩ := Kd.R_slice HO502.out
            (first | subst eo16 | (injection eo16 with f1_ f2_ f3_; have f4_ := f1_.symm; have f5_ := f3_.symm; clear f1_ f2_ f3_; subst f4_; subst f5_))
            refine goes_ Try.func33 (by kernel_rfl) rfl #[.slice Ao16 y500.length co16] (by rfl) rfl rfl (by first | (simp only [List.map_toArray, List.map_cons, List.map_nil, Act.eval, Array.getD_eq_getD_getElem?, Option.getD_some, e9]; done) | (simp only [List.map_toArray, List.map_cons, List.map_nil, Act.eval, Array.getD_eq_getD_getElem?, Option.getD_some, e9]; rfl)) ?_
            with_reducible refine (num_Text.calls k _ _ y500 t503 _ ?side1 ?side2 A4.out).mono ?_
            (case side1 => repeat (first | exact (Kd.R_reads' HO502.out).2.2 | (with_reducible refine Kd.C_alloc ?_ _) | (with_reducible refine Kd.C_drewN ?_ _) | (with_reducible refine Kd.C_drew ?_)))
            (case side2 => exact (Kd.R_reads' HO502.out).2.1)
            rintro e w17 ⟨rfl, hb⟩
            refine ⟨_, rfl, ?_⟩
            have n0_ := Aside0.mk (Kd.R_below (by (with_reducible repeat (first | apply Kd.R_alloc | apply Kd.R_drewN | apply Kd.R_drew)); exact HO502.out) hb)
            have n1_ := Aside0.mk (blk_below (g := gb498) (o := .cells #[.string a0_0, .int .u64 a0_1, .int .i64 a0_2, .string a0_3] 29 (0, 0)) (by (with_reducible repeat (first | refine blk_drewN ?_ _ | refine blk_drew ?_ | refine blk_alloc ?_ _)); exact BK498.out) hb)
            have n2_ := Aside0.mk (below_step (by repeat (first | (with_reducible first | exact HB.out | apply below_alloc | apply pw_below_drewN | apply below_drew1 | refine below_set ?_ GE498.out) | exact HB.out)) hb)
            have z_HO506 := fun (h0_ : b 9 = true) => (show Kd.R (Kd.int .u64) 24 w17 w.heap.size (fun _ => True) v505 y504 from by first | exact (Kd.R_below (by (with_reducible repeat (first | apply Kd.R_alloc | apply Kd.R_drewN | apply Kd.R_drew)); exact (Q_HO506 h0_)) hb) | exact Kd.R_mono (Kd.R_below (by (with_reducible repeat (first | apply Kd.R_alloc | apply Kd.R_drewN | apply Kd.R_drew)); exact (Q_HO506 h0_)) hb) (fun _ h_ => by first | trivial | exact h_ | exact h_.1))
            have z_HO510 := fun (h0_ : b 14 = true) => (show Kd.R Kd.string 9 w17 w.heap.size (fun _ => True) v509 y508 from by first | exact (Kd.R_below (by (with_reducible repeat (first | apply Kd.R_alloc | apply Kd.R_drewN | apply Kd.R_drew)); exact (Q_HO510 h0_)) hb) | exact Kd.R_mono (Kd.R_below (by (with_reducible repeat (first | apply Kd.R_alloc | apply Kd.R_drewN | apply Kd.R_drew)); exact (Q_HO510 h0_)) hb) (fun _ h_ => by first | trivial | exact h_ | exact h_.1))
            clear HO502
            clear BK498
            clear HB
            have HO502 := n0_
            have BK498 := n1_
            have HB := n2_
            clear n0_ n1_ n2_
            (try clear hb)
            (try clear hb2)
            (try clear hk)
            (try clear hi)
            refine hK.out _ _ ⟨.slice Ao16 y500.length co16, v505, v509, (by rw [ha.out]; exact putSel_upk 2 hb_ rfl rfl rfl), (by (with_reducible repeat (first | refine blk_drewN ?_ _ | refine blk_drew ?_ | refine blk_alloc ?_ _)); exact BK498.out), (by repeat (first | (with_reducible first | exact HB.out | apply below_alloc | apply pw_below_drewN | apply below_drew1 | refine below_set ?_ GE498.out) | exact HB.out)), fun _ => (by (with_reducible repeat (first | apply Kd.R_alloc | apply Kd.R_drewN | apply Kd.R_drew)); exact HO502.out), z_HO506, z_HO510⟩
          refine steps_cons ?_ ?_
          · rintro b a w' ⟨v501, v505, v509, ha, Q_BK498, Q_HB, Q_HO502, Q_HO506, Q_HO510⟩ hb_ hon hoff
            refine ⟨_, rfl, fun K hK => ?_⟩
            have e11 : a.tmps[11]? = some (.pointer (some ⟨gb498, 1, none⟩)) := by rw [ha]; exact (putSel_off rfl).trans rfl
            replace ha := Aside0.mk ha
            have BK498 := Aside0.mk Q_BK498
            have HB := Aside0.mk Q_HB
            have hc0_ : w'.cell? ⟨gb498, 0, none⟩ = some (.string a0_0) := (blk_cell BK498.out 0).trans rfl
            have hc1_ : w'.cell? ⟨gb498, 1, none⟩ = some (.int .u64 a0_1) := (blk_cell BK498.out 1).trans rfl
            have hc2_ : w'.cell? ⟨gb498, 2, none⟩ = some (.int .i64 a0_2) := (blk_cell BK498.out 2).trans rfl
            have hc3_ : w'.cell? ⟨gb498, 3, none⟩ = some (.string a0_3) := (blk_cell BK498.out 3).trans rfl
            refine value_ (w1 := w') (v := .int .u64 a0_1) (by rfl) rfl ?_ ?_
            · go_simp
              (try simp only [i64_w])
              try rfl
            refine hK.out _ _ ⟨v501, v505, v509, (by rw [ha.out]; exact putSel_upk 3 hb_ rfl rfl rfl), Q_BK498, Q_HB, Q_HO502, fun h0_ => absurd ((hoff 9 (by kernel_rfl)).symm.trans h0_) (by decide), Q_HO510⟩
          refine steps_cons ?_ ?_
          · rintro b a w' ⟨v501, v505, v509, ha, Q_BK498, Q_HB, Q_HO502, Q_HO506, Q_HO510⟩ hb_ hon hoff
            refine ⟨_, rfl, fun K hK => ?_⟩
            have e13 : a.tmps[13]? = some (.pointer (some ⟨gb498, 2, none⟩)) := by rw [ha]; exact (putSel_off rfl).trans rfl
            replace ha := Aside0.mk ha
            have BK498 := Aside0.mk Q_BK498
            have HB := Aside0.mk Q_HB
            have hc0_ : w'.cell? ⟨gb498, 0, none⟩ = some (.string a0_0) := (blk_cell BK498.out 0).trans rfl
            have hc1_ : w'.cell? ⟨gb498, 1, none⟩ = some (.int .u64 a0_1) := (blk_cell BK498.out 1).trans rfl
            have hc2_ : w'.cell? ⟨gb498, 2, none⟩ = some (.int .i64 a0_2) := (blk_cell BK498.out 2).trans rfl
            have hc3_ : w'.cell? ⟨gb498, 3, none⟩ = some (.string a0_3) := (blk_cell BK498.out 3).trans rfl
            refine value_ (w1 := w') (v := .int .i64 a0_2) (by rfl) rfl ?_ ?_
            · go_simp
              (try simp only [i64_w])
              try rfl
            refine hK.out _ _ ⟨v501, v505, v509, (by rw [ha.out]; exact putSel_upk 4 hb_ rfl rfl rfl), Q_BK498, Q_HB, Q_HO502, fun h0_ => absurd ((hoff 9 (by kernel_rfl)).symm.trans h0_) (by decide), Q_HO510⟩
          refine steps_cons ?_ ?_
          · rintro b a w' ⟨v501, v505, v509, ha, Q_BK498, Q_HB, Q_HO502, Q_HO506, Q_HO510⟩ hb_ hon hoff
            refine ⟨_, rfl, fun K hK => ?_⟩
            have e14 : a.tmps[14]? = some (.int .i64 a0_2) := by rw [ha]; exact putSel_on (e := (7, 14, .int .i64 a0_2)) 4 rfl rfl (hon 7 (by kernel_rfl)) rfl
            replace ha := Aside0.mk ha
            have BK498 := Aside0.mk Q_BK498
            have HB := Aside0.mk Q_HB
            refine value_ (w1 := w') (v := .int .u64 (IntKind.u64.wrap (a0_2))) (by rfl) rfl ?_ ?_
            · go_simp
              (try simp only [i64_w])
              try rfl
            refine hK.out _ _ ⟨v501, v505, v509, (by rw [ha.out]; exact putSel_upk 5 hb_ rfl rfl rfl), Q_BK498, Q_HB, Q_HO502, fun h0_ => absurd ((hoff 9 (by kernel_rfl)).symm.trans h0_) (by decide), Q_HO510⟩
          refine steps_cons ?_ ?_
          · rintro b a w' ⟨v501, v505, v509, ha, Q_BK498, Q_HB, Q_HO502, Q_HO506, Q_HO510⟩ hb_ hon hoff
            refine ⟨_, rfl, fun K hK => ?_⟩
            have e12 : a.tmps[12]? = some (.int .u64 a0_1) := by rw [ha]; exact putSel_on (e := (5, 12, .int .u64 a0_1)) 3 rfl rfl (hon 5 (by kernel_rfl)) rfl
            have e15 : a.tmps[15]? = some (.int .u64 (IntKind.u64.wrap (a0_2))) := by rw [ha]; exact putSel_on (e := (8, 15, .int .u64 (IntKind.u64.wrap (a0_2)))) 5 rfl rfl (hon 8 (by kernel_rfl)) rfl
            replace ha := Aside0.mk ha
            have BK498 := Aside0.mk Q_BK498
            have HB := Aside0.mk Q_HB
            refine Kd.R_lit_step (Kd.int .u64) _ 24 ?hg (N := 16) ?hd (xs := ([a0_1, IntKind.u64.wrap (a0_2)] : List Int)) (inner := [.int .u64 a0_1, .int .u64 (IntKind.u64.wrap (a0_2))]) (ok := fun _ => True) (okp := fun _ => True) ?hr ?hp (fun _ hk => hk) trivial (Below.refl _ _) (Nat.le_refl _) (by simp) ?_; (case hd => rfl); (case hg => rfl); (case hr => first | (go_simp; done) | (go_simp; rfl)); (case hp => exact (Reps.one (show Kd.M (Kd.int .u64) _ _ _ a0_1 [.int .u64 a0_1] from rfl) (Reps.one (show Kd.M (Kd.int .u64) _ _ _ (IntKind.u64.wrap (a0_2)) [.int .u64 (IntKind.u64.wrap (a0_2))] from rfl) (Reps.none _ _))))
            intro v505 w13 ho14 hb hg_ hnew_
            clear hg_ hnew_
            (first | rw [← Ny504.out] at ho14 | (simp only [Int.reduceToNat] at ho14; rw [← Ny504.out] at ho14))
            have n0_ := Aside0.mk (Kd.R_lower ho14 (below_size (by repeat (first | (with_reducible first | exact HB.out | apply below_alloc | apply pw_below_drewN | apply below_drew1 | refine below_set ?_ GE498.out) | exact HB.out))))
            have n1_ := Aside0.mk (blk_below (g := gb498) (o := .cells #[.string a0_0, .int .u64 a0_1, .int .i64 a0_2, .string a0_3] 29 (0, 0)) (by (with_reducible repeat (first | refine blk_drewN ?_ _ | refine blk_drew ?_ | refine blk_alloc ?_ _)); exact BK498.out) hb)
            have n2_ := Aside0.mk (below_step (by repeat (first | (with_reducible first | exact HB.out | apply below_alloc | apply pw_below_drewN | apply below_drew1 | refine below_set ?_ GE498.out) | exact HB.out)) hb)
            have z_HO502 := fun (h0_ : b 2 = true) => (show Kd.R Kd.string 9 w13 w.heap.size (fun _ => True) v501 y500 from by first | exact (Kd.R_below (by (with_reducible repeat (first | apply Kd.R_alloc | apply Kd.R_drewN | apply Kd.R_drew)); exact (Q_HO502 h0_)) hb) | exact Kd.R_mono (Kd.R_below (by (with_reducible repeat (first | apply Kd.R_alloc | apply Kd.R_drewN | apply Kd.R_drew)); exact (Q_HO502 h0_)) hb) (fun _ h_ => by first | trivial | exact h_ | exact h_.1))
            have z_HO510 := fun (h0_ : b 14 = true) => (show Kd.R Kd.string 9 w13 w.heap.size (fun _ => True) v509 y508 from by first | exact (Kd.R_below (by (with_reducible repeat (first | apply Kd.R_alloc | apply Kd.R_drewN | apply Kd.R_drew)); exact (Q_HO510 h0_)) hb) | exact Kd.R_mono (Kd.R_below (by (with_reducible repeat (first | apply Kd.R_alloc | apply Kd.R_drewN | apply Kd.R_drew)); exact (Q_HO510 h0_)) hb) (fun _ h_ => by first | trivial | exact h_ | exact h_.1))
            clear BK498
            clear HB
            have HO506 := n0_
            have BK498 := n1_
            have HB := n2_
            clear n0_ n1_ n2_
            clear hb ho14
            refine hK.out _ _ ⟨v501, v505, v509, (by rw [ha.out]; exact putSel_upk 6 hb_ rfl rfl rfl), (by (with_reducible repeat (first | refine blk_drewN ?_ _ | refine blk_drew ?_ | refine blk_alloc ?_ _)); exact BK498.out), (by repeat (first | (with_reducible first | exact HB.out | apply below_alloc | apply pw_below_drewN | apply below_drew1 | refine below_set ?_ GE498.out) | exact HB.out)), z_HO502, fun _ => (by (with_reducible repeat (first | apply Kd.R_alloc | apply Kd.R_drewN | apply Kd.R_drew)); exact HO506.out), z_HO510⟩
          refine steps_cons ?_ ?_
          · rintro b a w' ⟨v501, v505, v509, ha, Q_BK498, Q_HB, Q_HO502, Q_HO506, Q_HO510⟩ hb_ hon hoff
            refine ⟨_, rfl, fun K hK => ?_⟩
            have e16 : a.tmps[16]? = some (v505) := by rw [ha]; exact putSel_on (e := (9, 16, v505)) 6 rfl rfl (hon 9 (by kernel_rfl)) rfl
            replace ha := Aside0.mk ha
            have BK498 := Aside0.mk Q_BK498
            have HB := Aside0.mk Q_HB
            have HO502 := Aside0.mk (Q_HO502 (hon 2 (by kernel_rfl)))
            have HO506 := Aside0.mk (Q_HO506 (hon 9 (by kernel_rfl)))
            obtain ⟨Ao20, co20, eo20⟩ := Kd.R_slice HO506.out
            (first | subst eo20 | (injection eo20 with f1_ f2_ f3_; have f4_ := f1_.symm; have f5_ := f3_.symm; clear f1_ f2_ f3_; subst f4_; subst f5_))
            refine goes_ Try.func19 (by kernel_rfl) rfl #[.slice Ao20 y504.length co20] (by rfl) rfl rfl (by first | (simp only [List.map_toArray, List.map_cons, List.map_nil, Act.eval, Array.getD_eq_getD_getElem?, Option.getD_some, e16]; done) | (simp only [List.map_toArray, List.map_cons, List.map_nil, Act.eval, Array.getD_eq_getD_getElem?, Option.getD_some, e16]; rfl)) ?_
            with_reducible refine (num_Var.calls k _ _ y504 t507 _ ?side1 ?side2 A5.out).mono ?_
            (case side1 => repeat (first | exact (Kd.R_reads' HO506.out).2.2 | (with_reducible refine Kd.C_alloc ?_ _) | (with_reducible refine Kd.C_drewN ?_ _) | (with_reducible refine Kd.C_drew ?_)))
            (case side2 => exact (Kd.R_reads' HO506.out).2.1)
            rintro e w21 ⟨rfl, hb⟩
            refine ⟨_, rfl, ?_⟩
            have n0_ := Aside0.mk (Kd.R_below (by (with_reducible repeat (first | apply Kd.R_alloc | apply Kd.R_drewN | apply Kd.R_drew)); exact HO502.out) hb)
            have n1_ := Aside0.mk (Kd.R_below (by (with_reducible repeat (first | apply Kd.R_alloc | apply Kd.R_drewN | apply Kd.R_drew)); exact HO506.out) hb)
            have n2_ := Aside0.mk (blk_below (g := gb498) (o := .cells #[.string a0_0, .int .u64 a0_1, .int .i64 a0_2, .string a0_3] 29 (0, 0)) (by (with_reducible repeat (first | refine blk_drewN ?_ _ | refine blk_drew ?_ | refine blk_alloc ?_ _)); exact BK498.out) hb)
            have n3_ := Aside0.mk (below_step (by repeat (first | (with_reducible first | exact HB.out | apply below_alloc | apply pw_below_drewN | apply below_drew1 | refine below_set ?_ GE498.out) | exact HB.out)) hb)
            have z_HO510 := fun (h0_ : b 14 = true) => (show Kd.R Kd.string 9 w21 w.heap.size (fun _ => True) v509 y508 from by first | exact (Kd.R_below (by (with_reducible repeat (first | apply Kd.R_alloc | apply Kd.R_drewN | apply Kd.R_drew)); exact (Q_HO510 h0_)) hb) | exact Kd.R_mono (Kd.R_below (by (with_reducible repeat (first | apply Kd.R_alloc | apply Kd.R_drewN | apply Kd.R_drew)); exact (Q_HO510 h0_)) hb) (fun _ h_ => by first | trivial | exact h_ | exact h_.1))
            clear HO502
            clear HO506
            clear BK498
            clear HB
            have HO502 := n0_
            have HO506 := n1_
            have BK498 := n2_
            have HB := n3_
            clear n0_ n1_ n2_ n3_
            (try clear hb)
            (try clear hb2)
            (try clear hk)
            (try clear hi)
            refine hK.out _ _ ⟨v501, .slice Ao20 y504.length co20, v509, (by rw [ha.out]; exact putSel_upk 7 hb_ rfl rfl rfl), (by (with_reducible repeat (first | refine blk_drewN ?_ _ | refine blk_drew ?_ | refine blk_alloc ?_ _)); exact BK498.out), (by repeat (first | (with_reducible first | exact HB.out | apply below_alloc | apply pw_below_drewN | apply below_drew1 | refine below_set ?_ GE498.out) | exact HB.out)), fun _ => (by (with_reducible repeat (first | apply Kd.R_alloc | apply Kd.R_drewN | apply Kd.R_drew)); exact HO502.out), fun _ => (by (with_reducible repeat (first | apply Kd.R_alloc | apply Kd.R_drewN | apply Kd.R_drew)); exact HO506.out), z_HO510⟩
          refine steps_cons ?_ ?_
          · rintro b a w' ⟨v501, v505, v509, ha, Q_BK498, Q_HB, Q_HO502, Q_HO506, Q_HO510⟩ hb_ hon hoff
            refine ⟨_, rfl, fun K hK => ?_⟩
            have e10 : a.tmps[10]? = some (.string t503) := by rw [ha]; exact putSel_on (e := (3, 10, .string t503)) 2 rfl rfl (hon 3 (by kernel_rfl)) rfl
            have e17 : a.tmps[17]? = some (.string t507) := by rw [ha]; exact putSel_on (e := (10, 17, .string t507)) 7 rfl rfl (hon 10 (by kernel_rfl)) rfl
            replace ha := Aside0.mk ha
            have BK498 := Aside0.mk Q_BK498
            have HB := Aside0.mk Q_HB
            have HO502 := Aside0.mk (Q_HO502 (hon 2 (by kernel_rfl)))
            have HO506 := Aside0.mk (Q_HO506 (hon 9 (by kernel_rfl)))
            refine value_ (w1 := w') (v := .string (t503 ++ t507)) (by rfl) rfl ?_ ?_
            · go_simp
              (try simp only [i64_w])
              try rfl
            refine hK.out _ _ ⟨v501, v505, v509, (by rw [ha.out]; exact putSel_upk 8 hb_ rfl rfl rfl), Q_BK498, Q_HB, Q_HO502, Q_HO506, Q_HO510⟩
          refine steps_cons ?_ ?_
          · rintro b a w' ⟨v501, v505, v509, ha, Q_BK498, Q_HB, Q_HO502, Q_HO506, Q_HO510⟩ hb_ hon hoff
            refine ⟨_, rfl, fun K hK => ?_⟩
            have e19 : a.tmps[19]? = some (.pointer (some ⟨gb498, 3, none⟩)) := by rw [ha]; exact (putSel_off rfl).trans rfl
            replace ha := Aside0.mk ha
            have BK498 := Aside0.mk Q_BK498
            have HB := Aside0.mk Q_HB
            have hc0_ : w'.cell? ⟨gb498, 0, none⟩ = some (.string a0_0) := (blk_cell BK498.out 0).trans rfl
            have hc1_ : w'.cell? ⟨gb498, 1, none⟩ = some (.int .u64 a0_1) := (blk_cell BK498.out 1).trans rfl
            have hc2_ : w'.cell? ⟨gb498, 2, none⟩ = some (.int .i64 a0_2) := (blk_cell BK498.out 2).trans rfl
            have hc3_ : w'.cell? ⟨gb498, 3, none⟩ = some (.string a0_3) := (blk_cell BK498.out 3).trans rfl
            refine value_ (w1 := w') (v := .string a0_3) (by rfl) rfl ?_ ?_
            · go_simp
              (try simp only [i64_w])
              try rfl
            refine hK.out _ _ ⟨v501, v505, v509, (by rw [ha.out]; exact putSel_upk 9 hb_ rfl rfl rfl), Q_BK498, Q_HB, Q_HO502, Q_HO506, fun h0_ => absurd ((hoff 14 (by kernel_rfl)).symm.trans h0_) (by decide)⟩
          refine steps_cons ?_ ?_
          · rintro b a w' ⟨v501, v505, v509, ha, Q_BK498, Q_HB, Q_HO502, Q_HO506, Q_HO510⟩ hb_ hon hoff
            refine ⟨_, rfl, fun K hK => ?_⟩
            have e20 : a.tmps[20]? = some (.string a0_3) := by rw [ha]; exact putSel_on (e := (13, 20, .string a0_3)) 9 rfl rfl (hon 13 (by kernel_rfl)) rfl
            replace ha := Aside0.mk ha
            have BK498 := Aside0.mk Q_BK498
            have HB := Aside0.mk Q_HB
            refine Kd.R_lit_step Kd.string _ 9 ?hg (N := 21) ?hd (xs := ([a0_3] : List ByteArray)) (inner := [.string a0_3]) (ok := fun _ => True) (okp := fun _ => True) ?hr ?hp (fun _ hk => hk) trivial (Below.refl _ _) (Nat.le_refl _) (by simp) ?_; (case hd => rfl); (case hg => rfl); (case hr => first | (go_simp; done) | (go_simp; rfl)); (case hp => exact (Reps.one (show Kd.M Kd.string _ _ _ a0_3 [.string a0_3] from rfl) (Reps.none _ _)))
            intro v509 w13 ho14 hb hg_ hnew_
            clear hg_ hnew_
            (first | rw [← Ny508.out] at ho14 | (simp only [Int.reduceToNat] at ho14; rw [← Ny508.out] at ho14))
            have n0_ := Aside0.mk (Kd.R_lower ho14 (below_size (by repeat (first | (with_reducible first | exact HB.out | apply below_alloc | apply pw_below_drewN | apply below_drew1 | refine below_set ?_ GE498.out) | exact HB.out))))
            have n1_ := Aside0.mk (blk_below (g := gb498) (o := .cells #[.string a0_0, .int .u64 a0_1, .int .i64 a0_2, .string a0_3] 29 (0, 0)) (by (with_reducible repeat (first | refine blk_drewN ?_ _ | refine blk_drew ?_ | refine blk_alloc ?_ _)); exact BK498.out) hb)
            have n2_ := Aside0.mk (below_step (by repeat (first | (with_reducible first | exact HB.out | apply below_alloc | apply pw_below_drewN | apply below_drew1 | refine below_set ?_ GE498.out) | exact HB.out)) hb)
            have z_HO502 := fun (h0_ : b 2 = true) => (show Kd.R Kd.string 9 w13 w.heap.size (fun _ => True) v501 y500 from by first | exact (Kd.R_elder' (by (with_reducible repeat (first | apply Kd.R_alloc | apply Kd.R_drewN | apply Kd.R_drew)); exact (Q_HO502 h0_)) (Kd.R_base ho14) hb) | exact Kd.R_mono (Kd.R_elder' (by (with_reducible repeat (first | apply Kd.R_alloc | apply Kd.R_drewN | apply Kd.R_drew)); exact (Q_HO502 h0_)) (Kd.R_base ho14) hb) (fun _ h_ => by first | trivial | exact h_ | exact h_.1))
            have z_HO506 := fun (h0_ : b 9 = true) => (show Kd.R (Kd.int .u64) 24 w13 w.heap.size (fun _ => True) v505 y504 from by first | exact (Kd.R_below (by (with_reducible repeat (first | apply Kd.R_alloc | apply Kd.R_drewN | apply Kd.R_drew)); exact (Q_HO506 h0_)) hb) | exact Kd.R_mono (Kd.R_below (by (with_reducible repeat (first | apply Kd.R_alloc | apply Kd.R_drewN | apply Kd.R_drew)); exact (Q_HO506 h0_)) hb) (fun _ h_ => by first | trivial | exact h_ | exact h_.1))
            clear BK498
            clear HB
            have HO510 := n0_
            have BK498 := n1_
            have HB := n2_
            clear n0_ n1_ n2_
            clear hb ho14
            refine hK.out _ _ ⟨v501, v505, v509, (by rw [ha.out]; exact putSel_upk 10 hb_ rfl rfl rfl), (by (with_reducible repeat (first | refine blk_drewN ?_ _ | refine blk_drew ?_ | refine blk_alloc ?_ _)); exact BK498.out), (by repeat (first | (with_reducible first | exact HB.out | apply below_alloc | apply pw_below_drewN | apply below_drew1 | refine below_set ?_ GE498.out) | exact HB.out)), z_HO502, z_HO506, fun _ => (by (with_reducible repeat (first | apply Kd.R_alloc | apply Kd.R_drewN | apply Kd.R_drew)); exact HO510.out)⟩
          refine steps_cons ?_ ?_
          · rintro b a w' ⟨v501, v505, v509, ha, Q_BK498, Q_HB, Q_HO502, Q_HO506, Q_HO510⟩ hb_ hon hoff
            refine ⟨_, rfl, fun K hK => ?_⟩
            have e21 : a.tmps[21]? = some (v509) := by rw [ha]; exact putSel_on (e := (14, 21, v509)) 10 rfl rfl (hon 14 (by kernel_rfl)) rfl
            replace ha := Aside0.mk ha
            have BK498 := Aside0.mk Q_BK498
            have HB := Aside0.mk Q_HB
            have HO502 := Aside0.mk (Q_HO502 (hon 2 (by kernel_rfl)))
            have HO506 := Aside0.mk (Q_HO506 (hon 9 (by kernel_rfl)))
            have HO510 := Aside0.mk (Q_HO510 (hon 14 (by kernel_rfl)))
            obtain ⟨Ao24, co24, eo24⟩ := Kd.R_slice HO510.out
            (first | subst eo24 | (injection eo24 with f1_ f2_ f3_; have f4_ := f1_.symm; have f5_ := f3_.symm; clear f1_ f2_ f3_; subst f4_; subst f5_))
            refine goes_ Try.func33 (by kernel_rfl) rfl #[.slice Ao24 y508.length co24] (by rfl) rfl rfl (by first | (simp only [List.map_toArray, List.map_cons, List.map_nil, Act.eval, Array.getD_eq_getD_getElem?, Option.getD_some, e21]; done) | (simp only [List.map_toArray, List.map_cons, List.map_nil, Act.eval, Array.getD_eq_getD_getElem?, Option.getD_some, e21]; rfl)) ?_
            with_reducible refine (num_Text.calls k _ _ y508 t511 _ ?side1 ?side2 A7.out).mono ?_
            (case side1 => repeat (first | exact (Kd.R_reads' HO510.out).2.2 | (with_reducible refine Kd.C_alloc ?_ _) | (with_reducible refine Kd.C_drewN ?_ _) | (with_reducible refine Kd.C_drew ?_)))
            (case side2 => exact (Kd.R_reads' HO510.out).2.1)
            rintro e w25 ⟨rfl, hb⟩
            refine ⟨_, rfl, ?_⟩
            have n0_ := Aside0.mk (Kd.R_below (by (with_reducible repeat (first | apply Kd.R_alloc | apply Kd.R_drewN | apply Kd.R_drew)); exact HO502.out) hb)
            have n1_ := Aside0.mk (Kd.R_below (by (with_reducible repeat (first | apply Kd.R_alloc | apply Kd.R_drewN | apply Kd.R_drew)); exact HO506.out) hb)
            have n2_ := Aside0.mk (Kd.R_below (by (with_reducible repeat (first | apply Kd.R_alloc | apply Kd.R_drewN | apply Kd.R_drew)); exact HO510.out) hb)
            have n3_ := Aside0.mk (blk_below (g := gb498) (o := .cells #[.string a0_0, .int .u64 a0_1, .int .i64 a0_2, .string a0_3] 29 (0, 0)) (by (with_reducible repeat (first | refine blk_drewN ?_ _ | refine blk_drew ?_ | refine blk_alloc ?_ _)); exact BK498.out) hb)
            have n4_ := Aside0.mk (below_step (by repeat (first | (with_reducible first | exact HB.out | apply below_alloc | apply pw_below_drewN | apply below_drew1 | refine below_set ?_ GE498.out) | exact HB.out)) hb)
            clear HO502
            clear HO506
            clear HO510
            clear BK498
            clear HB
            have HO502 := n0_
            have HO506 := n1_
            have HO510 := n2_
            have BK498 := n3_
            have HB := n4_
            clear n0_ n1_ n2_ n3_ n4_
            (try clear hb)
            (try clear hb2)
            (try clear hk)
            (try clear hi)
            refine hK.out _ _ ⟨v501, v505, .slice Ao24 y508.length co24, (by rw [ha.out]; exact putSel_upk 11 hb_ rfl rfl rfl), (by (with_reducible repeat (first | refine blk_drewN ?_ _ | refine blk_drew ?_ | refine blk_alloc ?_ _)); exact BK498.out), (by repeat (first | (with_reducible first | exact HB.out | apply below_alloc | apply pw_below_drewN | apply below_drew1 | refine below_set ?_ GE498.out) | exact HB.out)), fun _ => (by (with_reducible repeat (first | apply Kd.R_alloc | apply Kd.R_drewN | apply Kd.R_drew)); exact HO502.out), fun _ => (by (with_reducible repeat (first | apply Kd.R_alloc | apply Kd.R_drewN | apply Kd.R_drew)); exact HO506.out), fun _ => (by (with_reducible repeat (first | apply Kd.R_alloc | apply Kd.R_drewN | apply Kd.R_drew)); exact HO510.out)⟩
          refine steps_cons ?_ ?_
          · rintro b a w' ⟨v501, v505, v509, ha, Q_BK498, Q_HB, Q_HO502, Q_HO506, Q_HO510⟩ hb_ hon hoff
            refine ⟨_, rfl, fun K hK => ?_⟩
            have e18 : a.tmps[18]? = some (.string (t503 ++ t507)) := by rw [ha]; exact putSel_on (e := (11, 18, .string (t503 ++ t507))) 8 rfl rfl (hon 11 (by kernel_rfl)) rfl
            have e22 : a.tmps[22]? = some (.string t511) := by rw [ha]; exact putSel_on (e := (15, 22, .string t511)) 11 rfl rfl (hon 15 (by kernel_rfl)) rfl
            replace ha := Aside0.mk ha
            have BK498 := Aside0.mk Q_BK498
            have HB := Aside0.mk Q_HB
            have HO502 := Aside0.mk (Q_HO502 (hon 2 (by kernel_rfl)))
            have HO506 := Aside0.mk (Q_HO506 (hon 9 (by kernel_rfl)))
            have HO510 := Aside0.mk (Q_HO510 (hon 14 (by kernel_rfl)))
            refine value_ (w1 := w') (v := .string ((t503 ++ t507) ++ t511)) (by rfl) rfl ?_ ?_
            · go_simp
              (try simp only [i64_w])
              try rfl
            refine hK.out _ _ ⟨v501, v505, v509, (by rw [ha.out]; exact putSel_upk 12 hb_ rfl rfl rfl), Q_BK498, Q_HB, Q_HO502, Q_HO506, Q_HO510⟩
          refine steps_cons ?_ ?_
          · rintro b a w' ⟨v501, v505, v509, ha, Q_BK498, Q_HB, Q_HO502, Q_HO506, Q_HO510⟩ hb_ hon hoff
            refine ⟨_, rfl, fun K hK => ?_⟩
            have e23 : a.tmps[23]? = some (.string ((t503 ++ t507) ++ t511)) := by rw [ha]; exact putSel_on (e := (16, 23, .string ((t503 ++ t507) ++ t511))) 12 rfl rfl (hon 16 (by kernel_rfl)) rfl
            replace ha := Aside0.mk ha
            have BK498 := Aside0.mk Q_BK498
            have HB := Aside0.mk Q_HB
            have HO502 := Aside0.mk (Q_HO502 (hon 2 (by kernel_rfl)))
            have HO506 := Aside0.mk (Q_HO506 (hon 9 (by kernel_rfl)))
            have HO510 := Aside0.mk (Q_HO510 (hon 14 (by kernel_rfl)))
            refine value_ (w1 := w') (v := .string ((t503 ++ t507) ++ t511)) (by rfl) rfl ?_ ?_
            · go_simp
              (try simp only [i64_w])
              try rfl
            refine hK.out _ _ ⟨v501, v505, v509, (by rw [ha.out]; exact putSel_upk 13 hb_ rfl rfl rfl), Q_BK498, Q_HB, Q_HO502, Q_HO506, Q_HO510⟩
          refine steps_cons ?_ ?_
          · rintro b a w' ⟨v501, v505, v509, ha, Q_BK498, Q_HB, Q_HO502, Q_HO506, Q_HO510⟩ hb_ hon hoff
            refine ⟨_, rfl, fun K hK => ?_⟩
            replace ha := Aside0.mk ha
            have BK498 := Aside0.mk Q_BK498
            have HB := Aside0.mk Q_HB
            have HO502 := Aside0.mk (Q_HO502 (hon 2 (by kernel_rfl)))
            have HO506 := Aside0.mk (Q_HO506 (hon 9 (by kernel_rfl)))
            have HO510 := Aside0.mk (Q_HO510 (hon 14 (by kernel_rfl)))
            refine value_ (w1 := w') (v := .int .i64 0) (by rfl) rfl ?_ ?_
            · go_simp
              (try simp only [i64_w])
              try rfl
            refine hK.out _ _ ⟨v501, v505, v509, (by rw [ha.out]; exact putSel_upk 14 hb_ rfl rfl rfl), Q_BK498, Q_HB, Q_HO502, Q_HO506, Q_HO510⟩
          exact steps_nil
        rintro b a w25 hall ⟨v501, v505, v509, ha, Q_BK498, Q_HB, Q_HO502, Q_HO506, Q_HO510⟩
        clear BK498 HB
        have hb1_ := hall 1 (by kernel_rfl)
        have hb2_ := hall 2 (by kernel_rfl)
        have hb3_ := hall 3 (by kernel_rfl)
        have hb5_ := hall 5 (by kernel_rfl)
        have hb7_ := hall 7 (by kernel_rfl)
        have hb8_ := hall 8 (by kernel_rfl)
        have hb9_ := hall 9 (by kernel_rfl)
        have hb10_ := hall 10 (by kernel_rfl)
        have hb11_ := hall 11 (by kernel_rfl)
        have hb13_ := hall 13 (by kernel_rfl)
        have hb14_ := hall 14 (by kernel_rfl)
        have hb15_ := hall 15 (by kernel_rfl)
        have hb16_ := hall 16 (by kernel_rfl)
        have hb17_ := hall 17 (by kernel_rfl)
        have hb18_ := hall 18 (by kernel_rfl)
        subst ha
        simp only [putSel, hb1_, hb2_, hb3_, hb5_, hb7_, hb8_, hb9_, hb10_, hb11_, hb13_, hb14_, hb15_, hb16_, hb17_, hb18_, if_true, Act.put, List.setIfInBounds_toArray, List.set_cons_zero, List.set_cons_succ]
        have BK498 := Aside0.mk Q_BK498
        clear Q_BK498
        have HB := Aside0.mk Q_HB
        clear Q_HB
        have HO502 := Aside0.mk (Q_HO502 hb2_)
        clear Q_HO502
        have HO506 := Aside0.mk (Q_HO506 hb9_)
        clear Q_HO506
        have HO510 := Aside0.mk (Q_HO510 hb14_)
        clear Q_HO510
        clear hall hb1_ hb2_ hb3_ hb5_ hb7_ hb8_ hb9_ hb10_ hb11_ hb13_ hb14_ hb15_ hb16_ hb17_ hb18_
        try go_wp2
        go_ret2
        exact ⟨by first | rfl | (simp [errW_none, errW_some] <;> rfl) | (simp [*, errW_none, errW_some] <;> rfl), by repeat (first | (with_reducible first | exact HB.out | apply below_alloc | apply pw_below_drewN | apply below_drew1 | refine below_set ?_ GE498.out) | exact HB.out)⟩
      · rw [if_neg c8] at H
        exact absurd H (by simp)
    · rw [if_neg c6] at H
      exact absurd H (by simp)
  · replace c3 := Bool.eq_false_iff.mpr c3
    subst c3
    have H1 : (some ((⟨#[]⟩ : ByteArray), 1)) = some (r1, r2) := by rw [if_neg (show ¬ (false = true) by decide)] at H; exact H
    clear H
    have H := H1
    clear H1
    simp only [Option.some.injEq, Prod.mk.injEq] at H
    obtain ⟨rfl, rfl⟩ := H
    go_enter Try.func62, Try.ntmps62
    go_wp2_with (first | ((with_reducible refine gate_dst (N := 1) rfl ?_); refine box_event ?hg (N := 1) ?hd (cs := #[.string a0_0, .int .u64 a0_1, .int .i64 a0_2, .string a0_3]) (t := 29) ?hr ?_; (case hd => rfl); (case hg => rfl); (case hr => first | (go_simp; done) | (go_simp; rfl)); intro gb498 hg w26 hbox hb; have n0_ := Aside0.mk (below_step (by repeat (first | (with_reducible first | exact HB.out | apply below_alloc | apply pw_below_drewN | apply below_drew1) | exact HB.out)) hb); have n1_ := Aside0.mk (hbox); have n2_ := Aside0.mk ((by rw [hg]; exact (below_size (by repeat (first | (with_reducible first | exact HB.out | apply below_alloc | apply pw_below_drewN | apply below_drew1) | exact HB.out))) : w.heap.size ≤ gb498)); have n3_ := Aside0.mk ((by rw [hg]; exact (below_size (by repeat (first | (with_reducible first | exact HB.out | apply below_alloc | apply pw_below_drewN | apply below_drew1) | exact HB.out))) : w.heap.size ≤ gb498)); clear HB; have HB := n0_; have BK498 := n1_; have GW498 := n2_; have GE498 := n3_; clear n0_ n1_ n2_ n3_; clear hb hbox hg; have hcz27_0 : w26.cell? ⟨gb498, 0, none⟩ = some (.string a0_0) := (blk_cell BK498.out 0).trans rfl; have hcz27_1 : w26.cell? ⟨gb498, 1, none⟩ = some (.int .u64 a0_1) := (blk_cell BK498.out 1).trans rfl; have hcz27_2 : w26.cell? ⟨gb498, 2, none⟩ = some (.int .i64 a0_2) := (blk_cell BK498.out 2).trans rfl; have hcz27_3 : w26.cell? ⟨gb498, 3, none⟩ = some (.string a0_3) := (blk_cell BK498.out 3).trans rfl; have hfz27_0 := blk_frozen BK498.out 0; have hfz27_1 := blk_frozen BK498.out 1; have hfz27_2 := blk_frozen BK498.out 2; have hfz27_3 := blk_frozen BK498.out 3) | ((with_reducible refine gate_callee (f := 63) rfl ?_); refine goesL_ (some 5) rfl rfl Try.func63 (by kernel_rfl) rfl #[.agg #[.string a0_0, .int .u64 a0_1, .int .i64 a0_2, .string a0_3]] rfl (by (try simp only [List.map_toArray, List.map_cons, List.map_nil]); first | done | rfl | (simp only [List.length_drop, List.length_take]; rfl)) ?_; (with_reducible refine (ikey_Valid.calls k a0_0 a0_1 a0_2 a0_3 false _ A2.out).mono ?_); rintro e w28 ⟨rfl, hb⟩; refine ⟨_, rfl, ?_⟩; have n0_ := Aside0.mk (blk_below (g := gb498) (o := .cells #[.string a0_0, .int .u64 a0_1, .int .i64 a0_2, .string a0_3] 29 (0, 0)) (by (with_reducible repeat (first | refine blk_drewN ?_ _ | refine blk_drew ?_ | refine blk_alloc ?_ _)); exact BK498.out) hb); have n1_ := Aside0.mk (below_step (by repeat (first | (with_reducible first | exact HB.out | apply below_alloc | apply pw_below_drewN | apply below_drew1 | refine below_set ?_ GE498.out) | exact HB.out)) hb); clear BK498; clear HB; have BK498 := n0_; have HB := n1_; clear n0_ n1_; (try clear hb); (try clear hb2); (try clear hk); (try clear hi)))
    go_ret2
    exact ⟨by first | rfl | (simp [errW_none, errW_some] <;> rfl) | (simp [*, errW_none, errW_some] <;> rfl), by repeat (first | (with_reducible first | exact HB.out | apply below_alloc | apply pw_below_drewN | apply below_drew1 | refine below_set ?_ GE498.out) | exact HB.out)⟩

end Go.Proofs.Ytkpjipfjhniddaa.PNum
