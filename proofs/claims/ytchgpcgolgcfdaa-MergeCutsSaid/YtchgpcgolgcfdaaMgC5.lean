/- Texts of this claim, put together and cut down to what is used (C5). -/
import Derived.Test.YtchgpcgolgcfdaaMgC3
import Derived.Test.YtchgpcgolgcfdaaMgC4
section
namespace Go.Proofs.Ytchgpcgolgcfdaa.PNum
open Go.RowKit Go.Proofs.YtchgpcgolgcfdaaW.PrintWords Go.Proofs.YtchgpcgolgcfdaaW.PrintLast Go.Proofs.YtchgpcgolgcfdaaW.PrintMore
attribute [local go_sem] max2_int min2_int max_two min_two max_three min_three max_four min_four   -- for this text's walks alone
set_option linter.unusedVariables false
set_option linter.unusedSimpArgs false
mutual
def cornucopialaw14_MergeCuts.j0 : Nat → List (S29) → Int → Bool → Option (Bool)
  | 0, _, _, _ => none
  | k + 1, x0, x1, x15 => if x15 = true then ((cornucopialaw14_alive.f k).bind fun t165 => (some t165)) else ((merge_Cut.f k x1 x0).bind fun t166 => (cornucopialaw14_MergeCuts.l0 k x0 x1 t166 ([] : List (S29)) 0))
def cornucopialaw14_MergeCuts.l0 : Nat → List (S29) → Int → List (List (S29)) → List (S29) → Int → Option (Bool)
  | 0, _, _, _, _, _ => none
  | k + 1, x0, x1, x5, x6, x7 => if x7 < (x5.length : Int) then (if 0 ≤ x7 then (if ((rd_L4 x5 x7).length : Int) = 0 then (none) else (if x7 > 0 then (if 0 ≤ (wrap64 (x7 - 1)) then (if (wrap64 (x7 - 1)) < (x5.length : Int) then (if 0 ≤ (wrap64 (((rd_L4 x5 (wrap64 (x7 - 1))).length : Int) - 1)) then (if (wrap64 (((rd_L4 x5 (wrap64 (x7 - 1))).length : Int) - 1)) < ((rd_L4 x5 (wrap64 (x7 - 1))).length : Int) then (if 0 < ((rd_L4 x5 x7).length : Int) then (if ((rd_T29 (rd_L4 x5 (wrap64 (x7 - 1))) (wrap64 (((rd_L4 x5 (wrap64 (x7 - 1))).length : Int) - 1))).f0).toList = ((rd_T29 (rd_L4 x5 x7) 0).f0).toList then (none) else (if x7 < (wrap64 ((x5.length : Int) - 1)) then (if ((rd_L4 x5 x7).length : Int) < x1 then (none) else (if x6.length + (rd_L4 x5 x7).length < 2932031007402 then (cornucopialaw14_MergeCuts.l0 k x0 x1 x5 (x6 ++ (rd_L4 x5 x7)) (wrap64 (x7 + 1))) else (none))) else (if x6.length + (rd_L4 x5 x7).length < 2932031007402 then (cornucopialaw14_MergeCuts.l0 k x0 x1 x5 (x6 ++ (rd_L4 x5 x7)) (wrap64 (x7 + 1))) else (none)))) else (none)) else (none)) else (none)) else (none)) else (none)) else (if x7 < (wrap64 ((x5.length : Int) - 1)) then (if ((rd_L4 x5 x7).length : Int) < x1 then (none) else (if x6.length + (rd_L4 x5 x7).length < 2932031007402 then (cornucopialaw14_MergeCuts.l0 k x0 x1 x5 (x6 ++ (rd_L4 x5 x7)) (wrap64 (x7 + 1))) else (none))) else (if x6.length + (rd_L4 x5 x7).length < 2932031007402 then (cornucopialaw14_MergeCuts.l0 k x0 x1 x5 (x6 ++ (rd_L4 x5 x7)) (wrap64 (x7 + 1))) else (none))))) else (none)) else ((cornucopialaw14_alive.f k).bind fun t193 => (if t193 = true then ((cornucopiabook_SameEntries.f k x6 x0).bind fun t194 => (some t194)) else (none)))
end
def cornucopialaw14_MergeCuts.f (k : Nat) (l0 : List (S29)) (a1 : Int) : Option (Bool) := (cornucopialaw5_Small.f k l0).bind fun t163 => (if t163 = true then ((cornucopialaw5_Ordered.f k l0).bind fun t164 => (cornucopialaw14_MergeCuts.j0 k l0 a1 (!t164))) else (cornucopialaw14_MergeCuts.j0 k l0 a1 true))
theorem cornucopialaw14_MergeCuts.mono_l : ∀ k, (∀ y0 y1 y2, LeO (cornucopialaw14_MergeCuts.j0 k y0 y1 y2) (cornucopialaw14_MergeCuts.j0 (k + 1) y0 y1 y2)) ∧ (∀ y0 y1 y2 y3 y4, LeO (cornucopialaw14_MergeCuts.l0 k y0 y1 y2 y3 y4) (cornucopialaw14_MergeCuts.l0 (k + 1) y0 y1 y2 y3 y4))
  | 0 => ⟨fun _ _ _ r h => by simp [cornucopialaw14_MergeCuts.j0] at h, fun _ _ _ _ _ r h => by simp [cornucopialaw14_MergeCuts.l0] at h⟩
  | k + 1 => by
    obtain ⟨ih0, ih1⟩ := cornucopialaw14_MergeCuts.mono_l k
    refine ⟨?_, ?_⟩
    · intro y0 y1 y2
      unfold cornucopialaw14_MergeCuts.j0
      repeat' first
      | (with_reducible exact ih0 _ _ _)
      | (with_reducible exact ih1 _ _ _ _ _)
      | (with_reducible exact cornucopiabook_SameEntries.mono _ _ _)
      | (with_reducible exact cornucopialaw14_alive.mono _)
      | (with_reducible exact cornucopialaw5_Ordered.mono _ _)
      | (with_reducible exact cornucopialaw5_Small.mono _ _)
      | (with_reducible exact merge_Cut.mono _ _ _)
      | (with_reducible exact LeO.refl _)
      | (with_reducible exact LeO.none _)
      | (with_reducible refine LeO.ite ?_ ?_)
      | (with_reducible refine LeO.bind ?_ (fun _ => ?_))
      | exact ih0 _ _ _
      | exact ih1 _ _ _ _ _
      | exact cornucopiabook_SameEntries.mono _ _ _
      | exact cornucopialaw14_alive.mono _
      | exact cornucopialaw5_Ordered.mono _ _
      | exact cornucopialaw5_Small.mono _ _
      | exact merge_Cut.mono _ _ _
      | exact LeO.none _
      | refine LeO.ite ?_ ?_
      | refine LeO.bind ?_ (fun _ => ?_)
    · intro y0 y1 y2 y3 y4
      unfold cornucopialaw14_MergeCuts.l0
      repeat' first
      | (with_reducible exact ih0 _ _ _)
      | (with_reducible exact ih1 _ _ _ _ _)
      | (with_reducible exact cornucopiabook_SameEntries.mono _ _ _)
      | (with_reducible exact cornucopialaw14_alive.mono _)
      | (with_reducible exact cornucopialaw5_Ordered.mono _ _)
      | (with_reducible exact cornucopialaw5_Small.mono _ _)
      | (with_reducible exact merge_Cut.mono _ _ _)
      | (with_reducible exact LeO.refl _)
      | (with_reducible exact LeO.none _)
      | (with_reducible refine LeO.ite ?_ ?_)
      | (with_reducible refine LeO.bind ?_ (fun _ => ?_))
      | exact ih0 _ _ _
      | exact ih1 _ _ _ _ _
      | exact cornucopiabook_SameEntries.mono _ _ _
      | exact cornucopialaw14_alive.mono _
      | exact cornucopialaw5_Ordered.mono _ _
      | exact cornucopialaw5_Small.mono _ _
      | exact merge_Cut.mono _ _ _
      | exact LeO.none _
      | refine LeO.ite ?_ ?_
      | refine LeO.bind ?_ (fun _ => ?_)
theorem cornucopialaw14_MergeCuts.mono : ∀ a0 a1 k, LeO (cornucopialaw14_MergeCuts.f k a0 a1) (cornucopialaw14_MergeCuts.f (k + 1) a0 a1) := by
  intro a0 a1 k
  obtain ⟨ih0, ih1⟩ := cornucopialaw14_MergeCuts.mono_l k
  unfold cornucopialaw14_MergeCuts.f
  repeat' first
      | (with_reducible exact ih0 _ _ _)
      | (with_reducible exact ih1 _ _ _ _ _)
      | (with_reducible exact cornucopiabook_SameEntries.mono _ _ _)
      | (with_reducible exact cornucopialaw14_alive.mono _)
      | (with_reducible exact cornucopialaw5_Ordered.mono _ _)
      | (with_reducible exact cornucopialaw5_Small.mono _ _)
      | (with_reducible exact merge_Cut.mono _ _ _)
      | (with_reducible exact LeO.refl _)
      | (with_reducible exact LeO.none _)
      | (with_reducible refine LeO.ite ?_ ?_)
      | (with_reducible refine LeO.bind ?_ (fun _ => ?_))
      | exact ih0 _ _ _
      | exact ih1 _ _ _ _ _
      | exact cornucopiabook_SameEntries.mono _ _ _
      | exact cornucopialaw14_alive.mono _
      | exact cornucopialaw5_Ordered.mono _ _
      | exact cornucopialaw5_Small.mono _ _
      | exact merge_Cut.mono _ _ _
      | exact LeO.none _
      | refine LeO.ite ?_ ?_
      | refine LeO.bind ?_ (fun _ => ?_)
set_option maxHeartbeats 8000000 in
set_option maxRecDepth 100000 in
theorem cornucopialaw14_MergeCuts.calls (k : Nat) (A0 : Option Addr) (c0 : Nat) (l0 : List (S29)) (a1 : Int) (r : Bool) (w : World) (hr0 : Kd.C k29 w A0 l0.length l0) (hc0 : l0.length ≤ c0) (h : cornucopialaw14_MergeCuts.f k l0 a1 = some r) :
    Calls Try.prog 3 #[.slice A0 l0.length c0, .int .i64 a1] w fun e w' => e = .returned (.bool r) ∧ Below w.heap.size w w' := by
  have HR0 := Aside0.mk hr0
  have HC0 := Aside0.mk hc0
  clear hr0 hc0
  have HB := Aside0.mk (Below.refl w.heap.size w)
  have H : ((cornucopialaw5_Small.f k l0).bind fun t163 => (if t163 = true then ((cornucopialaw5_Ordered.f k l0).bind fun t164 => (cornucopialaw14_MergeCuts.j0 k l0 a1 (!t164))) else (cornucopialaw14_MergeCuts.j0 k l0 a1 true))) = some r := h
  clear h
  have HC3 := Aside0.mk H
  clear H
  go_enter Try.func3, Try.ntmps3
  go_upto_region 1 with (fail)
  repeat (go_quiet (fail); go_upto_region 1 with (fail))
  go_cut [15] (fun v15 wc => ∃ (kq : Nat) (x15_2 : Bool), v15 = .bool x15_2 ∧ Aside0 (cornucopialaw14_MergeCuts.j0 kq l0 a1 x15_2 = some r) ∧ Aside0 (kq ≤ k) ∧ Aside0 (Below w.heap.size w wc))
  case first =>
    have H := HC3.out
    clear HC3
    replace H := Option.bind_eq_some_iff.mp H
    obtain ⟨t163, A40, H⟩ := H
    replace H : (if t163 = true then ((cornucopialaw5_Ordered.f k l0).bind fun t164 => (cornucopialaw14_MergeCuts.j0 k l0 a1 (!t164))) else (cornucopialaw14_MergeCuts.j0 k l0 a1 true)) = some r := H
    have A4 := Aside0.mk A40
    clear A40
    by_cases c5 : t163 = true
    · subst c5
      have H1 : ((cornucopialaw5_Ordered.f k l0).bind fun t164 => (cornucopialaw14_MergeCuts.j0 k l0 a1 (!t164))) = some r := by rw [if_pos rfl] at H; exact H
      clear H
      have H := H1
      clear H1
      replace H := Option.bind_eq_some_iff.mp H
      obtain ⟨t164, A60, H⟩ := H
      replace H : (cornucopialaw14_MergeCuts.j0 k l0 a1 (!t164)) = some r := H
      have A6 := Aside0.mk A60
      clear A60
      have H' := Aside0.mk H
      clear H
      go_wp2_with (first | (go_at_call 9; (with_reducible refine (cornucopialaw5_Small.calls k _ _ l0 true _ ?side1 ?side2 A4.out).mono ?_); (case side1 => repeat (first | exact (Kd.C_below HR0.out HB.out) | (with_reducible refine Kd.C_alloc ?_ _) | (with_reducible refine Kd.C_drewN ?_ _) | (with_reducible refine Kd.C_drew ?_))); (case side2 => exact HC0.out); rintro e w7 ⟨rfl, hb⟩; have n0_ := Aside0.mk (below_step (by repeat (first | (with_reducible first | exact HB.out | apply below_alloc | apply pw_below_drewN | apply below_drew1) | exact HB.out)) hb); clear HB; have HB := n0_; clear n0_; (try clear hb); (try clear hb2); (try clear hk); (try clear hi)) | (go_at_call 10; (with_reducible refine (cornucopialaw5_Ordered.calls k _ _ l0 t164 _ ?side1 ?side2 A6.out).mono ?_); (case side1 => repeat (first | exact (Kd.C_below HR0.out HB.out) | (with_reducible refine Kd.C_alloc ?_ _) | (with_reducible refine Kd.C_drewN ?_ _) | (with_reducible refine Kd.C_drew ?_))); (case side2 => exact HC0.out); rintro e w8 ⟨rfl, hb⟩; have n0_ := Aside0.mk (below_step (by repeat (first | (with_reducible first | exact HB.out | apply below_alloc | apply pw_below_drewN | apply below_drew1) | exact HB.out)) hb); clear HB; have HB := n0_; clear n0_; (try clear hb); (try clear hb2); (try clear hk); (try clear hi)))
      repeat (go_quiet (first | (go_at_call 9; (with_reducible refine (cornucopialaw5_Small.calls k _ _ l0 true _ ?side1 ?side2 A4.out).mono ?_); (case side1 => repeat (first | exact (Kd.C_below HR0.out HB.out) | (with_reducible refine Kd.C_alloc ?_ _) | (with_reducible refine Kd.C_drewN ?_ _) | (with_reducible refine Kd.C_drew ?_))); (case side2 => exact HC0.out); rintro e w7 ⟨rfl, hb⟩; have n0_ := Aside0.mk (below_step (by repeat (first | (with_reducible first | exact HB.out | apply below_alloc | apply pw_below_drewN | apply below_drew1) | exact HB.out)) hb); clear HB; have HB := n0_; clear n0_; (try clear hb); (try clear hb2); (try clear hk); (try clear hi)) | (go_at_call 10; (with_reducible refine (cornucopialaw5_Ordered.calls k _ _ l0 t164 _ ?side1 ?side2 A6.out).mono ?_); (case side1 => repeat (first | exact (Kd.C_below HR0.out HB.out) | (with_reducible refine Kd.C_alloc ?_ _) | (with_reducible refine Kd.C_drewN ?_ _) | (with_reducible refine Kd.C_drew ?_))); (case side2 => exact HC0.out); rintro e w8 ⟨rfl, hb⟩; have n0_ := Aside0.mk (below_step (by repeat (first | (with_reducible first | exact HB.out | apply below_alloc | apply pw_below_drewN | apply below_drew1) | exact HB.out)) hb); clear HB; have HB := n0_; clear n0_; (try clear hb); (try clear hb2); (try clear hk); (try clear hi))); try go_wp2_with (first | (go_at_call 9; (with_reducible refine (cornucopialaw5_Small.calls k _ _ l0 true _ ?side1 ?side2 A4.out).mono ?_); (case side1 => repeat (first | exact (Kd.C_below HR0.out HB.out) | (with_reducible refine Kd.C_alloc ?_ _) | (with_reducible refine Kd.C_drewN ?_ _) | (with_reducible refine Kd.C_drew ?_))); (case side2 => exact HC0.out); rintro e w7 ⟨rfl, hb⟩; have n0_ := Aside0.mk (below_step (by repeat (first | (with_reducible first | exact HB.out | apply below_alloc | apply pw_below_drewN | apply below_drew1) | exact HB.out)) hb); clear HB; have HB := n0_; clear n0_; (try clear hb); (try clear hb2); (try clear hk); (try clear hi)) | (go_at_call 10; (with_reducible refine (cornucopialaw5_Ordered.calls k _ _ l0 t164 _ ?side1 ?side2 A6.out).mono ?_); (case side1 => repeat (first | exact (Kd.C_below HR0.out HB.out) | (with_reducible refine Kd.C_alloc ?_ _) | (with_reducible refine Kd.C_drewN ?_ _) | (with_reducible refine Kd.C_drew ?_))); (case side2 => exact HC0.out); rintro e w8 ⟨rfl, hb⟩; have n0_ := Aside0.mk (below_step (by repeat (first | (with_reducible first | exact HB.out | apply below_alloc | apply pw_below_drewN | apply below_drew1) | exact HB.out)) hb); clear HB; have HB := n0_; clear n0_; (try clear hb); (try clear hb2); (try clear hk); (try clear hi))))
      go_meet
      case rel => exact ⟨_, (!t164), (by first | rfl | (simp; done) | (simp [*]; done)), H', ⟨by first | omega | exact Nat.le_refl _⟩, ⟨by repeat (first | (with_reducible first | exact HB.out | apply below_alloc | apply pw_below_drewN | apply below_drew1) | exact HB.out)⟩⟩
    · replace c5 := Bool.eq_false_iff.mpr c5
      subst c5
      have H1 : (cornucopialaw14_MergeCuts.j0 k l0 a1 true) = some r := by rw [if_neg (show ¬ (false = true) by decide)] at H; exact H
      clear H
      have H := H1
      clear H1
      have H' := Aside0.mk H
      clear H
      go_wp2_with (first | (go_at_call 9; (with_reducible refine (cornucopialaw5_Small.calls k _ _ l0 false _ ?side1 ?side2 A4.out).mono ?_); (case side1 => repeat (first | exact (Kd.C_below HR0.out HB.out) | (with_reducible refine Kd.C_alloc ?_ _) | (with_reducible refine Kd.C_drewN ?_ _) | (with_reducible refine Kd.C_drew ?_))); (case side2 => exact HC0.out); rintro e w9 ⟨rfl, hb⟩; have n0_ := Aside0.mk (below_step (by repeat (first | (with_reducible first | exact HB.out | apply below_alloc | apply pw_below_drewN | apply below_drew1) | exact HB.out)) hb); clear HB; have HB := n0_; clear n0_; (try clear hb); (try clear hb2); (try clear hk); (try clear hi)))
      repeat (go_quiet (first | (go_at_call 9; (with_reducible refine (cornucopialaw5_Small.calls k _ _ l0 false _ ?side1 ?side2 A4.out).mono ?_); (case side1 => repeat (first | exact (Kd.C_below HR0.out HB.out) | (with_reducible refine Kd.C_alloc ?_ _) | (with_reducible refine Kd.C_drewN ?_ _) | (with_reducible refine Kd.C_drew ?_))); (case side2 => exact HC0.out); rintro e w9 ⟨rfl, hb⟩; have n0_ := Aside0.mk (below_step (by repeat (first | (with_reducible first | exact HB.out | apply below_alloc | apply pw_below_drewN | apply below_drew1) | exact HB.out)) hb); clear HB; have HB := n0_; clear n0_; (try clear hb); (try clear hb2); (try clear hk); (try clear hi))); try go_wp2_with (first | (go_at_call 9; (with_reducible refine (cornucopialaw5_Small.calls k _ _ l0 false _ ?side1 ?side2 A4.out).mono ?_); (case side1 => repeat (first | exact (Kd.C_below HR0.out HB.out) | (with_reducible refine Kd.C_alloc ?_ _) | (with_reducible refine Kd.C_drewN ?_ _) | (with_reducible refine Kd.C_drew ?_))); (case side2 => exact HC0.out); rintro e w9 ⟨rfl, hb⟩; have n0_ := Aside0.mk (below_step (by repeat (first | (with_reducible first | exact HB.out | apply below_alloc | apply pw_below_drewN | apply below_drew1) | exact HB.out)) hb); clear HB; have HB := n0_; clear n0_; (try clear hb); (try clear hb2); (try clear hk); (try clear hi))))
      go_meet
      case rel => exact ⟨_, (true), (by first | rfl | (simp; done) | (simp [*]; done)), H', ⟨by first | omega | exact Nat.le_refl _⟩, ⟨by repeat (first | (with_reducible first | exact HB.out | apply below_alloc | apply pw_below_drewN | apply below_drew1) | exact HB.out)⟩⟩
  case rest =>
    clear HC3
    try clear p2
    try clear c3
    try clear c5
    obtain ⟨kq, x15_2, rfl, HA, HJ2, HB⟩ := hcut
    cases kq with
    | zero => exact absurd HA.out (by simp [cornucopialaw14_MergeCuts.j0])
    | succ kj2 =>
      have H := HA.out
      clear HA
      simp only [cornucopialaw14_MergeCuts.j0] at H
      by_cases c10 : x15_2 = true
      · subst c10
        have H1 : ((cornucopialaw14_alive.f kj2).bind fun t165 => (some t165)) = some r := by rw [if_pos rfl] at H; exact H
        clear H
        have H := H1
        clear H1
        replace H := Option.bind_eq_some_iff.mp H
        obtain ⟨t165, A110, H⟩ := H
        replace H : (some t165) = some r := H
        have A11 := Aside0.mk A110
        clear A110
        obtain rfl := Option.some.inj H
        go_wp2_with (first | (go_at_call 11; (with_reducible refine (cornucopialaw14_alive.calls kj2  t165 _ A11.out).mono ?_); rintro e w12 ⟨rfl, hb⟩; have n0_ := Aside0.mk (below_step (by repeat (first | (with_reducible first | exact HB.out | apply below_alloc | apply pw_below_drewN | apply below_drew1) | exact HB.out)) hb); clear HB; have HB := n0_; clear n0_; (try clear hb); (try clear hb2); (try clear hk); (try clear hi)))
        repeat (go_quiet (first | (go_at_call 11; (with_reducible refine (cornucopialaw14_alive.calls kj2  t165 _ A11.out).mono ?_); rintro e w12 ⟨rfl, hb⟩; have n0_ := Aside0.mk (below_step (by repeat (first | (with_reducible first | exact HB.out | apply below_alloc | apply pw_below_drewN | apply below_drew1) | exact HB.out)) hb); clear HB; have HB := n0_; clear n0_; (try clear hb); (try clear hb2); (try clear hk); (try clear hi))); try go_wp2_with (first | (go_at_call 11; (with_reducible refine (cornucopialaw14_alive.calls kj2  t165 _ A11.out).mono ?_); rintro e w12 ⟨rfl, hb⟩; have n0_ := Aside0.mk (below_step (by repeat (first | (with_reducible first | exact HB.out | apply below_alloc | apply pw_below_drewN | apply below_drew1) | exact HB.out)) hb); clear HB; have HB := n0_; clear n0_; (try clear hb); (try clear hb2); (try clear hk); (try clear hi))))
        go_ret
        exact ⟨by first | rfl | (simp [errW_none, errW_some] <;> rfl) | (simp [*, errW_none, errW_some] <;> rfl), by repeat (first | (with_reducible first | exact HB.out | apply below_alloc | apply pw_below_drewN | apply below_drew1) | exact HB.out)⟩
      · replace c10 := Bool.eq_false_iff.mpr c10
        subst c10
        have H1 : ((merge_Cut.f kj2 a1 l0).bind fun t166 => (cornucopialaw14_MergeCuts.l0 kj2 l0 a1 t166 ([] : List (S29)) 0)) = some r := by rw [if_neg (show ¬ (false = true) by decide)] at H; exact H
        clear H
        have H := H1
        clear H1
        replace H := Option.bind_eq_some_iff.mp H
        obtain ⟨t166, A130, H⟩ := H
        replace H : (cornucopialaw14_MergeCuts.l0 kj2 l0 a1 t166 ([] : List (S29)) 0) = some r := H
        have A13 := Aside0.mk A130
        clear A130
        have H' := Aside0.mk H
        clear H
        go_wp2_with (first | (go_at_call 12; (with_reducible refine (merge_Cut.calls kj2 a1 _ _ l0 t166 _ ?side1 ?side2 A13.out).mono ?_); (case side1 => repeat (first | exact (Kd.C_below HR0.out HB.out) | (with_reducible refine Kd.C_alloc ?_ _) | (with_reducible refine Kd.C_drewN ?_ _) | (with_reducible refine Kd.C_drew ?_))); (case side2 => exact HC0.out); rintro e w14 ⟨v167, rfl, ho0, hb⟩; have n0_ := Aside0.mk (Kd.S_lower ho0 (below_size (by repeat (first | (with_reducible first | exact HB.out | apply below_alloc | apply pw_below_drewN | apply below_drew1) | exact HB.out)))); have n1_ := Aside0.mk (below_step (by repeat (first | (with_reducible first | exact HB.out | apply below_alloc | apply pw_below_drewN | apply below_drew1) | exact HB.out)) hb); clear HB; have HO168 := n0_; have HB := n1_; clear n0_ n1_; (try clear hb); (try clear hb2); (try clear hk); (try clear hi); (try clear ho0)))
        repeat (go_quiet (first | (go_at_call 12; (with_reducible refine (merge_Cut.calls kj2 a1 _ _ l0 t166 _ ?side1 ?side2 A13.out).mono ?_); (case side1 => repeat (first | exact (Kd.C_below HR0.out HB.out) | (with_reducible refine Kd.C_alloc ?_ _) | (with_reducible refine Kd.C_drewN ?_ _) | (with_reducible refine Kd.C_drew ?_))); (case side2 => exact HC0.out); rintro e w14 ⟨v167, rfl, ho0, hb⟩; have n0_ := Aside0.mk (Kd.S_lower ho0 (below_size (by repeat (first | (with_reducible first | exact HB.out | apply below_alloc | apply pw_below_drewN | apply below_drew1) | exact HB.out)))); have n1_ := Aside0.mk (below_step (by repeat (first | (with_reducible first | exact HB.out | apply below_alloc | apply pw_below_drewN | apply below_drew1) | exact HB.out)) hb); clear HB; have HO168 := n0_; have HB := n1_; clear n0_ n1_; (try clear hb); (try clear hb2); (try clear hk); (try clear hi); (try clear ho0))); try go_wp2_with (first | (go_at_call 12; (with_reducible refine (merge_Cut.calls kj2 a1 _ _ l0 t166 _ ?side1 ?side2 A13.out).mono ?_); (case side1 => repeat (first | exact (Kd.C_below HR0.out HB.out) | (with_reducible refine Kd.C_alloc ?_ _) | (with_reducible refine Kd.C_drewN ?_ _) | (with_reducible refine Kd.C_drew ?_))); (case side2 => exact HC0.out); rintro e w14 ⟨v167, rfl, ho0, hb⟩; have n0_ := Aside0.mk (Kd.S_lower ho0 (below_size (by repeat (first | (with_reducible first | exact HB.out | apply below_alloc | apply pw_below_drewN | apply below_drew1) | exact HB.out)))); have n1_ := Aside0.mk (below_step (by repeat (first | (with_reducible first | exact HB.out | apply below_alloc | apply pw_below_drewN | apply below_drew1) | exact HB.out)) hb); clear HB; have HO168 := n0_; have HB := n1_; clear n0_ n1_; (try clear hb); (try clear hb2); (try clear hk); (try clear hi); (try clear ho0))))
        go_loopg [6, 7] kj2 (fun kq v6 v7 w' => ∃ (x6_2 : List (S29)) (x7_2 : Int), v7 = .int .i64 x7_2 ∧ Aside0 (cornucopialaw14_MergeCuts.l0 kq l0 a1 t166 x6_2 x7_2 = some r) ∧ Aside0 (kq ≤ kj2) ∧ Aside0 (Kd.S (Kd.slice 29 k29) 22 w' w.heap.size (fun k_ => some k_ ≠ (v6 : Value).ownBlock) v167 t166) ∧ Aside0 (Kd.R k29 29 w' w.heap.size (fun _ => True) v6 x6_2) ∧ Aside0 (Below w.heap.size w w'))
        case atStart => exact ⟨(([] : List (S29))), (0), (by first | rfl | (simp; done) | (simp [*]; done)), H', ⟨Nat.le_refl _⟩, ⟨by (with_reducible repeat (first | apply Kd.S_alloc | apply Kd.S_drewN | apply Kd.S_drew)); exact Kd.S_mono HO168.out (fun _ hk => (by simp [Value.ownBlock]))⟩, ⟨by first | exact Kd.R_nil _ _ _ _ _ | exact Kd.N_nil _ _ _ _ _ | exact Kd.V_nil _ _ _ _ _ | exact Kd.Q_nil _ _ _ _ _ | exact Kd.S_nil _ _ _ _ _⟩, ⟨by repeat (first | (with_reducible first | exact HB.out | apply below_alloc | apply pw_below_drewN | apply below_drew1) | exact HB.out)⟩⟩
        case round =>
          clear H'
          try clear c1
          try clear p2
          try clear c3
          try clear c5
          try clear c10
          try clear p2
          obtain ⟨x6_2, x7_2, rfl, HA, HK2, HO_5, HO_6, HB⟩ := hrel
          cases gk with
          | zero => exact absurd HA.out (by simp [cornucopialaw14_MergeCuts.l0])
          | succ k2 =>
            have H := HA.out
            clear HA
            simp only [cornucopialaw14_MergeCuts.l0] at H
            by_cases c15 : x7_2 < (t166.length : Int)
            · rw [if_pos c15] at H
              have c15b0 : decide (x7_2 < (t166.length : Int)) = true := decide_eq_true c15
              clear c15
              by_cases c16 : 0 ≤ x7_2
              · rw [if_pos c16] at H
                have c16b0 : decide (0 ≤ x7_2) = true := decide_eq_true c16
                clear c16
                by_cases c17 : ((rd_L4 t166 x7_2).length : Int) = 0
                · rw [if_pos c17] at H
                  exact absurd H (by simp)
                · rw [if_neg c17] at H
                  have c17b0 : (((rd_L4 t166 x7_2).length : Int) == 0) = false := beq_eq_false_iff_ne.mpr c17
                  have c17b1 : (((rd_L4 t166 x7_2).length : Int) != 0) = true := bne_iff_ne.mpr c17
                  have c17b2 : ¬ ((rd_L4 t166 x7_2) = []) := fun h_ => c17 (by rw [h_]; rfl)
                  by_cases c18 : x7_2 > 0
                  · rw [if_pos c18] at H
                    have c18b0 : decide (0 < x7_2) = true := decide_eq_true c18
                    clear c18
                    obtain ⟨ji19, hji19⟩ : ∃ j_ : Int, (wrap64 (x7_2 - 1)) = j_ := ⟨_, rfl⟩
                    replace H : (if 0 ≤ (ji19) then (if (ji19) < (t166.length : Int) then (if 0 ≤ (wrap64 (((rd_L4 t166 (ji19)).length : Int) - 1)) then (if (wrap64 (((rd_L4 t166 (ji19)).length : Int) - 1)) < ((rd_L4 t166 (ji19)).length : Int) then (if 0 < ((rd_L4 t166 x7_2).length : Int) then (if ((rd_T29 (rd_L4 t166 (ji19)) (wrap64 (((rd_L4 t166 (ji19)).length : Int) - 1))).f0).toList = ((rd_T29 (rd_L4 t166 x7_2) 0).f0).toList then (none) else (if x7_2 < (wrap64 ((t166.length : Int) - 1)) then (if ((rd_L4 t166 x7_2).length : Int) < a1 then (none) else (if x6_2.length + (rd_L4 t166 x7_2).length < 2932031007402 then (cornucopialaw14_MergeCuts.l0 k2 l0 a1 t166 (x6_2 ++ (rd_L4 t166 x7_2)) (wrap64 (x7_2 + 1))) else (none))) else (if x6_2.length + (rd_L4 t166 x7_2).length < 2932031007402 then (cornucopialaw14_MergeCuts.l0 k2 l0 a1 t166 (x6_2 ++ (rd_L4 t166 x7_2)) (wrap64 (x7_2 + 1))) else (none)))) else (none)) else (none)) else (none)) else (none)) else (none)) = some r := by first | (rw [hji19] at H; exact H) | (simp only [hji19] at H ⊢; exact H)
                    have hji19w : (IntKind.i64.wrap (x7_2 - 1)) = ji19 := (i64_w _).trans hji19
                    by_cases c20 : 0 ≤ (ji19)
                    · rw [if_pos c20] at H
                      have c20b0 : decide (0 ≤ (ji19)) = true := decide_eq_true c20
                      clear c20
                      by_cases c21 : (ji19) < (t166.length : Int)
                      · rw [if_pos c21] at H
                        have c21b0 : decide ((ji19) < (t166.length : Int)) = true := decide_eq_true c21
                        clear c21
                        obtain ⟨ji22, hji22⟩ : ∃ j_ : Int, (wrap64 (((rd_L4 t166 (ji19)).length : Int) - 1)) = j_ := ⟨_, rfl⟩
                        replace H : (if 0 ≤ (ji22) then (if (ji22) < ((rd_L4 t166 (ji19)).length : Int) then (if 0 < ((rd_L4 t166 x7_2).length : Int) then (if ((rd_T29 (rd_L4 t166 (ji19)) (ji22)).f0).toList = ((rd_T29 (rd_L4 t166 x7_2) 0).f0).toList then (none) else (if x7_2 < (wrap64 ((t166.length : Int) - 1)) then (if ((rd_L4 t166 x7_2).length : Int) < a1 then (none) else (if x6_2.length + (rd_L4 t166 x7_2).length < 2932031007402 then (cornucopialaw14_MergeCuts.l0 k2 l0 a1 t166 (x6_2 ++ (rd_L4 t166 x7_2)) (wrap64 (x7_2 + 1))) else (none))) else (if x6_2.length + (rd_L4 t166 x7_2).length < 2932031007402 then (cornucopialaw14_MergeCuts.l0 k2 l0 a1 t166 (x6_2 ++ (rd_L4 t166 x7_2)) (wrap64 (x7_2 + 1))) else (none)))) else (none)) else (none)) else (none)) = some r := by first | (rw [hji22] at H; exact H) | (simp only [hji22] at H ⊢; exact H)
                        have hji22w : (IntKind.i64.wrap (((rd_L4 t166 (ji19)).length : Int) - 1)) = ji22 := (i64_w _).trans hji22
                        by_cases c23 : 0 ≤ (ji22)
                        · rw [if_pos c23] at H
                          have c23b0 : decide (0 ≤ (ji22)) = true := decide_eq_true c23
                          clear c23
                          by_cases c24 : (ji22) < ((rd_L4 t166 (ji19)).length : Int)
                          · rw [if_pos c24] at H
                            have c24b0 : decide ((ji22) < ((rd_L4 t166 (ji19)).length : Int)) = true := decide_eq_true c24
                            clear c24
                            by_cases c25 : 0 < ((rd_L4 t166 x7_2).length : Int)
                            · rw [if_pos c25] at H
                              have c25b0 : decide (0 < ((rd_L4 t166 x7_2).length : Int)) = true := decide_eq_true c25
                              have c25b1 : decide (0 < (rd_L4 t166 x7_2).length) = true := decide_eq_true (by omega)
                              clear c25
                              by_cases c26 : ((rd_T29 (rd_L4 t166 (ji19)) (ji22)).f0).toList = ((rd_T29 (rd_L4 t166 x7_2) 0).f0).toList
                              · rw [if_pos c26] at H
                                exact absurd H (by simp)
                              · rw [if_neg c26] at H
                                have c26b0 : (((rd_T29 (rd_L4 t166 (ji19)) (ji22)).f0).toList == ((rd_T29 (rd_L4 t166 x7_2) 0).f0).toList) = false := beq_eq_false_iff_ne.mpr c26
                                have c26b1 : (((rd_T29 (rd_L4 t166 (ji19)) (ji22)).f0).toList != ((rd_T29 (rd_L4 t166 x7_2) 0).f0).toList) = true := bne_iff_ne.mpr c26
                                by_cases c27 : x7_2 < (wrap64 ((t166.length : Int) - 1))
                                · rw [if_pos c27] at H
                                  have c27b0 : decide (x7_2 < (wrap64 ((t166.length : Int) - 1))) = true := decide_eq_true c27
                                  clear c27
                                  by_cases c28 : ((rd_L4 t166 x7_2).length : Int) < a1
                                  · rw [if_pos c28] at H
                                    exact absurd H (by simp)
                                  · rw [if_neg c28] at H
                                    have c28b0 : decide (((rd_L4 t166 x7_2).length : Int) < a1) = false := decide_eq_false c28
                                    clear c28
                                    by_cases c29 : x6_2.length + (rd_L4 t166 x7_2).length < 2932031007402
                                    · rw [if_pos c29] at H
                                      have LMc29 := Aside0.mk c29
                                      clear c29
                                      obtain ⟨y177, hy177⟩ : ∃ y_ : List (S29), y_ = (x6_2 ++ (rd_L4 t166 x7_2)) := ⟨_, rfl⟩
                                      replace H : (cornucopialaw14_MergeCuts.l0 k2 l0 a1 t166 y177 (wrap64 (x7_2 + 1))) = some r := by first | (rw [hy177]; with_reducible exact H) | (have H2_ := (Option.bind_some _ _).symm.trans H; rw [hy177]; with_reducible exact H2_) | (have H2_ := (Option.bind_some _ _).symm.trans H; with_reducible exact H2_) | with_reducible exact H | (rw [hy177]; exact H) | exact H
                                      have Ny177 := Aside0.mk hy177
                                      clear hy177
                                      have H' := Aside0.mk H
                                      clear H
                                      obtain ⟨Ao30, co30, eo30⟩ := Kd.S_slice HO_5.out
                                      subst eo30
                                      have p169 : 0 ≤ (x7_2 : Int) := of_decide_eq_true (by first | (with_reducible assumption) | assumption)
                                      have q169 : x7_2 < (t166.length : Int) := of_decide_eq_true (by first | (with_reducible assumption) | assumption)
                                      obtain ⟨ad169, A169_0, c169_0, e169, hx169_0, hl169_0, hi169_0⟩ := at_L4 (Kd.S_reads' HO_5.out).2.2 x7_2 p169 q169
                                      cases e169
                                      obtain ⟨ce169, hce169, hMe169, hcc169⟩ := Kd.S_get HO_5.out [] x7_2 p169 (by first | exact q169 | exact of_decide_eq_true (by first | (with_reducible assumption) | assumption) | (have e_ := (Kd.S_reads' HO_5.out).1; omega))
                                      obtain ⟨ve169_0, rfl, ge169_0⟩ := hMe169
                                      have hv169_0 := hcc169 0 _ rfl
                                      rw [Nat.add_zero, show ((Kd.slice 29 k29)).sz = 1 from rfl, Nat.mul_one] at hv169_0
                                      replace hv169_0 := Option.some.inj (hv169_0.symm.trans hx169_0)
                                      rw [hv169_0] at ge169_0
                                      have HL169_0 := Aside0.mk (show Kd.R k29 29 _ _ _ _ (rd_L4 t166 x7_2) from ge169_0)
                                      clear hv169_0 ge169_0
                                      clear hcc169 hce169
                                      have HR169_0 := Aside0.mk hi169_0
                                      have HC169_0 := Aside0.mk hl169_0
                                      clear hi169_0 hl169_0
                                      replace p169 := eq_true p169
                                      replace q169 := eq_true q169
                                      have p170 : 0 ≤ ((ji19) : Int) := of_decide_eq_true (by first | (with_reducible assumption) | assumption)
                                      have q170 : (ji19) < (t166.length : Int) := of_decide_eq_true (by first | (with_reducible assumption) | assumption)
                                      obtain ⟨ad170, A170_0, c170_0, e170, hx170_0, hl170_0, hi170_0⟩ := at_L4 (Kd.S_reads' HO_5.out).2.2 (ji19) p170 q170
                                      obtain rfl : ad169 = ad170 := (by injection e170)
                                      obtain ⟨ce170, hce170, hMe170, hcc170⟩ := Kd.S_get HO_5.out [] (ji19) p170 (by first | exact q170 | exact of_decide_eq_true (by first | (with_reducible assumption) | assumption) | (have e_ := (Kd.S_reads' HO_5.out).1; omega))
                                      obtain ⟨ve170_0, rfl, ge170_0⟩ := hMe170
                                      have hv170_0 := hcc170 0 _ rfl
                                      rw [Nat.add_zero, show ((Kd.slice 29 k29)).sz = 1 from rfl, Nat.mul_one] at hv170_0
                                      replace hv170_0 := Option.some.inj (hv170_0.symm.trans hx170_0)
                                      rw [hv170_0] at ge170_0
                                      have HL170_0 := Aside0.mk (show Kd.R k29 29 _ _ _ _ (rd_L4 t166 (ji19)) from ge170_0)
                                      clear hv170_0 ge170_0
                                      clear hcc170 hce170
                                      have HR170_0 := Aside0.mk hi170_0
                                      have HC170_0 := Aside0.mk hl170_0
                                      clear hi170_0 hl170_0
                                      replace p170 := eq_true p170
                                      replace q170 := eq_true q170
                                      have p171 : 0 ≤ ((ji19) : Int) := of_decide_eq_true (by first | (with_reducible assumption) | assumption)
                                      have q171 : (ji19) < (t166.length : Int) := of_decide_eq_true (by first | (with_reducible assumption) | assumption)
                                      obtain ⟨ad171, A171_0, c171_0, e171, hx171_0, hl171_0, hi171_0⟩ := at_L4 (Kd.S_reads' HO_5.out).2.2 (ji19) p171 q171
                                      obtain rfl : ad169 = ad171 := (by injection e171)
                                      obtain ⟨ce171, hce171, hMe171, hcc171⟩ := Kd.S_get HO_5.out [] (ji19) p171 (by first | exact q171 | exact of_decide_eq_true (by first | (with_reducible assumption) | assumption) | (have e_ := (Kd.S_reads' HO_5.out).1; omega))
                                      obtain ⟨ve171_0, rfl, ge171_0⟩ := hMe171
                                      have hv171_0 := hcc171 0 _ rfl
                                      rw [Nat.add_zero, show ((Kd.slice 29 k29)).sz = 1 from rfl, Nat.mul_one] at hv171_0
                                      replace hv171_0 := Option.some.inj (hv171_0.symm.trans hx171_0)
                                      rw [hv171_0] at ge171_0
                                      have HL171_0 := Aside0.mk (show Kd.R k29 29 _ _ _ _ (rd_L4 t166 (ji19)) from ge171_0)
                                      clear hv171_0 ge171_0
                                      clear hcc171 hce171
                                      have HR171_0 := Aside0.mk hi171_0
                                      have HC171_0 := Aside0.mk hl171_0
                                      clear hi171_0 hl171_0
                                      replace p171 := eq_true p171
                                      replace q171 := eq_true q171
                                      have ea_ := Option.some.inj (hx170_0.symm.trans hx171_0)
                                      injection ea_ with ea_ en_ ec_
                                      subst ea_
                                      subst ec_
                                      clear en_
                                      have p172 : 0 ≤ ((ji22) : Int) := of_decide_eq_true (by first | (with_reducible assumption) | assumption)
                                      have q172 : (ji22) < ((rd_L4 t166 (ji19)).length : Int) := of_decide_eq_true (by first | (with_reducible assumption) | assumption)
                                      obtain ⟨ad172, e172, hx172_0, hx172_1, hx172_2, hx172_3⟩ := at_T29 (by repeat (first | (with_reducible exact HR170_0.out) | (with_reducible refine Kd.C_alloc ?_ _) | (with_reducible refine Kd.C_drewN ?_ _) | (with_reducible refine Kd.C_drew ?_) | exact HR170_0.out)) (ji22) p172 q172
                                      cases e172
                                      replace p172 := eq_true p172
                                      replace q172 := eq_true q172
                                      have p173 : 0 ≤ (x7_2 : Int) := of_decide_eq_true (by first | (with_reducible assumption) | assumption)
                                      have q173 : x7_2 < (t166.length : Int) := of_decide_eq_true (by first | (with_reducible assumption) | assumption)
                                      obtain ⟨ad173, A173_0, c173_0, e173, hx173_0, hl173_0, hi173_0⟩ := at_L4 (Kd.S_reads' HO_5.out).2.2 x7_2 p173 q173
                                      obtain rfl : ad169 = ad173 := (by injection e173)
                                      obtain ⟨ce173, hce173, hMe173, hcc173⟩ := Kd.S_get HO_5.out [] x7_2 p173 (by first | exact q173 | exact of_decide_eq_true (by first | (with_reducible assumption) | assumption) | (have e_ := (Kd.S_reads' HO_5.out).1; omega))
                                      obtain ⟨ve173_0, rfl, ge173_0⟩ := hMe173
                                      have hv173_0 := hcc173 0 _ rfl
                                      rw [Nat.add_zero, show ((Kd.slice 29 k29)).sz = 1 from rfl, Nat.mul_one] at hv173_0
                                      replace hv173_0 := Option.some.inj (hv173_0.symm.trans hx173_0)
                                      rw [hv173_0] at ge173_0
                                      have HL173_0 := Aside0.mk (show Kd.R k29 29 _ _ _ _ (rd_L4 t166 x7_2) from ge173_0)
                                      clear hv173_0 ge173_0
                                      clear hcc173 hce173
                                      have HR173_0 := Aside0.mk hi173_0
                                      have HC173_0 := Aside0.mk hl173_0
                                      clear hi173_0 hl173_0
                                      replace p173 := eq_true p173
                                      replace q173 := eq_true q173
                                      have ea_ := Option.some.inj (hx169_0.symm.trans hx173_0)
                                      injection ea_ with ea_ en_ ec_
                                      subst ea_
                                      subst ec_
                                      clear en_
                                      have p174 : 0 ≤ (0 : Int) := (by omega)
                                      have q174 : 0 < ((rd_L4 t166 x7_2).length : Int) := of_decide_eq_true (by first | (with_reducible assumption) | assumption)
                                      obtain ⟨ad174, e174, hx174_0, hx174_1, hx174_2, hx174_3⟩ := at_T29 (by repeat (first | (with_reducible exact HR173_0.out) | (with_reducible refine Kd.C_alloc ?_ _) | (with_reducible refine Kd.C_drewN ?_ _) | (with_reducible refine Kd.C_drew ?_) | exact HR173_0.out)) 0 p174 q174
                                      cases e174
                                      have qi174 : (0 < (rd_L4 t166 x7_2).length) = True := eq_true (by omega)
                                      (try rw [show ((0 : Int)).toNat = 0 from rfl] at hx174_0)
                                      (try rw [show 0 * 4 = 0 from rfl] at hx174_0)
                                      (try rw [Addr.add_zero'] at hx174_0)
                                      (try rw [show ((0 : Int)).toNat = 0 from rfl] at hx174_1)
                                      (try rw [show 0 * 4 = 0 from rfl] at hx174_1)
                                      (try rw [Addr.add_zero'] at hx174_1)
                                      (try rw [show ((0 : Int)).toNat = 0 from rfl] at hx174_2)
                                      (try rw [show 0 * 4 = 0 from rfl] at hx174_2)
                                      (try rw [Addr.add_zero'] at hx174_2)
                                      (try rw [show ((0 : Int)).toNat = 0 from rfl] at hx174_3)
                                      (try rw [show 0 * 4 = 0 from rfl] at hx174_3)
                                      (try rw [Addr.add_zero'] at hx174_3)
                                      replace p174 := eq_true p174
                                      replace q174 := eq_true q174
                                      have p175 : 0 ≤ (x7_2 : Int) := of_decide_eq_true (by first | (with_reducible assumption) | assumption)
                                      have q175 : x7_2 < (t166.length : Int) := of_decide_eq_true (by first | (with_reducible assumption) | assumption)
                                      obtain ⟨ad175, A175_0, c175_0, e175, hx175_0, hl175_0, hi175_0⟩ := at_L4 (Kd.S_reads' HO_5.out).2.2 x7_2 p175 q175
                                      obtain rfl : ad169 = ad175 := (by injection e175)
                                      obtain ⟨ce175, hce175, hMe175, hcc175⟩ := Kd.S_get HO_5.out [] x7_2 p175 (by first | exact q175 | exact of_decide_eq_true (by first | (with_reducible assumption) | assumption) | (have e_ := (Kd.S_reads' HO_5.out).1; omega))
                                      obtain ⟨ve175_0, rfl, ge175_0⟩ := hMe175
                                      have hv175_0 := hcc175 0 _ rfl
                                      rw [Nat.add_zero, show ((Kd.slice 29 k29)).sz = 1 from rfl, Nat.mul_one] at hv175_0
                                      replace hv175_0 := Option.some.inj (hv175_0.symm.trans hx175_0)
                                      rw [hv175_0] at ge175_0
                                      have HL175_0 := Aside0.mk (show Kd.R k29 29 _ _ _ _ (rd_L4 t166 x7_2) from ge175_0)
                                      clear hv175_0 ge175_0
                                      clear hcc175 hce175
                                      have HR175_0 := Aside0.mk hi175_0
                                      have HC175_0 := Aside0.mk hl175_0
                                      clear hi175_0 hl175_0
                                      replace p175 := eq_true p175
                                      replace q175 := eq_true q175
                                      have ea_ := Option.some.inj (hx169_0.symm.trans hx175_0)
                                      injection ea_ with ea_ en_ ec_
                                      subst ea_
                                      subst ec_
                                      clear en_
                                      have p176 : 0 ≤ (x7_2 : Int) := of_decide_eq_true (by first | (with_reducible assumption) | assumption)
                                      have q176 : x7_2 < (t166.length : Int) := of_decide_eq_true (by first | (with_reducible assumption) | assumption)
                                      obtain ⟨ad176, A176_0, c176_0, e176, hx176_0, hl176_0, hi176_0⟩ := at_L4 (Kd.S_reads' HO_5.out).2.2 x7_2 p176 q176
                                      obtain rfl : ad169 = ad176 := (by injection e176)
                                      obtain ⟨ce176, hce176, hMe176, hcc176⟩ := Kd.S_get HO_5.out [] x7_2 p176 (by first | exact q176 | exact of_decide_eq_true (by first | (with_reducible assumption) | assumption) | (have e_ := (Kd.S_reads' HO_5.out).1; omega))
                                      obtain ⟨ve176_0, rfl, ge176_0⟩ := hMe176
                                      have hv176_0 := hcc176 0 _ rfl
                                      rw [Nat.add_zero, show ((Kd.slice 29 k29)).sz = 1 from rfl, Nat.mul_one] at hv176_0
                                      replace hv176_0 := Option.some.inj (hv176_0.symm.trans hx176_0)
                                      rw [hv176_0] at ge176_0
                                      have HL176_0 := Aside0.mk (show Kd.R k29 29 _ _ _ _ (rd_L4 t166 x7_2) from ge176_0)
                                      clear hv176_0 ge176_0
                                      clear hcc176 hce176
                                      have HR176_0 := Aside0.mk hi176_0
                                      have HC176_0 := Aside0.mk hl176_0
                                      clear hi176_0 hl176_0
                                      replace p176 := eq_true p176
                                      replace q176 := eq_true q176
                                      have ea_ := Option.some.inj (hx169_0.symm.trans hx176_0)
                                      injection ea_ with ea_ en_ ec_
                                      subst ea_
                                      subst ec_
                                      clear en_
                                      go_wp2_with (first | ((with_reducible refine gate_builtin (b := .append) (xs := #[.tmp 77, .tmp 81]) rfl ?_); (try (refine gate_guard (by rfl) ?_; dsimp only)); at_builtin; refine Kd.R_append_rows k29 (w0 := w) w.heap.size rfl (.tmp 77) (.tmp 81) 22 29 (.agg #[(.string ⟨#[]⟩), (.int .u64 0), (.int .i64 0), (.string ⟨#[]⟩)]) 48 rfl Try.underlying22 info29 rfl (by decide) (by omega) u6 x6_2 (rd_L4 t166 x7_2) _ _ _ (fun _ => True) (fun _ => False) rfl rfl ?aO ?aR (fun _ _ h => h) (fun _ h => h.elim) ?aF ?aB ?aS ?aL ?_; (case aR => (try (change Kd.C k29 _ _ _ _)); repeat (first | exact (by repeat (first | (with_reducible exact HR176_0.out) | (with_reducible refine Kd.C_alloc ?_ _) | (with_reducible refine Kd.C_drewN ?_ _) | (with_reducible refine Kd.C_drew ?_) | exact HR176_0.out)) | (with_reducible refine Kd.C_alloc ?_ _) | (with_reducible refine Kd.C_drewN ?_ _) | (with_reducible refine Kd.C_drew ?_))); (case aB => exact (by repeat (first | (with_reducible first | exact HB.out | apply below_alloc | apply pw_below_drewN | apply below_drew1) | exact HB.out))); (case aF => exact (fun _ _ => trivial)); (case aO => exact (by (with_reducible repeat (first | apply Kd.R_alloc | apply Kd.R_drewN | apply Kd.R_drew)); exact HO_6.out)); (case aS => exact (below_size (by repeat (first | (with_reducible first | exact HB.out | apply below_alloc | apply pw_below_drewN | apply below_drew1) | exact HB.out)))); (case aL => have := LMc29.out; omega); intro v178 w31 ho hb hg hat; rw [← Ny177.out] at ho; have n0_ := Aside0.mk (Kd.S_after (ok := (fun _ => True)) (by (with_reducible repeat (first | apply Kd.S_alloc | apply Kd.S_drewN | apply Kd.S_drew)); exact Kd.S_mono HO_5.out (fun _ hk => ⟨trivial, hk⟩)) hg hat); have n1_ := Aside0.mk (Kd.R_after (ok := (fun k_ => some k_ ≠ (.slice (some ad169) t166.length co30 : Value).ownBlock)) (by (with_reducible repeat (first | apply Kd.R_alloc | apply Kd.R_drewN | apply Kd.R_drew)); exact Kd.R_mono HL169_0.out (fun _ hk => ⟨hk.2, hk.1⟩)) hg hat); have n2_ := Aside0.mk (Kd.R_after (ok := (fun k_ => some k_ ≠ (.slice (some ad169) t166.length co30 : Value).ownBlock)) (by (with_reducible repeat (first | apply Kd.R_alloc | apply Kd.R_drewN | apply Kd.R_drew)); exact Kd.R_mono HL170_0.out (fun _ hk => ⟨hk.2, hk.1⟩)) hg hat); have n3_ := Aside0.mk (Kd.R_after (ok := (fun k_ => some k_ ≠ (.slice (some ad169) t166.length co30 : Value).ownBlock)) (by (with_reducible repeat (first | apply Kd.R_alloc | apply Kd.R_drewN | apply Kd.R_drew)); exact Kd.R_mono HL171_0.out (fun _ hk => ⟨hk.2, hk.1⟩)) hg hat); have n4_ := Aside0.mk (Kd.R_after (ok := (fun k_ => some k_ ≠ (.slice (some ad169) t166.length co30 : Value).ownBlock)) (by (with_reducible repeat (first | apply Kd.R_alloc | apply Kd.R_drewN | apply Kd.R_drew)); exact Kd.R_mono HL173_0.out (fun _ hk => ⟨hk.2, hk.1⟩)) hg hat); have n5_ := Aside0.mk (Kd.R_after (ok := (fun k_ => some k_ ≠ (.slice (some ad169) t166.length co30 : Value).ownBlock)) (by (with_reducible repeat (first | apply Kd.R_alloc | apply Kd.R_drewN | apply Kd.R_drew)); exact Kd.R_mono HL175_0.out (fun _ hk => ⟨hk.2, hk.1⟩)) hg hat); have n6_ := Aside0.mk (Kd.R_after (ok := (fun k_ => some k_ ≠ (.slice (some ad169) t166.length co30 : Value).ownBlock)) (by (with_reducible repeat (first | apply Kd.R_alloc | apply Kd.R_drewN | apply Kd.R_drew)); exact Kd.R_mono HL176_0.out (fun _ hk => ⟨hk.2, hk.1⟩)) hg hat); have n7_ := Aside0.mk (hb); have n8_ := Aside0.mk (ho); clear HO_5; clear HL169_0; clear HL170_0; clear HL171_0; clear HL173_0; clear HL175_0; clear HL176_0; clear HB; clear HO_6; have HO_5 := n0_; have HL169_0 := n1_; have HL170_0 := n2_; have HL171_0 := n3_; have HL173_0 := n4_; have HL175_0 := n5_; have HL176_0 := n6_; have HB := n7_; have HO179 := n8_; clear n0_ n1_ n2_ n3_ n4_ n5_ n6_ n7_ n8_; clear ho hb hg hat))
                                      repeat (go_quiet (first | ((with_reducible refine gate_builtin (b := .append) (xs := #[.tmp 77, .tmp 81]) rfl ?_); (try (refine gate_guard (by rfl) ?_; dsimp only)); at_builtin; refine Kd.R_append_rows k29 (w0 := w) w.heap.size rfl (.tmp 77) (.tmp 81) 22 29 (.agg #[(.string ⟨#[]⟩), (.int .u64 0), (.int .i64 0), (.string ⟨#[]⟩)]) 48 rfl Try.underlying22 info29 rfl (by decide) (by omega) u6 x6_2 (rd_L4 t166 x7_2) _ _ _ (fun _ => True) (fun _ => False) rfl rfl ?aO ?aR (fun _ _ h => h) (fun _ h => h.elim) ?aF ?aB ?aS ?aL ?_; (case aR => (try (change Kd.C k29 _ _ _ _)); repeat (first | exact (by repeat (first | (with_reducible exact HR176_0.out) | (with_reducible refine Kd.C_alloc ?_ _) | (with_reducible refine Kd.C_drewN ?_ _) | (with_reducible refine Kd.C_drew ?_) | exact HR176_0.out)) | (with_reducible refine Kd.C_alloc ?_ _) | (with_reducible refine Kd.C_drewN ?_ _) | (with_reducible refine Kd.C_drew ?_))); (case aB => exact (by repeat (first | (with_reducible first | exact HB.out | apply below_alloc | apply pw_below_drewN | apply below_drew1) | exact HB.out))); (case aF => exact (fun _ _ => trivial)); (case aO => exact (by (with_reducible repeat (first | apply Kd.R_alloc | apply Kd.R_drewN | apply Kd.R_drew)); exact HO_6.out)); (case aS => exact (below_size (by repeat (first | (with_reducible first | exact HB.out | apply below_alloc | apply pw_below_drewN | apply below_drew1) | exact HB.out)))); (case aL => have := LMc29.out; omega); intro v178 w31 ho hb hg hat; rw [← Ny177.out] at ho; have n0_ := Aside0.mk (Kd.S_after (ok := (fun _ => True)) (by (with_reducible repeat (first | apply Kd.S_alloc | apply Kd.S_drewN | apply Kd.S_drew)); exact Kd.S_mono HO_5.out (fun _ hk => ⟨trivial, hk⟩)) hg hat); have n1_ := Aside0.mk (Kd.R_after (ok := (fun k_ => some k_ ≠ (.slice (some ad169) t166.length co30 : Value).ownBlock)) (by (with_reducible repeat (first | apply Kd.R_alloc | apply Kd.R_drewN | apply Kd.R_drew)); exact Kd.R_mono HL169_0.out (fun _ hk => ⟨hk.2, hk.1⟩)) hg hat); have n2_ := Aside0.mk (Kd.R_after (ok := (fun k_ => some k_ ≠ (.slice (some ad169) t166.length co30 : Value).ownBlock)) (by (with_reducible repeat (first | apply Kd.R_alloc | apply Kd.R_drewN | apply Kd.R_drew)); exact Kd.R_mono HL170_0.out (fun _ hk => ⟨hk.2, hk.1⟩)) hg hat); have n3_ := Aside0.mk (Kd.R_after (ok := (fun k_ => some k_ ≠ (.slice (some ad169) t166.length co30 : Value).ownBlock)) (by (with_reducible repeat (first | apply Kd.R_alloc | apply Kd.R_drewN | apply Kd.R_drew)); exact Kd.R_mono HL171_0.out (fun _ hk => ⟨hk.2, hk.1⟩)) hg hat); have n4_ := Aside0.mk (Kd.R_after (ok := (fun k_ => some k_ ≠ (.slice (some ad169) t166.length co30 : Value).ownBlock)) (by (with_reducible repeat (first | apply Kd.R_alloc | apply Kd.R_drewN | apply Kd.R_drew)); exact Kd.R_mono HL173_0.out (fun _ hk => ⟨hk.2, hk.1⟩)) hg hat); have n5_ := Aside0.mk (Kd.R_after (ok := (fun k_ => some k_ ≠ (.slice (some ad169) t166.length co30 : Value).ownBlock)) (by (with_reducible repeat (first | apply Kd.R_alloc | apply Kd.R_drewN | apply Kd.R_drew)); exact Kd.R_mono HL175_0.out (fun _ hk => ⟨hk.2, hk.1⟩)) hg hat); have n6_ := Aside0.mk (Kd.R_after (ok := (fun k_ => some k_ ≠ (.slice (some ad169) t166.length co30 : Value).ownBlock)) (by (with_reducible repeat (first | apply Kd.R_alloc | apply Kd.R_drewN | apply Kd.R_drew)); exact Kd.R_mono HL176_0.out (fun _ hk => ⟨hk.2, hk.1⟩)) hg hat); have n7_ := Aside0.mk (hb); have n8_ := Aside0.mk (ho); clear HO_5; clear HL169_0; clear HL170_0; clear HL171_0; clear HL173_0; clear HL175_0; clear HL176_0; clear HB; clear HO_6; have HO_5 := n0_; have HL169_0 := n1_; have HL170_0 := n2_; have HL171_0 := n3_; have HL173_0 := n4_; have HL175_0 := n5_; have HL176_0 := n6_; have HB := n7_; have HO179 := n8_; clear n0_ n1_ n2_ n3_ n4_ n5_ n6_ n7_ n8_; clear ho hb hg hat)); try go_wp2_with (first | ((with_reducible refine gate_builtin (b := .append) (xs := #[.tmp 77, .tmp 81]) rfl ?_); (try (refine gate_guard (by rfl) ?_; dsimp only)); at_builtin; refine Kd.R_append_rows k29 (w0 := w) w.heap.size rfl (.tmp 77) (.tmp 81) 22 29 (.agg #[(.string ⟨#[]⟩), (.int .u64 0), (.int .i64 0), (.string ⟨#[]⟩)]) 48 rfl Try.underlying22 info29 rfl (by decide) (by omega) u6 x6_2 (rd_L4 t166 x7_2) _ _ _ (fun _ => True) (fun _ => False) rfl rfl ?aO ?aR (fun _ _ h => h) (fun _ h => h.elim) ?aF ?aB ?aS ?aL ?_; (case aR => (try (change Kd.C k29 _ _ _ _)); repeat (first | exact (by repeat (first | (with_reducible exact HR176_0.out) | (with_reducible refine Kd.C_alloc ?_ _) | (with_reducible refine Kd.C_drewN ?_ _) | (with_reducible refine Kd.C_drew ?_) | exact HR176_0.out)) | (with_reducible refine Kd.C_alloc ?_ _) | (with_reducible refine Kd.C_drewN ?_ _) | (with_reducible refine Kd.C_drew ?_))); (case aB => exact (by repeat (first | (with_reducible first | exact HB.out | apply below_alloc | apply pw_below_drewN | apply below_drew1) | exact HB.out))); (case aF => exact (fun _ _ => trivial)); (case aO => exact (by (with_reducible repeat (first | apply Kd.R_alloc | apply Kd.R_drewN | apply Kd.R_drew)); exact HO_6.out)); (case aS => exact (below_size (by repeat (first | (with_reducible first | exact HB.out | apply below_alloc | apply pw_below_drewN | apply below_drew1) | exact HB.out)))); (case aL => have := LMc29.out; omega); intro v178 w31 ho hb hg hat; rw [← Ny177.out] at ho; have n0_ := Aside0.mk (Kd.S_after (ok := (fun _ => True)) (by (with_reducible repeat (first | apply Kd.S_alloc | apply Kd.S_drewN | apply Kd.S_drew)); exact Kd.S_mono HO_5.out (fun _ hk => ⟨trivial, hk⟩)) hg hat); have n1_ := Aside0.mk (Kd.R_after (ok := (fun k_ => some k_ ≠ (.slice (some ad169) t166.length co30 : Value).ownBlock)) (by (with_reducible repeat (first | apply Kd.R_alloc | apply Kd.R_drewN | apply Kd.R_drew)); exact Kd.R_mono HL169_0.out (fun _ hk => ⟨hk.2, hk.1⟩)) hg hat); have n2_ := Aside0.mk (Kd.R_after (ok := (fun k_ => some k_ ≠ (.slice (some ad169) t166.length co30 : Value).ownBlock)) (by (with_reducible repeat (first | apply Kd.R_alloc | apply Kd.R_drewN | apply Kd.R_drew)); exact Kd.R_mono HL170_0.out (fun _ hk => ⟨hk.2, hk.1⟩)) hg hat); have n3_ := Aside0.mk (Kd.R_after (ok := (fun k_ => some k_ ≠ (.slice (some ad169) t166.length co30 : Value).ownBlock)) (by (with_reducible repeat (first | apply Kd.R_alloc | apply Kd.R_drewN | apply Kd.R_drew)); exact Kd.R_mono HL171_0.out (fun _ hk => ⟨hk.2, hk.1⟩)) hg hat); have n4_ := Aside0.mk (Kd.R_after (ok := (fun k_ => some k_ ≠ (.slice (some ad169) t166.length co30 : Value).ownBlock)) (by (with_reducible repeat (first | apply Kd.R_alloc | apply Kd.R_drewN | apply Kd.R_drew)); exact Kd.R_mono HL173_0.out (fun _ hk => ⟨hk.2, hk.1⟩)) hg hat); have n5_ := Aside0.mk (Kd.R_after (ok := (fun k_ => some k_ ≠ (.slice (some ad169) t166.length co30 : Value).ownBlock)) (by (with_reducible repeat (first | apply Kd.R_alloc | apply Kd.R_drewN | apply Kd.R_drew)); exact Kd.R_mono HL175_0.out (fun _ hk => ⟨hk.2, hk.1⟩)) hg hat); have n6_ := Aside0.mk (Kd.R_after (ok := (fun k_ => some k_ ≠ (.slice (some ad169) t166.length co30 : Value).ownBlock)) (by (with_reducible repeat (first | apply Kd.R_alloc | apply Kd.R_drewN | apply Kd.R_drew)); exact Kd.R_mono HL176_0.out (fun _ hk => ⟨hk.2, hk.1⟩)) hg hat); have n7_ := Aside0.mk (hb); have n8_ := Aside0.mk (ho); clear HO_5; clear HL169_0; clear HL170_0; clear HL171_0; clear HL173_0; clear HL175_0; clear HL176_0; clear HB; clear HO_6; have HO_5 := n0_; have HL169_0 := n1_; have HL170_0 := n2_; have HL171_0 := n3_; have HL173_0 := n4_; have HL175_0 := n5_; have HL176_0 := n6_; have HB := n7_; have HO179 := n8_; clear n0_ n1_ n2_ n3_ n4_ n5_ n6_ n7_ n8_; clear ho hb hg hat)))
                                      go_roundg k2
                                      case measure => have := HJ2.out; have := HK2.out; omega
                                      case rel => exact ⟨(y177), (wrap64 (x7_2 + 1)), (by first | rfl | (simp; done) | (simp [*]; done)), H', ⟨by have := HJ2.out; have := HK2.out; omega⟩, ⟨by (with_reducible repeat (first | apply Kd.S_alloc | apply Kd.S_drewN | apply Kd.S_drew)); exact Kd.S_mono HO_5.out (fun _ hk => hk.2)⟩, ⟨by (with_reducible repeat (first | apply Kd.R_alloc | apply Kd.R_drewN | apply Kd.R_drew)); exact HO179.out⟩, ⟨by repeat (first | (with_reducible first | exact HB.out | apply below_alloc | apply pw_below_drewN | apply below_drew1) | exact HB.out)⟩⟩
                                    · rw [if_neg c29] at H
                                      exact absurd H (by simp)
                                · rw [if_neg c27] at H
                                  have c27b0 : decide (x7_2 < (wrap64 ((t166.length : Int) - 1))) = false := decide_eq_false c27
                                  clear c27
                                  by_cases c32 : x6_2.length + (rd_L4 t166 x7_2).length < 2932031007402
                                  · rw [if_pos c32] at H
                                    have LMc32 := Aside0.mk c32
                                    clear c32
                                    obtain ⟨y181, hy181⟩ : ∃ y_ : List (S29), y_ = (x6_2 ++ (rd_L4 t166 x7_2)) := ⟨_, rfl⟩
                                    replace H : (cornucopialaw14_MergeCuts.l0 k2 l0 a1 t166 y181 (wrap64 (x7_2 + 1))) = some r := by first | (rw [hy181]; with_reducible exact H) | (have H2_ := (Option.bind_some _ _).symm.trans H; rw [hy181]; with_reducible exact H2_) | (have H2_ := (Option.bind_some _ _).symm.trans H; with_reducible exact H2_) | with_reducible exact H | (rw [hy181]; exact H) | exact H
                                    have Ny181 := Aside0.mk hy181
                                    clear hy181
                                    have H' := Aside0.mk H
                                    clear H
                                    obtain ⟨Ao33, co33, eo33⟩ := Kd.S_slice HO_5.out
                                    subst eo33
                                    have p169 : 0 ≤ (x7_2 : Int) := of_decide_eq_true (by first | (with_reducible assumption) | assumption)
                                    have q169 : x7_2 < (t166.length : Int) := of_decide_eq_true (by first | (with_reducible assumption) | assumption)
                                    obtain ⟨ad169, A169_0, c169_0, e169, hx169_0, hl169_0, hi169_0⟩ := at_L4 (Kd.S_reads' HO_5.out).2.2 x7_2 p169 q169
                                    cases e169
                                    obtain ⟨ce169, hce169, hMe169, hcc169⟩ := Kd.S_get HO_5.out [] x7_2 p169 (by first | exact q169 | exact of_decide_eq_true (by first | (with_reducible assumption) | assumption) | (have e_ := (Kd.S_reads' HO_5.out).1; omega))
                                    obtain ⟨ve169_0, rfl, ge169_0⟩ := hMe169
                                    have hv169_0 := hcc169 0 _ rfl
                                    rw [Nat.add_zero, show ((Kd.slice 29 k29)).sz = 1 from rfl, Nat.mul_one] at hv169_0
                                    replace hv169_0 := Option.some.inj (hv169_0.symm.trans hx169_0)
                                    rw [hv169_0] at ge169_0
                                    have HL169_0 := Aside0.mk (show Kd.R k29 29 _ _ _ _ (rd_L4 t166 x7_2) from ge169_0)
                                    clear hv169_0 ge169_0
                                    clear hcc169 hce169
                                    have HR169_0 := Aside0.mk hi169_0
                                    have HC169_0 := Aside0.mk hl169_0
                                    clear hi169_0 hl169_0
                                    replace p169 := eq_true p169
                                    replace q169 := eq_true q169
                                    have p170 : 0 ≤ ((ji19) : Int) := of_decide_eq_true (by first | (with_reducible assumption) | assumption)
                                    have q170 : (ji19) < (t166.length : Int) := of_decide_eq_true (by first | (with_reducible assumption) | assumption)
                                    obtain ⟨ad170, A170_0, c170_0, e170, hx170_0, hl170_0, hi170_0⟩ := at_L4 (Kd.S_reads' HO_5.out).2.2 (ji19) p170 q170
                                    obtain rfl : ad169 = ad170 := (by injection e170)
                                    obtain ⟨ce170, hce170, hMe170, hcc170⟩ := Kd.S_get HO_5.out [] (ji19) p170 (by first | exact q170 | exact of_decide_eq_true (by first | (with_reducible assumption) | assumption) | (have e_ := (Kd.S_reads' HO_5.out).1; omega))
                                    obtain ⟨ve170_0, rfl, ge170_0⟩ := hMe170
                                    have hv170_0 := hcc170 0 _ rfl
                                    rw [Nat.add_zero, show ((Kd.slice 29 k29)).sz = 1 from rfl, Nat.mul_one] at hv170_0
                                    replace hv170_0 := Option.some.inj (hv170_0.symm.trans hx170_0)
                                    rw [hv170_0] at ge170_0
                                    have HL170_0 := Aside0.mk (show Kd.R k29 29 _ _ _ _ (rd_L4 t166 (ji19)) from ge170_0)
                                    clear hv170_0 ge170_0
                                    clear hcc170 hce170
                                    have HR170_0 := Aside0.mk hi170_0
                                    have HC170_0 := Aside0.mk hl170_0
                                    clear hi170_0 hl170_0
                                    replace p170 := eq_true p170
                                    replace q170 := eq_true q170
                                    have p171 : 0 ≤ ((ji19) : Int) := of_decide_eq_true (by first | (with_reducible assumption) | assumption)
                                    have q171 : (ji19) < (t166.length : Int) := of_decide_eq_true (by first | (with_reducible assumption) | assumption)
                                    obtain ⟨ad171, A171_0, c171_0, e171, hx171_0, hl171_0, hi171_0⟩ := at_L4 (Kd.S_reads' HO_5.out).2.2 (ji19) p171 q171
                                    obtain rfl : ad169 = ad171 := (by injection e171)
                                    obtain ⟨ce171, hce171, hMe171, hcc171⟩ := Kd.S_get HO_5.out [] (ji19) p171 (by first | exact q171 | exact of_decide_eq_true (by first | (with_reducible assumption) | assumption) | (have e_ := (Kd.S_reads' HO_5.out).1; omega))
                                    obtain ⟨ve171_0, rfl, ge171_0⟩ := hMe171
                                    have hv171_0 := hcc171 0 _ rfl
                                    rw [Nat.add_zero, show ((Kd.slice 29 k29)).sz = 1 from rfl, Nat.mul_one] at hv171_0
                                    replace hv171_0 := Option.some.inj (hv171_0.symm.trans hx171_0)
                                    rw [hv171_0] at ge171_0
                                    have HL171_0 := Aside0.mk (show Kd.R k29 29 _ _ _ _ (rd_L4 t166 (ji19)) from ge171_0)
                                    clear hv171_0 ge171_0
                                    clear hcc171 hce171
                                    have HR171_0 := Aside0.mk hi171_0
                                    have HC171_0 := Aside0.mk hl171_0
                                    clear hi171_0 hl171_0
                                    replace p171 := eq_true p171
                                    replace q171 := eq_true q171
                                    have ea_ := Option.some.inj (hx170_0.symm.trans hx171_0)
                                    injection ea_ with ea_ en_ ec_
                                    subst ea_
                                    subst ec_
                                    clear en_
                                    have p172 : 0 ≤ ((ji22) : Int) := of_decide_eq_true (by first | (with_reducible assumption) | assumption)
                                    have q172 : (ji22) < ((rd_L4 t166 (ji19)).length : Int) := of_decide_eq_true (by first | (with_reducible assumption) | assumption)
                                    obtain ⟨ad172, e172, hx172_0, hx172_1, hx172_2, hx172_3⟩ := at_T29 (by repeat (first | (with_reducible exact HR170_0.out) | (with_reducible refine Kd.C_alloc ?_ _) | (with_reducible refine Kd.C_drewN ?_ _) | (with_reducible refine Kd.C_drew ?_) | exact HR170_0.out)) (ji22) p172 q172
                                    cases e172
                                    replace p172 := eq_true p172
                                    replace q172 := eq_true q172
                                    have p173 : 0 ≤ (x7_2 : Int) := of_decide_eq_true (by first | (with_reducible assumption) | assumption)
                                    have q173 : x7_2 < (t166.length : Int) := of_decide_eq_true (by first | (with_reducible assumption) | assumption)
                                    obtain ⟨ad173, A173_0, c173_0, e173, hx173_0, hl173_0, hi173_0⟩ := at_L4 (Kd.S_reads' HO_5.out).2.2 x7_2 p173 q173
                                    obtain rfl : ad169 = ad173 := (by injection e173)
                                    obtain ⟨ce173, hce173, hMe173, hcc173⟩ := Kd.S_get HO_5.out [] x7_2 p173 (by first | exact q173 | exact of_decide_eq_true (by first | (with_reducible assumption) | assumption) | (have e_ := (Kd.S_reads' HO_5.out).1; omega))
                                    obtain ⟨ve173_0, rfl, ge173_0⟩ := hMe173
                                    have hv173_0 := hcc173 0 _ rfl
                                    rw [Nat.add_zero, show ((Kd.slice 29 k29)).sz = 1 from rfl, Nat.mul_one] at hv173_0
                                    replace hv173_0 := Option.some.inj (hv173_0.symm.trans hx173_0)
                                    rw [hv173_0] at ge173_0
                                    have HL173_0 := Aside0.mk (show Kd.R k29 29 _ _ _ _ (rd_L4 t166 x7_2) from ge173_0)
                                    clear hv173_0 ge173_0
                                    clear hcc173 hce173
                                    have HR173_0 := Aside0.mk hi173_0
                                    have HC173_0 := Aside0.mk hl173_0
                                    clear hi173_0 hl173_0
                                    replace p173 := eq_true p173
                                    replace q173 := eq_true q173
                                    have ea_ := Option.some.inj (hx169_0.symm.trans hx173_0)
                                    injection ea_ with ea_ en_ ec_
                                    subst ea_
                                    subst ec_
                                    clear en_
                                    have p174 : 0 ≤ (0 : Int) := (by omega)
                                    have q174 : 0 < ((rd_L4 t166 x7_2).length : Int) := of_decide_eq_true (by first | (with_reducible assumption) | assumption)
                                    obtain ⟨ad174, e174, hx174_0, hx174_1, hx174_2, hx174_3⟩ := at_T29 (by repeat (first | (with_reducible exact HR173_0.out) | (with_reducible refine Kd.C_alloc ?_ _) | (with_reducible refine Kd.C_drewN ?_ _) | (with_reducible refine Kd.C_drew ?_) | exact HR173_0.out)) 0 p174 q174
                                    cases e174
                                    have qi174 : (0 < (rd_L4 t166 x7_2).length) = True := eq_true (by omega)
                                    (try rw [show ((0 : Int)).toNat = 0 from rfl] at hx174_0)
                                    (try rw [show 0 * 4 = 0 from rfl] at hx174_0)
                                    (try rw [Addr.add_zero'] at hx174_0)
                                    (try rw [show ((0 : Int)).toNat = 0 from rfl] at hx174_1)
                                    (try rw [show 0 * 4 = 0 from rfl] at hx174_1)
                                    (try rw [Addr.add_zero'] at hx174_1)
                                    (try rw [show ((0 : Int)).toNat = 0 from rfl] at hx174_2)
                                    (try rw [show 0 * 4 = 0 from rfl] at hx174_2)
                                    (try rw [Addr.add_zero'] at hx174_2)
                                    (try rw [show ((0 : Int)).toNat = 0 from rfl] at hx174_3)
                                    (try rw [show 0 * 4 = 0 from rfl] at hx174_3)
                                    (try rw [Addr.add_zero'] at hx174_3)
                                    replace p174 := eq_true p174
                                    replace q174 := eq_true q174
                                    have p180 : 0 ≤ (x7_2 : Int) := of_decide_eq_true (by first | (with_reducible assumption) | assumption)
                                    have q180 : x7_2 < (t166.length : Int) := of_decide_eq_true (by first | (with_reducible assumption) | assumption)
                                    obtain ⟨ad180, A180_0, c180_0, e180, hx180_0, hl180_0, hi180_0⟩ := at_L4 (Kd.S_reads' HO_5.out).2.2 x7_2 p180 q180
                                    obtain rfl : ad169 = ad180 := (by injection e180)
                                    obtain ⟨ce180, hce180, hMe180, hcc180⟩ := Kd.S_get HO_5.out [] x7_2 p180 (by first | exact q180 | exact of_decide_eq_true (by first | (with_reducible assumption) | assumption) | (have e_ := (Kd.S_reads' HO_5.out).1; omega))
                                    obtain ⟨ve180_0, rfl, ge180_0⟩ := hMe180
                                    have hv180_0 := hcc180 0 _ rfl
                                    rw [Nat.add_zero, show ((Kd.slice 29 k29)).sz = 1 from rfl, Nat.mul_one] at hv180_0
                                    replace hv180_0 := Option.some.inj (hv180_0.symm.trans hx180_0)
                                    rw [hv180_0] at ge180_0
                                    have HL180_0 := Aside0.mk (show Kd.R k29 29 _ _ _ _ (rd_L4 t166 x7_2) from ge180_0)
                                    clear hv180_0 ge180_0
                                    clear hcc180 hce180
                                    have HR180_0 := Aside0.mk hi180_0
                                    have HC180_0 := Aside0.mk hl180_0
                                    clear hi180_0 hl180_0
                                    replace p180 := eq_true p180
                                    replace q180 := eq_true q180
                                    have ea_ := Option.some.inj (hx169_0.symm.trans hx180_0)
                                    injection ea_ with ea_ en_ ec_
                                    subst ea_
                                    subst ec_
                                    clear en_
                                    go_wp2_with (first | ((with_reducible refine gate_builtin (b := .append) (xs := #[.tmp 77, .tmp 81]) rfl ?_); (try (refine gate_guard (by rfl) ?_; dsimp only)); at_builtin; refine Kd.R_append_rows k29 (w0 := w) w.heap.size rfl (.tmp 77) (.tmp 81) 22 29 (.agg #[(.string ⟨#[]⟩), (.int .u64 0), (.int .i64 0), (.string ⟨#[]⟩)]) 48 rfl Try.underlying22 info29 rfl (by decide) (by omega) u6 x6_2 (rd_L4 t166 x7_2) _ _ _ (fun _ => True) (fun _ => False) rfl rfl ?aO ?aR (fun _ _ h => h) (fun _ h => h.elim) ?aF ?aB ?aS ?aL ?_; (case aR => (try (change Kd.C k29 _ _ _ _)); repeat (first | exact (by repeat (first | (with_reducible exact HR180_0.out) | (with_reducible refine Kd.C_alloc ?_ _) | (with_reducible refine Kd.C_drewN ?_ _) | (with_reducible refine Kd.C_drew ?_) | exact HR180_0.out)) | (with_reducible refine Kd.C_alloc ?_ _) | (with_reducible refine Kd.C_drewN ?_ _) | (with_reducible refine Kd.C_drew ?_))); (case aB => exact (by repeat (first | (with_reducible first | exact HB.out | apply below_alloc | apply pw_below_drewN | apply below_drew1) | exact HB.out))); (case aF => exact (fun _ _ => trivial)); (case aO => exact (by (with_reducible repeat (first | apply Kd.R_alloc | apply Kd.R_drewN | apply Kd.R_drew)); exact HO_6.out)); (case aS => exact (below_size (by repeat (first | (with_reducible first | exact HB.out | apply below_alloc | apply pw_below_drewN | apply below_drew1) | exact HB.out)))); (case aL => have := LMc32.out; omega); intro v182 w34 ho hb hg hat; rw [← Ny181.out] at ho; have n0_ := Aside0.mk (Kd.S_after (ok := (fun _ => True)) (by (with_reducible repeat (first | apply Kd.S_alloc | apply Kd.S_drewN | apply Kd.S_drew)); exact Kd.S_mono HO_5.out (fun _ hk => ⟨trivial, hk⟩)) hg hat); have n1_ := Aside0.mk (Kd.R_after (ok := (fun k_ => some k_ ≠ (.slice (some ad169) t166.length co33 : Value).ownBlock)) (by (with_reducible repeat (first | apply Kd.R_alloc | apply Kd.R_drewN | apply Kd.R_drew)); exact Kd.R_mono HL169_0.out (fun _ hk => ⟨hk.2, hk.1⟩)) hg hat); have n2_ := Aside0.mk (Kd.R_after (ok := (fun k_ => some k_ ≠ (.slice (some ad169) t166.length co33 : Value).ownBlock)) (by (with_reducible repeat (first | apply Kd.R_alloc | apply Kd.R_drewN | apply Kd.R_drew)); exact Kd.R_mono HL170_0.out (fun _ hk => ⟨hk.2, hk.1⟩)) hg hat); have n3_ := Aside0.mk (Kd.R_after (ok := (fun k_ => some k_ ≠ (.slice (some ad169) t166.length co33 : Value).ownBlock)) (by (with_reducible repeat (first | apply Kd.R_alloc | apply Kd.R_drewN | apply Kd.R_drew)); exact Kd.R_mono HL171_0.out (fun _ hk => ⟨hk.2, hk.1⟩)) hg hat); have n4_ := Aside0.mk (Kd.R_after (ok := (fun k_ => some k_ ≠ (.slice (some ad169) t166.length co33 : Value).ownBlock)) (by (with_reducible repeat (first | apply Kd.R_alloc | apply Kd.R_drewN | apply Kd.R_drew)); exact Kd.R_mono HL173_0.out (fun _ hk => ⟨hk.2, hk.1⟩)) hg hat); have n5_ := Aside0.mk (Kd.R_after (ok := (fun k_ => some k_ ≠ (.slice (some ad169) t166.length co33 : Value).ownBlock)) (by (with_reducible repeat (first | apply Kd.R_alloc | apply Kd.R_drewN | apply Kd.R_drew)); exact Kd.R_mono HL180_0.out (fun _ hk => ⟨hk.2, hk.1⟩)) hg hat); have n6_ := Aside0.mk (hb); have n7_ := Aside0.mk (ho); clear HO_5; clear HL169_0; clear HL170_0; clear HL171_0; clear HL173_0; clear HL180_0; clear HB; clear HO_6; have HO_5 := n0_; have HL169_0 := n1_; have HL170_0 := n2_; have HL171_0 := n3_; have HL173_0 := n4_; have HL180_0 := n5_; have HB := n6_; have HO183 := n7_; clear n0_ n1_ n2_ n3_ n4_ n5_ n6_ n7_; clear ho hb hg hat))
                                    repeat (go_quiet (first | ((with_reducible refine gate_builtin (b := .append) (xs := #[.tmp 77, .tmp 81]) rfl ?_); (try (refine gate_guard (by rfl) ?_; dsimp only)); at_builtin; refine Kd.R_append_rows k29 (w0 := w) w.heap.size rfl (.tmp 77) (.tmp 81) 22 29 (.agg #[(.string ⟨#[]⟩), (.int .u64 0), (.int .i64 0), (.string ⟨#[]⟩)]) 48 rfl Try.underlying22 info29 rfl (by decide) (by omega) u6 x6_2 (rd_L4 t166 x7_2) _ _ _ (fun _ => True) (fun _ => False) rfl rfl ?aO ?aR (fun _ _ h => h) (fun _ h => h.elim) ?aF ?aB ?aS ?aL ?_; (case aR => (try (change Kd.C k29 _ _ _ _)); repeat (first | exact (by repeat (first | (with_reducible exact HR180_0.out) | (with_reducible refine Kd.C_alloc ?_ _) | (with_reducible refine Kd.C_drewN ?_ _) | (with_reducible refine Kd.C_drew ?_) | exact HR180_0.out)) | (with_reducible refine Kd.C_alloc ?_ _) | (with_reducible refine Kd.C_drewN ?_ _) | (with_reducible refine Kd.C_drew ?_))); (case aB => exact (by repeat (first | (with_reducible first | exact HB.out | apply below_alloc | apply pw_below_drewN | apply below_drew1) | exact HB.out))); (case aF => exact (fun _ _ => trivial)); (case aO => exact (by (with_reducible repeat (first | apply Kd.R_alloc | apply Kd.R_drewN | apply Kd.R_drew)); exact HO_6.out)); (case aS => exact (below_size (by repeat (first | (with_reducible first | exact HB.out | apply below_alloc | apply pw_below_drewN | apply below_drew1) | exact HB.out)))); (case aL => have := LMc32.out; omega); intro v182 w34 ho hb hg hat; rw [← Ny181.out] at ho; have n0_ := Aside0.mk (Kd.S_after (ok := (fun _ => True)) (by (with_reducible repeat (first | apply Kd.S_alloc | apply Kd.S_drewN | apply Kd.S_drew)); exact Kd.S_mono HO_5.out (fun _ hk => ⟨trivial, hk⟩)) hg hat); have n1_ := Aside0.mk (Kd.R_after (ok := (fun k_ => some k_ ≠ (.slice (some ad169) t166.length co33 : Value).ownBlock)) (by (with_reducible repeat (first | apply Kd.R_alloc | apply Kd.R_drewN | apply Kd.R_drew)); exact Kd.R_mono HL169_0.out (fun _ hk => ⟨hk.2, hk.1⟩)) hg hat); have n2_ := Aside0.mk (Kd.R_after (ok := (fun k_ => some k_ ≠ (.slice (some ad169) t166.length co33 : Value).ownBlock)) (by (with_reducible repeat (first | apply Kd.R_alloc | apply Kd.R_drewN | apply Kd.R_drew)); exact Kd.R_mono HL170_0.out (fun _ hk => ⟨hk.2, hk.1⟩)) hg hat); have n3_ := Aside0.mk (Kd.R_after (ok := (fun k_ => some k_ ≠ (.slice (some ad169) t166.length co33 : Value).ownBlock)) (by (with_reducible repeat (first | apply Kd.R_alloc | apply Kd.R_drewN | apply Kd.R_drew)); exact Kd.R_mono HL171_0.out (fun _ hk => ⟨hk.2, hk.1⟩)) hg hat); have n4_ := Aside0.mk (Kd.R_after (ok := (fun k_ => some k_ ≠ (.slice (some ad169) t166.length co33 : Value).ownBlock)) (by (with_reducible repeat (first | apply Kd.R_alloc | apply Kd.R_drewN | apply Kd.R_drew)); exact Kd.R_mono HL173_0.out (fun _ hk => ⟨hk.2, hk.1⟩)) hg hat); have n5_ := Aside0.mk (Kd.R_after (ok := (fun k_ => some k_ ≠ (.slice (some ad169) t166.length co33 : Value).ownBlock)) (by (with_reducible repeat (first | apply Kd.R_alloc | apply Kd.R_drewN | apply Kd.R_drew)); exact Kd.R_mono HL180_0.out (fun _ hk => ⟨hk.2, hk.1⟩)) hg hat); have n6_ := Aside0.mk (hb); have n7_ := Aside0.mk (ho); clear HO_5; clear HL169_0; clear HL170_0; clear HL171_0; clear HL173_0; clear HL180_0; clear HB; clear HO_6; have HO_5 := n0_; have HL169_0 := n1_; have HL170_0 := n2_; have HL171_0 := n3_; have HL173_0 := n4_; have HL180_0 := n5_; have HB := n6_; have HO183 := n7_; clear n0_ n1_ n2_ n3_ n4_ n5_ n6_ n7_; clear ho hb hg hat)); try go_wp2_with (first | ((with_reducible refine gate_builtin (b := .append) (xs := #[.tmp 77, .tmp 81]) rfl ?_); (try (refine gate_guard (by rfl) ?_; dsimp only)); at_builtin; refine Kd.R_append_rows k29 (w0 := w) w.heap.size rfl (.tmp 77) (.tmp 81) 22 29 (.agg #[(.string ⟨#[]⟩), (.int .u64 0), (.int .i64 0), (.string ⟨#[]⟩)]) 48 rfl Try.underlying22 info29 rfl (by decide) (by omega) u6 x6_2 (rd_L4 t166 x7_2) _ _ _ (fun _ => True) (fun _ => False) rfl rfl ?aO ?aR (fun _ _ h => h) (fun _ h => h.elim) ?aF ?aB ?aS ?aL ?_; (case aR => (try (change Kd.C k29 _ _ _ _)); repeat (first | exact (by repeat (first | (with_reducible exact HR180_0.out) | (with_reducible refine Kd.C_alloc ?_ _) | (with_reducible refine Kd.C_drewN ?_ _) | (with_reducible refine Kd.C_drew ?_) | exact HR180_0.out)) | (with_reducible refine Kd.C_alloc ?_ _) | (with_reducible refine Kd.C_drewN ?_ _) | (with_reducible refine Kd.C_drew ?_))); (case aB => exact (by repeat (first | (with_reducible first | exact HB.out | apply below_alloc | apply pw_below_drewN | apply below_drew1) | exact HB.out))); (case aF => exact (fun _ _ => trivial)); (case aO => exact (by (with_reducible repeat (first | apply Kd.R_alloc | apply Kd.R_drewN | apply Kd.R_drew)); exact HO_6.out)); (case aS => exact (below_size (by repeat (first | (with_reducible first | exact HB.out | apply below_alloc | apply pw_below_drewN | apply below_drew1) | exact HB.out)))); (case aL => have := LMc32.out; omega); intro v182 w34 ho hb hg hat; rw [← Ny181.out] at ho; have n0_ := Aside0.mk (Kd.S_after (ok := (fun _ => True)) (by (with_reducible repeat (first | apply Kd.S_alloc | apply Kd.S_drewN | apply Kd.S_drew)); exact Kd.S_mono HO_5.out (fun _ hk => ⟨trivial, hk⟩)) hg hat); have n1_ := Aside0.mk (Kd.R_after (ok := (fun k_ => some k_ ≠ (.slice (some ad169) t166.length co33 : Value).ownBlock)) (by (with_reducible repeat (first | apply Kd.R_alloc | apply Kd.R_drewN | apply Kd.R_drew)); exact Kd.R_mono HL169_0.out (fun _ hk => ⟨hk.2, hk.1⟩)) hg hat); have n2_ := Aside0.mk (Kd.R_after (ok := (fun k_ => some k_ ≠ (.slice (some ad169) t166.length co33 : Value).ownBlock)) (by (with_reducible repeat (first | apply Kd.R_alloc | apply Kd.R_drewN | apply Kd.R_drew)); exact Kd.R_mono HL170_0.out (fun _ hk => ⟨hk.2, hk.1⟩)) hg hat); have n3_ := Aside0.mk (Kd.R_after (ok := (fun k_ => some k_ ≠ (.slice (some ad169) t166.length co33 : Value).ownBlock)) (by (with_reducible repeat (first | apply Kd.R_alloc | apply Kd.R_drewN | apply Kd.R_drew)); exact Kd.R_mono HL171_0.out (fun _ hk => ⟨hk.2, hk.1⟩)) hg hat); have n4_ := Aside0.mk (Kd.R_after (ok := (fun k_ => some k_ ≠ (.slice (some ad169) t166.length co33 : Value).ownBlock)) (by (with_reducible repeat (first | apply Kd.R_alloc | apply Kd.R_drewN | apply Kd.R_drew)); exact Kd.R_mono HL173_0.out (fun _ hk => ⟨hk.2, hk.1⟩)) hg hat); have n5_ := Aside0.mk (Kd.R_after (ok := (fun k_ => some k_ ≠ (.slice (some ad169) t166.length co33 : Value).ownBlock)) (by (with_reducible repeat (first | apply Kd.R_alloc | apply Kd.R_drewN | apply Kd.R_drew)); exact Kd.R_mono HL180_0.out (fun _ hk => ⟨hk.2, hk.1⟩)) hg hat); have n6_ := Aside0.mk (hb); have n7_ := Aside0.mk (ho); clear HO_5; clear HL169_0; clear HL170_0; clear HL171_0; clear HL173_0; clear HL180_0; clear HB; clear HO_6; have HO_5 := n0_; have HL169_0 := n1_; have HL170_0 := n2_; have HL171_0 := n3_; have HL173_0 := n4_; have HL180_0 := n5_; have HB := n6_; have HO183 := n7_; clear n0_ n1_ n2_ n3_ n4_ n5_ n6_ n7_; clear ho hb hg hat)))
                                    go_roundg k2
                                    case measure => have := HJ2.out; have := HK2.out; omega
                                    case rel => exact ⟨(y181), (wrap64 (x7_2 + 1)), (by first | rfl | (simp; done) | (simp [*]; done)), H', ⟨by have := HJ2.out; have := HK2.out; omega⟩, ⟨by (with_reducible repeat (first | apply Kd.S_alloc | apply Kd.S_drewN | apply Kd.S_drew)); exact Kd.S_mono HO_5.out (fun _ hk => hk.2)⟩, ⟨by (with_reducible repeat (first | apply Kd.R_alloc | apply Kd.R_drewN | apply Kd.R_drew)); exact HO183.out⟩, ⟨by repeat (first | (with_reducible first | exact HB.out | apply below_alloc | apply pw_below_drewN | apply below_drew1) | exact HB.out)⟩⟩
                                  · rw [if_neg c32] at H
                                    exact absurd H (by simp)
                            · rw [if_neg c25] at H
                              exact absurd H (by simp)
                          · rw [if_neg c24] at H
                            exact absurd H (by simp)
                        · rw [if_neg c23] at H
                          exact absurd H (by simp)
                      · rw [if_neg c21] at H
                        exact absurd H (by simp)
                    · rw [if_neg c20] at H
                      exact absurd H (by simp)
                  · rw [if_neg c18] at H
                    have c18b0 : decide (0 < x7_2) = false := decide_eq_false c18
                    clear c18
                    by_cases c35 : x7_2 < (wrap64 ((t166.length : Int) - 1))
                    · rw [if_pos c35] at H
                      have c35b0 : decide (x7_2 < (wrap64 ((t166.length : Int) - 1))) = true := decide_eq_true c35
                      clear c35
                      by_cases c36 : ((rd_L4 t166 x7_2).length : Int) < a1
                      · rw [if_pos c36] at H
                        exact absurd H (by simp)
                      · rw [if_neg c36] at H
                        have c36b0 : decide (((rd_L4 t166 x7_2).length : Int) < a1) = false := decide_eq_false c36
                        clear c36
                        by_cases c37 : x6_2.length + (rd_L4 t166 x7_2).length < 2932031007402
                        · rw [if_pos c37] at H
                          have LMc37 := Aside0.mk c37
                          clear c37
                          obtain ⟨y186, hy186⟩ : ∃ y_ : List (S29), y_ = (x6_2 ++ (rd_L4 t166 x7_2)) := ⟨_, rfl⟩
                          replace H : (cornucopialaw14_MergeCuts.l0 k2 l0 a1 t166 y186 (wrap64 (x7_2 + 1))) = some r := by first | (rw [hy186]; with_reducible exact H) | (have H2_ := (Option.bind_some _ _).symm.trans H; rw [hy186]; with_reducible exact H2_) | (have H2_ := (Option.bind_some _ _).symm.trans H; with_reducible exact H2_) | with_reducible exact H | (rw [hy186]; exact H) | exact H
                          have Ny186 := Aside0.mk hy186
                          clear hy186
                          have H' := Aside0.mk H
                          clear H
                          obtain ⟨Ao38, co38, eo38⟩ := Kd.S_slice HO_5.out
                          subst eo38
                          have p169 : 0 ≤ (x7_2 : Int) := of_decide_eq_true (by first | (with_reducible assumption) | assumption)
                          have q169 : x7_2 < (t166.length : Int) := of_decide_eq_true (by first | (with_reducible assumption) | assumption)
                          obtain ⟨ad169, A169_0, c169_0, e169, hx169_0, hl169_0, hi169_0⟩ := at_L4 (Kd.S_reads' HO_5.out).2.2 x7_2 p169 q169
                          cases e169
                          obtain ⟨ce169, hce169, hMe169, hcc169⟩ := Kd.S_get HO_5.out [] x7_2 p169 (by first | exact q169 | exact of_decide_eq_true (by first | (with_reducible assumption) | assumption) | (have e_ := (Kd.S_reads' HO_5.out).1; omega))
                          obtain ⟨ve169_0, rfl, ge169_0⟩ := hMe169
                          have hv169_0 := hcc169 0 _ rfl
                          rw [Nat.add_zero, show ((Kd.slice 29 k29)).sz = 1 from rfl, Nat.mul_one] at hv169_0
                          replace hv169_0 := Option.some.inj (hv169_0.symm.trans hx169_0)
                          rw [hv169_0] at ge169_0
                          have HL169_0 := Aside0.mk (show Kd.R k29 29 _ _ _ _ (rd_L4 t166 x7_2) from ge169_0)
                          clear hv169_0 ge169_0
                          clear hcc169 hce169
                          have HR169_0 := Aside0.mk hi169_0
                          have HC169_0 := Aside0.mk hl169_0
                          clear hi169_0 hl169_0
                          replace p169 := eq_true p169
                          replace q169 := eq_true q169
                          have p184 : 0 ≤ (x7_2 : Int) := of_decide_eq_true (by first | (with_reducible assumption) | assumption)
                          have q184 : x7_2 < (t166.length : Int) := of_decide_eq_true (by first | (with_reducible assumption) | assumption)
                          obtain ⟨ad184, A184_0, c184_0, e184, hx184_0, hl184_0, hi184_0⟩ := at_L4 (Kd.S_reads' HO_5.out).2.2 x7_2 p184 q184
                          obtain rfl : ad169 = ad184 := (by injection e184)
                          obtain ⟨ce184, hce184, hMe184, hcc184⟩ := Kd.S_get HO_5.out [] x7_2 p184 (by first | exact q184 | exact of_decide_eq_true (by first | (with_reducible assumption) | assumption) | (have e_ := (Kd.S_reads' HO_5.out).1; omega))
                          obtain ⟨ve184_0, rfl, ge184_0⟩ := hMe184
                          have hv184_0 := hcc184 0 _ rfl
                          rw [Nat.add_zero, show ((Kd.slice 29 k29)).sz = 1 from rfl, Nat.mul_one] at hv184_0
                          replace hv184_0 := Option.some.inj (hv184_0.symm.trans hx184_0)
                          rw [hv184_0] at ge184_0
                          have HL184_0 := Aside0.mk (show Kd.R k29 29 _ _ _ _ (rd_L4 t166 x7_2) from ge184_0)
                          clear hv184_0 ge184_0
                          clear hcc184 hce184
                          have HR184_0 := Aside0.mk hi184_0
                          have HC184_0 := Aside0.mk hl184_0
                          clear hi184_0 hl184_0
                          replace p184 := eq_true p184
                          replace q184 := eq_true q184
                          have ea_ := Option.some.inj (hx169_0.symm.trans hx184_0)
                          injection ea_ with ea_ en_ ec_
                          subst ea_
                          subst ec_
                          clear en_
                          have p185 : 0 ≤ (x7_2 : Int) := of_decide_eq_true (by first | (with_reducible assumption) | assumption)
                          have q185 : x7_2 < (t166.length : Int) := of_decide_eq_true (by first | (with_reducible assumption) | assumption)
                          obtain ⟨ad185, A185_0, c185_0, e185, hx185_0, hl185_0, hi185_0⟩ := at_L4 (Kd.S_reads' HO_5.out).2.2 x7_2 p185 q185
                          obtain rfl : ad169 = ad185 := (by injection e185)
                          obtain ⟨ce185, hce185, hMe185, hcc185⟩ := Kd.S_get HO_5.out [] x7_2 p185 (by first | exact q185 | exact of_decide_eq_true (by first | (with_reducible assumption) | assumption) | (have e_ := (Kd.S_reads' HO_5.out).1; omega))
                          obtain ⟨ve185_0, rfl, ge185_0⟩ := hMe185
                          have hv185_0 := hcc185 0 _ rfl
                          rw [Nat.add_zero, show ((Kd.slice 29 k29)).sz = 1 from rfl, Nat.mul_one] at hv185_0
                          replace hv185_0 := Option.some.inj (hv185_0.symm.trans hx185_0)
                          rw [hv185_0] at ge185_0
                          have HL185_0 := Aside0.mk (show Kd.R k29 29 _ _ _ _ (rd_L4 t166 x7_2) from ge185_0)
                          clear hv185_0 ge185_0
                          clear hcc185 hce185
                          have HR185_0 := Aside0.mk hi185_0
                          have HC185_0 := Aside0.mk hl185_0
                          clear hi185_0 hl185_0
                          replace p185 := eq_true p185
                          replace q185 := eq_true q185
                          have ea_ := Option.some.inj (hx169_0.symm.trans hx185_0)
                          injection ea_ with ea_ en_ ec_
                          subst ea_
                          subst ec_
                          clear en_
                          go_wp2_with (first | ((with_reducible refine gate_builtin (b := .append) (xs := #[.tmp 77, .tmp 81]) rfl ?_); (try (refine gate_guard (by rfl) ?_; dsimp only)); at_builtin; refine Kd.R_append_rows k29 (w0 := w) w.heap.size rfl (.tmp 77) (.tmp 81) 22 29 (.agg #[(.string ⟨#[]⟩), (.int .u64 0), (.int .i64 0), (.string ⟨#[]⟩)]) 48 rfl Try.underlying22 info29 rfl (by decide) (by omega) u6 x6_2 (rd_L4 t166 x7_2) _ _ _ (fun _ => True) (fun _ => False) rfl rfl ?aO ?aR (fun _ _ h => h) (fun _ h => h.elim) ?aF ?aB ?aS ?aL ?_; (case aR => (try (change Kd.C k29 _ _ _ _)); repeat (first | exact (by repeat (first | (with_reducible exact HR185_0.out) | (with_reducible refine Kd.C_alloc ?_ _) | (with_reducible refine Kd.C_drewN ?_ _) | (with_reducible refine Kd.C_drew ?_) | exact HR185_0.out)) | (with_reducible refine Kd.C_alloc ?_ _) | (with_reducible refine Kd.C_drewN ?_ _) | (with_reducible refine Kd.C_drew ?_))); (case aB => exact (by repeat (first | (with_reducible first | exact HB.out | apply below_alloc | apply pw_below_drewN | apply below_drew1) | exact HB.out))); (case aF => exact (fun _ _ => trivial)); (case aO => exact (by (with_reducible repeat (first | apply Kd.R_alloc | apply Kd.R_drewN | apply Kd.R_drew)); exact HO_6.out)); (case aS => exact (below_size (by repeat (first | (with_reducible first | exact HB.out | apply below_alloc | apply pw_below_drewN | apply below_drew1) | exact HB.out)))); (case aL => have := LMc37.out; omega); intro v187 w39 ho hb hg hat; rw [← Ny186.out] at ho; have n0_ := Aside0.mk (Kd.S_after (ok := (fun _ => True)) (by (with_reducible repeat (first | apply Kd.S_alloc | apply Kd.S_drewN | apply Kd.S_drew)); exact Kd.S_mono HO_5.out (fun _ hk => ⟨trivial, hk⟩)) hg hat); have n1_ := Aside0.mk (Kd.R_after (ok := (fun k_ => some k_ ≠ (.slice (some ad169) t166.length co38 : Value).ownBlock)) (by (with_reducible repeat (first | apply Kd.R_alloc | apply Kd.R_drewN | apply Kd.R_drew)); exact Kd.R_mono HL169_0.out (fun _ hk => ⟨hk.2, hk.1⟩)) hg hat); have n2_ := Aside0.mk (Kd.R_after (ok := (fun k_ => some k_ ≠ (.slice (some ad169) t166.length co38 : Value).ownBlock)) (by (with_reducible repeat (first | apply Kd.R_alloc | apply Kd.R_drewN | apply Kd.R_drew)); exact Kd.R_mono HL184_0.out (fun _ hk => ⟨hk.2, hk.1⟩)) hg hat); have n3_ := Aside0.mk (Kd.R_after (ok := (fun k_ => some k_ ≠ (.slice (some ad169) t166.length co38 : Value).ownBlock)) (by (with_reducible repeat (first | apply Kd.R_alloc | apply Kd.R_drewN | apply Kd.R_drew)); exact Kd.R_mono HL185_0.out (fun _ hk => ⟨hk.2, hk.1⟩)) hg hat); have n4_ := Aside0.mk (hb); have n5_ := Aside0.mk (ho); clear HO_5; clear HL169_0; clear HL184_0; clear HL185_0; clear HB; clear HO_6; have HO_5 := n0_; have HL169_0 := n1_; have HL184_0 := n2_; have HL185_0 := n3_; have HB := n4_; have HO188 := n5_; clear n0_ n1_ n2_ n3_ n4_ n5_; clear ho hb hg hat))
                          repeat (go_quiet (first | ((with_reducible refine gate_builtin (b := .append) (xs := #[.tmp 77, .tmp 81]) rfl ?_); (try (refine gate_guard (by rfl) ?_; dsimp only)); at_builtin; refine Kd.R_append_rows k29 (w0 := w) w.heap.size rfl (.tmp 77) (.tmp 81) 22 29 (.agg #[(.string ⟨#[]⟩), (.int .u64 0), (.int .i64 0), (.string ⟨#[]⟩)]) 48 rfl Try.underlying22 info29 rfl (by decide) (by omega) u6 x6_2 (rd_L4 t166 x7_2) _ _ _ (fun _ => True) (fun _ => False) rfl rfl ?aO ?aR (fun _ _ h => h) (fun _ h => h.elim) ?aF ?aB ?aS ?aL ?_; (case aR => (try (change Kd.C k29 _ _ _ _)); repeat (first | exact (by repeat (first | (with_reducible exact HR185_0.out) | (with_reducible refine Kd.C_alloc ?_ _) | (with_reducible refine Kd.C_drewN ?_ _) | (with_reducible refine Kd.C_drew ?_) | exact HR185_0.out)) | (with_reducible refine Kd.C_alloc ?_ _) | (with_reducible refine Kd.C_drewN ?_ _) | (with_reducible refine Kd.C_drew ?_))); (case aB => exact (by repeat (first | (with_reducible first | exact HB.out | apply below_alloc | apply pw_below_drewN | apply below_drew1) | exact HB.out))); (case aF => exact (fun _ _ => trivial)); (case aO => exact (by (with_reducible repeat (first | apply Kd.R_alloc | apply Kd.R_drewN | apply Kd.R_drew)); exact HO_6.out)); (case aS => exact (below_size (by repeat (first | (with_reducible first | exact HB.out | apply below_alloc | apply pw_below_drewN | apply below_drew1) | exact HB.out)))); (case aL => have := LMc37.out; omega); intro v187 w39 ho hb hg hat; rw [← Ny186.out] at ho; have n0_ := Aside0.mk (Kd.S_after (ok := (fun _ => True)) (by (with_reducible repeat (first | apply Kd.S_alloc | apply Kd.S_drewN | apply Kd.S_drew)); exact Kd.S_mono HO_5.out (fun _ hk => ⟨trivial, hk⟩)) hg hat); have n1_ := Aside0.mk (Kd.R_after (ok := (fun k_ => some k_ ≠ (.slice (some ad169) t166.length co38 : Value).ownBlock)) (by (with_reducible repeat (first | apply Kd.R_alloc | apply Kd.R_drewN | apply Kd.R_drew)); exact Kd.R_mono HL169_0.out (fun _ hk => ⟨hk.2, hk.1⟩)) hg hat); have n2_ := Aside0.mk (Kd.R_after (ok := (fun k_ => some k_ ≠ (.slice (some ad169) t166.length co38 : Value).ownBlock)) (by (with_reducible repeat (first | apply Kd.R_alloc | apply Kd.R_drewN | apply Kd.R_drew)); exact Kd.R_mono HL184_0.out (fun _ hk => ⟨hk.2, hk.1⟩)) hg hat); have n3_ := Aside0.mk (Kd.R_after (ok := (fun k_ => some k_ ≠ (.slice (some ad169) t166.length co38 : Value).ownBlock)) (by (with_reducible repeat (first | apply Kd.R_alloc | apply Kd.R_drewN | apply Kd.R_drew)); exact Kd.R_mono HL185_0.out (fun _ hk => ⟨hk.2, hk.1⟩)) hg hat); have n4_ := Aside0.mk (hb); have n5_ := Aside0.mk (ho); clear HO_5; clear HL169_0; clear HL184_0; clear HL185_0; clear HB; clear HO_6; have HO_5 := n0_; have HL169_0 := n1_; have HL184_0 := n2_; have HL185_0 := n3_; have HB := n4_; have HO188 := n5_; clear n0_ n1_ n2_ n3_ n4_ n5_; clear ho hb hg hat)); try go_wp2_with (first | ((with_reducible refine gate_builtin (b := .append) (xs := #[.tmp 77, .tmp 81]) rfl ?_); (try (refine gate_guard (by rfl) ?_; dsimp only)); at_builtin; refine Kd.R_append_rows k29 (w0 := w) w.heap.size rfl (.tmp 77) (.tmp 81) 22 29 (.agg #[(.string ⟨#[]⟩), (.int .u64 0), (.int .i64 0), (.string ⟨#[]⟩)]) 48 rfl Try.underlying22 info29 rfl (by decide) (by omega) u6 x6_2 (rd_L4 t166 x7_2) _ _ _ (fun _ => True) (fun _ => False) rfl rfl ?aO ?aR (fun _ _ h => h) (fun _ h => h.elim) ?aF ?aB ?aS ?aL ?_; (case aR => (try (change Kd.C k29 _ _ _ _)); repeat (first | exact (by repeat (first | (with_reducible exact HR185_0.out) | (with_reducible refine Kd.C_alloc ?_ _) | (with_reducible refine Kd.C_drewN ?_ _) | (with_reducible refine Kd.C_drew ?_) | exact HR185_0.out)) | (with_reducible refine Kd.C_alloc ?_ _) | (with_reducible refine Kd.C_drewN ?_ _) | (with_reducible refine Kd.C_drew ?_))); (case aB => exact (by repeat (first | (with_reducible first | exact HB.out | apply below_alloc | apply pw_below_drewN | apply below_drew1) | exact HB.out))); (case aF => exact (fun _ _ => trivial)); (case aO => exact (by (with_reducible repeat (first | apply Kd.R_alloc | apply Kd.R_drewN | apply Kd.R_drew)); exact HO_6.out)); (case aS => exact (below_size (by repeat (first | (with_reducible first | exact HB.out | apply below_alloc | apply pw_below_drewN | apply below_drew1) | exact HB.out)))); (case aL => have := LMc37.out; omega); intro v187 w39 ho hb hg hat; rw [← Ny186.out] at ho; have n0_ := Aside0.mk (Kd.S_after (ok := (fun _ => True)) (by (with_reducible repeat (first | apply Kd.S_alloc | apply Kd.S_drewN | apply Kd.S_drew)); exact Kd.S_mono HO_5.out (fun _ hk => ⟨trivial, hk⟩)) hg hat); have n1_ := Aside0.mk (Kd.R_after (ok := (fun k_ => some k_ ≠ (.slice (some ad169) t166.length co38 : Value).ownBlock)) (by (with_reducible repeat (first | apply Kd.R_alloc | apply Kd.R_drewN | apply Kd.R_drew)); exact Kd.R_mono HL169_0.out (fun _ hk => ⟨hk.2, hk.1⟩)) hg hat); have n2_ := Aside0.mk (Kd.R_after (ok := (fun k_ => some k_ ≠ (.slice (some ad169) t166.length co38 : Value).ownBlock)) (by (with_reducible repeat (first | apply Kd.R_alloc | apply Kd.R_drewN | apply Kd.R_drew)); exact Kd.R_mono HL184_0.out (fun _ hk => ⟨hk.2, hk.1⟩)) hg hat); have n3_ := Aside0.mk (Kd.R_after (ok := (fun k_ => some k_ ≠ (.slice (some ad169) t166.length co38 : Value).ownBlock)) (by (with_reducible repeat (first | apply Kd.R_alloc | apply Kd.R_drewN | apply Kd.R_drew)); exact Kd.R_mono HL185_0.out (fun _ hk => ⟨hk.2, hk.1⟩)) hg hat); have n4_ := Aside0.mk (hb); have n5_ := Aside0.mk (ho); clear HO_5; clear HL169_0; clear HL184_0; clear HL185_0; clear HB; clear HO_6; have HO_5 := n0_; have HL169_0 := n1_; have HL184_0 := n2_; have HL185_0 := n3_; have HB := n4_; have HO188 := n5_; clear n0_ n1_ n2_ n3_ n4_ n5_; clear ho hb hg hat)))
                          go_roundg k2
                          case measure => have := HJ2.out; have := HK2.out; omega
                          case rel => exact ⟨(y186), (wrap64 (x7_2 + 1)), (by first | rfl | (simp; done) | (simp [*]; done)), H', ⟨by have := HJ2.out; have := HK2.out; omega⟩, ⟨by (with_reducible repeat (first | apply Kd.S_alloc | apply Kd.S_drewN | apply Kd.S_drew)); exact Kd.S_mono HO_5.out (fun _ hk => hk.2)⟩, ⟨by (with_reducible repeat (first | apply Kd.R_alloc | apply Kd.R_drewN | apply Kd.R_drew)); exact HO188.out⟩, ⟨by repeat (first | (with_reducible first | exact HB.out | apply below_alloc | apply pw_below_drewN | apply below_drew1) | exact HB.out)⟩⟩
                        · rw [if_neg c37] at H
                          exact absurd H (by simp)
                    · rw [if_neg c35] at H
                      have c35b0 : decide (x7_2 < (wrap64 ((t166.length : Int) - 1))) = false := decide_eq_false c35
                      clear c35
                      by_cases c40 : x6_2.length + (rd_L4 t166 x7_2).length < 2932031007402
                      · rw [if_pos c40] at H
                        have LMc40 := Aside0.mk c40
                        clear c40
                        obtain ⟨y190, hy190⟩ : ∃ y_ : List (S29), y_ = (x6_2 ++ (rd_L4 t166 x7_2)) := ⟨_, rfl⟩
                        replace H : (cornucopialaw14_MergeCuts.l0 k2 l0 a1 t166 y190 (wrap64 (x7_2 + 1))) = some r := by first | (rw [hy190]; with_reducible exact H) | (have H2_ := (Option.bind_some _ _).symm.trans H; rw [hy190]; with_reducible exact H2_) | (have H2_ := (Option.bind_some _ _).symm.trans H; with_reducible exact H2_) | with_reducible exact H | (rw [hy190]; exact H) | exact H
                        have Ny190 := Aside0.mk hy190
                        clear hy190
                        have H' := Aside0.mk H
                        clear H
                        obtain ⟨Ao41, co41, eo41⟩ := Kd.S_slice HO_5.out
                        subst eo41
                        have p169 : 0 ≤ (x7_2 : Int) := of_decide_eq_true (by first | (with_reducible assumption) | assumption)
                        have q169 : x7_2 < (t166.length : Int) := of_decide_eq_true (by first | (with_reducible assumption) | assumption)
                        obtain ⟨ad169, A169_0, c169_0, e169, hx169_0, hl169_0, hi169_0⟩ := at_L4 (Kd.S_reads' HO_5.out).2.2 x7_2 p169 q169
                        cases e169
                        obtain ⟨ce169, hce169, hMe169, hcc169⟩ := Kd.S_get HO_5.out [] x7_2 p169 (by first | exact q169 | exact of_decide_eq_true (by first | (with_reducible assumption) | assumption) | (have e_ := (Kd.S_reads' HO_5.out).1; omega))
                        obtain ⟨ve169_0, rfl, ge169_0⟩ := hMe169
                        have hv169_0 := hcc169 0 _ rfl
                        rw [Nat.add_zero, show ((Kd.slice 29 k29)).sz = 1 from rfl, Nat.mul_one] at hv169_0
                        replace hv169_0 := Option.some.inj (hv169_0.symm.trans hx169_0)
                        rw [hv169_0] at ge169_0
                        have HL169_0 := Aside0.mk (show Kd.R k29 29 _ _ _ _ (rd_L4 t166 x7_2) from ge169_0)
                        clear hv169_0 ge169_0
                        clear hcc169 hce169
                        have HR169_0 := Aside0.mk hi169_0
                        have HC169_0 := Aside0.mk hl169_0
                        clear hi169_0 hl169_0
                        replace p169 := eq_true p169
                        replace q169 := eq_true q169
                        have p189 : 0 ≤ (x7_2 : Int) := of_decide_eq_true (by first | (with_reducible assumption) | assumption)
                        have q189 : x7_2 < (t166.length : Int) := of_decide_eq_true (by first | (with_reducible assumption) | assumption)
                        obtain ⟨ad189, A189_0, c189_0, e189, hx189_0, hl189_0, hi189_0⟩ := at_L4 (Kd.S_reads' HO_5.out).2.2 x7_2 p189 q189
                        obtain rfl : ad169 = ad189 := (by injection e189)
                        obtain ⟨ce189, hce189, hMe189, hcc189⟩ := Kd.S_get HO_5.out [] x7_2 p189 (by first | exact q189 | exact of_decide_eq_true (by first | (with_reducible assumption) | assumption) | (have e_ := (Kd.S_reads' HO_5.out).1; omega))
                        obtain ⟨ve189_0, rfl, ge189_0⟩ := hMe189
                        have hv189_0 := hcc189 0 _ rfl
                        rw [Nat.add_zero, show ((Kd.slice 29 k29)).sz = 1 from rfl, Nat.mul_one] at hv189_0
                        replace hv189_0 := Option.some.inj (hv189_0.symm.trans hx189_0)
                        rw [hv189_0] at ge189_0
                        have HL189_0 := Aside0.mk (show Kd.R k29 29 _ _ _ _ (rd_L4 t166 x7_2) from ge189_0)
                        clear hv189_0 ge189_0
                        clear hcc189 hce189
                        have HR189_0 := Aside0.mk hi189_0
                        have HC189_0 := Aside0.mk hl189_0
                        clear hi189_0 hl189_0
                        replace p189 := eq_true p189
                        replace q189 := eq_true q189
                        have ea_ := Option.some.inj (hx169_0.symm.trans hx189_0)
                        injection ea_ with ea_ en_ ec_
                        subst ea_
                        subst ec_
                        clear en_
                        go_wp2_with (first | ((with_reducible refine gate_builtin (b := .append) (xs := #[.tmp 77, .tmp 81]) rfl ?_); (try (refine gate_guard (by rfl) ?_; dsimp only)); at_builtin; refine Kd.R_append_rows k29 (w0 := w) w.heap.size rfl (.tmp 77) (.tmp 81) 22 29 (.agg #[(.string ⟨#[]⟩), (.int .u64 0), (.int .i64 0), (.string ⟨#[]⟩)]) 48 rfl Try.underlying22 info29 rfl (by decide) (by omega) u6 x6_2 (rd_L4 t166 x7_2) _ _ _ (fun _ => True) (fun _ => False) rfl rfl ?aO ?aR (fun _ _ h => h) (fun _ h => h.elim) ?aF ?aB ?aS ?aL ?_; (case aR => (try (change Kd.C k29 _ _ _ _)); repeat (first | exact (by repeat (first | (with_reducible exact HR189_0.out) | (with_reducible refine Kd.C_alloc ?_ _) | (with_reducible refine Kd.C_drewN ?_ _) | (with_reducible refine Kd.C_drew ?_) | exact HR189_0.out)) | (with_reducible refine Kd.C_alloc ?_ _) | (with_reducible refine Kd.C_drewN ?_ _) | (with_reducible refine Kd.C_drew ?_))); (case aB => exact (by repeat (first | (with_reducible first | exact HB.out | apply below_alloc | apply pw_below_drewN | apply below_drew1) | exact HB.out))); (case aF => exact (fun _ _ => trivial)); (case aO => exact (by (with_reducible repeat (first | apply Kd.R_alloc | apply Kd.R_drewN | apply Kd.R_drew)); exact HO_6.out)); (case aS => exact (below_size (by repeat (first | (with_reducible first | exact HB.out | apply below_alloc | apply pw_below_drewN | apply below_drew1) | exact HB.out)))); (case aL => have := LMc40.out; omega); intro v191 w42 ho hb hg hat; rw [← Ny190.out] at ho; have n0_ := Aside0.mk (Kd.S_after (ok := (fun _ => True)) (by (with_reducible repeat (first | apply Kd.S_alloc | apply Kd.S_drewN | apply Kd.S_drew)); exact Kd.S_mono HO_5.out (fun _ hk => ⟨trivial, hk⟩)) hg hat); have n1_ := Aside0.mk (Kd.R_after (ok := (fun k_ => some k_ ≠ (.slice (some ad169) t166.length co41 : Value).ownBlock)) (by (with_reducible repeat (first | apply Kd.R_alloc | apply Kd.R_drewN | apply Kd.R_drew)); exact Kd.R_mono HL169_0.out (fun _ hk => ⟨hk.2, hk.1⟩)) hg hat); have n2_ := Aside0.mk (Kd.R_after (ok := (fun k_ => some k_ ≠ (.slice (some ad169) t166.length co41 : Value).ownBlock)) (by (with_reducible repeat (first | apply Kd.R_alloc | apply Kd.R_drewN | apply Kd.R_drew)); exact Kd.R_mono HL189_0.out (fun _ hk => ⟨hk.2, hk.1⟩)) hg hat); have n3_ := Aside0.mk (hb); have n4_ := Aside0.mk (ho); clear HO_5; clear HL169_0; clear HL189_0; clear HB; clear HO_6; have HO_5 := n0_; have HL169_0 := n1_; have HL189_0 := n2_; have HB := n3_; have HO192 := n4_; clear n0_ n1_ n2_ n3_ n4_; clear ho hb hg hat))
                        repeat (go_quiet (first | ((with_reducible refine gate_builtin (b := .append) (xs := #[.tmp 77, .tmp 81]) rfl ?_); (try (refine gate_guard (by rfl) ?_; dsimp only)); at_builtin; refine Kd.R_append_rows k29 (w0 := w) w.heap.size rfl (.tmp 77) (.tmp 81) 22 29 (.agg #[(.string ⟨#[]⟩), (.int .u64 0), (.int .i64 0), (.string ⟨#[]⟩)]) 48 rfl Try.underlying22 info29 rfl (by decide) (by omega) u6 x6_2 (rd_L4 t166 x7_2) _ _ _ (fun _ => True) (fun _ => False) rfl rfl ?aO ?aR (fun _ _ h => h) (fun _ h => h.elim) ?aF ?aB ?aS ?aL ?_; (case aR => (try (change Kd.C k29 _ _ _ _)); repeat (first | exact (by repeat (first | (with_reducible exact HR189_0.out) | (with_reducible refine Kd.C_alloc ?_ _) | (with_reducible refine Kd.C_drewN ?_ _) | (with_reducible refine Kd.C_drew ?_) | exact HR189_0.out)) | (with_reducible refine Kd.C_alloc ?_ _) | (with_reducible refine Kd.C_drewN ?_ _) | (with_reducible refine Kd.C_drew ?_))); (case aB => exact (by repeat (first | (with_reducible first | exact HB.out | apply below_alloc | apply pw_below_drewN | apply below_drew1) | exact HB.out))); (case aF => exact (fun _ _ => trivial)); (case aO => exact (by (with_reducible repeat (first | apply Kd.R_alloc | apply Kd.R_drewN | apply Kd.R_drew)); exact HO_6.out)); (case aS => exact (below_size (by repeat (first | (with_reducible first | exact HB.out | apply below_alloc | apply pw_below_drewN | apply below_drew1) | exact HB.out)))); (case aL => have := LMc40.out; omega); intro v191 w42 ho hb hg hat; rw [← Ny190.out] at ho; have n0_ := Aside0.mk (Kd.S_after (ok := (fun _ => True)) (by (with_reducible repeat (first | apply Kd.S_alloc | apply Kd.S_drewN | apply Kd.S_drew)); exact Kd.S_mono HO_5.out (fun _ hk => ⟨trivial, hk⟩)) hg hat); have n1_ := Aside0.mk (Kd.R_after (ok := (fun k_ => some k_ ≠ (.slice (some ad169) t166.length co41 : Value).ownBlock)) (by (with_reducible repeat (first | apply Kd.R_alloc | apply Kd.R_drewN | apply Kd.R_drew)); exact Kd.R_mono HL169_0.out (fun _ hk => ⟨hk.2, hk.1⟩)) hg hat); have n2_ := Aside0.mk (Kd.R_after (ok := (fun k_ => some k_ ≠ (.slice (some ad169) t166.length co41 : Value).ownBlock)) (by (with_reducible repeat (first | apply Kd.R_alloc | apply Kd.R_drewN | apply Kd.R_drew)); exact Kd.R_mono HL189_0.out (fun _ hk => ⟨hk.2, hk.1⟩)) hg hat); have n3_ := Aside0.mk (hb); have n4_ := Aside0.mk (ho); clear HO_5; clear HL169_0; clear HL189_0; clear HB; clear HO_6; have HO_5 := n0_; have HL169_0 := n1_; have HL189_0 := n2_; have HB := n3_; have HO192 := n4_; clear n0_ n1_ n2_ n3_ n4_; clear ho hb hg hat)); try go_wp2_with (first | ((with_reducible refine gate_builtin (b := .append) (xs := #[.tmp 77, .tmp 81]) rfl ?_); (try (refine gate_guard (by rfl) ?_; dsimp only)); at_builtin; refine Kd.R_append_rows k29 (w0 := w) w.heap.size rfl (.tmp 77) (.tmp 81) 22 29 (.agg #[(.string ⟨#[]⟩), (.int .u64 0), (.int .i64 0), (.string ⟨#[]⟩)]) 48 rfl Try.underlying22 info29 rfl (by decide) (by omega) u6 x6_2 (rd_L4 t166 x7_2) _ _ _ (fun _ => True) (fun _ => False) rfl rfl ?aO ?aR (fun _ _ h => h) (fun _ h => h.elim) ?aF ?aB ?aS ?aL ?_; (case aR => (try (change Kd.C k29 _ _ _ _)); repeat (first | exact (by repeat (first | (with_reducible exact HR189_0.out) | (with_reducible refine Kd.C_alloc ?_ _) | (with_reducible refine Kd.C_drewN ?_ _) | (with_reducible refine Kd.C_drew ?_) | exact HR189_0.out)) | (with_reducible refine Kd.C_alloc ?_ _) | (with_reducible refine Kd.C_drewN ?_ _) | (with_reducible refine Kd.C_drew ?_))); (case aB => exact (by repeat (first | (with_reducible first | exact HB.out | apply below_alloc | apply pw_below_drewN | apply below_drew1) | exact HB.out))); (case aF => exact (fun _ _ => trivial)); (case aO => exact (by (with_reducible repeat (first | apply Kd.R_alloc | apply Kd.R_drewN | apply Kd.R_drew)); exact HO_6.out)); (case aS => exact (below_size (by repeat (first | (with_reducible first | exact HB.out | apply below_alloc | apply pw_below_drewN | apply below_drew1) | exact HB.out)))); (case aL => have := LMc40.out; omega); intro v191 w42 ho hb hg hat; rw [← Ny190.out] at ho; have n0_ := Aside0.mk (Kd.S_after (ok := (fun _ => True)) (by (with_reducible repeat (first | apply Kd.S_alloc | apply Kd.S_drewN | apply Kd.S_drew)); exact Kd.S_mono HO_5.out (fun _ hk => ⟨trivial, hk⟩)) hg hat); have n1_ := Aside0.mk (Kd.R_after (ok := (fun k_ => some k_ ≠ (.slice (some ad169) t166.length co41 : Value).ownBlock)) (by (with_reducible repeat (first | apply Kd.R_alloc | apply Kd.R_drewN | apply Kd.R_drew)); exact Kd.R_mono HL169_0.out (fun _ hk => ⟨hk.2, hk.1⟩)) hg hat); have n2_ := Aside0.mk (Kd.R_after (ok := (fun k_ => some k_ ≠ (.slice (some ad169) t166.length co41 : Value).ownBlock)) (by (with_reducible repeat (first | apply Kd.R_alloc | apply Kd.R_drewN | apply Kd.R_drew)); exact Kd.R_mono HL189_0.out (fun _ hk => ⟨hk.2, hk.1⟩)) hg hat); have n3_ := Aside0.mk (hb); have n4_ := Aside0.mk (ho); clear HO_5; clear HL169_0; clear HL189_0; clear HB; clear HO_6; have HO_5 := n0_; have HL169_0 := n1_; have HL189_0 := n2_; have HB := n3_; have HO192 := n4_; clear n0_ n1_ n2_ n3_ n4_; clear ho hb hg hat)))
                        go_roundg k2
                        case measure => have := HJ2.out; have := HK2.out; omega
                        case rel => exact ⟨(y190), (wrap64 (x7_2 + 1)), (by first | rfl | (simp; done) | (simp [*]; done)), H', ⟨by have := HJ2.out; have := HK2.out; omega⟩, ⟨by (with_reducible repeat (first | apply Kd.S_alloc | apply Kd.S_drewN | apply Kd.S_drew)); exact Kd.S_mono HO_5.out (fun _ hk => hk.2)⟩, ⟨by (with_reducible repeat (first | apply Kd.R_alloc | apply Kd.R_drewN | apply Kd.R_drew)); exact HO192.out⟩, ⟨by repeat (first | (with_reducible first | exact HB.out | apply below_alloc | apply pw_below_drewN | apply below_drew1) | exact HB.out)⟩⟩
                      · rw [if_neg c40] at H
                        exact absurd H (by simp)
              · rw [if_neg c16] at H
                exact absurd H (by simp)
            · rw [if_neg c15] at H
              have c15b0 : decide (x7_2 < (t166.length : Int)) = false := decide_eq_false c15
              clear c15
              replace H := Option.bind_eq_some_iff.mp H
              obtain ⟨t193, A430, H⟩ := H
              replace H : (if t193 = true then ((cornucopiabook_SameEntries.f k2 x6_2 l0).bind fun t194 => (some t194)) else (none)) = some r := H
              have A43 := Aside0.mk A430
              clear A430
              by_cases c44 : t193 = true
              · subst c44
                have H1 : ((cornucopiabook_SameEntries.f k2 x6_2 l0).bind fun t194 => (some t194)) = some r := by rw [if_pos rfl] at H; exact H
                clear H
                have H := H1
                clear H1
                replace H := Option.bind_eq_some_iff.mp H
                obtain ⟨t194, A450, H⟩ := H
                replace H : (some t194) = some r := H
                have A45 := Aside0.mk A450
                clear A450
                obtain rfl := Option.some.inj H
                obtain ⟨Ao46, co46, eo46⟩ := Kd.S_slice HO_5.out
                subst eo46
                go_wp2_with (first | (go_at_call 11; (with_reducible refine (cornucopialaw14_alive.calls k2  true _ A43.out).mono ?_); rintro e w47 ⟨rfl, hb⟩; have n0_ := Aside0.mk (Kd.S_below (by (with_reducible repeat (first | apply Kd.S_alloc | apply Kd.S_drewN | apply Kd.S_drew)); exact HO_5.out) hb); have n1_ := Aside0.mk (Kd.R_below (by (with_reducible repeat (first | apply Kd.R_alloc | apply Kd.R_drewN | apply Kd.R_drew)); exact HO_6.out) hb); have n2_ := Aside0.mk (below_step (by repeat (first | (with_reducible first | exact HB.out | apply below_alloc | apply pw_below_drewN | apply below_drew1) | exact HB.out)) hb); clear HO_5; clear HO_6; clear HB; have HO_5 := n0_; have HO_6 := n1_; have HB := n2_; clear n0_ n1_ n2_; (try clear hb); (try clear hb2); (try clear hk); (try clear hi); obtain ⟨Ao48, co48, eo48⟩ := Kd.R_slice HO_6.out; subst eo48) | (go_at_call 13; (with_reducible refine (cornucopiabook_SameEntries.calls k2 _ _ x6_2 _ _ l0 t194 _ ?side1 ?side2 ?side3 ?side4 A45.out).mono ?_); (case side1 => repeat (first | exact (Kd.R_reads' HO_6.out).2.2 | (with_reducible refine Kd.C_alloc ?_ _) | (with_reducible refine Kd.C_drewN ?_ _) | (with_reducible refine Kd.C_drew ?_))); (case side2 => exact (Kd.R_reads' HO_6.out).2.1); (case side3 => repeat (first | exact (Kd.C_below HR0.out HB.out) | (with_reducible refine Kd.C_alloc ?_ _) | (with_reducible refine Kd.C_drewN ?_ _) | (with_reducible refine Kd.C_drew ?_))); (case side4 => exact HC0.out); rintro e w' ⟨rfl, ⟨nd, rfl⟩⟩; (try first | exact ⟨rfl, _, World.drewN_drewN _ _ _⟩ | exact ⟨rfl, _, Eq.trans (World.drewN_drewN _ _ _) (congrArg (World.drewN _) (Nat.add_assoc _ _ _))⟩)))
                repeat (go_quiet (first | (go_at_call 11; (with_reducible refine (cornucopialaw14_alive.calls k2  true _ A43.out).mono ?_); rintro e w47 ⟨rfl, hb⟩; have n0_ := Aside0.mk (Kd.S_below (by (with_reducible repeat (first | apply Kd.S_alloc | apply Kd.S_drewN | apply Kd.S_drew)); exact HO_5.out) hb); have n1_ := Aside0.mk (Kd.R_below (by (with_reducible repeat (first | apply Kd.R_alloc | apply Kd.R_drewN | apply Kd.R_drew)); exact HO_6.out) hb); have n2_ := Aside0.mk (below_step (by repeat (first | (with_reducible first | exact HB.out | apply below_alloc | apply pw_below_drewN | apply below_drew1) | exact HB.out)) hb); clear HO_5; clear HO_6; clear HB; have HO_5 := n0_; have HO_6 := n1_; have HB := n2_; clear n0_ n1_ n2_; (try clear hb); (try clear hb2); (try clear hk); (try clear hi); obtain ⟨Ao48, co48, eo48⟩ := Kd.R_slice HO_6.out; subst eo48) | (go_at_call 13; (with_reducible refine (cornucopiabook_SameEntries.calls k2 _ _ x6_2 _ _ l0 t194 _ ?side1 ?side2 ?side3 ?side4 A45.out).mono ?_); (case side1 => repeat (first | exact (Kd.R_reads' HO_6.out).2.2 | (with_reducible refine Kd.C_alloc ?_ _) | (with_reducible refine Kd.C_drewN ?_ _) | (with_reducible refine Kd.C_drew ?_))); (case side2 => exact (Kd.R_reads' HO_6.out).2.1); (case side3 => repeat (first | exact (Kd.C_below HR0.out HB.out) | (with_reducible refine Kd.C_alloc ?_ _) | (with_reducible refine Kd.C_drewN ?_ _) | (with_reducible refine Kd.C_drew ?_))); (case side4 => exact HC0.out); rintro e w' ⟨rfl, ⟨nd, rfl⟩⟩; (try first | exact ⟨rfl, _, World.drewN_drewN _ _ _⟩ | exact ⟨rfl, _, Eq.trans (World.drewN_drewN _ _ _) (congrArg (World.drewN _) (Nat.add_assoc _ _ _))⟩))); try go_wp2_with (first | (go_at_call 11; (with_reducible refine (cornucopialaw14_alive.calls k2  true _ A43.out).mono ?_); rintro e w47 ⟨rfl, hb⟩; have n0_ := Aside0.mk (Kd.S_below (by (with_reducible repeat (first | apply Kd.S_alloc | apply Kd.S_drewN | apply Kd.S_drew)); exact HO_5.out) hb); have n1_ := Aside0.mk (Kd.R_below (by (with_reducible repeat (first | apply Kd.R_alloc | apply Kd.R_drewN | apply Kd.R_drew)); exact HO_6.out) hb); have n2_ := Aside0.mk (below_step (by repeat (first | (with_reducible first | exact HB.out | apply below_alloc | apply pw_below_drewN | apply below_drew1) | exact HB.out)) hb); clear HO_5; clear HO_6; clear HB; have HO_5 := n0_; have HO_6 := n1_; have HB := n2_; clear n0_ n1_ n2_; (try clear hb); (try clear hb2); (try clear hk); (try clear hi); obtain ⟨Ao48, co48, eo48⟩ := Kd.R_slice HO_6.out; subst eo48) | (go_at_call 13; (with_reducible refine (cornucopiabook_SameEntries.calls k2 _ _ x6_2 _ _ l0 t194 _ ?side1 ?side2 ?side3 ?side4 A45.out).mono ?_); (case side1 => repeat (first | exact (Kd.R_reads' HO_6.out).2.2 | (with_reducible refine Kd.C_alloc ?_ _) | (with_reducible refine Kd.C_drewN ?_ _) | (with_reducible refine Kd.C_drew ?_))); (case side2 => exact (Kd.R_reads' HO_6.out).2.1); (case side3 => repeat (first | exact (Kd.C_below HR0.out HB.out) | (with_reducible refine Kd.C_alloc ?_ _) | (with_reducible refine Kd.C_drewN ?_ _) | (with_reducible refine Kd.C_drew ?_))); (case side4 => exact HC0.out); rintro e w' ⟨rfl, ⟨nd, rfl⟩⟩; (try first | exact ⟨rfl, _, World.drewN_drewN _ _ _⟩ | exact ⟨rfl, _, Eq.trans (World.drewN_drewN _ _ _) (congrArg (World.drewN _) (Nat.add_assoc _ _ _))⟩))))
                go_ret
                exact ⟨by first | rfl | (simp [errW_none, errW_some] <;> rfl) | (simp [*, errW_none, errW_some] <;> rfl), by repeat (first | (with_reducible first | exact HB.out | apply below_alloc | apply pw_below_drewN | apply below_drew1) | exact HB.out)⟩
              · replace c44 := Bool.eq_false_iff.mpr c44
                subst c44
                have H1 : (none) = some r := by rw [if_neg (show ¬ (false = true) by decide)] at H; exact H
                clear H
                have H := H1
                clear H1
                exact absurd H (by simp)
def cornucopialaw14_MergeCuts.Pure : Prop := ∀ (l0 : List (S29)) (a1 : Int), l0.length * 48 ≤ 140737488351232 → (∀ x_ ∈ l0, wfS29 x_) → (Lit.int .i64 a1).wf = true → ∃ k, cornucopialaw14_MergeCuts.f k l0 a1 = some true
theorem cornucopialaw14_MergeCuts.walk (P : cornucopialaw14_MergeCuts.Pure) (A0 : Option Addr) (c0 : Nat) (l0 : List (S29)) (a1 : Int) (w : World) (hr0 : Kd.C k29 w A0 l0.length l0) (hc0 : l0.length ≤ c0) (w0_0 : l0.length * 48 ≤ 140737488351232) (w0_1 : (∀ x_ ∈ l0, wfS29 x_)) (w1_0 : (Lit.int .i64 a1).wf = true) :
    Calls Try.prog 3 #[.slice A0 l0.length c0, .int .i64 a1] w fun e w' => e = .returned (.bool true) ∧ Below w.heap.size w w' := by
  obtain ⟨k, h⟩ := P l0 a1 w0_0 w0_1 w1_0
  refine (cornucopialaw14_MergeCuts.calls k _ _ l0 a1 true w hr0 hc0 h).mono ?_
  rintro e w' ⟨rfl, hd⟩
  exact ⟨rfl, hd⟩
end Go.Proofs.Ytchgpcgolgcfdaa.PNum
end
section
namespace Go.Proofs.Ytchgpcgolgcfdaa.PuCut
open Go Go.RowKit Go.Proofs.Ytchgpcgolgcfdaa.PNum Go.Proofs.Ytchgpcgolgcfdaa.PuIkC Go.Proofs.YtchgpcgolgcfdaaW.PrintWords Go.Proofs.YtchgpcgolgcfdaaW.PrintLast Go.Proofs.YtchgpcgolgcfdaaW.PrintMore Go.Proofs.YtchgpcgolgcfdaaW.Pu
abbrev E := S29
abbrev ends (most : Int) (piece : List E) (e : E) (r : List E) : Prop := r.isEmpty = true ∨ (most ≤ (piece.length : Int) + 1 ∧ r.head?.map (·.f0) ≠ some e.f0)
def cutS (most : Int) : List E → List E → List (List E)
  | _, [] => []
  | piece, e :: r => if ends most piece e r then (piece ++ [e]) :: cutS most [] r else cutS most (piece ++ [e]) r
theorem cutS_nil (most : Int) (piece : List E) : cutS most piece [] = [] := by rw [cutS]
theorem cutS_flat (most : Int) : ∀ (l piece : List E), l ≠ [] → (cutS most piece l).flatten = piece ++ l
  | [], _, h => absurd rfl h
  | e :: r, piece, _ => by
    rw [cutS]
    by_cases hr : r = []
    · subst hr
      rw [if_pos (show ends most piece e [] from .inl rfl), cutS_nil]
      simp
    · split
      · rw [List.flatten_cons, cutS_flat most r [] hr]
        simp
      · rw [cutS_flat most r (piece ++ [e]) hr]
        simp
theorem cutS_all (most : Int) (l : List E) : (cutS most [] l).flatten = l := by
  cases l with
  | nil => rw [cutS_nil]; rfl
  | cons e r => rw [cutS_flat most (e :: r) [] (by simp)]; rfl
theorem cutS_head (most : Int) : ∀ (l piece : List E) (e : E), ∃ s t, cutS most piece (e :: l) = (piece ++ e :: s) :: t
  | [], piece, e => ⟨[], [], by rw [cutS, if_pos (show ends most piece e [] from .inl rfl), cutS_nil]⟩
  | e' :: r, piece, e => by
    rw [cutS]
    split
    · exact ⟨[], _, rfl⟩
    · obtain ⟨s, t, h⟩ := cutS_head most r (piece ++ [e]) e'
      exact ⟨e' :: s, t, by rw [h]; simp⟩
def OkC (most : Int) : List (List E) → Prop
  | [] => True
  | [p] => p ≠ []
  | p :: q :: r => p ≠ [] ∧ most ≤ (p.length : Int) ∧ (∀ a b, p.getLast? = some a → q.head? = some b → a.f0 ≠ b.f0) ∧ OkC most (q :: r)
theorem cutS_ok (most : Int) : ∀ (l piece : List E), OkC most (cutS most piece l)
  | [], _ => by rw [cutS_nil]; trivial
  | [e], piece => by
    rw [cutS, if_pos (show ends most piece e [] from .inl rfl), cutS_nil]
    simp [OkC]
  | e :: e' :: r, piece => by
    rw [cutS]
    split
    · rename_i h
      have ih := cutS_ok most (e' :: r) []
      obtain ⟨s, t, hs⟩ := cutS_head most r [] e'
      rw [hs] at ih ⊢
      refine ⟨by simp, ?_, fun a b ha hb => ?_, ih⟩
      · rcases h with h | h
        · cases h
        · simp; exact h.1
      · rcases h with h | h
        · cases h
        · have h2 := h.2
          simp at ha hb h2
          rw [← ha, ← hb]
          exact fun k => h2 k.symm
    · exact cutS_ok most (e' :: r) (piece ++ [e])
theorem OkC.ne {most : Int} : ∀ {m : List (List E)}, OkC most m → ∀ p ∈ m, p ≠ []
  | [], _, p, hp => by simp at hp
  | [q], h, p, hp => by rw [List.mem_singleton.1 hp]; exact h
  | q :: q2 :: r, h, p, hp => by
    rcases List.mem_cons.1 hp with rfl | hp
    · exact h.1
    · exact OkC.ne h.2.2.2 p hp
theorem OkC.at_ {most : Int} : ∀ {m : List (List E)}, OkC most m → ∀ (i : Nat) (h1 : i + 1 < m.length), most ≤ (m[i].length : Int) ∧ ∀ a b, m[i].getLast? = some a → m[i + 1].head? = some b → a.f0 ≠ b.f0
  | [], _, i, h1 => by simp at h1
  | [q], _, i, h1 => by simp at h1
  | q :: q2 :: r, h, 0, _ => ⟨h.2.1, h.2.2.1⟩
  | q :: q2 :: r, h, i + 1, h1 => by
    have := OkC.at_ h.2.2.2 i (by simpa using h1)
    simpa using this
theorem cutS_len (most : Int) : ∀ (l piece : List E), (cutS most piece l).length ≤ l.length
  | [], _ => by rw [cutS_nil]; simp
  | e :: r, piece => by
    rw [cutS]
    have h1 := cutS_len most r []
    have h2 := cutS_len most r (piece ++ [e])
    split
    · simp; omega
    · simp; omega
end Go.Proofs.Ytchgpcgolgcfdaa.PuCut
end
section
namespace Go.Proofs.Ytchgpcgolgcfdaa.PuSm
open Go Go.RowKit Go.Proofs.Ytchgpcgolgcfdaa.PNum Go.Proofs.Ytchgpcgolgcfdaa.PuIkC Go.Proofs.YtchgpcgolgcfdaaW.PrintWords Go.Proofs.YtchgpcgolgcfdaaW.PrintLast Go.Proofs.YtchgpcgolgcfdaaW.PrintMore Go.Proofs.YtchgpcgolgcfdaaW.Pu
theorem at_nat (l : List S29) (i : Nat) (h : i < l.length) : rd_T29 l (i : Int) = l[i] := by
  simp [rd_T29, h]
theorem Small_l0 (l : List S29) (hs : ∀ e ∈ l, e.f0.size ≤ 140737488351232 ∧ e.f3.size ≤ 140737488351232) (d : Nat) : ∀ (i : Nat) (r : Int), i + d = 400 → -1 ≤ r → r ≤ 20000 →
    ∃ b, Ev (fun k => cornucopialaw5_Small.l0 k l r (i : Int)) b ∧ (b = true → l.length ≤ 150) := by
  have leaf : ∀ (i : Nat) (r : Int), ∃ b, Ev (fun _ : Nat => if (l.length : Int) ≤ 150 then (some (decide (r ≥ 0))) else (some false)) b ∧ (b = true → l.length ≤ 150) := by
    intro i r
    by_cases h : (l.length : Int) ≤ 150
    · exact ⟨decide (r ≥ 0), ev_pos h (ev_const rfl), fun _ => by omega⟩
    · exact ⟨false, ev_neg h (ev_const rfl), fun k => by cases k⟩
  induction d with
  | zero =>
    intro i r hi h0 h1
    obtain ⟨b, hb, hl⟩ := leaf i r
    refine ⟨b, Ev.step (fun k => by rw [cornucopialaw5_Small.l0]) ?_, hl⟩
    by_cases h : (i : Int) < (l.length : Int)
    · exact ev_pos h (ev_neg (by omega) hb)
    · exact ev_neg h hb
  | succ d ih =>
    intro i r hi h0 h1
    by_cases h : (i : Int) < (l.length : Int)
    · by_cases hr : r ≥ 0
      · have hlt : i < l.length := by omega
        have hsz := hs l[i] (List.getElem_mem hlt)
        obtain ⟨q, hq, q0, q1⟩ := Room_ev r (l[i].f0.size : Int) (l[i].f3.size : Int) ⟨h0, h1⟩ ⟨by omega, by omega⟩ ⟨by omega, by omega⟩
        obtain ⟨b, hb, hl⟩ := ih (i + 1) q (by omega) q0 q1
        refine ⟨b, Ev.step (fun k => by rw [cornucopialaw5_Small.l0, at_nat l i hlt]) (ev_pos h (ev_pos (by omega) (ev_pos hr (ev_pos (by omega) (Ev.bind hq ?_))))), hl⟩
        rw [wrap64_id (by omega), show ((i : Int) + 1) = ((i + 1 : Nat) : Int) from by omega]
        exact hb
      · obtain ⟨b, hb, hl⟩ := leaf i r
        exact ⟨b, Ev.step (fun k => by rw [cornucopialaw5_Small.l0]) (ev_pos h (ev_pos (by omega) (ev_neg hr hb))), hl⟩
    · obtain ⟨b, hb, hl⟩ := leaf i r
      exact ⟨b, Ev.step (fun k => by rw [cornucopialaw5_Small.l0]) (ev_neg h hb), hl⟩
theorem Small_ev (l : List S29) (hs : ∀ e ∈ l, e.f0.size ≤ 140737488351232 ∧ e.f3.size ≤ 140737488351232) : ∃ b, Ev (fun k => cornucopialaw5_Small.f k l) b ∧ (b = true → l.length ≤ 150) := by
  obtain ⟨b, hb, hl⟩ := Small_l0 l hs 400 0 20000 (by omega) (by omega) (by omega)
  exact ⟨b, Ev.congr (fun k => by rw [cornucopialaw5_Small.f]; rfl) hb, hl⟩
end Go.Proofs.Ytchgpcgolgcfdaa.PuSm
end
section
namespace Go.Proofs.Ytchgpcgolgcfdaa.PuLess
open Go Go.RowKit Go.Proofs.Ytchgpcgolgcfdaa.PNum Go.Proofs.Ytchgpcgolgcfdaa.PuIkC Go.Proofs.YtchgpcgolgcfdaaW.PrintWords Go.Proofs.YtchgpcgolgcfdaaW.PrintLast Go.Proofs.YtchgpcgolgcfdaaW.PrintMore Go.Proofs.YtchgpcgolgcfdaaW.Pu
abbrev E := S29
theorem bt_at (s : ByteArray) (i : Nat) (h : i < s.data.toList.length) : bt s (i : Int) = (s.data.toList[i].toNat : Int) := by
  have h' : i < s.data.size := by simpa using h
  rw [bt_eq]
  simp only [bytesOf, List.getD_eq_getElem?_getD, List.getElem?_map, Array.getElem?_toList, Array.getElem_toList]
  rw [Array.getElem?_eq_getElem h']
  rfl
theorem size_data (s : ByteArray) : s.data.toList.length = s.size := by
  show s.data.toList.length = s.data.size
  simp
theorem Less_l0 (a b : ByteArray) (_ha : a.size ≤ 140737488351232) (hb : b.size ≤ 140737488351232) (d : Nat) : ∀ i, i + d = a.size → i ≤ b.size →
    Ev (fun k => cornucopiaref1_Less.l0 k a b (i : Int)) (decide (Lib.compareBytes (a.data.toList.drop i) (b.data.toList.drop i) = -1)) := by
  have la := size_data a
  have lb := size_data b
  induction d with
  | zero =>
    intro i hi hib
    refine Ev.step (fun k => by rw [cornucopiaref1_Less.l0]) (ev_neg (by omega) ?_)
    refine Ev.step (fun k => by rw [cornucopiaref1_Less.j1]) (ev_neg (by simp) (ev_const ?_))
    rw [show a.data.toList.drop i = [] from List.drop_of_length_le (by omega)]
    refine congrArg some (decide_eq_decide.2 ?_)
    cases h : b.data.toList.drop i with
    | nil =>
      have := congrArg List.length h
      rw [List.length_drop] at this
      simp only [List.length_nil] at this
      rw [Lib.compareBytes]
      omega
    | cons y ys =>
      have := congrArg List.length h
      rw [List.length_drop] at this
      simp only [List.length_cons] at this
      rw [Lib.compareBytes]
      omega
  | succ d ih =>
    intro i hi hib
    have ia : i < a.data.toList.length := by omega
    refine Ev.step (fun k => by rw [cornucopiaref1_Less.l0]) (ev_pos (by omega) ?_)
    have da : a.data.toList.drop i = a.data.toList[i] :: a.data.toList.drop (i + 1) := List.drop_eq_getElem_cons ia
    by_cases h : i < b.size
    · have ib : i < b.data.toList.length := by omega
      have db : b.data.toList.drop i = b.data.toList[i] :: b.data.toList.drop (i + 1) := List.drop_eq_getElem_cons ib
      rw [decide_eq_true (show (i : Int) < (b.size : Int) by omega), da, db, Lib.compareBytes]
      refine Ev.step (fun k => by rw [cornucopiaref1_Less.j1, bt_at a i ia, bt_at b i ib]) (ev_pos rfl (ev_pos (by omega) (ev_pos (by omega) (ev_pos (by omega) ?_))))
      by_cases e : a.data.toList[i] = b.data.toList[i]
      · refine ev_pos (by rw [e]) ?_
        rw [e, if_neg (UInt8.lt_irrefl _), if_neg (UInt8.lt_irrefl _), wrap64_id (by omega), show ((i : Int) + 1) = ((i + 1 : Nat) : Int) from by omega]
        exact ih (i + 1) (by omega) (by omega)
      · have hne : a.data.toList[i].toNat ≠ b.data.toList[i].toNat := fun k => e (UInt8.toNat_inj.1 k)
        refine ev_neg (by omega) (ev_const ?_)
        refine congrArg some (decide_eq_decide.2 ?_)
        by_cases k : a.data.toList[i] < b.data.toList[i]
        · rw [if_pos k]
          have := UInt8.lt_iff_toNat_lt.1 k
          omega
        · have k2 : b.data.toList[i] < a.data.toList[i] := UInt8.lt_iff_toNat_lt.2 (by have := mt UInt8.lt_iff_toNat_lt.2 k; omega)
          rw [if_neg k, if_pos k2]
          have := UInt8.lt_iff_toNat_lt.1 k2
          omega
    · rw [decide_eq_false (show ¬ (i : Int) < (b.size : Int) by omega), da, show b.data.toList.drop i = [] from List.drop_of_length_le (by omega), Lib.compareBytes]
      refine Ev.step (fun k => by rw [cornucopiaref1_Less.j1]) (ev_neg (by simp) (ev_const ?_))
      refine congrArg some (decide_eq_decide.2 ?_)
      omega
theorem Less_ev (a b : ByteArray) (ha : a.size ≤ 140737488351232) (hb : b.size ≤ 140737488351232) : Ev (fun k => cornucopiaref1_Less.f k a b) (decide (cb a b = -1)) := by
  have := Less_l0 a b ha hb a.size 0 (by omega) (by omega)
  rw [List.drop_zero, List.drop_zero] at this
  exact Ev.congr (fun k => by rw [cornucopiaref1_Less.f]; rfl) this
theorem RefCompare_ev (a b : E) (ha : a.f0.size ≤ 140737488351232) (hb : b.f0.size ≤ 140737488351232) : Ev (fun k => cornucopiaref5_Compare.f k a.f0 a.f1 a.f2 a.f3 b.f0 b.f1 b.f2 b.f3) (ce a b) := by
  refine Ev.congr (fun k => by rw [cornucopiaref5_Compare.f]) (Ev.bind (Less_ev _ _ ha hb) ?_)
  have r : cb a.f0 b.f0 = -1 ∨ cb a.f0 b.f0 = 0 ∨ cb a.f0 b.f0 = 1 := cl_range _ _
  have n := cb_neg a.f0 b.f0
  unfold ce
  by_cases h : cb a.f0 b.f0 = -1
  · rw [if_neg (show ¬ cb a.f0 b.f0 = 0 by omega), decide_eq_true h, h]
    exact ev_pos rfl (ev_const rfl)
  · rw [decide_eq_false h]
    refine ev_neg (by simp) (Ev.bind (Less_ev _ _ hb ha) ?_)
    by_cases k : cb b.f0 a.f0 = -1
    · rw [if_neg (show ¬ cb a.f0 b.f0 = 0 by omega), decide_eq_true k, show cb a.f0 b.f0 = 1 by omega]
      exact ev_pos rfl (ev_const rfl)
    · rw [if_pos (show cb a.f0 b.f0 = 0 by omega), decide_eq_false k]
      refine ev_neg (by simp) ?_
      unfold cs
      by_cases q : a.f1 > b.f1
      · refine ev_pos q (ev_const ?_)
        rw [if_pos q]
      · refine ev_neg q ?_
        rw [if_neg q]
        by_cases q2 : a.f1 < b.f1
        · refine ev_pos q2 (ev_const ?_)
          rw [if_pos q2]
        · refine ev_neg q2 (ev_const ?_)
          rw [if_neg q2]
end Go.Proofs.Ytchgpcgolgcfdaa.PuLess
end
section
namespace Go.Proofs.Ytchgpcgolgcfdaa.PuOrd
open Go Go.RowKit Go.Proofs.Ytchgpcgolgcfdaa.PNum Go.Proofs.Ytchgpcgolgcfdaa.PuIkC Go.Proofs.Ytchgpcgolgcfdaa.PuLess Go.Proofs.YtchgpcgolgcfdaaW.PrintWords Go.Proofs.YtchgpcgolgcfdaaW.PrintLast Go.Proofs.YtchgpcgolgcfdaaW.PrintMore Go.Proofs.YtchgpcgolgcfdaaW.Pu
theorem at_nat (l : List E) (i : Nat) (h : i < l.length) : rd_T29 l (i : Int) = l[i] := by
  simp [rd_T29, h]
def Rl (a b : E) : Prop := ce a b = -1
theorem Ordered_l0 (l : List E) (hs : ∀ e ∈ l, e.f0.size ≤ 140737488351232) (hl : l.length ≤ 140737488351232) (d : Nat) : ∀ i, i + 1 + d = l.length →
    ∃ b, Ev (fun k => cornucopialaw5_Ordered.l0 k l ((i + 1 : Nat) : Int)) b ∧ (b = true → (l.drop i).Pairwise Rl) := by
  induction d with
  | zero =>
    intro i hi
    have hlt : i < l.length := by omega
    refine ⟨true, Ev.step (fun k => by rw [cornucopialaw5_Ordered.l0]) (ev_neg (by omega) (ev_const rfl)), fun _ => ?_⟩
    rw [List.drop_eq_getElem_cons hlt, List.drop_of_length_le (by omega)]
    exact List.pairwise_singleton _ _
  | succ d ih =>
    intro i hi
    have h0 : i < l.length := by omega
    have h1 : i + 1 < l.length := by omega
    have hw : wrap64 (((i + 1 : Nat) : Int) - 1) = (i : Int) := by rw [wrap64_id (by omega)]; omega
    have hr := RefCompare_ev l[i] l[i + 1] (hs _ (List.getElem_mem h0)) (hs _ (List.getElem_mem h1))
    obtain ⟨b, hb, hp⟩ := ih (i + 1) (by omega)
    by_cases k : ce l[i] l[i + 1] ≥ 0
    · refine ⟨false, Ev.step (fun k => by rw [cornucopialaw5_Ordered.l0, hw, at_nat l i h0, at_nat l (i + 1) h1]) (ev_pos (by omega) (ev_pos (by omega) (ev_pos (by omega) (ev_pos (by omega) (Ev.bind hr (ev_pos k (ev_const rfl))))))), fun q => by cases q⟩
    · refine ⟨b, Ev.step (fun k => by rw [cornucopialaw5_Ordered.l0, hw, at_nat l i h0, at_nat l (i + 1) h1]) (ev_pos (by omega) (ev_pos (by omega) (ev_pos (by omega) (ev_pos (by omega) (Ev.bind hr (ev_neg k ?_)))))), fun q => ?_⟩
      · rw [wrap64_id (by omega), show (((i + 1 : Nat) : Int) + 1) = ((i + 1 + 1 : Nat) : Int) from by omega]
        exact hb
      · have hp := hp q
        have e0 : l.drop i = l[i] :: l.drop (i + 1) := List.drop_eq_getElem_cons h0
        have e1 : l.drop (i + 1) = l[i + 1] :: l.drop (i + 1 + 1) := List.drop_eq_getElem_cons h1
        have r : Rl l[i] l[i + 1] := by have := ce_range l[i] l[i + 1]; unfold Rl; omega
        rw [e0]
        refine List.pairwise_cons.2 ⟨fun y hy => ?_, hp⟩
        rw [e1] at hy hp
        rcases List.mem_cons.1 hy with rfl | hy
        · exact r
        · exact ce_trans r ((List.pairwise_cons.1 hp).1 y hy)
theorem Ordered_ev (l : List E) (hs : ∀ e ∈ l, e.f0.size ≤ 140737488351232) (hl : l.length ≤ 140737488351232) : ∃ b, Ev (fun k => cornucopialaw5_Ordered.f k l) b ∧ (b = true → l.Pairwise Rl) := by
  by_cases h : l = []
  · subst h
    exact ⟨true, Ev.congr (fun k => by rw [cornucopialaw5_Ordered.f]) (Ev.step (fun k => by rw [cornucopialaw5_Ordered.l0]) (ev_neg (by simp) (ev_const rfl))), fun _ => List.Pairwise.nil⟩
  · have : 0 < l.length := List.length_pos_iff.2 h
    obtain ⟨b, hb, hp⟩ := Ordered_l0 l hs hl (l.length - 1) 0 (by omega)
    exact ⟨b, Ev.congr (fun k => by rw [cornucopialaw5_Ordered.f]; rfl) hb, by simpa using hp⟩
end Go.Proofs.Ytchgpcgolgcfdaa.PuOrd
end
section
namespace Go.Proofs.Ytchgpcgolgcfdaa.PuAl14
open Go Go.RowKit Go.Proofs.Ytchgpcgolgcfdaa.PNum Go.Proofs.Ytchgpcgolgcfdaa.PuIkC Go.Proofs.Ytchgpcgolgcfdaa.PuCut Go.Proofs.YtchgpcgolgcfdaaW.PrintWords Go.Proofs.YtchgpcgolgcfdaaW.PrintLast Go.Proofs.YtchgpcgolgcfdaaW.PrintMore Go.Proofs.YtchgpcgolgcfdaaW.Pu
theorem at_nat (l : List E) (i : Nat) (h : i < l.length) : rd_T29 l (i : Int) = l[i] := by
  simp [rd_T29, h]
theorem same_l (l : List E) (hl : l.length ≤ 1000000) : ∀ (d i : Nat), i + d = l.length → ∀ k, d < k → cornucopiabook_SameEntries.l0 k l l (i : Int) = some true
  | 0, i, hi, k, hk => by
    obtain ⟨k, rfl⟩ : ∃ m, k = m + 1 := ⟨k - 1, by omega⟩
    rw [cornucopiabook_SameEntries.l0, if_neg (by omega)]
  | d + 1, i, hi, k, hk => by
    obtain ⟨k, rfl⟩ : ∃ m, k = m + 1 := ⟨k - 1, by omega⟩
    rw [cornucopiabook_SameEntries.l0, if_pos (by omega), if_pos (by omega), if_pos (by omega), if_pos (by simp), wrap64_id (by omega)]
    exact same_l l hl d (i + 1) (by omega) k (by omega)
theorem Same_ev (l : List E) (hl : l.length ≤ 1000000) : Ev (fun k => cornucopiabook_SameEntries.f k l l) true :=
  ⟨l.length + 1, fun k hk => by
    show cornucopiabook_SameEntries.f k l l = some true
    rw [cornucopiabook_SameEntries.f, if_pos rfl]
    exact same_l l hl l.length 0 (by omega) k (by omega)⟩
theorem Cut_l0 (most : Int) (l : List E) (hl : l.length ≤ 1000000) (d : Nat) : ∀ (i p : Nat) (out : List (List E)), i + d = l.length → p ≤ i → out.length ≤ i →
    Ev (fun k => merge_Cut.l0 k most l out (p : Int) (l.length : Int) (i : Int)) (out ++ cutS (mx most 1) ((l.take i).drop p) (l.drop i)) := by
  induction d with
  | zero =>
    intro i p out hi hp ho
    have hn : l.drop i = [] := List.drop_of_length_le (by omega)
    rw [hn, cutS_nil, List.append_nil]
    exact Ev.step (fun k => by rw [merge_Cut.l0]) (ev_neg (by omega) (ev_const rfl))
  | succ d ih =>
    intro i p out hi hp ho
    have h0 : i < l.length := by omega
    have hw : wrap64 ((i : Int) + 1) = ((i + 1 : Nat) : Int) := by rw [wrap64_id (by omega)]; omega
    have hd : l.drop i = l[i] :: l.drop (i + 1) := List.drop_eq_getElem_cons h0
    have hpl : ((l.take i).drop p).length = i - p := by rw [List.length_drop, List.length_take]; omega
    have hpe : (l.take i).drop p ++ [l[i]] = (l.take (i + 1)).drop p := by
      rw [List.take_succ_eq_append_getElem h0, List.drop_append_of_le_length (by rw [List.length_take]; omega)]
    have hcl : ((l.take (i + 1)).drop p).length = i + 1 - p := by rw [List.length_drop, List.length_take]; omega
    have hnil : (l.take (i + 1)).drop (i + 1) = [] := List.drop_of_length_le (by rw [List.length_take]; omega)
    have hgo : ∀ (y : List E), y = (l.take (i + 1)).drop p → Ev (fun k => if ([] : List E).length + y.length < 2932031007402 then (if out.length < 5864062014805 then (merge_Cut.l0 k most l (out ++ [([] : List E) ++ y]) ((i + 1 : Nat) : Int) (l.length : Int) ((i + 1 : Nat) : Int)) else none) else none) (out ++ ((l.take (i + 1)).drop p) :: cutS (mx most 1) [] (l.drop (i + 1))) := by
      intro y hy
      subst hy
      refine ev_pos (by rw [hcl]; simp; omega) (ev_pos (by omega) ?_)
      have := ih (i + 1) (i + 1) (out ++ [([] : List E) ++ (l.take (i + 1)).drop p]) (by omega) (Nat.le_refl _) (by simp; omega)
      rw [hnil, List.nil_append, List.append_assoc] at this
      exact this
    refine Ev.step (fun k => by rw [merge_Cut.l0, hw]) (ev_pos (by omega) ?_)
    rw [hd, cutS, hpe]
    by_cases hend : i + 1 = l.length
    · rw [if_pos (show ends (mx most 1) ((l.take i).drop p) l[i] (l.drop (i + 1)) from .inl (by rw [List.drop_of_length_le (by omega)]; rfl))]
      refine ev_pos (by omega) (ev_pos (by omega) (ev_pos (by omega) (ev_pos (by omega) (ev_some (hgo _ ?_)))))
      simp
    · have h1 : i + 1 < l.length := by omega
      have hne : l.drop (i + 1) = l[i + 1] :: l.drop (i + 1 + 1) := List.drop_eq_getElem_cons h1
      have hws : wrap64 (((i + 1 : Nat) : Int) - (p : Int)) = ((i + 1 : Nat) : Int) - (p : Int) := wrap64_id (by omega)
      refine ev_neg (by omega) ?_
      rw [hws]
      have hstay : ¬ ends (mx most 1) ((l.take i).drop p) l[i] (l.drop (i + 1)) → Ev (fun k => merge_Cut.l0 k most l out (p : Int) (l.length : Int) ((i + 1 : Nat) : Int)) (out ++ (if ends (mx most 1) ((l.take i).drop p) l[i] (l.drop (i + 1)) then (l.take (i + 1)).drop p :: cutS (mx most 1) [] (l.drop (i + 1)) else cutS (mx most 1) ((l.take (i + 1)).drop p) (l.drop (i + 1)))) := by
        intro hn
        rw [if_neg hn]
        exact ih (i + 1) p out (by omega) (by omega) (by omega)
      have hhd : (l.drop (i + 1)).head?.map (·.f0) = some l[i + 1].f0 := by rw [hne]; rfl
      have hem : (l.drop (i + 1)).isEmpty = false := by rw [hne]; rfl
      by_cases hm : ((i + 1 : Nat) : Int) - (p : Int) ≥ mx most 1
      · refine ev_pos hm (ev_pos (by omega) (ev_pos (by omega) (ev_pos (by omega) (ev_pos (by omega) ?_))))
        rw [at_nat l i h0, at_nat l (i + 1) h1]
        by_cases hk : l[i + 1].f0 = l[i].f0
        · refine ev_pos (tl_ext.2 hk) (hstay ?_)
          rintro (q | q)
          · rw [hem] at q; cases q
          · exact q.2 (by rw [hhd, hk])
        · refine ev_neg (fun q => hk (tl_ext.1 q)) (ev_pos (by omega) (ev_pos (by omega) (ev_pos (by omega) (ev_some ?_))))
          rw [if_pos (show ends (mx most 1) ((l.take i).drop p) l[i] (l.drop (i + 1)) from .inr ⟨by rw [hpl]; omega, by rw [hhd]; exact fun q => hk (Option.some.inj q)⟩)]
          refine hgo _ ?_
          simp
      · refine ev_neg hm (hstay ?_)
        rintro (q | q)
        · rw [hem] at q; cases q
        · have := q.1
          rw [hpl] at this
          omega
theorem Cut_ev (most : Int) (l : List E) (hl : l.length ≤ 1000000) : Ev (fun k => merge_Cut.f k most l) (cutS (mx most 1) [] l) := by
  have := Cut_l0 most l hl l.length 0 0 [] (by omega) (Nat.le_refl _) (Nat.le_refl _)
  simp only [List.take_zero, List.drop_nil, List.drop_zero, List.nil_append] at this
  exact Ev.congr (fun k => by rw [merge_Cut.f]; rfl) this
abbrev ka : ByteArray := ⟨#[97]⟩
abbrev kb : ByteArray := ⟨#[98]⟩
abbrev kn : ByteArray := ⟨#[]⟩
theorem first_latest : merge_Latest.f 2 [[⟨ka, 3, 1, kn⟩], [⟨ka, 1, 2, kn⟩, ⟨kb, 2, 1, kn⟩]] = some [⟨kb, kn⟩] := by kernel_rfl
theorem first_all : merge_All.f [] = some [] := by kernel_rfl
theorem first_cut : cutS (mx 1 1) [] [⟨ka, 2, 0, kn⟩, ⟨ka, 1, 0, kn⟩, ⟨kb, 1, 0, kn⟩] = [[⟨ka, 2, 0, kn⟩, ⟨ka, 1, 0, kn⟩], [⟨kb, 1, 0, kn⟩]] := by kernel_rfl
theorem alive_ev : Ev (fun k => cornucopialaw14_alive.f k) true := by
  have hc := Cut_ev 1 [⟨ka, 2, 0, kn⟩, ⟨ka, 1, 0, kn⟩, ⟨kb, 1, 0, kn⟩] (by simp)
  rw [first_cut] at hc
  refine Ev.congr (fun k => by rw [cornucopialaw14_alive.f]) (ev_call first_latest (Ev.bind hc ?_))
  refine ev_pos rfl (ev_pos (by decide) (ev_pos (show kb.toList = [98] by rw [toList_data]) (ev_pos rfl (ev_pos (by decide) (ev_pos rfl (ev_call first_all (ev_const rfl)))))))
end Go.Proofs.Ytchgpcgolgcfdaa.PuAl14
end
section
namespace Go.Proofs.Ytchgpcgolgcfdaa.Pure
open Go Go.RowKit Go.Proofs.Ytchgpcgolgcfdaa.PNum Go.Proofs.Ytchgpcgolgcfdaa.PuIkC Go.Proofs.Ytchgpcgolgcfdaa.PuCut Go.Proofs.Ytchgpcgolgcfdaa.PuAl14 Go.Proofs.YtchgpcgolgcfdaaW.PrintWords Go.Proofs.YtchgpcgolgcfdaaW.PrintLast Go.Proofs.YtchgpcgolgcfdaaW.PrintMore Go.Proofs.YtchgpcgolgcfdaaW.Pu
theorem atL (m : List (List E)) (i : Nat) (h : i < m.length) : rd_L4 m (i : Int) = m[i] := by
  simp [rd_L4, h]
theorem mc_l0 (l : List E) (hl : l.length ≤ 1000000) (most : Int) (m : List (List E)) (hm : m.flatten = l) (hml : m.length ≤ 1000000) (hok : OkC (mx most 1) m) (d : Nat) : ∀ i, i + d = m.length →
    Ev (fun k => cornucopialaw14_MergeCuts.l0 k l most m (m.take i).flatten (i : Int)) true := by
  have hlen : ∀ j, (m.take j).flatten.length ≤ l.length := by
    intro j
    have h1 : m.flatten = (m.take j).flatten ++ (m.drop j).flatten := by rw [← List.flatten_append, List.take_append_drop]
    have := congrArg List.length h1
    rw [hm, List.length_append] at this
    omega
  induction d with
  | zero =>
    intro i hi
    rw [List.take_of_length_le (by omega), hm]
    exact Ev.step (fun k => by rw [cornucopialaw14_MergeCuts.l0]) (ev_neg (by omega) (Ev.bind alive_ev (ev_pos rfl (Ev.bind (Same_ev l hl) (ev_const rfl)))))
  | succ d ih =>
    intro i hi
    have h0 : i < m.length := by omega
    have hne : m[i] ≠ [] := hok.ne _ (List.getElem_mem h0)
    have hpos : 0 < m[i].length := List.length_pos_iff.2 hne
    have hnext : (m.take (i + 1)).flatten = (m.take i).flatten ++ m[i] := by rw [List.take_succ_eq_append_getElem h0, List.flatten_append]; simp
    have hroom : (m.take i).flatten.length + m[i].length < 2932031007402 := by
      have := hlen (i + 1)
      rw [hnext, List.length_append] at this
      omega
    have hw : wrap64 ((m.length : Int) - 1) = (m.length : Int) - 1 := wrap64_id (by omega)
    have hgo : Ev (fun k => if (m.take i).flatten.length + m[i].length < 2932031007402 then cornucopialaw14_MergeCuts.l0 k l most m ((m.take i).flatten ++ m[i]) (wrap64 ((i : Int) + 1)) else none) true := by
      refine ev_pos hroom ?_
      rw [wrap64_id (by omega), show ((i : Int) + 1) = ((i + 1 : Nat) : Int) from by omega, ← hnext]
      exact ih (i + 1) (by omega)
    have htail : Ev (fun k => if (i : Int) < (m.length : Int) - 1 then (if (m[i].length : Int) < most then none else if (m.take i).flatten.length + m[i].length < 2932031007402 then cornucopialaw14_MergeCuts.l0 k l most m ((m.take i).flatten ++ m[i]) (wrap64 ((i : Int) + 1)) else none) else if (m.take i).flatten.length + m[i].length < 2932031007402 then cornucopialaw14_MergeCuts.l0 k l most m ((m.take i).flatten ++ m[i]) (wrap64 ((i : Int) + 1)) else none) true := by
      by_cases hi1 : i + 1 < m.length
      · refine ev_pos (by omega) (ev_neg ?_ hgo)
        have h1 := (hok.at_ i hi1).1
        unfold mx at h1
        split at h1 <;> omega
      · exact ev_neg (by omega) hgo
    refine Ev.step (fun k => by rw [cornucopialaw14_MergeCuts.l0, atL m i h0, hw]) (ev_pos (by omega) (ev_pos (by omega) (ev_neg (by omega) ?_)))
    by_cases hz : i = 0
    · subst hz
      exact ev_neg (by simp) htail
    · obtain ⟨j, rfl⟩ : ∃ j, i = j + 1 := ⟨i - 1, by omega⟩
      have hj : j < m.length := by omega
      have hw1 : wrap64 (((j + 1 : Nat) : Int) - 1) = (j : Int) := by rw [wrap64_id (by omega)]; omega
      have hnej : m[j] ≠ [] := hok.ne _ (List.getElem_mem hj)
      have hposj : 0 < m[j].length := List.length_pos_iff.2 hnej
      have hljm : m[j].length ≤ l.length := by
        have h1 : (m.take (j + 1)).flatten = (m.take j).flatten ++ m[j] := by rw [List.take_succ_eq_append_getElem hj, List.flatten_append]; simp
        have := hlen (j + 1)
        rw [h1, List.length_append] at this
        omega
      have hw2 : wrap64 ((m[j].length : Int) - 1) = ((m[j].length - 1 : Nat) : Int) := by rw [wrap64_id (by omega)]; omega
      have hlast : m[j].length - 1 < m[j].length := by omega
      refine ev_pos (by omega) ?_
      rw [hw1, atL m j hj, hw2]
      refine ev_pos (by omega) (ev_pos (by omega) (ev_pos (by omega) (ev_pos (by omega) (ev_pos (by omega) ?_))))
      rw [at_nat m[j] _ hlast, show (0 : Int) = ((0 : Nat) : Int) from rfl, at_nat m[j + 1] 0 hpos]
      refine ev_neg (fun q => ?_) htail
      have q := tl_ext.1 q
      have h1 := (hok.at_ j h0).2 (m[j][m[j].length - 1]) (m[j + 1][0]) (by rw [List.getLast?_eq_getElem?, List.getElem?_eq_getElem hlast]) (by rw [List.head?_eq_getElem?, List.getElem?_eq_getElem hpos])
      exact h1 q
theorem MergeCuts : cornucopialaw14_MergeCuts.Pure := by
  intro l most h0 hw h1
  refine Ev.rounds (Ev.congr (fun k => by rw [cornucopialaw14_MergeCuts.f]) ?_)
  obtain ⟨b, hb, hlen⟩ := PuSm.Small_ev l (fun e he => ⟨(hw e he).1, (hw e he).2.2.2⟩)
  have hskip : Ev (fun k => cornucopialaw14_MergeCuts.j0 k l most true) true :=
    Ev.step (fun k => by rw [cornucopialaw14_MergeCuts.j0]) (ev_pos rfl (Ev.bind alive_ev (ev_const rfl)))
  refine Ev.bind hb ?_
  cases b with
  | false => exact ev_neg (by simp) hskip
  | true =>
    have hlen := hlen rfl
    obtain ⟨o, ho, hord⟩ := PuOrd.Ordered_ev l (fun e he => (hw e he).1) (by omega)
    refine ev_pos rfl (Ev.bind ho ?_)
    cases o with
    | false => exact hskip
    | true =>
      refine Ev.step (fun k => by rw [cornucopialaw14_MergeCuts.j0]) (ev_neg (by simp) (Ev.bind (Cut_ev most l (by omega)) ?_))
      have hcl := cutS_len (mx most 1) l []
      exact mc_l0 l (by omega) most (cutS (mx most 1) [] l) (cutS_all _ _) (by omega) (cutS_ok _ _ _) (cutS (mx most 1) [] l).length 0 (by omega)
end Go.Proofs.Ytchgpcgolgcfdaa.Pure
end
