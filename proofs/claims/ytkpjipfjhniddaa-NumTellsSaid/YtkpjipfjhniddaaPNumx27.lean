/- A walk, written by a program of this session out of the translation (a printed Lean function, and that the Go code comes to its answer). Lean checks it. -/
import Derived.Test.YtkpjipfjhniddaaPNumx0
import Derived.Test.YtkpjipfjhniddaaPNumx2
import Derived.Test.YtkpjipfjhniddaaPNumx3
import Derived.Test.YtkpjipfjhniddaaPNumx4
import Derived.Test.YtkpjipfjhniddaaPNumx5
import Derived.Test.YtkpjipfjhniddaaPNumx7
import Derived.Test.YtkpjipfjhniddaaPNumx10
import Derived.Test.YtkpjipfjhniddaaPNumx15
import Derived.Test.YtkpjipfjhniddaaPNumx17
import Derived.Test.YtkpjipfjhniddaaPNumx19
import Derived.Test.YtkpjipfjhniddaaPNumx20
import Derived.Test.YtkpjipfjhniddaaPNumx22
import Derived.Test.YtkpjipfjhniddaaPNumx23
import Derived.Test.YtkpjipfjhniddaaPNumx24
import Derived.Test.YtkpjipfjhniddaaPNumx25
import Derived.Test.YtkpjipfjhniddaaPNumx26
namespace Go.Proofs.Ytkpjipfjhniddaa.PNum
open Go.RowKit Go.Proofs.YtkpjipfjhniddaaW.PrintWords Go.Proofs.YtkpjipfjhniddaaW.PrintLast Go.Proofs.YtkpjipfjhniddaaW.PrintMore
attribute [local go_sem] max2_int min2_int max_two min_two max_three min_three max_four min_four   -- for this text's walks alone
set_option linter.unusedVariables false
set_option linter.unusedSimpArgs false

/-! ### cornucopialaw1_NumTells: function 7 -/
mutual
def cornucopialaw1_NumTells.j0 : Nat → Int → Int → Int → Int → ByteArray → List Int → List ByteArray → Bool → Option (Bool)
  | 0, _, _, _, _, _, _, _, _ => none
  | k + 1, x0, x1, x2, x3, x4, x5, x6, x43 => if x43 = true then ((cornucopialaw1_alive.f k).bind fun t390 => (some t390)) else ((num_Fix.f k x0 x2).bind fun bt391 => ((cornucopiaref1_Fix.f k x0 x2).bind fun bt393 => ((num_Unfix.f k x4 x3 x2).bind fun bt395 => ((cornucopiaref1_Unfix.f k x4 x3 x2).bind fun bt397 => ((num_Number.f k x4).bind fun bt399 => ((cornucopiaref1_Number.f k x4).bind fun bt401 => ((cornucopiabook_LentNums.f x5).bind fun t403 => ((cornucopiabook_LentTexts.f x6).bind fun t406 => (cornucopialaw1_NumTells.l0 k x0 x1 x2 x5 x6 bt391.1 bt391.2 bt393.1 bt393.2 bt395.1 bt395.2 bt397.1 bt397.2 bt399.1 bt399.2 bt401.1 bt401.2 t403 t406 (⟨#[]⟩ : ByteArray) 0)))))))))
def cornucopialaw1_NumTells.l0 : Nat → Int → Int → Int → List Int → List ByteArray → ByteArray → Int → ByteArray → Int → Int → Int → Int → Int → Int → Int → Int → Int → List Int → List ByteArray → ByteArray → Int → Option (Bool)
  | 0, _, _, _, _, _, _, _, _, _, _, _, _, _, _, _, _, _, _, _, _, _ => none
  | k + 1, x0, x1, x2, x5, x6, x15, x16, x17, x18, x19, x20, x21, x22, x23, x24, x25, x26, x27, x28, x29, x30 => if x30 < (x6.length : Int) then (if 0 ≤ x30 then ((cornucopiaref1_Text.f k (rdOf ByteArray.empty x6 x30)).bind fun t410 => (if x29.size + t410.size ≤ 9223372036854775807 then (cornucopialaw1_NumTells.l0 k x0 x1 x2 x5 x6 x15 x16 x17 x18 x19 x20 x21 x22 x23 x24 x25 x26 x27 x28 (x29 ++ t410) (wrap64 (x30 + 1))) else (none))) else (none)) else ((cornucopialaw1_alive.f k).bind fun t411 => (if t411 = true then (if x15.toList = x17.toList then (if x16 = x18 then (if x19 = x21 then (if x20 = x22 then (if x23 = x25 then (if x24 = x26 then ((num_Var.f k x27).bind fun t412 => ((cornucopiaref1_Vars.f k x5).bind fun t413 => (if t412.toList = t413.toList then ((num_Text.f k x28).bind fun t414 => (if t414.toList = x29.toList then ((num_Zig.f x1).bind fun t415 => ((cornucopiaref1_Zig.f x1).bind fun t416 => (if t415 = t416 then ((num_Zag.f x0).bind fun t417 => ((cornucopiaref1_Zag.f x0).bind fun t418 => (if t417 = t418 then ((num_Digits.f x1).bind fun t419 => ((cornucopiaref1_Digits.f k x1).bind fun t420 => (if t419.toList = t420.toList then ((num_Bool.f (decide (x2 > 0))).bind fun t421 => ((cornucopiaref1_Bool.f (decide (x2 > 0))).bind fun t422 => (if t421.toList = t422.toList then ((cornucopiabook_StaysNums.f k x27 x5).bind fun t423 => (if t423 = true then ((cornucopiabook_StaysTexts.f k x28 x6).bind fun t424 => (some t424)) else (none))) else (none)))) else (none)))) else (none)))) else (none)))) else (none))) else (none)))) else (none)) else (none)) else (none)) else (none)) else (none)) else (none)) else (none)))
end
def cornucopialaw1_NumTells.f (k : Nat) (a0 : Int) (a1 : Int) (a2 : Int) (a3 : Int) (a4 : ByteArray) (l5 : List Int) (l6 : List ByteArray) : Option (Bool) := if (a4.size : Int) > 3000 then (cornucopialaw1_NumTells.j0 k a0 a1 a2 a3 a4 l5 l6 true) else (if (l5.length : Int) > 300 then (cornucopialaw1_NumTells.j0 k a0 a1 a2 a3 a4 l5 l6 true) else ((cornucopiabook_Short.f k 100 6000 l6).bind fun t389 => (cornucopialaw1_NumTells.j0 k a0 a1 a2 a3 a4 l5 l6 (!t389))))
theorem cornucopialaw1_NumTells.mono_l : ∀ k, (∀ y0 y1 y2 y3 y4 y5 y6 y7, LeO (cornucopialaw1_NumTells.j0 k y0 y1 y2 y3 y4 y5 y6 y7) (cornucopialaw1_NumTells.j0 (k + 1) y0 y1 y2 y3 y4 y5 y6 y7)) ∧ (∀ y0 y1 y2 y3 y4 y5 y6 y7 y8 y9 y10 y11 y12 y13 y14 y15 y16 y17 y18 y19 y20, LeO (cornucopialaw1_NumTells.l0 k y0 y1 y2 y3 y4 y5 y6 y7 y8 y9 y10 y11 y12 y13 y14 y15 y16 y17 y18 y19 y20) (cornucopialaw1_NumTells.l0 (k + 1) y0 y1 y2 y3 y4 y5 y6 y7 y8 y9 y10 y11 y12 y13 y14 y15 y16 y17 y18 y19 y20))
  | 0 => ⟨fun _ _ _ _ _ _ _ _ r h => by simp [cornucopialaw1_NumTells.j0] at h, fun _ _ _ _ _ _ _ _ _ _ _ _ _ _ _ _ _ _ _ _ _ r h => by simp [cornucopialaw1_NumTells.l0] at h⟩
  | k + 1 => by
    obtain ⟨ih0, ih1⟩ := cornucopialaw1_NumTells.mono_l k
    refine ⟨?_, ?_⟩
    · intro y0 y1 y2 y3 y4 y5 y6 y7
      unfold cornucopialaw1_NumTells.j0
      repeat' first
      | (with_reducible exact ih0 _ _ _ _ _ _ _ _)
      | (with_reducible exact ih1 _ _ _ _ _ _ _ _ _ _ _ _ _ _ _ _ _ _ _ _ _)
      | (with_reducible exact cornucopiabook_Short.mono _ _ _ _)
      | (with_reducible exact cornucopiabook_StaysNums.mono _ _ _)
      | (with_reducible exact cornucopiabook_StaysTexts.mono _ _ _)
      | (with_reducible exact cornucopialaw1_alive.mono _)
      | (with_reducible exact cornucopiaref1_Digits.mono _ _)
      | (with_reducible exact cornucopiaref1_Fix.mono _ _ _)
      | (with_reducible exact cornucopiaref1_Number.mono _ _)
      | (with_reducible exact cornucopiaref1_Text.mono _ _)
      | (with_reducible exact cornucopiaref1_Unfix.mono _ _ _ _)
      | (with_reducible exact cornucopiaref1_Vars.mono _ _)
      | (with_reducible exact num_Fix.mono _ _ _)
      | (with_reducible exact num_Number.mono _ _)
      | (with_reducible exact num_Text.mono _ _)
      | (with_reducible exact num_Unfix.mono _ _ _ _)
      | (with_reducible exact num_Var.mono _ _)
      | (with_reducible exact LeO.refl _)
      | (with_reducible exact LeO.none _)
      | (with_reducible refine LeO.ite ?_ ?_)
      | (with_reducible refine LeO.bind ?_ (fun _ => ?_))
      | exact ih0 _ _ _ _ _ _ _ _
      | exact ih1 _ _ _ _ _ _ _ _ _ _ _ _ _ _ _ _ _ _ _ _ _
      | exact cornucopiabook_Short.mono _ _ _ _
      | exact cornucopiabook_StaysNums.mono _ _ _
      | exact cornucopiabook_StaysTexts.mono _ _ _
      | exact cornucopialaw1_alive.mono _
      | exact cornucopiaref1_Digits.mono _ _
      | exact cornucopiaref1_Fix.mono _ _ _
      | exact cornucopiaref1_Number.mono _ _
      | exact cornucopiaref1_Text.mono _ _
      | exact cornucopiaref1_Unfix.mono _ _ _ _
      | exact cornucopiaref1_Vars.mono _ _
      | exact num_Fix.mono _ _ _
      | exact num_Number.mono _ _
      | exact num_Text.mono _ _
      | exact num_Unfix.mono _ _ _ _
      | exact num_Var.mono _ _
      | exact LeO.none _
      | refine LeO.ite ?_ ?_
      | refine LeO.bind ?_ (fun _ => ?_)
    · intro y0 y1 y2 y3 y4 y5 y6 y7 y8 y9 y10 y11 y12 y13 y14 y15 y16 y17 y18 y19 y20
      unfold cornucopialaw1_NumTells.l0
      repeat' first
      | (with_reducible exact ih0 _ _ _ _ _ _ _ _)
      | (with_reducible exact ih1 _ _ _ _ _ _ _ _ _ _ _ _ _ _ _ _ _ _ _ _ _)
      | (with_reducible exact cornucopiabook_Short.mono _ _ _ _)
      | (with_reducible exact cornucopiabook_StaysNums.mono _ _ _)
      | (with_reducible exact cornucopiabook_StaysTexts.mono _ _ _)
      | (with_reducible exact cornucopialaw1_alive.mono _)
      | (with_reducible exact cornucopiaref1_Digits.mono _ _)
      | (with_reducible exact cornucopiaref1_Fix.mono _ _ _)
      | (with_reducible exact cornucopiaref1_Number.mono _ _)
      | (with_reducible exact cornucopiaref1_Text.mono _ _)
      | (with_reducible exact cornucopiaref1_Unfix.mono _ _ _ _)
      | (with_reducible exact cornucopiaref1_Vars.mono _ _)
      | (with_reducible exact num_Fix.mono _ _ _)
      | (with_reducible exact num_Number.mono _ _)
      | (with_reducible exact num_Text.mono _ _)
      | (with_reducible exact num_Unfix.mono _ _ _ _)
      | (with_reducible exact num_Var.mono _ _)
      | (with_reducible exact LeO.refl _)
      | (with_reducible exact LeO.none _)
      | (with_reducible refine LeO.ite ?_ ?_)
      | (with_reducible refine LeO.bind ?_ (fun _ => ?_))
      | exact ih0 _ _ _ _ _ _ _ _
      | exact ih1 _ _ _ _ _ _ _ _ _ _ _ _ _ _ _ _ _ _ _ _ _
      | exact cornucopiabook_Short.mono _ _ _ _
      | exact cornucopiabook_StaysNums.mono _ _ _
      | exact cornucopiabook_StaysTexts.mono _ _ _
      | exact cornucopialaw1_alive.mono _
      | exact cornucopiaref1_Digits.mono _ _
      | exact cornucopiaref1_Fix.mono _ _ _
      | exact cornucopiaref1_Number.mono _ _
      | exact cornucopiaref1_Text.mono _ _
      | exact cornucopiaref1_Unfix.mono _ _ _ _
      | exact cornucopiaref1_Vars.mono _ _
      | exact num_Fix.mono _ _ _
      | exact num_Number.mono _ _
      | exact num_Text.mono _ _
      | exact num_Unfix.mono _ _ _ _
      | exact num_Var.mono _ _
      | exact LeO.none _
      | refine LeO.ite ?_ ?_
      | refine LeO.bind ?_ (fun _ => ?_)
theorem cornucopialaw1_NumTells.mono : ∀ a0 a1 a2 a3 a4 a5 a6 k, LeO (cornucopialaw1_NumTells.f k a0 a1 a2 a3 a4 a5 a6) (cornucopialaw1_NumTells.f (k + 1) a0 a1 a2 a3 a4 a5 a6) := by
  intro a0 a1 a2 a3 a4 a5 a6 k
  obtain ⟨ih0, ih1⟩ := cornucopialaw1_NumTells.mono_l k
  unfold cornucopialaw1_NumTells.f
  repeat' first
      | (with_reducible exact ih0 _ _ _ _ _ _ _ _)
      | (with_reducible exact ih1 _ _ _ _ _ _ _ _ _ _ _ _ _ _ _ _ _ _ _ _ _)
      | (with_reducible exact cornucopiabook_Short.mono _ _ _ _)
      | (with_reducible exact cornucopiabook_StaysNums.mono _ _ _)
      | (with_reducible exact cornucopiabook_StaysTexts.mono _ _ _)
      | (with_reducible exact cornucopialaw1_alive.mono _)
      | (with_reducible exact cornucopiaref1_Digits.mono _ _)
      | (with_reducible exact cornucopiaref1_Fix.mono _ _ _)
      | (with_reducible exact cornucopiaref1_Number.mono _ _)
      | (with_reducible exact cornucopiaref1_Text.mono _ _)
      | (with_reducible exact cornucopiaref1_Unfix.mono _ _ _ _)
      | (with_reducible exact cornucopiaref1_Vars.mono _ _)
      | (with_reducible exact num_Fix.mono _ _ _)
      | (with_reducible exact num_Number.mono _ _)
      | (with_reducible exact num_Text.mono _ _)
      | (with_reducible exact num_Unfix.mono _ _ _ _)
      | (with_reducible exact num_Var.mono _ _)
      | (with_reducible exact LeO.refl _)
      | (with_reducible exact LeO.none _)
      | (with_reducible refine LeO.ite ?_ ?_)
      | (with_reducible refine LeO.bind ?_ (fun _ => ?_))
      | exact ih0 _ _ _ _ _ _ _ _
      | exact ih1 _ _ _ _ _ _ _ _ _ _ _ _ _ _ _ _ _ _ _ _ _
      | exact cornucopiabook_Short.mono _ _ _ _
      | exact cornucopiabook_StaysNums.mono _ _ _
      | exact cornucopiabook_StaysTexts.mono _ _ _
      | exact cornucopialaw1_alive.mono _
      | exact cornucopiaref1_Digits.mono _ _
      | exact cornucopiaref1_Fix.mono _ _ _
      | exact cornucopiaref1_Number.mono _ _
      | exact cornucopiaref1_Text.mono _ _
      | exact cornucopiaref1_Unfix.mono _ _ _ _
      | exact cornucopiaref1_Vars.mono _ _
      | exact num_Fix.mono _ _ _
      | exact num_Number.mono _ _
      | exact num_Text.mono _ _
      | exact num_Unfix.mono _ _ _ _
      | exact num_Var.mono _ _
      | exact LeO.none _
      | refine LeO.ite ?_ ?_
      | refine LeO.bind ?_ (fun _ => ?_)
set_option maxHeartbeats 8000000 in
set_option maxRecDepth 100000 in
theorem cornucopialaw1_NumTells.calls (k : Nat) (a0 : Int) (a1 : Int) (a2 : Int) (a3 : Int) (a4 : ByteArray) (A5 : Option Addr) (c5 : Nat) (l5 : List Int) (A6 : Option Addr) (c6 : Nat) (l6 : List ByteArray) (r : Bool) (w : World) (hr5 : Kd.C (Kd.int .u64) w A5 l5.length l5) (hc5 : l5.length ≤ c5) (hr6 : Kd.C Kd.string w A6 l6.length l6) (hc6 : l6.length ≤ c6) (h : cornucopialaw1_NumTells.f k a0 a1 a2 a3 a4 l5 l6 = some r) :
    Calls Try.prog 7 #[.int .u64 a0, .int .i64 a1, .int .i64 a2, .int .i64 a3, .string a4, .slice A5 l5.length c5, .slice A6 l6.length c6] w fun e w' => e = .returned (.bool r) ∧ Below w.heap.size w w' := by
  have HR5 := Aside0.mk hr5
  have HC5 := Aside0.mk hc5
  clear hr5 hc5
  have HR6 := Aside0.mk hr6
  have HC6 := Aside0.mk hc6
  clear hr6 hc6
  have HB := Aside0.mk (Below.refl w.heap.size w)
  have H : (if (a4.size : Int) > 3000 then (cornucopialaw1_NumTells.j0 k a0 a1 a2 a3 a4 l5 l6 true) else (if (l5.length : Int) > 300 then (cornucopialaw1_NumTells.j0 k a0 a1 a2 a3 a4 l5 l6 true) else ((cornucopiabook_Short.f k 100 6000 l6).bind fun t389 => (cornucopialaw1_NumTells.j0 k a0 a1 a2 a3 a4 l5 l6 (!t389))))) = some r := h
  clear h
  have HC8 := Aside0.mk H
  clear H
  go_enter Try.func7, Try.ntmps7
  go_upto_region 1 with (fail)
  go_cut [43] (fun v43 wc => ∃ (kq : Nat) (x43_7 : Bool), v43 = .bool x43_7 ∧ Aside0 (cornucopialaw1_NumTells.j0 kq a0 a1 a2 a3 a4 l5 l6 x43_7 = some r) ∧ Aside0 (kq ≤ k) ∧ Aside0 (Below w.heap.size w wc))
  case first =>
    have H := HC8.out
    clear HC8
    by_cases c9 : (a4.size : Int) > 3000
    · rw [if_pos c9] at H
      have c9b0 : decide (3000 < (a4.size : Int)) = true := decide_eq_true c9
      have c9b1 : decide (3000 < a4.size) = true := decide_eq_true (by omega)
      clear c9
      (first | rw [c9b0] | (simp only [i64_w, i32_w]; rw [c9b0]) | skip)
      have H' := Aside0.mk H
      clear H
      go_wp2
      go_meet
      case rel => exact ⟨_, (true), (by first | rfl | (simp; done) | (simp [*]; done)), H', ⟨by first | omega | exact Nat.le_refl _⟩, ⟨by repeat (first | (with_reducible first | exact HB.out | apply below_alloc | apply pw_below_drewN | apply below_drew1) | exact HB.out)⟩⟩
    · rw [if_neg c9] at H
      have c9b0 : decide (3000 < (a4.size : Int)) = false := decide_eq_false c9
      have c9b1 : decide (3000 < a4.size) = false := decide_eq_false (by omega)
      clear c9
      (first | rw [c9b0] | (simp only [i64_w, i32_w]; rw [c9b0]) | skip)
      by_cases c10 : (l5.length : Int) > 300
      · rw [if_pos c10] at H
        have c10b0 : decide (300 < (l5.length : Int)) = true := decide_eq_true c10
        have c10b1 : decide (300 < l5.length) = true := decide_eq_true (by omega)
        clear c10
        have H' := Aside0.mk H
        clear H
        go_wp2
        go_meet
        case rel => exact ⟨_, (true), (by first | rfl | (simp; done) | (simp [*]; done)), H', ⟨by first | omega | exact Nat.le_refl _⟩, ⟨by repeat (first | (with_reducible first | exact HB.out | apply below_alloc | apply pw_below_drewN | apply below_drew1) | exact HB.out)⟩⟩
      · rw [if_neg c10] at H
        have c10b0 : decide (300 < (l5.length : Int)) = false := decide_eq_false c10
        have c10b1 : decide (300 < l5.length) = false := decide_eq_false (by omega)
        clear c10
        replace H := Option.bind_eq_some_iff.mp H
        obtain ⟨t389, A110, H⟩ := H
        replace H : (cornucopialaw1_NumTells.j0 k a0 a1 a2 a3 a4 l5 l6 (!t389)) = some r := H
        have A11 := Aside0.mk A110
        clear A110
        have H' := Aside0.mk H
        clear H
        go_wp2_with (first | (go_at_call 24; (with_reducible refine (cornucopiabook_Short.calls k 100 6000 _ _ l6 t389 _ ?side1 ?side2 A11.out).mono ?_); (case side1 => repeat (first | exact (Kd.C_below HR6.out HB.out) | (with_reducible refine Kd.C_alloc ?_ _) | (with_reducible refine Kd.C_drewN ?_ _) | (with_reducible refine Kd.C_drew ?_))); (case side2 => exact HC6.out); rintro e w12 ⟨rfl, hb⟩; have n0_ := Aside0.mk (below_step (by repeat (first | (with_reducible first | exact HB.out | apply below_alloc | apply pw_below_drewN | apply below_drew1) | exact HB.out)) hb); clear HB; have HB := n0_; clear n0_; (try clear hb); (try clear hb2); (try clear hk); (try clear hi)))
        go_meet
        case rel => exact ⟨_, (!t389), (by first | rfl | (simp; done) | (simp [*]; done)), H', ⟨by first | omega | exact Nat.le_refl _⟩, ⟨by repeat (first | (with_reducible first | exact HB.out | apply below_alloc | apply pw_below_drewN | apply below_drew1) | exact HB.out)⟩⟩
  case rest =>
    clear HC8
    try clear c1
    try clear p2
    try clear c5
    try clear c6
    try clear c7
    try clear c9
    try clear c9b0
    try clear c9b1
    try clear c10
    try clear c10b0
    try clear c10b1
    obtain ⟨kq, x43_7, rfl, HA, HJ7, HB⟩ := hcut
    cases kq with
    | zero => exact absurd HA.out (by simp [cornucopialaw1_NumTells.j0])
    | succ kj7 =>
      have H := HA.out
      clear HA
      simp only [cornucopialaw1_NumTells.j0] at H
      by_cases c13 : x43_7 = true
      · subst c13
        have H1 : ((cornucopialaw1_alive.f kj7).bind fun t390 => (some t390)) = some r := by rw [if_pos rfl] at H; exact H
        clear H
        have H := H1
        clear H1
        replace H := Option.bind_eq_some_iff.mp H
        obtain ⟨t390, A140, H⟩ := H
        replace H : (some t390) = some r := H
        have A14 := Aside0.mk A140
        clear A140
        obtain rfl := Option.some.inj H
        go_wp2_with (first | ((with_reducible refine gate_callee (f := 21) rfl ?_); refine goesL_ (some 44) rfl rfl Try.func21 (by kernel_rfl) rfl #[] rfl (by (try simp only [List.map_toArray, List.map_cons, List.map_nil]); first | done | rfl | (simp only [List.length_drop, List.length_take]; rfl)) ?_; (with_reducible refine (cornucopialaw1_alive.calls kj7  t390 _ A14.out).mono ?_); rintro e w15 ⟨rfl, hb⟩; refine ⟨_, rfl, ?_⟩; have n0_ := Aside0.mk (below_step (by repeat (first | (with_reducible first | exact HB.out | apply below_alloc | apply pw_below_drewN | apply below_drew1) | exact HB.out)) hb); clear HB; have HB := n0_; clear n0_; (try clear hb); (try clear hb2); (try clear hk); (try clear hi)))
        go_ret
        exact ⟨by first | rfl | (simp [errW_none, errW_some] <;> rfl) | (simp [*, errW_none, errW_some] <;> rfl), by repeat (first | (with_reducible first | exact HB.out | apply below_alloc | apply pw_below_drewN | apply below_drew1) | exact HB.out)⟩
      · replace c13 := Bool.eq_false_iff.mpr c13
        subst c13
        have H1 : ((num_Fix.f kj7 a0 a2).bind fun bt391 => ((cornucopiaref1_Fix.f kj7 a0 a2).bind fun bt393 => ((num_Unfix.f kj7 a4 a3 a2).bind fun bt395 => ((cornucopiaref1_Unfix.f kj7 a4 a3 a2).bind fun bt397 => ((num_Number.f kj7 a4).bind fun bt399 => ((cornucopiaref1_Number.f kj7 a4).bind fun bt401 => ((cornucopiabook_LentNums.f l5).bind fun t403 => ((cornucopiabook_LentTexts.f l6).bind fun t406 => (cornucopialaw1_NumTells.l0 kj7 a0 a1 a2 l5 l6 bt391.1 bt391.2 bt393.1 bt393.2 bt395.1 bt395.2 bt397.1 bt397.2 bt399.1 bt399.2 bt401.1 bt401.2 t403 t406 (⟨#[]⟩ : ByteArray) 0))))))))) = some r := by rw [if_neg (show ¬ (false = true) by decide)] at H; exact H
        clear H
        have H := H1
        clear H1
        replace H := Option.bind_eq_some_iff.mp H
        obtain ⟨⟨t391, t392⟩, A160, H⟩ := H
        replace H : ((cornucopiaref1_Fix.f kj7 a0 a2).bind fun bt393 => ((num_Unfix.f kj7 a4 a3 a2).bind fun bt395 => ((cornucopiaref1_Unfix.f kj7 a4 a3 a2).bind fun bt397 => ((num_Number.f kj7 a4).bind fun bt399 => ((cornucopiaref1_Number.f kj7 a4).bind fun bt401 => ((cornucopiabook_LentNums.f l5).bind fun t403 => ((cornucopiabook_LentTexts.f l6).bind fun t406 => (cornucopialaw1_NumTells.l0 kj7 a0 a1 a2 l5 l6 t391 t392 bt393.1 bt393.2 bt395.1 bt395.2 bt397.1 bt397.2 bt399.1 bt399.2 bt401.1 bt401.2 t403 t406 (⟨#[]⟩ : ByteArray) 0)))))))) = some r := H
        have A16 := Aside0.mk A160
        clear A160
        replace H := Option.bind_eq_some_iff.mp H
        obtain ⟨⟨t393, t394⟩, A170, H⟩ := H
        replace H : ((num_Unfix.f kj7 a4 a3 a2).bind fun bt395 => ((cornucopiaref1_Unfix.f kj7 a4 a3 a2).bind fun bt397 => ((num_Number.f kj7 a4).bind fun bt399 => ((cornucopiaref1_Number.f kj7 a4).bind fun bt401 => ((cornucopiabook_LentNums.f l5).bind fun t403 => ((cornucopiabook_LentTexts.f l6).bind fun t406 => (cornucopialaw1_NumTells.l0 kj7 a0 a1 a2 l5 l6 t391 t392 t393 t394 bt395.1 bt395.2 bt397.1 bt397.2 bt399.1 bt399.2 bt401.1 bt401.2 t403 t406 (⟨#[]⟩ : ByteArray) 0))))))) = some r := H
        have A17 := Aside0.mk A170
        clear A170
        replace H := Option.bind_eq_some_iff.mp H
        obtain ⟨⟨t395, t396⟩, A180, H⟩ := H
        replace H : ((cornucopiaref1_Unfix.f kj7 a4 a3 a2).bind fun bt397 => ((num_Number.f kj7 a4).bind fun bt399 => ((cornucopiaref1_Number.f kj7 a4).bind fun bt401 => ((cornucopiabook_LentNums.f l5).bind fun t403 => ((cornucopiabook_LentTexts.f l6).bind fun t406 => (cornucopialaw1_NumTells.l0 kj7 a0 a1 a2 l5 l6 t391 t392 t393 t394 t395 t396 bt397.1 bt397.2 bt399.1 bt399.2 bt401.1 bt401.2 t403 t406 (⟨#[]⟩ : ByteArray) 0)))))) = some r := H
        have A18 := Aside0.mk A180
        clear A180
        replace H := Option.bind_eq_some_iff.mp H
        obtain ⟨⟨t397, t398⟩, A190, H⟩ := H
        replace H : ((num_Number.f kj7 a4).bind fun bt399 => ((cornucopiaref1_Number.f kj7 a4).bind fun bt401 => ((cornucopiabook_LentNums.f l5).bind fun t403 => ((cornucopiabook_LentTexts.f l6).bind fun t406 => (cornucopialaw1_NumTells.l0 kj7 a0 a1 a2 l5 l6 t391 t392 t393 t394 t395 t396 t397 t398 bt399.1 bt399.2 bt401.1 bt401.2 t403 t406 (⟨#[]⟩ : ByteArray) 0))))) = some r := H
        have A19 := Aside0.mk A190
        clear A190
        replace H := Option.bind_eq_some_iff.mp H
        obtain ⟨⟨t399, t400⟩, A200, H⟩ := H
        replace H : ((cornucopiaref1_Number.f kj7 a4).bind fun bt401 => ((cornucopiabook_LentNums.f l5).bind fun t403 => ((cornucopiabook_LentTexts.f l6).bind fun t406 => (cornucopialaw1_NumTells.l0 kj7 a0 a1 a2 l5 l6 t391 t392 t393 t394 t395 t396 t397 t398 t399 t400 bt401.1 bt401.2 t403 t406 (⟨#[]⟩ : ByteArray) 0)))) = some r := H
        have A20 := Aside0.mk A200
        clear A200
        replace H := Option.bind_eq_some_iff.mp H
        obtain ⟨⟨t401, t402⟩, A210, H⟩ := H
        replace H : ((cornucopiabook_LentNums.f l5).bind fun t403 => ((cornucopiabook_LentTexts.f l6).bind fun t406 => (cornucopialaw1_NumTells.l0 kj7 a0 a1 a2 l5 l6 t391 t392 t393 t394 t395 t396 t397 t398 t399 t400 t401 t402 t403 t406 (⟨#[]⟩ : ByteArray) 0))) = some r := H
        have A21 := Aside0.mk A210
        clear A210
        replace H := Option.bind_eq_some_iff.mp H
        obtain ⟨t403, A220, H⟩ := H
        replace H : ((cornucopiabook_LentTexts.f l6).bind fun t406 => (cornucopialaw1_NumTells.l0 kj7 a0 a1 a2 l5 l6 t391 t392 t393 t394 t395 t396 t397 t398 t399 t400 t401 t402 t403 t406 (⟨#[]⟩ : ByteArray) 0)) = some r := H
        have A22 := Aside0.mk A220
        clear A220
        replace H := Option.bind_eq_some_iff.mp H
        obtain ⟨t406, A230, H⟩ := H
        replace H : (cornucopialaw1_NumTells.l0 kj7 a0 a1 a2 l5 l6 t391 t392 t393 t394 t395 t396 t397 t398 t399 t400 t401 t402 t403 t406 (⟨#[]⟩ : ByteArray) 0) = some r := H
        have A23 := Aside0.mk A230
        clear A230
        have H' := Aside0.mk H
        clear H
        go_wp2_with (first | ((with_reducible refine gate_callee (f := 20) rfl ?_); refine goesL_ (some 48) rfl rfl Try.func20 (by kernel_rfl) rfl #[.int .u64 a0, .int .i64 a2] rfl (by (try simp only [List.map_toArray, List.map_cons, List.map_nil]); first | done | rfl | (simp only [List.length_drop, List.length_take]; rfl)) ?_; (with_reducible refine (num_Fix.calls kj7 a0 a2 t391 t392 _ A16.out).mono ?_); rintro e w24 ⟨rfl, hb⟩; refine ⟨_, rfl, ?_⟩; have n0_ := Aside0.mk (below_step (by repeat (first | (with_reducible first | exact HB.out | apply below_alloc | apply pw_below_drewN | apply below_drew1) | exact HB.out)) hb); clear HB; have HB := n0_; clear n0_; (try clear hb); (try clear hb2); (try clear hk); (try clear hi)) | ((with_reducible refine gate_callee (f := 25) rfl ?_); refine goesL_ (some 54) rfl rfl Try.func25 (by kernel_rfl) rfl #[.int .u64 a0, .int .i64 a2] rfl (by (try simp only [List.map_toArray, List.map_cons, List.map_nil]); first | done | rfl | (simp only [List.length_drop, List.length_take]; rfl)) ?_; (with_reducible refine (cornucopiaref1_Fix.calls kj7 a0 a2 t393 t394 _ A17.out).mono ?_); rintro e w25 ⟨rfl, hb⟩; refine ⟨_, rfl, ?_⟩; have n0_ := Aside0.mk (below_step (by repeat (first | (with_reducible first | exact HB.out | apply below_alloc | apply pw_below_drewN | apply below_drew1) | exact HB.out)) hb); clear HB; have HB := n0_; clear n0_; (try clear hb); (try clear hb2); (try clear hk); (try clear hi)) | ((with_reducible refine gate_callee (f := 26) rfl ?_); refine goesL_ (some 61) rfl rfl Try.func26 (by kernel_rfl) rfl #[.string a4, .int .i64 a3, .int .i64 a2] rfl (by (try simp only [List.map_toArray, List.map_cons, List.map_nil]); first | done | rfl | (simp only [List.length_drop, List.length_take]; rfl)) ?_; (with_reducible refine (num_Unfix.calls kj7 a4 a3 a2 t395 t396 _ A18.out).mono ?_); rintro e w' ⟨rfl, ⟨nd, rfl⟩⟩; refine ⟨_, rfl, ?_⟩) | ((with_reducible refine gate_callee (f := 27) rfl ?_); refine goesL_ (some 68) rfl rfl Try.func27 (by kernel_rfl) rfl #[.string a4, .int .i64 a3, .int .i64 a2] rfl (by (try simp only [List.map_toArray, List.map_cons, List.map_nil]); first | done | rfl | (simp only [List.length_drop, List.length_take]; rfl)) ?_; (with_reducible refine (cornucopiaref1_Unfix.calls kj7 a4 a3 a2 t397 t398 _ A19.out).mono ?_); rintro e w' ⟨rfl, ⟨nd, rfl⟩⟩; refine ⟨_, rfl, ?_⟩) | ((with_reducible refine gate_callee (f := 22) rfl ?_); refine goesL_ (some 73) rfl rfl Try.func22 (by kernel_rfl) rfl #[.string a4] rfl (by (try simp only [List.map_toArray, List.map_cons, List.map_nil]); first | done | rfl | (simp only [List.length_drop, List.length_take]; rfl)) ?_; (with_reducible refine (num_Number.calls kj7 a4 t399 t400 _ A20.out).mono ?_); rintro e w' ⟨rfl, ⟨nd, rfl⟩⟩; refine ⟨_, rfl, ?_⟩) | ((with_reducible refine gate_callee (f := 28) rfl ?_); refine goesL_ (some 78) rfl rfl Try.func28 (by kernel_rfl) rfl #[.string a4] rfl (by (try simp only [List.map_toArray, List.map_cons, List.map_nil]); first | done | rfl | (simp only [List.length_drop, List.length_take]; rfl)) ?_; (with_reducible refine (cornucopiaref1_Number.calls kj7 a4 t401 t402 _ A21.out).mono ?_); rintro e w' ⟨rfl, ⟨nd, rfl⟩⟩; refine ⟨_, rfl, ?_⟩) | ((with_reducible refine gate_callee (f := 29) rfl ?_); refine goesL_ (some 82) rfl rfl Try.func29 (by kernel_rfl) rfl #[.slice A5 l5.length c5] rfl (by (try simp only [List.map_toArray, List.map_cons, List.map_nil]); first | done | rfl | (simp only [List.length_drop, List.length_take]; rfl)) ?_; (with_reducible refine (cornucopiabook_LentNums.calls _ _ l5 t403 _ ?side1 ?side2 A22.out).mono ?_); (case side1 => repeat (first | exact (Kd.C_below HR5.out (by repeat (first | (with_reducible first | exact HB.out | apply below_alloc | apply pw_below_drewN | apply below_drew1) | exact HB.out))) | (with_reducible refine Kd.C_alloc ?_ _) | (with_reducible refine Kd.C_drewN ?_ _) | (with_reducible refine Kd.C_drew ?_))); (case side2 => exact HC5.out); rintro e w26 ⟨v404, rfl, ho0, hb⟩; refine ⟨_, rfl, ?_⟩; have n0_ := Aside0.mk (Lent.R_lower ho0 (below_size (by repeat (first | (with_reducible first | exact HB.out | apply below_alloc | apply pw_below_drewN | apply below_drew1) | exact HB.out)))); have n1_ := Aside0.mk (below_step (by repeat (first | (with_reducible first | exact HB.out | apply below_alloc | apply pw_below_drewN | apply below_drew1) | exact HB.out)) hb); clear HB; have HO405 := n0_; have HB := n1_; clear n0_ n1_; (try clear hb); (try clear hb2); (try clear hk); (try clear hi); (try clear ho0)) | ((with_reducible refine gate_callee (f := 30) rfl ?_); refine goesL_ (some 84) rfl rfl Try.func30 (by kernel_rfl) rfl #[.slice A6 l6.length c6] rfl (by (try simp only [List.map_toArray, List.map_cons, List.map_nil]); first | done | rfl | (simp only [List.length_drop, List.length_take]; rfl)) ?_; (with_reducible refine (cornucopiabook_LentTexts.calls _ _ l6 t406 _ ?side1 ?side2 A23.out).mono ?_); (case side1 => repeat (first | exact (Kd.C_below HR6.out HB.out) | (with_reducible refine Kd.C_alloc ?_ _) | (with_reducible refine Kd.C_drewN ?_ _) | (with_reducible refine Kd.C_drew ?_))); (case side2 => exact HC6.out); rintro e w27 ⟨v407, rfl, ho0, hb⟩; refine ⟨_, rfl, ?_⟩; have n0_ := Aside0.mk (Lent.R_below (by (with_reducible repeat (first | apply Lent.R_alloc | apply Lent.R_drewN | apply Lent.R_drew)); exact HO405.out) hb); have n1_ := Aside0.mk (Lent.R_lower ho0 (below_size (by repeat (first | (with_reducible first | exact HB.out | apply below_alloc | apply pw_below_drewN | apply below_drew1) | exact HB.out)))); have n2_ := Aside0.mk (below_step (by repeat (first | (with_reducible first | exact HB.out | apply below_alloc | apply pw_below_drewN | apply below_drew1) | exact HB.out)) hb); clear HO405; clear HB; have HO405 := n0_; have HO408 := n1_; have HB := n2_; clear n0_ n1_ n2_; (try clear hb); (try clear hb2); (try clear hk); (try clear hi); (try clear ho0)))
        go_loopg [29, 30] kj7 (fun kq v29 v30 w' => ∃ (x29_2 : ByteArray) (x30_2 : Int), v29 = .string x29_2 ∧ v30 = .int .i64 x30_2 ∧ Aside0 (cornucopialaw1_NumTells.l0 kq a0 a1 a2 l5 l6 t391 t392 t393 t394 t395 t396 t397 t398 t399 t400 t401 t402 t403 t406 x29_2 x30_2 = some r) ∧ Aside0 (kq ≤ kj7) ∧ Aside0 (Lent.RM (Kd.int .u64) (77 : Int) 24 w' w.heap.size (fun _ => True) v404 t403) ∧ Aside0 (Lent.RM Kd.string (⟨#[109, 97, 114, 107]⟩ : ByteArray) 9 w' w.heap.size (fun _ => True) v407 t406) ∧ Aside0 (Below w.heap.size w w'))
        case atStart => exact ⟨((⟨#[]⟩ : ByteArray)), (0), (by first | rfl | (simp; done) | (simp [*]; done)), (by first | rfl | (simp; done) | (simp [*]; done)), H', ⟨Nat.le_refl _⟩, ⟨by (with_reducible repeat (first | apply Lent.R_alloc | apply Lent.R_drewN | apply Lent.R_drew)); exact HO405.out⟩, ⟨by (with_reducible repeat (first | apply Lent.R_alloc | apply Lent.R_drewN | apply Lent.R_drew)); exact HO408.out⟩, ⟨by repeat (first | (with_reducible first | exact HB.out | apply below_alloc | apply pw_below_drewN | apply below_drew1) | exact HB.out)⟩⟩
        case round =>
          clear H'
          try clear c1
          try clear c2
          try clear p2
          try clear c3
          try clear c5
          try clear c6
          try clear c7
          try clear c9
          try clear c9b0
          try clear c9b1
          try clear c10
          try clear c10b0
          try clear c10b1
          try clear c13
          try clear c20
          try clear c21
          try clear c22
          try clear c25
          try clear c26
          try clear c27
          try clear p2
          obtain ⟨x29_2, x30_2, rfl, rfl, HA, HK2, HO_27, HO_28, HB⟩ := hrel
          cases gk with
          | zero => exact absurd HA.out (by simp [cornucopialaw1_NumTells.l0])
          | succ k2 =>
            have H := HA.out
            clear HA
            simp only [cornucopialaw1_NumTells.l0] at H
            by_cases c28 : x30_2 < (l6.length : Int)
            · rw [if_pos c28] at H
              have c28b0 : decide (x30_2 < (l6.length : Int)) = true := decide_eq_true c28
              clear c28
              by_cases c29 : 0 ≤ x30_2
              · rw [if_pos c29] at H
                have c29b0 : decide (0 ≤ x30_2) = true := decide_eq_true c29
                clear c29
                replace H := Option.bind_eq_some_iff.mp H
                obtain ⟨t410, A300, H⟩ := H
                replace H : (if x29_2.size + t410.size ≤ 9223372036854775807 then (cornucopialaw1_NumTells.l0 k2 a0 a1 a2 l5 l6 t391 t392 t393 t394 t395 t396 t397 t398 t399 t400 t401 t402 t403 t406 (x29_2 ++ t410) (wrap64 (x30_2 + 1))) else (none)) = some r := H
                have A30 := Aside0.mk A300
                clear A300
                by_cases c31 : x29_2.size + t410.size ≤ 9223372036854775807
                · rw [if_pos c31] at H
                  have c31b0 := eq_true c31
                  have c31b1 : decide (x29_2.size + t410.size ≤ 9223372036854775807) = true := decide_eq_true c31
                  try have c31b2 : (9223372036854775807 < x29_2.size + t410.size) = False := eq_false (Nat.not_lt.2 c31)
                  clear c31
                  have H' := Aside0.mk H
                  clear H
                  have p409 : 0 ≤ (x30_2 : Int) := of_decide_eq_true (by first | (with_reducible assumption) | assumption)
                  have q409 : x30_2 < (l6.length : Int) := of_decide_eq_true (by first | (with_reducible assumption) | assumption)
                  obtain ⟨ad409, e409, hx409_0⟩ := Kd.at_string HR6.out x30_2 p409 q409
                  cases e409
                  replace hx409_0 := (HB.out.cell (World.block_lt_of_cell? w _ hx409_0)).trans hx409_0
                  replace p409 := eq_true p409
                  replace q409 := eq_true q409
                  go_wp2_with (first | ((with_reducible refine gate_callee (f := 31) rfl ?_); refine goesL_ (some 96) rfl rfl Try.func31 (by kernel_rfl) rfl #[.string (rdOf ByteArray.empty l6 x30_2)] rfl (by (try simp only [List.map_toArray, List.map_cons, List.map_nil]); first | done | rfl | (simp only [List.length_drop, List.length_take]; rfl)) ?_; (with_reducible refine (cornucopiaref1_Text.calls k2 (rdOf ByteArray.empty l6 x30_2) t410 _ A30.out).mono ?_); rintro e w32 ⟨rfl, hb⟩; refine ⟨_, rfl, ?_⟩; have n0_ := Aside0.mk (Lent.R_below (by (with_reducible repeat (first | apply Lent.R_alloc | apply Lent.R_drewN | apply Lent.R_drew)); exact HO_27.out) hb); have n1_ := Aside0.mk (Lent.R_below (by (with_reducible repeat (first | apply Lent.R_alloc | apply Lent.R_drewN | apply Lent.R_drew)); exact HO_28.out) hb); have n2_ := Aside0.mk (below_step (by repeat (first | (with_reducible first | exact HB.out | apply below_alloc | apply pw_below_drewN | apply below_drew1) | exact HB.out)) hb); clear HO_27; clear HO_28; clear HB; have HO_27 := n0_; have HO_28 := n1_; have HB := n2_; clear n0_ n1_ n2_; (try clear hb); (try clear hb2); (try clear hk); (try clear hi)))
                  go_roundg k2
                  case measure => have := HJ7.out; have := HK2.out; omega
                  case rel => exact ⟨(x29_2 ++ t410), (wrap64 (x30_2 + 1)), (by first | rfl | (simp; done) | (simp [*]; done)), (by first | rfl | (simp; done) | (simp [*]; done)), H', ⟨by have := HJ7.out; have := HK2.out; omega⟩, ⟨by (with_reducible repeat (first | apply Lent.R_alloc | apply Lent.R_drewN | apply Lent.R_drew)); exact HO_27.out⟩, ⟨by (with_reducible repeat (first | apply Lent.R_alloc | apply Lent.R_drewN | apply Lent.R_drew)); exact HO_28.out⟩, ⟨by repeat (first | (with_reducible first | exact HB.out | apply below_alloc | apply pw_below_drewN | apply below_drew1) | exact HB.out)⟩⟩
                · rw [if_neg c31] at H
                  exact absurd H (by simp)
              · rw [if_neg c29] at H
                exact absurd H (by simp)
            · rw [if_neg c28] at H
              have c28b0 : decide (x30_2 < (l6.length : Int)) = false := decide_eq_false c28
              clear c28
              replace H := Option.bind_eq_some_iff.mp H
              obtain ⟨t411, A330, H⟩ := H
              replace H : (if t411 = true then (if t391.toList = t393.toList then (if t392 = t394 then (if t395 = t397 then (if t396 = t398 then (if t399 = t401 then (if t400 = t402 then ((num_Var.f k2 t403).bind fun t412 => ((cornucopiaref1_Vars.f k2 l5).bind fun t413 => (if t412.toList = t413.toList then ((num_Text.f k2 t406).bind fun t414 => (if t414.toList = x29_2.toList then ((num_Zig.f a1).bind fun t415 => ((cornucopiaref1_Zig.f a1).bind fun t416 => (if t415 = t416 then ((num_Zag.f a0).bind fun t417 => ((cornucopiaref1_Zag.f a0).bind fun t418 => (if t417 = t418 then ((num_Digits.f a1).bind fun t419 => ((cornucopiaref1_Digits.f k2 a1).bind fun t420 => (if t419.toList = t420.toList then ((num_Bool.f (decide (a2 > 0))).bind fun t421 => ((cornucopiaref1_Bool.f (decide (a2 > 0))).bind fun t422 => (if t421.toList = t422.toList then ((cornucopiabook_StaysNums.f k2 t403 l5).bind fun t423 => (if t423 = true then ((cornucopiabook_StaysTexts.f k2 t406 l6).bind fun t424 => (some t424)) else (none))) else (none)))) else (none)))) else (none)))) else (none)))) else (none))) else (none)))) else (none)) else (none)) else (none)) else (none)) else (none)) else (none)) else (none)) = some r := H
              have A33 := Aside0.mk A330
              clear A330
              by_cases c34 : t411 = true
              · subst c34
                have H1 : (if t391.toList = t393.toList then (if t392 = t394 then (if t395 = t397 then (if t396 = t398 then (if t399 = t401 then (if t400 = t402 then ((num_Var.f k2 t403).bind fun t412 => ((cornucopiaref1_Vars.f k2 l5).bind fun t413 => (if t412.toList = t413.toList then ((num_Text.f k2 t406).bind fun t414 => (if t414.toList = x29_2.toList then ((num_Zig.f a1).bind fun t415 => ((cornucopiaref1_Zig.f a1).bind fun t416 => (if t415 = t416 then ((num_Zag.f a0).bind fun t417 => ((cornucopiaref1_Zag.f a0).bind fun t418 => (if t417 = t418 then ((num_Digits.f a1).bind fun t419 => ((cornucopiaref1_Digits.f k2 a1).bind fun t420 => (if t419.toList = t420.toList then ((num_Bool.f (decide (a2 > 0))).bind fun t421 => ((cornucopiaref1_Bool.f (decide (a2 > 0))).bind fun t422 => (if t421.toList = t422.toList then ((cornucopiabook_StaysNums.f k2 t403 l5).bind fun t423 => (if t423 = true then ((cornucopiabook_StaysTexts.f k2 t406 l6).bind fun t424 => (some t424)) else (none))) else (none)))) else (none)))) else (none)))) else (none)))) else (none))) else (none)))) else (none)) else (none)) else (none)) else (none)) else (none)) else (none)) = some r := by rw [if_pos rfl] at H; exact H
                clear H
                have H := H1
                clear H1
                by_cases c35 : t391.toList = t393.toList
                · rw [if_pos c35] at H
                  have c35b0 : (t391.toList == t393.toList) = true := beq_iff_eq.mpr c35
                  have c35b1 : (t391.toList != t393.toList) = false := bne_eq_false_iff_eq.mpr c35
                  clear c35
                  by_cases c36 : t392 = t394
                  · rw [if_pos c36] at H
                    have c36b0 : (t392 == t394) = true := beq_iff_eq.mpr c36
                    have c36b1 : (t392 != t394) = false := bne_eq_false_iff_eq.mpr c36
                    clear c36
                    by_cases c37 : t395 = t397
                    · rw [if_pos c37] at H
                      have c37b0 : (t395 == t397) = true := beq_iff_eq.mpr c37
                      have c37b1 : (t395 != t397) = false := bne_eq_false_iff_eq.mpr c37
                      clear c37
                      by_cases c38 : t396 = t398
                      · rw [if_pos c38] at H
                        have c38b0 : (t396 == t398) = true := beq_iff_eq.mpr c38
                        have c38b1 : (t396 != t398) = false := bne_eq_false_iff_eq.mpr c38
                        clear c38
                        by_cases c39 : t399 = t401
                        · rw [if_pos c39] at H
                          have c39b0 : (t399 == t401) = true := beq_iff_eq.mpr c39
                          have c39b1 : (t399 != t401) = false := bne_eq_false_iff_eq.mpr c39
                          clear c39
                          by_cases c40 : t400 = t402
                          · rw [if_pos c40] at H
                            have c40b0 : (t400 == t402) = true := beq_iff_eq.mpr c40
                            have c40b1 : (t400 != t402) = false := bne_eq_false_iff_eq.mpr c40
                            clear c40
                            replace H := Option.bind_eq_some_iff.mp H
                            obtain ⟨t412, A410, H⟩ := H
                            replace H : ((cornucopiaref1_Vars.f k2 l5).bind fun t413 => (if t412.toList = t413.toList then ((num_Text.f k2 t406).bind fun t414 => (if t414.toList = x29_2.toList then ((num_Zig.f a1).bind fun t415 => ((cornucopiaref1_Zig.f a1).bind fun t416 => (if t415 = t416 then ((num_Zag.f a0).bind fun t417 => ((cornucopiaref1_Zag.f a0).bind fun t418 => (if t417 = t418 then ((num_Digits.f a1).bind fun t419 => ((cornucopiaref1_Digits.f k2 a1).bind fun t420 => (if t419.toList = t420.toList then ((num_Bool.f (decide (a2 > 0))).bind fun t421 => ((cornucopiaref1_Bool.f (decide (a2 > 0))).bind fun t422 => (if t421.toList = t422.toList then ((cornucopiabook_StaysNums.f k2 t403 l5).bind fun t423 => (if t423 = true then ((cornucopiabook_StaysTexts.f k2 t406 l6).bind fun t424 => (some t424)) else (none))) else (none)))) else (none)))) else (none)))) else (none)))) else (none))) else (none))) = some r := H
                            have A41 := Aside0.mk A410
                            clear A410
                            replace H := Option.bind_eq_some_iff.mp H
                            obtain ⟨t413, A420, H⟩ := H
                            replace H : (if t412.toList = t413.toList then ((num_Text.f k2 t406).bind fun t414 => (if t414.toList = x29_2.toList then ((num_Zig.f a1).bind fun t415 => ((cornucopiaref1_Zig.f a1).bind fun t416 => (if t415 = t416 then ((num_Zag.f a0).bind fun t417 => ((cornucopiaref1_Zag.f a0).bind fun t418 => (if t417 = t418 then ((num_Digits.f a1).bind fun t419 => ((cornucopiaref1_Digits.f k2 a1).bind fun t420 => (if t419.toList = t420.toList then ((num_Bool.f (decide (a2 > 0))).bind fun t421 => ((cornucopiaref1_Bool.f (decide (a2 > 0))).bind fun t422 => (if t421.toList = t422.toList then ((cornucopiabook_StaysNums.f k2 t403 l5).bind fun t423 => (if t423 = true then ((cornucopiabook_StaysTexts.f k2 t406 l6).bind fun t424 => (some t424)) else (none))) else (none)))) else (none)))) else (none)))) else (none)))) else (none))) else (none)) = some r := H
                            have A42 := Aside0.mk A420
                            clear A420
                            by_cases c43 : t412.toList = t413.toList
                            · rw [if_pos c43] at H
                              have c43b0 : (t412.toList == t413.toList) = true := beq_iff_eq.mpr c43
                              have c43b1 : (t412.toList != t413.toList) = false := bne_eq_false_iff_eq.mpr c43
                              clear c43
                              replace H := Option.bind_eq_some_iff.mp H
                              obtain ⟨t414, A440, H⟩ := H
                              replace H : (if t414.toList = x29_2.toList then ((num_Zig.f a1).bind fun t415 => ((cornucopiaref1_Zig.f a1).bind fun t416 => (if t415 = t416 then ((num_Zag.f a0).bind fun t417 => ((cornucopiaref1_Zag.f a0).bind fun t418 => (if t417 = t418 then ((num_Digits.f a1).bind fun t419 => ((cornucopiaref1_Digits.f k2 a1).bind fun t420 => (if t419.toList = t420.toList then ((num_Bool.f (decide (a2 > 0))).bind fun t421 => ((cornucopiaref1_Bool.f (decide (a2 > 0))).bind fun t422 => (if t421.toList = t422.toList then ((cornucopiabook_StaysNums.f k2 t403 l5).bind fun t423 => (if t423 = true then ((cornucopiabook_StaysTexts.f k2 t406 l6).bind fun t424 => (some t424)) else (none))) else (none)))) else (none)))) else (none)))) else (none)))) else (none)) = some r := H
                              have A44 := Aside0.mk A440
                              clear A440
                              by_cases c45 : t414.toList = x29_2.toList
                              · rw [if_pos c45] at H
                                have c45b0 : (t414.toList == x29_2.toList) = true := beq_iff_eq.mpr c45
                                have c45b1 : (t414.toList != x29_2.toList) = false := bne_eq_false_iff_eq.mpr c45
                                clear c45
                                replace H := Option.bind_eq_some_iff.mp H
                                obtain ⟨t415, A460, H⟩ := H
                                replace H : ((cornucopiaref1_Zig.f a1).bind fun t416 => (if t415 = t416 then ((num_Zag.f a0).bind fun t417 => ((cornucopiaref1_Zag.f a0).bind fun t418 => (if t417 = t418 then ((num_Digits.f a1).bind fun t419 => ((cornucopiaref1_Digits.f k2 a1).bind fun t420 => (if t419.toList = t420.toList then ((num_Bool.f (decide (a2 > 0))).bind fun t421 => ((cornucopiaref1_Bool.f (decide (a2 > 0))).bind fun t422 => (if t421.toList = t422.toList then ((cornucopiabook_StaysNums.f k2 t403 l5).bind fun t423 => (if t423 = true then ((cornucopiabook_StaysTexts.f k2 t406 l6).bind fun t424 => (some t424)) else (none))) else (none)))) else (none)))) else (none)))) else (none))) = some r := H
                                have A46 := Aside0.mk A460
                                clear A460
                                replace H := Option.bind_eq_some_iff.mp H
                                obtain ⟨t416, A470, H⟩ := H
                                replace H : (if t415 = t416 then ((num_Zag.f a0).bind fun t417 => ((cornucopiaref1_Zag.f a0).bind fun t418 => (if t417 = t418 then ((num_Digits.f a1).bind fun t419 => ((cornucopiaref1_Digits.f k2 a1).bind fun t420 => (if t419.toList = t420.toList then ((num_Bool.f (decide (a2 > 0))).bind fun t421 => ((cornucopiaref1_Bool.f (decide (a2 > 0))).bind fun t422 => (if t421.toList = t422.toList then ((cornucopiabook_StaysNums.f k2 t403 l5).bind fun t423 => (if t423 = true then ((cornucopiabook_StaysTexts.f k2 t406 l6).bind fun t424 => (some t424)) else (none))) else (none)))) else (none)))) else (none)))) else (none)) = some r := H
                                have A47 := Aside0.mk A470
                                clear A470
                                by_cases c48 : t415 = t416
                                · rw [if_pos c48] at H
                                  have c48b0 : (t415 == t416) = true := beq_iff_eq.mpr c48
                                  have c48b1 : (t415 != t416) = false := bne_eq_false_iff_eq.mpr c48
                                  clear c48
                                  replace H := Option.bind_eq_some_iff.mp H
                                  obtain ⟨t417, A490, H⟩ := H
                                  replace H : ((cornucopiaref1_Zag.f a0).bind fun t418 => (if t417 = t418 then ((num_Digits.f a1).bind fun t419 => ((cornucopiaref1_Digits.f k2 a1).bind fun t420 => (if t419.toList = t420.toList then ((num_Bool.f (decide (a2 > 0))).bind fun t421 => ((cornucopiaref1_Bool.f (decide (a2 > 0))).bind fun t422 => (if t421.toList = t422.toList then ((cornucopiabook_StaysNums.f k2 t403 l5).bind fun t423 => (if t423 = true then ((cornucopiabook_StaysTexts.f k2 t406 l6).bind fun t424 => (some t424)) else (none))) else (none)))) else (none)))) else (none))) = some r := H
                                  have A49 := Aside0.mk A490
                                  clear A490
                                  replace H := Option.bind_eq_some_iff.mp H
                                  obtain ⟨t418, A500, H⟩ := H
                                  replace H : (if t417 = t418 then ((num_Digits.f a1).bind fun t419 => ((cornucopiaref1_Digits.f k2 a1).bind fun t420 => (if t419.toList = t420.toList then ((num_Bool.f (decide (a2 > 0))).bind fun t421 => ((cornucopiaref1_Bool.f (decide (a2 > 0))).bind fun t422 => (if t421.toList = t422.toList then ((cornucopiabook_StaysNums.f k2 t403 l5).bind fun t423 => (if t423 = true then ((cornucopiabook_StaysTexts.f k2 t406 l6).bind fun t424 => (some t424)) else (none))) else (none)))) else (none)))) else (none)) = some r := H
                                  have A50 := Aside0.mk A500
                                  clear A500
                                  by_cases c51 : t417 = t418
                                  · rw [if_pos c51] at H
                                    have c51b0 : (t417 == t418) = true := beq_iff_eq.mpr c51
                                    have c51b1 : (t417 != t418) = false := bne_eq_false_iff_eq.mpr c51
                                    clear c51
                                    replace H := Option.bind_eq_some_iff.mp H
                                    obtain ⟨t419, A520, H⟩ := H
                                    replace H : ((cornucopiaref1_Digits.f k2 a1).bind fun t420 => (if t419.toList = t420.toList then ((num_Bool.f (decide (a2 > 0))).bind fun t421 => ((cornucopiaref1_Bool.f (decide (a2 > 0))).bind fun t422 => (if t421.toList = t422.toList then ((cornucopiabook_StaysNums.f k2 t403 l5).bind fun t423 => (if t423 = true then ((cornucopiabook_StaysTexts.f k2 t406 l6).bind fun t424 => (some t424)) else (none))) else (none)))) else (none))) = some r := H
                                    have A52 := Aside0.mk A520
                                    clear A520
                                    replace H := Option.bind_eq_some_iff.mp H
                                    obtain ⟨t420, A530, H⟩ := H
                                    replace H : (if t419.toList = t420.toList then ((num_Bool.f (decide (a2 > 0))).bind fun t421 => ((cornucopiaref1_Bool.f (decide (a2 > 0))).bind fun t422 => (if t421.toList = t422.toList then ((cornucopiabook_StaysNums.f k2 t403 l5).bind fun t423 => (if t423 = true then ((cornucopiabook_StaysTexts.f k2 t406 l6).bind fun t424 => (some t424)) else (none))) else (none)))) else (none)) = some r := H
                                    have A53 := Aside0.mk A530
                                    clear A530
                                    by_cases c54 : t419.toList = t420.toList
                                    · rw [if_pos c54] at H
                                      have c54b0 : (t419.toList == t420.toList) = true := beq_iff_eq.mpr c54
                                      have c54b1 : (t419.toList != t420.toList) = false := bne_eq_false_iff_eq.mpr c54
                                      clear c54
                                      replace H := Option.bind_eq_some_iff.mp H
                                      obtain ⟨t421, A550, H⟩ := H
                                      replace H : ((cornucopiaref1_Bool.f (decide (a2 > 0))).bind fun t422 => (if t421.toList = t422.toList then ((cornucopiabook_StaysNums.f k2 t403 l5).bind fun t423 => (if t423 = true then ((cornucopiabook_StaysTexts.f k2 t406 l6).bind fun t424 => (some t424)) else (none))) else (none))) = some r := H
                                      have A55 := Aside0.mk A550
                                      clear A550
                                      replace H := Option.bind_eq_some_iff.mp H
                                      obtain ⟨t422, A560, H⟩ := H
                                      replace H : (if t421.toList = t422.toList then ((cornucopiabook_StaysNums.f k2 t403 l5).bind fun t423 => (if t423 = true then ((cornucopiabook_StaysTexts.f k2 t406 l6).bind fun t424 => (some t424)) else (none))) else (none)) = some r := H
                                      have A56 := Aside0.mk A560
                                      clear A560
                                      by_cases c57 : t421.toList = t422.toList
                                      · rw [if_pos c57] at H
                                        have c57b0 : (t421.toList == t422.toList) = true := beq_iff_eq.mpr c57
                                        have c57b1 : (t421.toList != t422.toList) = false := bne_eq_false_iff_eq.mpr c57
                                        clear c57
                                        replace H := Option.bind_eq_some_iff.mp H
                                        obtain ⟨t423, A580, H⟩ := H
                                        replace H : (if t423 = true then ((cornucopiabook_StaysTexts.f k2 t406 l6).bind fun t424 => (some t424)) else (none)) = some r := H
                                        have A58 := Aside0.mk A580
                                        clear A580
                                        by_cases c59 : t423 = true
                                        · subst c59
                                          have H1 : ((cornucopiabook_StaysTexts.f k2 t406 l6).bind fun t424 => (some t424)) = some r := by rw [if_pos rfl] at H; exact H
                                          clear H
                                          have H := H1
                                          clear H1
                                          replace H := Option.bind_eq_some_iff.mp H
                                          obtain ⟨t424, A600, H⟩ := H
                                          replace H : (some t424) = some r := H
                                          have A60 := Aside0.mk A600
                                          clear A600
                                          obtain rfl := Option.some.inj H
                                          go_wp2_with (first | (go_at_call 21; (with_reducible refine (cornucopialaw1_alive.calls k2  true _ A33.out).mono ?_); rintro e w61 ⟨rfl, hb⟩; have n0_ := Aside0.mk (Lent.R_below (by (with_reducible repeat (first | apply Lent.R_alloc | apply Lent.R_drewN | apply Lent.R_drew)); exact HO_27.out) hb); have n1_ := Aside0.mk (Lent.R_below (by (with_reducible repeat (first | apply Lent.R_alloc | apply Lent.R_drewN | apply Lent.R_drew)); exact HO_28.out) hb); have n2_ := Aside0.mk (below_step (by repeat (first | (with_reducible first | exact HB.out | apply below_alloc | apply pw_below_drewN | apply below_drew1) | exact HB.out)) hb); clear HO_27; clear HO_28; clear HB; have HO_27 := n0_; have HO_28 := n1_; have HB := n2_; clear n0_ n1_ n2_; (try clear hb); (try clear hb2); (try clear hk); (try clear hi); obtain ⟨Ao62, co62, eo62⟩ := Lent.R_slice HO_27.out; subst eo62) | (go_at_call 19; (with_reducible refine (num_Var.calls k2 _ _ t403 t412 _ ?side1 ?side2 A41.out).mono ?_); (case side1 => repeat (first | exact (Lent.R_reads' HO_27.out).2.2 | (with_reducible refine Kd.C_alloc ?_ _) | (with_reducible refine Kd.C_drewN ?_ _) | (with_reducible refine Kd.C_drew ?_))); (case side2 => exact (Lent.R_reads' HO_27.out).2.1); rintro e w63 ⟨rfl, hb⟩; have n0_ := Aside0.mk (Lent.R_below (by (with_reducible repeat (first | apply Lent.R_alloc | apply Lent.R_drewN | apply Lent.R_drew)); exact HO_27.out) hb); have n1_ := Aside0.mk (Lent.R_below (by (with_reducible repeat (first | apply Lent.R_alloc | apply Lent.R_drewN | apply Lent.R_drew)); exact HO_28.out) hb); have n2_ := Aside0.mk (below_step (by repeat (first | (with_reducible first | exact HB.out | apply below_alloc | apply pw_below_drewN | apply below_drew1) | exact HB.out)) hb); clear HO_27; clear HO_28; clear HB; have HO_27 := n0_; have HO_28 := n1_; have HB := n2_; clear n0_ n1_ n2_; (try clear hb); (try clear hb2); (try clear hk); (try clear hi)) | (go_at_call 32; (with_reducible refine (cornucopiaref1_Vars.calls k2 _ _ l5 t413 _ ?side1 ?side2 A42.out).mono ?_); (case side1 => repeat (first | exact (Kd.C_below HR5.out HB.out) | (with_reducible refine Kd.C_alloc ?_ _) | (with_reducible refine Kd.C_drewN ?_ _) | (with_reducible refine Kd.C_drew ?_))); (case side2 => exact HC5.out); rintro e w64 ⟨rfl, hb⟩; have n0_ := Aside0.mk (Lent.R_below (by (with_reducible repeat (first | apply Lent.R_alloc | apply Lent.R_drewN | apply Lent.R_drew)); exact HO_27.out) hb); have n1_ := Aside0.mk (Lent.R_below (by (with_reducible repeat (first | apply Lent.R_alloc | apply Lent.R_drewN | apply Lent.R_drew)); exact HO_28.out) hb); have n2_ := Aside0.mk (below_step (by repeat (first | (with_reducible first | exact HB.out | apply below_alloc | apply pw_below_drewN | apply below_drew1) | exact HB.out)) hb); clear HO_27; clear HO_28; clear HB; have HO_27 := n0_; have HO_28 := n1_; have HB := n2_; clear n0_ n1_ n2_; (try clear hb); (try clear hb2); (try clear hk); (try clear hi); obtain ⟨Ao65, co65, eo65⟩ := Lent.R_slice HO_28.out; subst eo65) | (go_at_call 33; (with_reducible refine (num_Text.calls k2 _ _ t406 t414 _ ?side1 ?side2 A44.out).mono ?_); (case side1 => repeat (first | exact (Lent.R_reads' HO_28.out).2.2 | (with_reducible refine Kd.C_alloc ?_ _) | (with_reducible refine Kd.C_drewN ?_ _) | (with_reducible refine Kd.C_drew ?_))); (case side2 => exact (Lent.R_reads' HO_28.out).2.1); rintro e w66 ⟨rfl, hb⟩; have n0_ := Aside0.mk (Lent.R_below (by (with_reducible repeat (first | apply Lent.R_alloc | apply Lent.R_drewN | apply Lent.R_drew)); exact HO_27.out) hb); have n1_ := Aside0.mk (Lent.R_below (by (with_reducible repeat (first | apply Lent.R_alloc | apply Lent.R_drewN | apply Lent.R_drew)); exact HO_28.out) hb); have n2_ := Aside0.mk (below_step (by repeat (first | (with_reducible first | exact HB.out | apply below_alloc | apply pw_below_drewN | apply below_drew1) | exact HB.out)) hb); clear HO_27; clear HO_28; clear HB; have HO_27 := n0_; have HO_28 := n1_; have HB := n2_; clear n0_ n1_ n2_; (try clear hb); (try clear hb2); (try clear hk); (try clear hi)) | (go_at_call 34; (with_reducible refine (num_Zig.calls a1 t415 _ A46.out).mono ?_); rintro e w' ⟨rfl, ⟨nd, rfl⟩⟩) | (go_at_call 35; (with_reducible refine (cornucopiaref1_Zig.calls a1 t416 _ A47.out).mono ?_); rintro e w' ⟨rfl, ⟨nd, rfl⟩⟩) | (go_at_call 36; (with_reducible refine (num_Zag.calls a0 t417 _ A49.out).mono ?_); rintro e w' ⟨rfl, ⟨nd, rfl⟩⟩) | (go_at_call 37; (with_reducible refine (cornucopiaref1_Zag.calls a0 t418 _ A50.out).mono ?_); rintro e w' ⟨rfl, ⟨nd, rfl⟩⟩) | (go_at_call 23; (with_reducible refine (num_Digits.calls a1 t419 _ A52.out).mono ?_); rintro e w67 ⟨rfl, hb⟩; have n0_ := Aside0.mk (Lent.R_below (by (with_reducible repeat (first | apply Lent.R_alloc | apply Lent.R_drewN | apply Lent.R_drew)); exact HO_27.out) hb); have n1_ := Aside0.mk (Lent.R_below (by (with_reducible repeat (first | apply Lent.R_alloc | apply Lent.R_drewN | apply Lent.R_drew)); exact HO_28.out) hb); have n2_ := Aside0.mk (below_step (by repeat (first | (with_reducible first | exact HB.out | apply below_alloc | apply pw_below_drewN | apply below_drew1) | exact HB.out)) hb); clear HO_27; clear HO_28; clear HB; have HO_27 := n0_; have HO_28 := n1_; have HB := n2_; clear n0_ n1_ n2_; (try clear hb); (try clear hb2); (try clear hk); (try clear hi)) | (go_at_call 38; (with_reducible refine (cornucopiaref1_Digits.calls k2 a1 t420 _ A53.out).mono ?_); rintro e w68 ⟨rfl, hb⟩; have n0_ := Aside0.mk (Lent.R_below (by (with_reducible repeat (first | apply Lent.R_alloc | apply Lent.R_drewN | apply Lent.R_drew)); exact HO_27.out) hb); have n1_ := Aside0.mk (Lent.R_below (by (with_reducible repeat (first | apply Lent.R_alloc | apply Lent.R_drewN | apply Lent.R_drew)); exact HO_28.out) hb); have n2_ := Aside0.mk (below_step (by repeat (first | (with_reducible first | exact HB.out | apply below_alloc | apply pw_below_drewN | apply below_drew1) | exact HB.out)) hb); clear HO_27; clear HO_28; clear HB; have HO_27 := n0_; have HO_28 := n1_; have HB := n2_; clear n0_ n1_ n2_; (try clear hb); (try clear hb2); (try clear hk); (try clear hi)) | (go_at_call 39; (with_reducible refine (num_Bool.calls (decide (a2 > 0)) t421 _ A55.out).mono ?_); rintro e w' ⟨rfl, ⟨nd, rfl⟩⟩) | (go_at_call 40; (with_reducible refine (cornucopiaref1_Bool.calls (decide (a2 > 0)) t422 _ A56.out).mono ?_); rintro e w' ⟨rfl, ⟨nd, rfl⟩⟩) | (go_at_call 41; (with_reducible refine (cornucopiabook_StaysNums.calls k2 _ _ t403 _ _ l5 true _ ?side1 ?side2 ?side3 ?side4 A58.out).mono ?_); (case side1 => repeat (first | exact (Lent.R_mark HO_27.out).2 | (with_reducible refine Lent.C_alloc ?_ _) | (with_reducible refine Lent.C_drewN ?_ _) | (with_reducible refine Lent.C_drew ?_))); (case side2 => exact (Lent.R_mark HO_27.out).1); (case side3 => repeat (first | exact (Kd.C_below HR5.out (by repeat (first | (with_reducible first | exact HB.out | apply below_alloc | apply pw_below_drewN | apply below_drew1) | exact HB.out))) | (with_reducible refine Kd.C_alloc ?_ _) | (with_reducible refine Kd.C_drewN ?_ _) | (with_reducible refine Kd.C_drew ?_))); (case side4 => exact HC5.out); rintro e w' ⟨rfl, ⟨nd, rfl⟩⟩) | (go_at_call 42; (with_reducible refine (cornucopiabook_StaysTexts.calls k2 _ _ t406 _ _ l6 t424 _ ?side1 ?side2 ?side3 ?side4 A60.out).mono ?_); (case side1 => repeat (first | exact (Lent.R_mark HO_28.out).2 | (with_reducible refine Lent.C_alloc ?_ _) | (with_reducible refine Lent.C_drewN ?_ _) | (with_reducible refine Lent.C_drew ?_))); (case side2 => exact (Lent.R_mark HO_28.out).1); (case side3 => repeat (first | exact (Kd.C_below HR6.out (by repeat (first | (with_reducible first | exact HB.out | apply below_alloc | apply pw_below_drewN | apply below_drew1) | exact HB.out))) | (with_reducible refine Kd.C_alloc ?_ _) | (with_reducible refine Kd.C_drewN ?_ _) | (with_reducible refine Kd.C_drew ?_))); (case side4 => exact HC6.out); rintro e w' ⟨rfl, ⟨nd, rfl⟩⟩))
                                          go_ret
                                          exact ⟨by first | rfl | (simp [errW_none, errW_some] <;> rfl) | (simp [*, errW_none, errW_some] <;> rfl), by repeat (first | (with_reducible first | exact HB.out | apply below_alloc | apply pw_below_drewN | apply below_drew1) | exact HB.out)⟩
                                        · replace c59 := Bool.eq_false_iff.mpr c59
                                          subst c59
                                          have H1 : (none) = some r := by rw [if_neg (show ¬ (false = true) by decide)] at H; exact H
                                          clear H
                                          have H := H1
                                          clear H1
                                          exact absurd H (by simp)
                                      · rw [if_neg c57] at H
                                        exact absurd H (by simp)
                                    · rw [if_neg c54] at H
                                      exact absurd H (by simp)
                                  · rw [if_neg c51] at H
                                    exact absurd H (by simp)
                                · rw [if_neg c48] at H
                                  exact absurd H (by simp)
                              · rw [if_neg c45] at H
                                exact absurd H (by simp)
                            · rw [if_neg c43] at H
                              exact absurd H (by simp)
                          · rw [if_neg c40] at H
                            exact absurd H (by simp)
                        · rw [if_neg c39] at H
                          exact absurd H (by simp)
                      · rw [if_neg c38] at H
                        exact absurd H (by simp)
                    · rw [if_neg c37] at H
                      exact absurd H (by simp)
                  · rw [if_neg c36] at H
                    exact absurd H (by simp)
                · rw [if_neg c35] at H
                  exact absurd H (by simp)
              · replace c34 := Bool.eq_false_iff.mpr c34
                subst c34
                have H1 : (none) = some r := by rw [if_neg (show ¬ (false = true) by decide)] at H; exact H
                clear H
                have H := H1
                clear H1
                exact absurd H (by simp)

/-- THE ONE PURE STATEMENT of cornucopialaw1_NumTells. -/
def cornucopialaw1_NumTells.Pure : Prop := ∀ (a0 : Int) (a1 : Int) (a2 : Int) (a3 : Int) (a4 : ByteArray) (l5 : List Int) (l6 : List ByteArray), (Lit.int .u64 a0).wf = true → (Lit.int .i64 a1).wf = true → (Lit.int .i64 a2).wf = true → (Lit.int .i64 a3).wf = true → a4.size ≤ 140737488351232 → l5.length * 8 ≤ 140737488351232 → (∀ x_ ∈ l5, (Lit.int .u64 x_).wf = true) → l6.length * 16 ≤ 140737488351232 → (∀ x_ ∈ l6, x_.size ≤ 140737488351232) → ∃ k, cornucopialaw1_NumTells.f k a0 a1 a2 a3 a4 l5 l6 = some true
theorem cornucopialaw1_NumTells.walk (P : cornucopialaw1_NumTells.Pure) (a0 : Int) (a1 : Int) (a2 : Int) (a3 : Int) (a4 : ByteArray) (A5 : Option Addr) (c5 : Nat) (l5 : List Int) (A6 : Option Addr) (c6 : Nat) (l6 : List ByteArray) (w : World) (w0_0 : (Lit.int .u64 a0).wf = true) (w1_0 : (Lit.int .i64 a1).wf = true) (w2_0 : (Lit.int .i64 a2).wf = true) (w3_0 : (Lit.int .i64 a3).wf = true) (w4_0 : a4.size ≤ 140737488351232) (hr5 : Kd.C (Kd.int .u64) w A5 l5.length l5) (hc5 : l5.length ≤ c5) (w5_0 : l5.length * 8 ≤ 140737488351232) (w5_1 : (∀ x_ ∈ l5, (Lit.int .u64 x_).wf = true)) (hr6 : Kd.C Kd.string w A6 l6.length l6) (hc6 : l6.length ≤ c6) (w6_0 : l6.length * 16 ≤ 140737488351232) (w6_1 : (∀ x_ ∈ l6, x_.size ≤ 140737488351232)) :
    Calls Try.prog 7 #[.int .u64 a0, .int .i64 a1, .int .i64 a2, .int .i64 a3, .string a4, .slice A5 l5.length c5, .slice A6 l6.length c6] w fun e w' => e = .returned (.bool true) ∧ Below w.heap.size w w' := by
  obtain ⟨k, h⟩ := P a0 a1 a2 a3 a4 l5 l6 w0_0 w1_0 w2_0 w3_0 w4_0 w5_0 w5_1 w6_0 w6_1
  refine (cornucopialaw1_NumTells.calls k a0 a1 a2 a3 a4 _ _ l5 _ _ l6 true w hr5 hc5 hr6 hc6 h).mono ?_
  rintro e w' ⟨rfl, hd⟩
  exact ⟨rfl, hd⟩

end Go.Proofs.Ytkpjipfjhniddaa.PNum
