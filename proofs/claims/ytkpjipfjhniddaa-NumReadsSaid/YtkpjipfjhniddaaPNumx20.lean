/- A walk, written by a program of this session out of the translation (a printed Lean function, and that the Go code comes to its answer). Lean checks it. -/
import Derived.Test.YtkpjipfjhniddaaPNumx0
import Derived.Test.YtkpjipfjhniddaaPNumx7
namespace Go.Proofs.Ytkpjipfjhniddaa.PNum
open Go.RowKit Go.Proofs.YtkpjipfjhniddaaW.PrintWords Go.Proofs.YtkpjipfjhniddaaW.PrintLast Go.Proofs.YtkpjipfjhniddaaW.PrintMore
attribute [local go_sem] max2_int min2_int max_two min_two max_three min_three max_four min_four   -- for this text's walks alone
set_option linter.unusedVariables false
set_option linter.unusedSimpArgs false

/-! ### cornucopialaw1_NumNone: function 10 -/
def cornucopialaw1_NumNone.f (k : Nat) (a0 : Int) : Option (Bool) := (NilR.Fail.f 4).bind fun _ => ((cornucopialaw1_alive.f k).bind fun t278 => (if t278 = true then ((NilR.Var.f).bind fun t279 => ((NilR.Fix.f a0).bind fun t280 => (if (IntKind.u64.wrap (t279 + t280)) = 0 then ((NilR.Int.f).bind fun t281 => ((NilR.Count.f a0).bind fun t282 => ((NilR.Left.f).bind fun t283 => (if (wrap64 ((wrap64 (t281 + t282)) + t283)) = 0 then ((NilR.Text.f a0).bind fun t284 => (if t284.toList = ([] : List UInt8) then ((NilR.Bool.f).bind fun t285 => (if t285 = true then (none) else ((NilR.Err.f).bind fun t286 => (if t286 = 1 then ((NilR.End.f).bind fun t287 => (some (t287 == 1))) else (none))))) else (none))) else (none))))) else (none)))) else (none)))
theorem cornucopialaw1_NumNone.mono : ∀ a0 k, LeO (cornucopialaw1_NumNone.f k a0) (cornucopialaw1_NumNone.f (k + 1) a0) := by
  intro a0 k
  unfold cornucopialaw1_NumNone.f
  repeat' first
      | (with_reducible exact cornucopialaw1_alive.mono _)
      | (with_reducible exact LeO.refl _)
      | (with_reducible exact LeO.none _)
      | (with_reducible refine LeO.ite ?_ ?_)
      | (with_reducible refine LeO.bind ?_ (fun _ => ?_))
      | exact cornucopialaw1_alive.mono _
      | exact LeO.none _
      | refine LeO.ite ?_ ?_
      | refine LeO.bind ?_ (fun _ => ?_)
set_option maxHeartbeats 8000000 in
set_option maxRecDepth 100000 in
theorem cornucopialaw1_NumNone.calls (k : Nat) (a0 : Int) (r : Bool) (w : World) (h : cornucopialaw1_NumNone.f k a0 = some r) :
    Calls Try.prog 10 #[.int .i64 a0] w fun e w' => e = .returned (.bool r) ∧ Below w.heap.size w w' := by
  have HB := Aside0.mk (Below.refl w.heap.size w)
  have H : ((NilR.Fail.f 4).bind fun _ => ((cornucopialaw1_alive.f k).bind fun t278 => (if t278 = true then ((NilR.Var.f).bind fun t279 => ((NilR.Fix.f a0).bind fun t280 => (if (IntKind.u64.wrap (t279 + t280)) = 0 then ((NilR.Int.f).bind fun t281 => ((NilR.Count.f a0).bind fun t282 => ((NilR.Left.f).bind fun t283 => (if (wrap64 ((wrap64 (t281 + t282)) + t283)) = 0 then ((NilR.Text.f a0).bind fun t284 => (if t284.toList = ([] : List UInt8) then ((NilR.Bool.f).bind fun t285 => (if t285 = true then (none) else ((NilR.Err.f).bind fun t286 => (if t286 = 1 then ((NilR.End.f).bind fun t287 => (some (t287 == 1))) else (none))))) else (none))) else (none))))) else (none)))) else (none)))) = some r := h
  clear h
  replace H := Option.bind_eq_some_iff.mp H
  obtain ⟨_, A20, H⟩ := H
  replace H : ((cornucopialaw1_alive.f k).bind fun t278 => (if t278 = true then ((NilR.Var.f).bind fun t279 => ((NilR.Fix.f a0).bind fun t280 => (if (IntKind.u64.wrap (t279 + t280)) = 0 then ((NilR.Int.f).bind fun t281 => ((NilR.Count.f a0).bind fun t282 => ((NilR.Left.f).bind fun t283 => (if (wrap64 ((wrap64 (t281 + t282)) + t283)) = 0 then ((NilR.Text.f a0).bind fun t284 => (if t284.toList = ([] : List UInt8) then ((NilR.Bool.f).bind fun t285 => (if t285 = true then (none) else ((NilR.Err.f).bind fun t286 => (if t286 = 1 then ((NilR.End.f).bind fun t287 => (some (t287 == 1))) else (none))))) else (none))) else (none))))) else (none)))) else (none))) = some r := H
  have A2 := Aside0.mk A20
  clear A20
  replace H := Option.bind_eq_some_iff.mp H
  obtain ⟨t278, A30, H⟩ := H
  replace H : (if t278 = true then ((NilR.Var.f).bind fun t279 => ((NilR.Fix.f a0).bind fun t280 => (if (IntKind.u64.wrap (t279 + t280)) = 0 then ((NilR.Int.f).bind fun t281 => ((NilR.Count.f a0).bind fun t282 => ((NilR.Left.f).bind fun t283 => (if (wrap64 ((wrap64 (t281 + t282)) + t283)) = 0 then ((NilR.Text.f a0).bind fun t284 => (if t284.toList = ([] : List UInt8) then ((NilR.Bool.f).bind fun t285 => (if t285 = true then (none) else ((NilR.Err.f).bind fun t286 => (if t286 = 1 then ((NilR.End.f).bind fun t287 => (some (t287 == 1))) else (none))))) else (none))) else (none))))) else (none)))) else (none)) = some r := H
  have A3 := Aside0.mk A30
  clear A30
  by_cases c4 : t278 = true
  · subst c4
    have H1 : ((NilR.Var.f).bind fun t279 => ((NilR.Fix.f a0).bind fun t280 => (if (IntKind.u64.wrap (t279 + t280)) = 0 then ((NilR.Int.f).bind fun t281 => ((NilR.Count.f a0).bind fun t282 => ((NilR.Left.f).bind fun t283 => (if (wrap64 ((wrap64 (t281 + t282)) + t283)) = 0 then ((NilR.Text.f a0).bind fun t284 => (if t284.toList = ([] : List UInt8) then ((NilR.Bool.f).bind fun t285 => (if t285 = true then (none) else ((NilR.Err.f).bind fun t286 => (if t286 = 1 then ((NilR.End.f).bind fun t287 => (some (t287 == 1))) else (none))))) else (none))) else (none))))) else (none)))) = some r := by rw [if_pos rfl] at H; exact H
    clear H
    have H := H1
    clear H1
    replace H := Option.bind_eq_some_iff.mp H
    obtain ⟨t279, A50, H⟩ := H
    replace H : ((NilR.Fix.f a0).bind fun t280 => (if (IntKind.u64.wrap (t279 + t280)) = 0 then ((NilR.Int.f).bind fun t281 => ((NilR.Count.f a0).bind fun t282 => ((NilR.Left.f).bind fun t283 => (if (wrap64 ((wrap64 (t281 + t282)) + t283)) = 0 then ((NilR.Text.f a0).bind fun t284 => (if t284.toList = ([] : List UInt8) then ((NilR.Bool.f).bind fun t285 => (if t285 = true then (none) else ((NilR.Err.f).bind fun t286 => (if t286 = 1 then ((NilR.End.f).bind fun t287 => (some (t287 == 1))) else (none))))) else (none))) else (none))))) else (none))) = some r := H
    have A5 := Aside0.mk A50
    clear A50
    replace H := Option.bind_eq_some_iff.mp H
    obtain ⟨t280, A60, H⟩ := H
    replace H : (if (IntKind.u64.wrap (t279 + t280)) = 0 then ((NilR.Int.f).bind fun t281 => ((NilR.Count.f a0).bind fun t282 => ((NilR.Left.f).bind fun t283 => (if (wrap64 ((wrap64 (t281 + t282)) + t283)) = 0 then ((NilR.Text.f a0).bind fun t284 => (if t284.toList = ([] : List UInt8) then ((NilR.Bool.f).bind fun t285 => (if t285 = true then (none) else ((NilR.Err.f).bind fun t286 => (if t286 = 1 then ((NilR.End.f).bind fun t287 => (some (t287 == 1))) else (none))))) else (none))) else (none))))) else (none)) = some r := H
    have A6 := Aside0.mk A60
    clear A60
    by_cases c7 : (IntKind.u64.wrap (t279 + t280)) = 0
    · rw [if_pos c7] at H
      have c7b0 : ((IntKind.u64.wrap (t279 + t280)) == 0) = true := beq_iff_eq.mpr c7
      have c7b1 : ((IntKind.u64.wrap (t279 + t280)) != 0) = false := bne_eq_false_iff_eq.mpr c7
      clear c7
      replace H := Option.bind_eq_some_iff.mp H
      obtain ⟨t281, A80, H⟩ := H
      replace H : ((NilR.Count.f a0).bind fun t282 => ((NilR.Left.f).bind fun t283 => (if (wrap64 ((wrap64 (t281 + t282)) + t283)) = 0 then ((NilR.Text.f a0).bind fun t284 => (if t284.toList = ([] : List UInt8) then ((NilR.Bool.f).bind fun t285 => (if t285 = true then (none) else ((NilR.Err.f).bind fun t286 => (if t286 = 1 then ((NilR.End.f).bind fun t287 => (some (t287 == 1))) else (none))))) else (none))) else (none)))) = some r := H
      have A8 := Aside0.mk A80
      clear A80
      replace H := Option.bind_eq_some_iff.mp H
      obtain ⟨t282, A90, H⟩ := H
      replace H : ((NilR.Left.f).bind fun t283 => (if (wrap64 ((wrap64 (t281 + t282)) + t283)) = 0 then ((NilR.Text.f a0).bind fun t284 => (if t284.toList = ([] : List UInt8) then ((NilR.Bool.f).bind fun t285 => (if t285 = true then (none) else ((NilR.Err.f).bind fun t286 => (if t286 = 1 then ((NilR.End.f).bind fun t287 => (some (t287 == 1))) else (none))))) else (none))) else (none))) = some r := H
      have A9 := Aside0.mk A90
      clear A90
      replace H := Option.bind_eq_some_iff.mp H
      obtain ⟨t283, A100, H⟩ := H
      replace H : (if (wrap64 ((wrap64 (t281 + t282)) + t283)) = 0 then ((NilR.Text.f a0).bind fun t284 => (if t284.toList = ([] : List UInt8) then ((NilR.Bool.f).bind fun t285 => (if t285 = true then (none) else ((NilR.Err.f).bind fun t286 => (if t286 = 1 then ((NilR.End.f).bind fun t287 => (some (t287 == 1))) else (none))))) else (none))) else (none)) = some r := H
      have A10 := Aside0.mk A100
      clear A100
      by_cases c11 : (wrap64 ((wrap64 (t281 + t282)) + t283)) = 0
      · rw [if_pos c11] at H
        have c11b0 : ((wrap64 ((wrap64 (t281 + t282)) + t283)) == 0) = true := beq_iff_eq.mpr c11
        have c11b1 : ((wrap64 ((wrap64 (t281 + t282)) + t283)) != 0) = false := bne_eq_false_iff_eq.mpr c11
        clear c11
        replace H := Option.bind_eq_some_iff.mp H
        obtain ⟨t284, A120, H⟩ := H
        replace H : (if t284.toList = ([] : List UInt8) then ((NilR.Bool.f).bind fun t285 => (if t285 = true then (none) else ((NilR.Err.f).bind fun t286 => (if t286 = 1 then ((NilR.End.f).bind fun t287 => (some (t287 == 1))) else (none))))) else (none)) = some r := H
        have A12 := Aside0.mk A120
        clear A120
        by_cases c13 : t284.toList = ([] : List UInt8)
        · rw [if_pos c13] at H
          have c13b0 : (t284.toList == ([] : List UInt8)) = true := beq_iff_eq.mpr c13
          have c13b1 : (t284.toList != ([] : List UInt8)) = false := bne_eq_false_iff_eq.mpr c13
          clear c13
          replace H := Option.bind_eq_some_iff.mp H
          obtain ⟨t285, A140, H⟩ := H
          replace H : (if t285 = true then (none) else ((NilR.Err.f).bind fun t286 => (if t286 = 1 then ((NilR.End.f).bind fun t287 => (some (t287 == 1))) else (none)))) = some r := H
          have A14 := Aside0.mk A140
          clear A140
          by_cases c15 : t285 = true
          · subst c15
            have H1 : (none) = some r := by rw [if_pos rfl] at H; exact H
            clear H
            have H := H1
            clear H1
            exact absurd H (by simp)
          · replace c15 := Bool.eq_false_iff.mpr c15
            subst c15
            have H1 : ((NilR.Err.f).bind fun t286 => (if t286 = 1 then ((NilR.End.f).bind fun t287 => (some (t287 == 1))) else (none))) = some r := by rw [if_neg (show ¬ (false = true) by decide)] at H; exact H
            clear H
            have H := H1
            clear H1
            replace H := Option.bind_eq_some_iff.mp H
            obtain ⟨t286, A160, H⟩ := H
            replace H : (if t286 = 1 then ((NilR.End.f).bind fun t287 => (some (t287 == 1))) else (none)) = some r := H
            have A16 := Aside0.mk A160
            clear A160
            by_cases c17 : t286 = 1
            · rw [if_pos c17] at H
              have c17b0 : (t286 == 1) = true := beq_iff_eq.mpr c17
              have c17b1 : (t286 != 1) = false := bne_eq_false_iff_eq.mpr c17
              clear c17
              replace H := Option.bind_eq_some_iff.mp H
              obtain ⟨t287, A180, H⟩ := H
              replace H : (some (t287 == 1)) = some r := H
              have A18 := Aside0.mk A180
              clear A180
              obtain rfl := Option.some.inj H
              go_enter Try.func10, Try.ntmps10
              go_wp2_with (first | ((with_reducible refine gate_callee (f := 47) rfl ?_); refine goesL_ (some 5) rfl rfl Try.func47 (by kernel_rfl) rfl #[.pointer none, .int .i64 4] rfl (by (try simp only [List.map_toArray, List.map_cons, List.map_nil]); first | done | rfl | (simp only [List.length_drop, List.length_take]; rfl)) ?_; (with_reducible refine (NilR.Fail.calls  4  _ A2.out).mono ?_); rintro e w' ⟨rfl, ⟨nd, rfl⟩⟩; refine ⟨_, rfl, ?_⟩) | ((with_reducible refine gate_callee (f := 21) rfl ?_); refine goesL_ (some 6) rfl rfl Try.func21 (by kernel_rfl) rfl #[] rfl (by (try simp only [List.map_toArray, List.map_cons, List.map_nil]); first | done | rfl | (simp only [List.length_drop, List.length_take]; rfl)) ?_; (with_reducible refine (cornucopialaw1_alive.calls k  true _ A3.out).mono ?_); rintro e w19 ⟨rfl, hb⟩; refine ⟨_, rfl, ?_⟩; have n0_ := Aside0.mk (below_step (by repeat (first | (with_reducible first | exact HB.out | apply below_alloc | apply pw_below_drewN | apply below_drew1) | exact HB.out)) hb); clear HB; have HB := n0_; clear n0_; (try clear hb); (try clear hb2); (try clear hk); (try clear hi)) | (go_at_call 48; (with_reducible refine (NilR.Var.calls  t279 _ A5.out).mono ?_); rintro e w' ⟨rfl, ⟨nd, rfl⟩⟩) | (go_at_call 51; (with_reducible refine (NilR.Fix.calls  a0 t280 _ A6.out).mono ?_); rintro e w' ⟨rfl, ⟨nd, rfl⟩⟩) | (go_at_call 54; (with_reducible refine (NilR.Int.calls  t281 _ A8.out).mono ?_); rintro e w' ⟨rfl, ⟨nd, rfl⟩⟩) | (go_at_call 44; (with_reducible refine (NilR.Count.calls  a0 t282 _ A9.out).mono ?_); rintro e w' ⟨rfl, ⟨nd, rfl⟩⟩) | (go_at_call 46; (with_reducible refine (NilR.Left.calls  t283 _ A10.out).mono ?_); rintro e w' ⟨rfl, ⟨nd, rfl⟩⟩) | (go_at_call 49; (with_reducible refine (NilR.Text.calls  a0 t284 _ A12.out).mono ?_); rintro e w' ⟨rfl, ⟨nd, rfl⟩⟩) | (go_at_call 50; (with_reducible refine (NilR.Bool.calls  false _ A14.out).mono ?_); rintro e w' ⟨rfl, ⟨nd, rfl⟩⟩) | (go_at_call 45; (with_reducible refine (NilR.Err.calls  t286 _ A16.out).mono ?_); rintro e w' ⟨rfl, ⟨nd, rfl⟩⟩) | (go_at_call 52; (with_reducible refine (NilR.End.calls  t287 _ A18.out).mono ?_); rintro e w' ⟨rfl, ⟨nd, rfl⟩⟩))
              go_ret
              exact ⟨by first | rfl | (simp [errW_none, errW_some] <;> rfl) | (simp [*, errW_none, errW_some] <;> rfl), by repeat (first | (with_reducible first | exact HB.out | apply below_alloc | apply pw_below_drewN | apply below_drew1) | exact HB.out)⟩
            · rw [if_neg c17] at H
              exact absurd H (by simp)
        · rw [if_neg c13] at H
          exact absurd H (by simp)
      · rw [if_neg c11] at H
        exact absurd H (by simp)
    · rw [if_neg c7] at H
      exact absurd H (by simp)
  · replace c4 := Bool.eq_false_iff.mpr c4
    subst c4
    have H1 : (none) = some r := by rw [if_neg (show ¬ (false = true) by decide)] at H; exact H
    clear H
    have H := H1
    clear H1
    exact absurd H (by simp)

/-- THE ONE PURE STATEMENT of cornucopialaw1_NumNone. -/
def cornucopialaw1_NumNone.Pure : Prop := ∀ (a0 : Int), (Lit.int .i64 a0).wf = true → ∃ k, cornucopialaw1_NumNone.f k a0 = some true
theorem cornucopialaw1_NumNone.walk (P : cornucopialaw1_NumNone.Pure) (a0 : Int) (w : World) (w0_0 : (Lit.int .i64 a0).wf = true) :
    Calls Try.prog 10 #[.int .i64 a0] w fun e w' => e = .returned (.bool true) ∧ Below w.heap.size w w' := by
  obtain ⟨k, h⟩ := P a0 w0_0
  refine (cornucopialaw1_NumNone.calls k a0 true w h).mono ?_
  rintro e w' ⟨rfl, hd⟩
  exact ⟨rfl, hd⟩

/-! ### cornucopiabook_Room: function 65 -/
def cornucopiabook_Room.l0 : Nat → Int → List Int → Int → Option (Int)
  | 0, _, _, _ => none
  | k + 1, x0, x1, x5 => if x5 < (x1.length : Int) then (if x0 < 0 then (some (-1)) else (if 0 ≤ x5 then (if (rd x1 x5) > x0 then (some (-1)) else (cornucopiabook_Room.l0 k (wrap64 (x0 - (rd x1 x5))) x1 (wrap64 (x5 + 1)))) else (none))) else (some x0)
def cornucopiabook_Room.f (k : Nat) (a0 : Int) (l1 : List Int) : Option (Int) := cornucopiabook_Room.l0 k a0 l1 0
theorem cornucopiabook_Room.mono_l : ∀ k, (∀ y0 y1 y2, LeO (cornucopiabook_Room.l0 k y0 y1 y2) (cornucopiabook_Room.l0 (k + 1) y0 y1 y2))
  | 0 => fun _ _ _ r h => by simp [cornucopiabook_Room.l0] at h
  | k + 1 => by
    have ih0 := cornucopiabook_Room.mono_l k
    · intro y0 y1 y2
      unfold cornucopiabook_Room.l0
      repeat' first
      | (with_reducible exact ih0 _ _ _)
      | (with_reducible exact LeO.refl _)
      | (with_reducible exact LeO.none _)
      | (with_reducible refine LeO.ite ?_ ?_)
      | (with_reducible refine LeO.bind ?_ (fun _ => ?_))
      | exact ih0 _ _ _
      | exact LeO.none _
      | refine LeO.ite ?_ ?_
      | refine LeO.bind ?_ (fun _ => ?_)
theorem cornucopiabook_Room.mono : ∀ a0 a1 k, LeO (cornucopiabook_Room.f k a0 a1) (cornucopiabook_Room.f (k + 1) a0 a1) := by
  intro a0 a1 k
  have ih0 := cornucopiabook_Room.mono_l k
  unfold cornucopiabook_Room.f
  repeat' first
      | (with_reducible exact ih0 _ _ _)
      | (with_reducible exact LeO.refl _)
      | (with_reducible exact LeO.none _)
      | (with_reducible refine LeO.ite ?_ ?_)
      | (with_reducible refine LeO.bind ?_ (fun _ => ?_))
      | exact ih0 _ _ _
      | exact LeO.none _
      | refine LeO.ite ?_ ?_
      | refine LeO.bind ?_ (fun _ => ?_)
set_option maxHeartbeats 8000000 in
set_option maxRecDepth 100000 in
theorem cornucopiabook_Room.calls (k : Nat) (a0 : Int) (A1 : Option Addr) (c1 : Nat) (l1 : List Int) (r : Int) (w : World) (hr1 : Kd.C (Kd.int .i64) w A1 l1.length l1) (hc1 : l1.length ≤ c1) (h : cornucopiabook_Room.f k a0 l1 = some r) :
    Calls Try.prog 65 #[.int .i64 a0, .slice A1 l1.length c1] w fun e w' => e = .returned (.int .i64 r) ∧ Drawn0 w w' := by
  have HR1 := Aside0.mk hr1
  have HC1 := Aside0.mk hc1
  clear hr1 hc1
  have H : (cornucopiabook_Room.l0 k a0 l1 0) = some r := h
  clear h
  have H' := Aside0.mk H
  clear H
  go_enter Try.func65, Try.ntmps65
  go_wp2
  go_loopg [0, 5] k (fun kq v0 v5 w' => ∃ (x0_1 : Int) (x5_1 : Int), v0 = .int .i64 x0_1 ∧ v5 = .int .i64 x5_1 ∧ Aside0 (cornucopiabook_Room.l0 kq x0_1 l1 x5_1 = some r) ∧ Aside0 (kq ≤ k) ∧ Drawn0 w w')
  case atStart => exact ⟨(a0), (0), (by first | rfl | (simp; done) | (simp [*]; done)), (by first | rfl | (simp; done) | (simp [*]; done)), H', ⟨Nat.le_refl _⟩, by repeat (first | exact Drawn0.refl _ | apply Drawn0.step)⟩
  case round =>
    clear H'
    try clear c1
    try clear p2
    obtain ⟨x0_1, x5_1, rfl, rfl, HA, HK1, ⟨m1, rfl⟩⟩ := hrel
    cases gk with
    | zero => exact absurd HA.out (by simp [cornucopiabook_Room.l0])
    | succ k1 =>
      have H := HA.out
      clear HA
      simp only [cornucopiabook_Room.l0] at H
      by_cases c3 : x5_1 < (l1.length : Int)
      · rw [if_pos c3] at H
        have c3b0 : decide (x5_1 < (l1.length : Int)) = true := decide_eq_true c3
        clear c3
        by_cases c4 : x0_1 < 0
        · rw [if_pos c4] at H
          have c4b0 : decide (x0_1 < 0) = true := decide_eq_true c4
          clear c4
          obtain rfl := Option.some.inj H
          go_wp2
          go_ret
          exact ⟨by first | rfl | (simp; done) | (simp [*]; done), by repeat (first | exact Drawn0.refl _ | apply Drawn0.step)⟩
        · rw [if_neg c4] at H
          have c4b0 : decide (x0_1 < 0) = false := decide_eq_false c4
          clear c4
          by_cases c5 : 0 ≤ x5_1
          · rw [if_pos c5] at H
            have c5b0 : decide (0 ≤ x5_1) = true := decide_eq_true c5
            clear c5
            by_cases c6 : (rd l1 x5_1) > x0_1
            · rw [if_pos c6] at H
              have c6b0 : decide (x0_1 < (rd l1 x5_1)) = true := decide_eq_true c6
              clear c6
              obtain rfl := Option.some.inj H
              have p288 : 0 ≤ (x5_1 : Int) := of_decide_eq_true (by first | (with_reducible assumption) | assumption)
              have q288 : x5_1 < (l1.length : Int) := of_decide_eq_true (by first | (with_reducible assumption) | assumption)
              obtain ⟨ad288, e288, hx288_0⟩ := Kd.at_int HR1.out x5_1 p288 q288
              cases e288
              replace p288 := eq_true p288
              replace q288 := eq_true q288
              go_wp2
              go_ret
              exact ⟨by first | rfl | (simp; done) | (simp [*]; done), by repeat (first | exact Drawn0.refl _ | apply Drawn0.step)⟩
            · rw [if_neg c6] at H
              have c6b0 : decide (x0_1 < (rd l1 x5_1)) = false := decide_eq_false c6
              clear c6
              have H' := Aside0.mk H
              clear H
              have p288 : 0 ≤ (x5_1 : Int) := of_decide_eq_true (by first | (with_reducible assumption) | assumption)
              have q288 : x5_1 < (l1.length : Int) := of_decide_eq_true (by first | (with_reducible assumption) | assumption)
              obtain ⟨ad288, e288, hx288_0⟩ := Kd.at_int HR1.out x5_1 p288 q288
              cases e288
              replace p288 := eq_true p288
              replace q288 := eq_true q288
              have p289 : 0 ≤ (x5_1 : Int) := of_decide_eq_true (by first | (with_reducible assumption) | assumption)
              have q289 : x5_1 < (l1.length : Int) := of_decide_eq_true (by first | (with_reducible assumption) | assumption)
              obtain ⟨ad289, e289, hx289_0⟩ := Kd.at_int HR1.out x5_1 p289 q289
              obtain rfl : ad288 = ad289 := (by injection e289)
              replace p289 := eq_true p289
              replace q289 := eq_true q289
              go_wp2
              go_roundg k1
              case measure => have := HK1.out; omega
              case rel => exact ⟨(wrap64 (x0_1 - (rd l1 x5_1))), (wrap64 (x5_1 + 1)), (by first | rfl | (simp; done) | (simp [*]; done)), (by first | rfl | (simp; done) | (simp [*]; done)), H', ⟨by have := HK1.out; omega⟩, by repeat (first | exact Drawn0.refl _ | apply Drawn0.step)⟩
          · rw [if_neg c5] at H
            exact absurd H (by simp)
      · rw [if_neg c3] at H
        have c3b0 : decide (x5_1 < (l1.length : Int)) = false := decide_eq_false c3
        clear c3
        obtain rfl := Option.some.inj H
        go_wp2
        go_ret
        exact ⟨by first | rfl | (simp; done) | (simp [*]; done), by repeat (first | exact Drawn0.refl _ | apply Drawn0.step)⟩

/-! ### cornucopiabook_Short: function 24 -/
def cornucopiabook_Short.l0 : Nat → Int → List ByteArray → Int → Option (Bool)
  | 0, _, _, _ => none
  | k + 1, x1, x2, x7 => if x7 < (x2.length : Int) then (if x1 ≥ 0 then (if 0 ≤ x7 then ((cornucopiabook_Room.f k x1 (([((rdOf ByteArray.empty x2 x7).size : Int)] : List Int))).bind fun t294 => (cornucopiabook_Short.l0 k t294 x2 (wrap64 (x7 + 1)))) else (none)) else (some (decide (x1 ≥ 0)))) else (some (decide (x1 ≥ 0)))
def cornucopiabook_Short.f (k : Nat) (a0 : Int) (a1 : Int) (l2 : List ByteArray) : Option (Bool) := if (l2.length : Int) > a0 then (some false) else (cornucopiabook_Short.l0 k a1 l2 0)
theorem cornucopiabook_Short.mono_l : ∀ k, (∀ y0 y1 y2, LeO (cornucopiabook_Short.l0 k y0 y1 y2) (cornucopiabook_Short.l0 (k + 1) y0 y1 y2))
  | 0 => fun _ _ _ r h => by simp [cornucopiabook_Short.l0] at h
  | k + 1 => by
    have ih0 := cornucopiabook_Short.mono_l k
    · intro y0 y1 y2
      unfold cornucopiabook_Short.l0
      repeat' first
      | (with_reducible exact ih0 _ _ _)
      | (with_reducible exact cornucopiabook_Room.mono _ _ _)
      | (with_reducible exact LeO.refl _)
      | (with_reducible exact LeO.none _)
      | (with_reducible refine LeO.ite ?_ ?_)
      | (with_reducible refine LeO.bind ?_ (fun _ => ?_))
      | exact ih0 _ _ _
      | exact cornucopiabook_Room.mono _ _ _
      | exact LeO.none _
      | refine LeO.ite ?_ ?_
      | refine LeO.bind ?_ (fun _ => ?_)
theorem cornucopiabook_Short.mono : ∀ a0 a1 a2 k, LeO (cornucopiabook_Short.f k a0 a1 a2) (cornucopiabook_Short.f (k + 1) a0 a1 a2) := by
  intro a0 a1 a2 k
  have ih0 := cornucopiabook_Short.mono_l k
  unfold cornucopiabook_Short.f
  repeat' first
      | (with_reducible exact ih0 _ _ _)
      | (with_reducible exact cornucopiabook_Room.mono _ _ _)
      | (with_reducible exact LeO.refl _)
      | (with_reducible exact LeO.none _)
      | (with_reducible refine LeO.ite ?_ ?_)
      | (with_reducible refine LeO.bind ?_ (fun _ => ?_))
      | exact ih0 _ _ _
      | exact cornucopiabook_Room.mono _ _ _
      | exact LeO.none _
      | refine LeO.ite ?_ ?_
      | refine LeO.bind ?_ (fun _ => ?_)
set_option maxHeartbeats 8000000 in
set_option maxRecDepth 100000 in
theorem cornucopiabook_Short.calls (k : Nat) (a0 : Int) (a1 : Int) (A2 : Option Addr) (c2 : Nat) (l2 : List ByteArray) (r : Bool) (w : World) (hr2 : Kd.C Kd.string w A2 l2.length l2) (hc2 : l2.length ≤ c2) (h : cornucopiabook_Short.f k a0 a1 l2 = some r) :
    Calls Try.prog 24 #[.int .i64 a0, .int .i64 a1, .slice A2 l2.length c2] w fun e w' => e = .returned (.bool r) ∧ Below w.heap.size w w' := by
  have HR2 := Aside0.mk hr2
  have HC2 := Aside0.mk hc2
  clear hr2 hc2
  have HB := Aside0.mk (Below.refl w.heap.size w)
  have H : (if (l2.length : Int) > a0 then (some false) else (cornucopiabook_Short.l0 k a1 l2 0)) = some r := h
  clear h
  by_cases c4 : (l2.length : Int) > a0
  · rw [if_pos c4] at H
    have c4b0 : decide (a0 < (l2.length : Int)) = true := decide_eq_true c4
    clear c4
    obtain rfl := Option.some.inj H
    go_enter Try.func24, Try.ntmps24
    go_wp2
    go_ret
    exact ⟨by first | rfl | (simp [errW_none, errW_some] <;> rfl) | (simp [*, errW_none, errW_some] <;> rfl), by repeat (first | (with_reducible first | exact HB.out | apply below_alloc | apply pw_below_drewN | apply below_drew1) | exact HB.out)⟩
  · rw [if_neg c4] at H
    have c4b0 : decide (a0 < (l2.length : Int)) = false := decide_eq_false c4
    clear c4
    have H' := Aside0.mk H
    clear H
    go_enter Try.func24, Try.ntmps24
    go_wp2
    go_loopg [1, 7] k (fun kq v1 v7 w' => ∃ (x1_1 : Int) (x7_1 : Int), v1 = .int .i64 x1_1 ∧ v7 = .int .i64 x7_1 ∧ Aside0 (cornucopiabook_Short.l0 kq x1_1 l2 x7_1 = some r) ∧ Aside0 (kq ≤ k) ∧ Aside0 (Below w.heap.size w w'))
    case atStart => exact ⟨(a1), (0), (by first | rfl | (simp; done) | (simp [*]; done)), (by first | rfl | (simp; done) | (simp [*]; done)), H', ⟨Nat.le_refl _⟩, ⟨by repeat (first | (with_reducible first | exact HB.out | apply below_alloc | apply pw_below_drewN | apply below_drew1) | exact HB.out)⟩⟩
    case round =>
      clear H'
      try clear c2
      try clear p2
      try clear c4
      try clear c4b0
      obtain ⟨x1_1, x7_1, rfl, rfl, HA, HK1, HB⟩ := hrel
      cases gk with
      | zero => exact absurd HA.out (by simp [cornucopiabook_Short.l0])
      | succ k1 =>
        have H := HA.out
        clear HA
        simp only [cornucopiabook_Short.l0] at H
        by_cases c5 : x7_1 < (l2.length : Int)
        · rw [if_pos c5] at H
          have c5b0 : decide (x7_1 < (l2.length : Int)) = true := decide_eq_true c5
          clear c5
          by_cases c6 : x1_1 ≥ 0
          · rw [if_pos c6] at H
            have c6b0 : decide (0 ≤ x1_1) = true := decide_eq_true c6
            clear c6
            by_cases c7 : 0 ≤ x7_1
            · rw [if_pos c7] at H
              have c7b0 : decide (0 ≤ x7_1) = true := decide_eq_true c7
              clear c7
              obtain ⟨y291, hy291⟩ : ∃ y_ : List Int, y_ = (([((rdOf ByteArray.empty l2 x7_1).size : Int)] : List Int)) := ⟨_, rfl⟩
              replace H : ((cornucopiabook_Room.f k1 x1_1 y291).bind fun t294 => (cornucopiabook_Short.l0 k1 t294 l2 (wrap64 (x7_1 + 1)))) = some r := by first | (rw [hy291]; with_reducible exact H) | (have H2_ := (Option.bind_some _ _).symm.trans H; rw [hy291]; with_reducible exact H2_) | (have H2_ := (Option.bind_some _ _).symm.trans H; with_reducible exact H2_) | with_reducible exact H | (rw [hy291]; exact H) | exact H
              have Ny291 := Aside0.mk hy291
              clear hy291
              replace H := Option.bind_eq_some_iff.mp H
              obtain ⟨t294, A80, H⟩ := H
              replace H : (cornucopiabook_Short.l0 k1 t294 l2 (wrap64 (x7_1 + 1))) = some r := H
              have A8 := Aside0.mk A80
              clear A80
              have H' := Aside0.mk H
              clear H
              have p290 : 0 ≤ (x7_1 : Int) := of_decide_eq_true (by first | (with_reducible assumption) | assumption)
              have q290 : x7_1 < (l2.length : Int) := of_decide_eq_true (by first | (with_reducible assumption) | assumption)
              obtain ⟨ad290, e290, hx290_0⟩ := Kd.at_string HR2.out x7_1 p290 q290
              cases e290
              replace hx290_0 := (HB.out.cell (World.block_lt_of_cell? w _ hx290_0)).trans hx290_0
              replace p290 := eq_true p290
              replace q290 := eq_true q290
              go_wp2_with (first | ((with_reducible refine gate_dst (N := 28) rfl ?_); refine Kd.R_lit (Kd.int .i64) _ 3 ?hg (N := 28) ?hd (xs := ([((rdOf ByteArray.empty l2 x7_1).size : Int)] : List Int)) (inner := [.int .i64 ((rdOf ByteArray.empty l2 x7_1).size : Int)]) (ok := fun _ => True) (okp := fun _ => True) ?hr ?hp (fun _ hk => hk) trivial (Below.refl _ _) (Nat.le_refl _) (by simp) ?_; (case hd => rfl); (case hg => rfl); (case hr => first | (go_simp; done) | (go_simp; rfl)); (case hp => exact (Reps.one (show Kd.M (Kd.int .i64) _ _ _ ((rdOf ByteArray.empty l2 x7_1).size : Int) [.int .i64 ((rdOf ByteArray.empty l2 x7_1).size : Int)] from rfl) (Reps.none _ _))); intro v292 w9 ho10 hb hg_ hnew_; clear hg_ hnew_; (first | rw [← Ny291.out] at ho10 | (simp only [Int.reduceToNat] at ho10; rw [← Ny291.out] at ho10)); have n0_ := Aside0.mk (Kd.R_lower ho10 (below_size (by repeat (first | (with_reducible first | exact HB.out | apply below_alloc | apply pw_below_drewN | apply below_drew1) | exact HB.out)))); have n1_ := Aside0.mk (below_step (by repeat (first | (with_reducible first | exact HB.out | apply below_alloc | apply pw_below_drewN | apply below_drew1) | exact HB.out)) hb); clear HB; have HO293 := n0_; have HB := n1_; clear n0_ n1_; clear hb ho10; obtain ⟨Ao11, co11, eo11⟩ := Kd.R_slice HO293.out; subst eo11) | ((with_reducible refine gate_callee (f := 65) rfl ?_); refine goesL_ (some 29) rfl rfl Try.func65 (by kernel_rfl) rfl #[.int .i64 x1_1, .slice Ao11 y291.length co11] rfl (by (try simp only [List.map_toArray, List.map_cons, List.map_nil]); first | done | rfl | (simp only [List.length_drop, List.length_take]; rfl)) ?_; (with_reducible refine (cornucopiabook_Room.calls k1 x1_1 _ _ y291 t294 _ ?side1 ?side2 A8.out).mono ?_); (case side1 => repeat (first | exact (Kd.R_reads' HO293.out).2.2 | (with_reducible refine Kd.C_alloc ?_ _) | (with_reducible refine Kd.C_drewN ?_ _) | (with_reducible refine Kd.C_drew ?_))); (case side2 => exact (Kd.R_reads' HO293.out).2.1); rintro e w' ⟨rfl, ⟨nd, rfl⟩⟩; refine ⟨_, rfl, ?_⟩))
              go_roundg k1
              case measure => have := HK1.out; omega
              case rel => exact ⟨(t294), (wrap64 (x7_1 + 1)), (by first | rfl | (simp; done) | (simp [*]; done)), (by first | rfl | (simp; done) | (simp [*]; done)), H', ⟨by have := HK1.out; omega⟩, ⟨by repeat (first | (with_reducible first | exact HB.out | apply below_alloc | apply pw_below_drewN | apply below_drew1) | exact HB.out)⟩⟩
            · rw [if_neg c7] at H
              exact absurd H (by simp)
          · rw [if_neg c6] at H
            have c6b0 : decide (0 ≤ x1_1) = false := decide_eq_false c6
            clear c6
            obtain rfl := Option.some.inj H
            go_wp2
            go_ret
            exact ⟨by first | rfl | (simp [errW_none, errW_some] <;> rfl) | (simp [*, errW_none, errW_some] <;> rfl), by repeat (first | (with_reducible first | exact HB.out | apply below_alloc | apply pw_below_drewN | apply below_drew1) | exact HB.out)⟩
        · rw [if_neg c5] at H
          have c5b0 : decide (x7_1 < (l2.length : Int)) = false := decide_eq_false c5
          clear c5
          obtain rfl := Option.some.inj H
          go_wp2
          go_ret
          exact ⟨by first | rfl | (simp [errW_none, errW_some] <;> rfl) | (simp [*, errW_none, errW_some] <;> rfl), by repeat (first | (with_reducible first | exact HB.out | apply below_alloc | apply pw_below_drewN | apply below_drew1) | exact HB.out)⟩

-- NOT PRINTED: function 89 (abi_NoEscape)

end Go.Proofs.Ytkpjipfjhniddaa.PNum
