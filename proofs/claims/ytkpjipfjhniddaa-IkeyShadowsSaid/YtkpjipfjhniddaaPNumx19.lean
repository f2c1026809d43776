/- A walk, written by a program of this session out of the translation (a printed Lean function, and that the Go code comes to its answer). Lean checks it. -/
import Derived.Test.YtkpjipfjhniddaaPNumx0
import Derived.Test.YtkpjipfjhniddaaPNumx2
namespace Go.Proofs.Ytkpjipfjhniddaa.PNum
open Go.RowKit Go.Proofs.YtkpjipfjhniddaaW.PrintWords Go.Proofs.YtkpjipfjhniddaaW.PrintLast Go.Proofs.YtkpjipfjhniddaaW.PrintMore
attribute [local go_sem] max2_int min2_int max_two min_two max_three min_three max_four min_four   -- for this text's walks alone
set_option linter.unusedVariables false
set_option linter.unusedSimpArgs false

/-! ### cornucopiabook_Room: function 65 -/
def cornucopiabook_Room.l0 : Nat → Int → List Int → Int → Option (Int)
  | 0, _, _, _ => none
  | k + 1, x0, x1, x5 => if x5 < (x1.length : Int) then (if x0 < 0 then (some (-1)) else (if 0 ≤ x5 then (if (rd x1 x5) > x0 then (some (-1)) else (cornucopiabook_Room.l0 k (wrap64 (x0 - (rd x1 x5))) x1 (wrap64 (x5 + 1)))) else (none))) else (some x0)
def cornucopiabook_Room.f (k : Nat) (a0 : Int) (l1 : List Int) : Option (Int) := cornucopiabook_Room.l0 k a0 l1 0
theorem cornucopiabook_Room.mono_l : ∀ k, (∀ y0 y1 y2, LeO (cornucopiabook_Room.l0 k y0 y1 y2) (cornucopiabook_Room.l0 (k + 1) y0 y1 y2))
  | 0 => fun _ _ _ r h => by simp [cornucopiabook_Room.l0] at h
  | k + 1 => by
    have ih0 := cornucopiabook_Room.mono_l k
    · intro y0 y1 y2
      unfold cornucopiabook_Room.l0
      repeat' first
      | (with_reducible exact ih0 _ _ _)
      | (with_reducible exact LeO.refl _)
      | (with_reducible exact LeO.none _)
      | (with_reducible refine LeO.ite ?_ ?_)
      | (with_reducible refine LeO.bind ?_ (fun _ => ?_))
      | exact ih0 _ _ _
      | exact LeO.none _
      | refine LeO.ite ?_ ?_
      | refine LeO.bind ?_ (fun _ => ?_)
theorem cornucopiabook_Room.mono : ∀ a0 a1 k, LeO (cornucopiabook_Room.f k a0 a1) (cornucopiabook_Room.f (k + 1) a0 a1) := by
  intro a0 a1 k
  have ih0 := cornucopiabook_Room.mono_l k
  unfold cornucopiabook_Room.f
  repeat' first
      | (with_reducible exact ih0 _ _ _)
      | (with_reducible exact LeO.refl _)
      | (with_reducible exact LeO.none _)
      | (with_reducible refine LeO.ite ?_ ?_)
      | (with_reducible refine LeO.bind ?_ (fun _ => ?_))
      | exact ih0 _ _ _
      | exact LeO.none _
      | refine LeO.ite ?_ ?_
      | refine LeO.bind ?_ (fun _ => ?_)
set_option maxHeartbeats 8000000 in
set_option maxRecDepth 100000 in
theorem cornucopiabook_Room.calls (k : Nat) (a0 : Int) (A1 : Option Addr) (c1 : Nat) (l1 : List Int) (r : Int) (w : World) (hr1 : Kd.C (Kd.int .i64) w A1 l1.length l1) (hc1 : l1.length ≤ c1) (h : cornucopiabook_Room.f k a0 l1 = some r) :
    Calls Try.prog 65 #[.int .i64 a0, .slice A1 l1.length c1] w fun e w' => e = .returned (.int .i64 r) ∧ Drawn0 w w' := by
  have HR1 := Aside0.mk hr1
  have HC1 := Aside0.mk hc1
  clear hr1 hc1
  have H : (cornucopiabook_Room.l0 k a0 l1 0) = some r := h
  clear h
  have H' := Aside0.mk H
  clear H
  go_enter Try.func65, Try.ntmps65
  go_wp2
  go_loopg [0, 5] k (fun kq v0 v5 w' => ∃ (x0_1 : Int) (x5_1 : Int), v0 = .int .i64 x0_1 ∧ v5 = .int .i64 x5_1 ∧ Aside0 (cornucopiabook_Room.l0 kq x0_1 l1 x5_1 = some r) ∧ Aside0 (kq ≤ k) ∧ Drawn0 w w')
  case atStart => exact ⟨(a0), (0), (by first | rfl | (simp; done) | (simp [*]; done)), (by first | rfl | (simp; done) | (simp [*]; done)), H', ⟨Nat.le_refl _⟩, by repeat (first | exact Drawn0.refl _ | apply Drawn0.step)⟩
  case round =>
    clear H'
    try clear c1
    try clear p2
    obtain ⟨x0_1, x5_1, rfl, rfl, HA, HK1, ⟨m1, rfl⟩⟩ := hrel
    cases gk with
    | zero => exact absurd HA.out (by simp [cornucopiabook_Room.l0])
    | succ k1 =>
      have H := HA.out
      clear HA
      simp only [cornucopiabook_Room.l0] at H
      by_cases c3 : x5_1 < (l1.length : Int)
      · rw [if_pos c3] at H
        have c3b0 : decide (x5_1 < (l1.length : Int)) = true := decide_eq_true c3
        clear c3
        by_cases c4 : x0_1 < 0
        · rw [if_pos c4] at H
          have c4b0 : decide (x0_1 < 0) = true := decide_eq_true c4
          clear c4
          obtain rfl := Option.some.inj H
          go_wp2
          go_ret
          exact ⟨by first | rfl | (simp; done) | (simp [*]; done), by repeat (first | exact Drawn0.refl _ | apply Drawn0.step)⟩
        · rw [if_neg c4] at H
          have c4b0 : decide (x0_1 < 0) = false := decide_eq_false c4
          clear c4
          by_cases c5 : 0 ≤ x5_1
          · rw [if_pos c5] at H
            have c5b0 : decide (0 ≤ x5_1) = true := decide_eq_true c5
            clear c5
            by_cases c6 : (rd l1 x5_1) > x0_1
            · rw [if_pos c6] at H
              have c6b0 : decide (x0_1 < (rd l1 x5_1)) = true := decide_eq_true c6
              clear c6
              obtain rfl := Option.some.inj H
              have p285 : 0 ≤ (x5_1 : Int) := of_decide_eq_true (by first | (with_reducible assumption) | assumption)
              have q285 : x5_1 < (l1.length : Int) := of_decide_eq_true (by first | (with_reducible assumption) | assumption)
              obtain ⟨ad285, e285, hx285_0⟩ := Kd.at_int HR1.out x5_1 p285 q285
              cases e285
              replace p285 := eq_true p285
              replace q285 := eq_true q285
              go_wp2
              go_ret
              exact ⟨by first | rfl | (simp; done) | (simp [*]; done), by repeat (first | exact Drawn0.refl _ | apply Drawn0.step)⟩
            · rw [if_neg c6] at H
              have c6b0 : decide (x0_1 < (rd l1 x5_1)) = false := decide_eq_false c6
              clear c6
              have H' := Aside0.mk H
              clear H
              have p285 : 0 ≤ (x5_1 : Int) := of_decide_eq_true (by first | (with_reducible assumption) | assumption)
              have q285 : x5_1 < (l1.length : Int) := of_decide_eq_true (by first | (with_reducible assumption) | assumption)
              obtain ⟨ad285, e285, hx285_0⟩ := Kd.at_int HR1.out x5_1 p285 q285
              cases e285
              replace p285 := eq_true p285
              replace q285 := eq_true q285
              have p286 : 0 ≤ (x5_1 : Int) := of_decide_eq_true (by first | (with_reducible assumption) | assumption)
              have q286 : x5_1 < (l1.length : Int) := of_decide_eq_true (by first | (with_reducible assumption) | assumption)
              obtain ⟨ad286, e286, hx286_0⟩ := Kd.at_int HR1.out x5_1 p286 q286
              obtain rfl : ad285 = ad286 := (by injection e286)
              replace p286 := eq_true p286
              replace q286 := eq_true q286
              go_wp2
              go_roundg k1
              case measure => have := HK1.out; omega
              case rel => exact ⟨(wrap64 (x0_1 - (rd l1 x5_1))), (wrap64 (x5_1 + 1)), (by first | rfl | (simp; done) | (simp [*]; done)), (by first | rfl | (simp; done) | (simp [*]; done)), H', ⟨by have := HK1.out; omega⟩, by repeat (first | exact Drawn0.refl _ | apply Drawn0.step)⟩
          · rw [if_neg c5] at H
            exact absurd H (by simp)
      · rw [if_neg c3] at H
        have c3b0 : decide (x5_1 < (l1.length : Int)) = false := decide_eq_false c3
        clear c3
        obtain rfl := Option.some.inj H
        go_wp2
        go_ret
        exact ⟨by first | rfl | (simp; done) | (simp [*]; done), by repeat (first | exact Drawn0.refl _ | apply Drawn0.step)⟩

/-! ### cornucopiabook_Short: function 24 -/
def cornucopiabook_Short.l0 : Nat → Int → List ByteArray → Int → Option (Bool)
  | 0, _, _, _ => none
  | k + 1, x1, x2, x7 => if x7 < (x2.length : Int) then (if x1 ≥ 0 then (if 0 ≤ x7 then ((cornucopiabook_Room.f k x1 (([((rdOf ByteArray.empty x2 x7).size : Int)] : List Int))).bind fun t291 => (cornucopiabook_Short.l0 k t291 x2 (wrap64 (x7 + 1)))) else (none)) else (some (decide (x1 ≥ 0)))) else (some (decide (x1 ≥ 0)))
def cornucopiabook_Short.f (k : Nat) (a0 : Int) (a1 : Int) (l2 : List ByteArray) : Option (Bool) := if (l2.length : Int) > a0 then (some false) else (cornucopiabook_Short.l0 k a1 l2 0)
theorem cornucopiabook_Short.mono_l : ∀ k, (∀ y0 y1 y2, LeO (cornucopiabook_Short.l0 k y0 y1 y2) (cornucopiabook_Short.l0 (k + 1) y0 y1 y2))
  | 0 => fun _ _ _ r h => by simp [cornucopiabook_Short.l0] at h
  | k + 1 => by
    have ih0 := cornucopiabook_Short.mono_l k
    · intro y0 y1 y2
      unfold cornucopiabook_Short.l0
      repeat' first
      | (with_reducible exact ih0 _ _ _)
      | (with_reducible exact cornucopiabook_Room.mono _ _ _)
      | (with_reducible exact LeO.refl _)
      | (with_reducible exact LeO.none _)
      | (with_reducible refine LeO.ite ?_ ?_)
      | (with_reducible refine LeO.bind ?_ (fun _ => ?_))
      | exact ih0 _ _ _
      | exact cornucopiabook_Room.mono _ _ _
      | exact LeO.none _
      | refine LeO.ite ?_ ?_
      | refine LeO.bind ?_ (fun _ => ?_)
theorem cornucopiabook_Short.mono : ∀ a0 a1 a2 k, LeO (cornucopiabook_Short.f k a0 a1 a2) (cornucopiabook_Short.f (k + 1) a0 a1 a2) := by
  intro a0 a1 a2 k
  have ih0 := cornucopiabook_Short.mono_l k
  unfold cornucopiabook_Short.f
  repeat' first
      | (with_reducible exact ih0 _ _ _)
      | (with_reducible exact cornucopiabook_Room.mono _ _ _)
      | (with_reducible exact LeO.refl _)
      | (with_reducible exact LeO.none _)
      | (with_reducible refine LeO.ite ?_ ?_)
      | (with_reducible refine LeO.bind ?_ (fun _ => ?_))
      | exact ih0 _ _ _
      | exact cornucopiabook_Room.mono _ _ _
      | exact LeO.none _
      | refine LeO.ite ?_ ?_
      | refine LeO.bind ?_ (fun _ => ?_)
set_option maxHeartbeats 8000000 in
set_option maxRecDepth 100000 in
theorem cornucopiabook_Short.calls (k : Nat) (a0 : Int) (a1 : Int) (A2 : Option Addr) (c2 : Nat) (l2 : List ByteArray) (r : Bool) (w : World) (hr2 : Kd.C Kd.string w A2 l2.length l2) (hc2 : l2.length ≤ c2) (h : cornucopiabook_Short.f k a0 a1 l2 = some r) :
    Calls Try.prog 24 #[.int .i64 a0, .int .i64 a1, .slice A2 l2.length c2] w fun e w' => e = .returned (.bool r) ∧ Below w.heap.size w w' := by
  have HR2 := Aside0.mk hr2
  have HC2 := Aside0.mk hc2
  clear hr2 hc2
  have HB := Aside0.mk (Below.refl w.heap.size w)
  have H : (if (l2.length : Int) > a0 then (some false) else (cornucopiabook_Short.l0 k a1 l2 0)) = some r := h
  clear h
  by_cases c4 : (l2.length : Int) > a0
  · rw [if_pos c4] at H
    have c4b0 : decide (a0 < (l2.length : Int)) = true := decide_eq_true c4
    clear c4
    obtain rfl := Option.some.inj H
    go_enter Try.func24, Try.ntmps24
    go_wp2
    go_ret
    exact ⟨by first | rfl | (simp [errW_none, errW_some] <;> rfl) | (simp [*, errW_none, errW_some] <;> rfl), by repeat (first | (with_reducible first | exact HB.out | apply below_alloc | apply pw_below_drewN | apply below_drew1) | exact HB.out)⟩
  · rw [if_neg c4] at H
    have c4b0 : decide (a0 < (l2.length : Int)) = false := decide_eq_false c4
    clear c4
    have H' := Aside0.mk H
    clear H
    go_enter Try.func24, Try.ntmps24
    go_wp2
    go_loopg [1, 7] k (fun kq v1 v7 w' => ∃ (x1_1 : Int) (x7_1 : Int), v1 = .int .i64 x1_1 ∧ v7 = .int .i64 x7_1 ∧ Aside0 (cornucopiabook_Short.l0 kq x1_1 l2 x7_1 = some r) ∧ Aside0 (kq ≤ k) ∧ Aside0 (Below w.heap.size w w'))
    case atStart => exact ⟨(a1), (0), (by first | rfl | (simp; done) | (simp [*]; done)), (by first | rfl | (simp; done) | (simp [*]; done)), H', ⟨Nat.le_refl _⟩, ⟨by repeat (first | (with_reducible first | exact HB.out | apply below_alloc | apply pw_below_drewN | apply below_drew1) | exact HB.out)⟩⟩
    case round =>
      clear H'
      try clear c2
      try clear p2
      try clear c4
      try clear c4b0
      obtain ⟨x1_1, x7_1, rfl, rfl, HA, HK1, HB⟩ := hrel
      cases gk with
      | zero => exact absurd HA.out (by simp [cornucopiabook_Short.l0])
      | succ k1 =>
        have H := HA.out
        clear HA
        simp only [cornucopiabook_Short.l0] at H
        by_cases c5 : x7_1 < (l2.length : Int)
        · rw [if_pos c5] at H
          have c5b0 : decide (x7_1 < (l2.length : Int)) = true := decide_eq_true c5
          clear c5
          by_cases c6 : x1_1 ≥ 0
          · rw [if_pos c6] at H
            have c6b0 : decide (0 ≤ x1_1) = true := decide_eq_true c6
            clear c6
            by_cases c7 : 0 ≤ x7_1
            · rw [if_pos c7] at H
              have c7b0 : decide (0 ≤ x7_1) = true := decide_eq_true c7
              clear c7
              obtain ⟨y288, hy288⟩ : ∃ y_ : List Int, y_ = (([((rdOf ByteArray.empty l2 x7_1).size : Int)] : List Int)) := ⟨_, rfl⟩
              replace H : ((cornucopiabook_Room.f k1 x1_1 y288).bind fun t291 => (cornucopiabook_Short.l0 k1 t291 l2 (wrap64 (x7_1 + 1)))) = some r := by first | (rw [hy288]; with_reducible exact H) | (have H2_ := (Option.bind_some _ _).symm.trans H; rw [hy288]; with_reducible exact H2_) | (have H2_ := (Option.bind_some _ _).symm.trans H; with_reducible exact H2_) | with_reducible exact H | (rw [hy288]; exact H) | exact H
              have Ny288 := Aside0.mk hy288
              clear hy288
              replace H := Option.bind_eq_some_iff.mp H
              obtain ⟨t291, A80, H⟩ := H
              replace H : (cornucopiabook_Short.l0 k1 t291 l2 (wrap64 (x7_1 + 1))) = some r := H
              have A8 := Aside0.mk A80
              clear A80
              have H' := Aside0.mk H
              clear H
              have p287 : 0 ≤ (x7_1 : Int) := of_decide_eq_true (by first | (with_reducible assumption) | assumption)
              have q287 : x7_1 < (l2.length : Int) := of_decide_eq_true (by first | (with_reducible assumption) | assumption)
              obtain ⟨ad287, e287, hx287_0⟩ := Kd.at_string HR2.out x7_1 p287 q287
              cases e287
              replace hx287_0 := (HB.out.cell (World.block_lt_of_cell? w _ hx287_0)).trans hx287_0
              replace p287 := eq_true p287
              replace q287 := eq_true q287
              go_wp2_with (first | ((with_reducible refine gate_dst (N := 28) rfl ?_); refine Kd.R_lit (Kd.int .i64) _ 3 ?hg (N := 28) ?hd (xs := ([((rdOf ByteArray.empty l2 x7_1).size : Int)] : List Int)) (inner := [.int .i64 ((rdOf ByteArray.empty l2 x7_1).size : Int)]) (ok := fun _ => True) (okp := fun _ => True) ?hr ?hp (fun _ hk => hk) trivial (Below.refl _ _) (Nat.le_refl _) (by simp) ?_; (case hd => rfl); (case hg => rfl); (case hr => first | (go_simp; done) | (go_simp; rfl)); (case hp => exact (Reps.one (show Kd.M (Kd.int .i64) _ _ _ ((rdOf ByteArray.empty l2 x7_1).size : Int) [.int .i64 ((rdOf ByteArray.empty l2 x7_1).size : Int)] from rfl) (Reps.none _ _))); intro v289 w9 ho10 hb hg_ hnew_; clear hg_ hnew_; (first | rw [← Ny288.out] at ho10 | (simp only [Int.reduceToNat] at ho10; rw [← Ny288.out] at ho10)); have n0_ := Aside0.mk (Kd.R_lower ho10 (below_size (by repeat (first | (with_reducible first | exact HB.out | apply below_alloc | apply pw_below_drewN | apply below_drew1) | exact HB.out)))); have n1_ := Aside0.mk (below_step (by repeat (first | (with_reducible first | exact HB.out | apply below_alloc | apply pw_below_drewN | apply below_drew1) | exact HB.out)) hb); clear HB; have HO290 := n0_; have HB := n1_; clear n0_ n1_; clear hb ho10; obtain ⟨Ao11, co11, eo11⟩ := Kd.R_slice HO290.out; subst eo11) | ((with_reducible refine gate_callee (f := 65) rfl ?_); refine goesL_ (some 29) rfl rfl Try.func65 (by kernel_rfl) rfl #[.int .i64 x1_1, .slice Ao11 y288.length co11] rfl (by (try simp only [List.map_toArray, List.map_cons, List.map_nil]); first | done | rfl | (simp only [List.length_drop, List.length_take]; rfl)) ?_; (with_reducible refine (cornucopiabook_Room.calls k1 x1_1 _ _ y288 t291 _ ?side1 ?side2 A8.out).mono ?_); (case side1 => repeat (first | exact (Kd.R_reads' HO290.out).2.2 | (with_reducible refine Kd.C_alloc ?_ _) | (with_reducible refine Kd.C_drewN ?_ _) | (with_reducible refine Kd.C_drew ?_))); (case side2 => exact (Kd.R_reads' HO290.out).2.1); rintro e w' ⟨rfl, ⟨nd, rfl⟩⟩; refine ⟨_, rfl, ?_⟩))
              go_roundg k1
              case measure => have := HK1.out; omega
              case rel => exact ⟨(t291), (wrap64 (x7_1 + 1)), (by first | rfl | (simp; done) | (simp [*]; done)), (by first | rfl | (simp; done) | (simp [*]; done)), H', ⟨by have := HK1.out; omega⟩, ⟨by repeat (first | (with_reducible first | exact HB.out | apply below_alloc | apply pw_below_drewN | apply below_drew1) | exact HB.out)⟩⟩
            · rw [if_neg c7] at H
              exact absurd H (by simp)
          · rw [if_neg c6] at H
            have c6b0 : decide (0 ≤ x1_1) = false := decide_eq_false c6
            clear c6
            obtain rfl := Option.some.inj H
            go_wp2
            go_ret
            exact ⟨by first | rfl | (simp [errW_none, errW_some] <;> rfl) | (simp [*, errW_none, errW_some] <;> rfl), by repeat (first | (with_reducible first | exact HB.out | apply below_alloc | apply pw_below_drewN | apply below_drew1) | exact HB.out)⟩
        · rw [if_neg c5] at H
          have c5b0 : decide (x7_1 < (l2.length : Int)) = false := decide_eq_false c5
          clear c5
          obtain rfl := Option.some.inj H
          go_wp2
          go_ret
          exact ⟨by first | rfl | (simp [errW_none, errW_some] <;> rfl) | (simp [*, errW_none, errW_some] <;> rfl), by repeat (first | (with_reducible first | exact HB.out | apply below_alloc | apply pw_below_drewN | apply below_drew1) | exact HB.out)⟩

-- NOT PRINTED: function 89 (abi_NoEscape)

-- NOT PRINTED: function 85 (strings_Builder_copyCheck)

-- NOT PRINTED: function 72 (strings_Builder_WriteString)

-- NOT PRINTED: function 73 (strings_Builder_String)

/-! ### num_Text: function 33 -/
def num_Text.go (k : Nat) : List ByteArray → ByteArray → Option ByteArray
  | [], acc => some acc
  | s :: l, acc => (num_Var.f k [(s.size : Int)]).bind fun v => if acc.size + (v.size + s.size) ≤ 140737488355328 then num_Text.go k l (acc ++ (v ++ s)) else none
def num_Text.f (k : Nat) (l0 : List ByteArray) : Option ByteArray := if (∀ s ∈ l0, s.size ≤ 140737488355328) then num_Text.go k l0 ⟨#[]⟩ else none
theorem num_Text.mono_go (k : Nat) : ∀ l acc, LeO (num_Text.go k l acc) (num_Text.go (k + 1) l acc)
  | [], _ => LeO.refl _
  | s :: l, acc => LeO.bind (num_Var.mono _ _) (fun _ => LeO.ite (num_Text.mono_go k l _) (LeO.none _))
theorem num_Text.mono : ∀ a0 k, LeO (num_Text.f k a0) (num_Text.f (k + 1) a0) := fun a0 k => LeO.ite (num_Text.mono_go k a0 _) (LeO.none _)
set_option maxHeartbeats 4000000 in
set_option maxRecDepth 100000 in
theorem num_Text.calls (k : Nat) (A0 : Option Addr) (c0 : Nat) (l0 : List ByteArray) (r : ByteArray) (w : World) (hr0 : Kd.C Kd.string w A0 l0.length l0) (hc0 : l0.length ≤ c0) (h : num_Text.f k l0 = some r) :
    Calls Try.prog 33 #[.slice A0 l0.length c0] w fun e w' => e = .returned (.string r) ∧ Below w.heap.size w w' := by
  have HR := Aside0.mk hr0
  have hlen : l0.length ≤ 9223372036854775807 := hr0.2.1
  unfold num_Text.f at h
  by_cases hs0 : ∀ s ∈ l0, s.size ≤ 140737488355328
  · rw [if_pos hs0] at h
    have HS := Aside0.mk hs0
    have H := Aside0.mk h
    clear h hs0 hr0 hc0
    go_enter Try.func33, Try.ntmps33
    go_wp2
    go_loopw [5, 8] (fun v5 v8 w' => ∃ (j : Nat) (acc : ByteArray), j ≤ l0.length ∧ v8 = .int .i64 j ∧ Aside0 (num_Text.go k (l0.drop j) acc = some r) ∧ Aside0 (Lib.IsBuilder 96 5 w.heap.size w.heap.size (Lib.strCells acc) w') ∧ Aside0 (Below w.heap.size w w')) (fun _ v8 _ => l0.length - (intOf v8).toNat)
    case atStart => exact ⟨0, ⟨#[]⟩, Nat.zero_le _, rfl, H, ⟨Lib.fresh_isBuilder _ _ w⟩, ⟨below_alloc (Below.refl _ _) _⟩⟩
    case round =>
      clear H
      obtain ⟨j, acc, hj, rfl, HA, HBd, HB⟩ := hrel
      by_cases hlt : j < l0.length
      · have p0 : (0 : Int) ≤ (j : Int) := Int.natCast_nonneg _
        have q0 : (j : Int) < (l0.length : Int) := Int.ofNat_lt.mpr hlt
        obtain ⟨ad, e0, hx⟩ := Kd.at_string HR.out (j : Int) p0 q0
        cases e0
        have hx' := (HB.out.cell (World.block_lt_of_cell? w _ hx)).trans hx
        clear hx
        simp only [Int.toNat_natCast] at hx'
        have hgen : ∃ s, s = rdOf ByteArray.empty l0 (j : Int) := ⟨_, rfl⟩
        obtain ⟨s, hs⟩ := hgen
        rw [← hs] at hx'
        have hmem : l0[j]? = some s := by rw [hs]; simp [rdOf, List.getElem?_eq_getElem hlt]
        have hsz : s.size ≤ 140737488355328 := HS.out s (List.mem_of_getElem? hmem)
        have hd : l0.drop j = s :: l0.drop (j + 1) := by
          rw [List.drop_eq_getElem_cons hlt]; congr 1; rw [List.getElem?_eq_getElem hlt] at hmem; exact Option.some.inj hmem
        have hA := HA.out
        rw [hd] at hA
        simp only [num_Text.go] at hA
        obtain ⟨v, hv, hA⟩ := Option.bind_eq_some_iff.1 hA
        by_cases hlim : acc.size + (v.size + s.size) ≤ 140737488355328
        · rw [if_pos hlim] at hA
          have HV := Aside0.mk hv
          have HN := Aside0.mk hA
          have HL := Aside0.mk hlim
          have t0 : decide ((j : Int) < (l0.length : Int)) = true := decide_eq_true q0
          have f1 := eq_true (show v.size + s.size ≤ 9223372036854775807 by omega)
          have f2 : (9223372036854775807 < v.size + s.size) = False := eq_false (by omega)
          clear hv hA hlim HA hd hmem hs
          go_wp2_with (first | ((with_reducible refine gate_dst (N := 15) rfl ?_); refine Kd.R_lit (Kd.int .u64) _ 24 ?hg (N := 15) ?hd (xs := ([(s.size : Int)] : List Int)) (inner := [.int .u64 (s.size : Int)]) (ok := fun _ => True) (okp := fun _ => True) ?hr ?hp (fun _ hk => hk) trivial (Below.refl _ _) (Nat.le_refl _) (by simp) ?_; (case hd => rfl); (case hg => rfl); (case hr => first | (go_simp; done) | (go_simp; rfl)); (case hp => exact (Reps.one (show Kd.M (Kd.int .u64) _ _ _ (s.size : Int) [.int .u64 (s.size : Int)] from rfl) (Reps.none _ _))); intro v9 w9 ho9 hb9 hg_ hnew_; clear hg_ hnew_; have HO9 := Aside0.mk ho9; have HB9 := Aside0.mk hb9; clear ho9 hb9; obtain ⟨Ao, co, eo⟩ := Kd.R_slice HO9.out; subst eo) | (go_at_call 19; refine (num_Var.calls k _ _ [(s.size : Int)] v _ (Kd.R_reads' HO9.out).2.2 (Kd.R_reads' HO9.out).2.1 HV.out).mono ?_; rintro e w10 ⟨rfl, hb10⟩; have HB10 := Aside0.mk hb10; clear hb10) | (go_at_call 72; refine (Bld.WriteString w.heap.size w.heap.size (Lib.strCells acc) (v ++ s) _ (Bld.is_below (Bld.is_below HBd.out HB9.out) HB10.out) (by rw [Lib.strCells_length, ByteArray.size_append]; exact HL.out) (below_size (below_step (below_step HB.out HB9.out) HB10.out))).mono ?_; rintro e w11 ⟨rfl, hbd, hb11⟩; have HD := Aside0.mk hbd; have HB11 := Aside0.mk hb11; clear hbd hb11))
          have hB' : Below w.heap.size w w11 := Below.trans (below_step (below_step HB.out HB9.out) HB10.out) HB11.out
          go_roundw
          case rel => exact ⟨j + 1, acc ++ (v ++ s), by omega, by go_num, HN, ⟨by have h := HD.out; rw [Bld.strCells_append] at h; exact .inr h⟩, ⟨hB'⟩⟩
          case measure => simp [intOf]; omega
        · rw [if_neg hlim] at hA
          exact absurd hA (by simp)
      · obtain rfl : j = l0.length := by omega
        have hA := HA.out
        rw [List.drop_length] at hA
        simp only [num_Text.go, Option.some.injEq] at hA
        subst hA
        clear HA
        have t0 : decide (((l0.length : Nat) : Int) < (l0.length : Int)) = false := decide_eq_false (by omega)
        go_wp2_with (go_at_call 73; refine (Bld.String_any w.heap.size w.heap.size acc _ HBd.out (below_size HB.out)).mono ?_; rintro e w11 ⟨rfl, hb11⟩; have HB11 := Aside0.mk hb11; clear hb11)
        go_ret
        exact ⟨rfl, Below.trans HB.out HB11.out⟩
  · rw [if_neg hs0] at h
    cases h


/-! ### num_Bool: function 39 -/
def num_Bool.f (a0 : Bool) : Option (ByteArray) := if a0 = true then (some (⟨#[1]⟩ : ByteArray)) else (some (⟨#[0]⟩ : ByteArray))
set_option maxHeartbeats 8000000 in
set_option maxRecDepth 100000 in
theorem num_Bool.calls (a0 : Bool) (r : ByteArray) (w : World) (h : num_Bool.f a0 = some r) :
    Calls Try.prog 39 #[.bool a0] w fun e w' => e = .returned (.string r) ∧ Drawn0 w w' := by
  have H : (if a0 = true then (some (⟨#[1]⟩ : ByteArray)) else (some (⟨#[0]⟩ : ByteArray))) = some r := h
  clear h
  by_cases c2 : a0 = true
  · subst c2
    have H1 : (some (⟨#[1]⟩ : ByteArray)) = some r := by rw [if_pos rfl] at H; exact H
    clear H
    have H := H1
    clear H1
    obtain rfl := Option.some.inj H
    go_enter Try.func39, Try.ntmps39
    go_wp2
    go_ret
    exact ⟨by first | rfl | (simp; done) | (simp [*]; done), by repeat (first | exact Drawn0.refl _ | apply Drawn0.step)⟩
  · replace c2 := Bool.eq_false_iff.mpr c2
    subst c2
    have H1 : (some (⟨#[0]⟩ : ByteArray)) = some r := by rw [if_neg (show ¬ (false = true) by decide)] at H; exact H
    clear H
    have H := H1
    clear H1
    obtain rfl := Option.some.inj H
    go_enter Try.func39, Try.ntmps39
    go_wp2
    go_ret
    exact ⟨by first | rfl | (simp; done) | (simp [*]; done), by repeat (first | exact Drawn0.refl _ | apply Drawn0.step)⟩

end Go.Proofs.Ytkpjipfjhniddaa.PNum
