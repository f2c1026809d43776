/- Texts of this claim, put together and cut down to what is used (BT7). -/
import Derived.Test.YtchgpcgolgcfdaaGreatMgBT4
import Derived.Test.YtchgpcgolgcfdaaGreatMgBT5
import Derived.Test.YtchgpcgolgcfdaaGreatMgBT6
import Derived.Test.YtchgpcgolgcfdaaGreatMgBT1
section
namespace Go.Proofs.YtchgpcgolgcfdaaGreat.PNum
open Go.RowKit Go.Proofs.YtchgpcgolgcfdaaGreatW.PrintWords Go.Proofs.YtchgpcgolgcfdaaGreatW.PrintLast Go.Proofs.YtchgpcgolgcfdaaGreatW.PrintMore
attribute [local go_sem] max2_int min2_int max_two min_two max_three min_three max_four min_four
set_option linter.unusedVariables false
set_option linter.unusedSimpArgs false
set_option maxRecDepth 100000
set_option maxHeartbeats 16000000
def cornucopiaref1_Var.l0 : Nat → Int → List Int → Option (ByteArray)
 | 0, _, _ => none
 | k + 1, x0, x3 => if x0 ≥ 128 then (if x3.length < 140737488355328 then (cornucopiaref1_Var.l0 k (IntKind.u64.wrap (Int.tdiv x0 128)) (x3 ++ [((Int.tmod x0 128) + 128) % 256])) else (none)) else (if x3.length < 140737488355328 then (some (strOfNums (x3 ++ [(x0) % 256]))) else (none))
def cornucopiaref1_Var.f (k : Nat) (a0 : Int) : Option (ByteArray) := cornucopiaref1_Var.l0 k a0 ([] : List Int)
theorem cornucopiaref1_Var.calls (k : Nat) (a0 : Int) (r : ByteArray) (w : World) (h : cornucopiaref1_Var.f k a0 = some r) :
  Calls Tryz.prog 192 #[.int .u64 a0] w fun e w' => e = .returned (.string r) ∧ Below w.heap.size w w' := by
 have HB := a_k (Below.refl w.heap.size w)
 have H : (cornucopiaref1_Var.l0 k a0 ([] : List Int)) = some r := h
 clear h
 have H' := a_k H
 clear H
 go_enter Tryz.func192, Tryz.ntmps192
 go_wp2
 go_loopg [0, 3] k (fun kq v0 v3 w' => ∃ (x0_1 : Int) (x3_1 : List Int), v0 = .int .u64 x0_1 ∧ Aside0 (cornucopiaref1_Var.l0 kq x0_1 x3_1 = some r) ∧ Aside0 (kq ≤ k) ∧ Aside0 (Kd.R (Kd.int .u8) 5 w' w.heap.size (fun _ => True) v3 x3_1) ∧ Aside0 (Below w.heap.size w w'))
 case atStart => exact ⟨(a0), (([] : List Int)), (by first | rfl | (simp; done) | (simp [*]; done)), H', ⟨Nat.le_refl _⟩, ⟨by first | exact Kd.R_nil _ _ _ _ _ | exact Kd.N_nil _ _ _ _ _ | exact Kd.V_nil _ _ _ _ _ | exact Kd.Q_nil _ _ _ _ _ | exact Kd.S_nil _ _ _ _ _⟩, ⟨by repeat (first | exact HB.out | apply b_a | apply b_n | apply b_d)⟩⟩
 case round =>
  clear H'
  try clear c1
  obtain ⟨x0_1, x3_1, rfl, HA, HK1, HO_3, HB⟩ := hrel
  cases gk with
  | zero => exact absurd HA.out (by simp [cornucopiaref1_Var.l0])
  | succ k1 =>
   have H := HA.out
   clear HA
   simp only [cornucopiaref1_Var.l0] at H
   by_cases c2 : x0_1 ≥ 128
   ·rw [if_pos c2] at H
    have c2b0 : decide (128 ≤ x0_1) = true := decide_eq_true c2
    clear c2
    by_cases c3 : x3_1.length < 140737488355328
    ·rw [if_pos c3] at H
     have LMc3 := a_k c3
     clear c3
     obtain ⟨y405, hy405⟩ : ∃ y_ : List Int, y_ = (x3_1 ++ [((Int.tmod x0_1 128) + 128) % 256]) := ⟨_, rfl⟩
     replace H : (cornucopiaref1_Var.l0 k1 (IntKind.u64.wrap (Int.tdiv x0_1 128)) y405) = some r := by first | (rw [hy405]; with_reducible exact H) | (have H2_ := (Option.bind_some _ _).symm.trans H; rw [hy405]; with_reducible exact H2_) | (have H2_ := (Option.bind_some _ _).symm.trans H; with_reducible exact H2_) | with_reducible exact H | (rw [hy405]; exact H) | exact H
     have Ny405 := a_k hy405
     clear hy405
     have H' := a_k H
     clear H
     go_wp2_with (first | ((with_reducible refine gate_builtin (b := .append) (xs := #[.tmp 6, .tmp 11]) rfl ?_); at_builtin; refine Kd.R_append (Kd.int .u8) (w0 := w) w.heap.size rfl (.tmp 6) (.tmp 11) 219 5 (.int .u8 0) 1 rfl Tryz.underlying219 info5 rfl (by decide) (by omega) u3 x3_1 (((Int.tmod x0_1 128) + 128) % 256) [.int .u8 (((Int.tmod x0_1 128) + 128) % 256)] (fun _ => True) (fun _ => False) rfl rfl ?aP (fun _ hk => hk.elim) ?aF ?aO ?aB ?aS ?aL ?_; (case aP => exact rfl); (case aB => exact (by repeat (first | exact HB.out | apply b_a | apply b_n | apply b_d))); (case aF => exact (fun _ _ => trivial)); (case aO => exact (by (with_reducible repeat (first | apply Kd.R_alloc | apply Kd.R_drewN | apply Kd.R_drew)); exact HO_3.out)); (case aS => exact (below_size (by repeat (first | exact HB.out | apply b_a | apply b_n | apply b_d)))); (case aL => have := LMc3.out; omega); intro v406 w4 ho hb hg hat; rw [← Ny405.out] at ho; have n0_ := a_k (hb); have n1_ := a_k (ho); clear HB; clear HO_3; have HB := n0_; have HO407 := n1_; clear n0_ n1_; clear ho hb hg hat))
     go_roundg k1
     case measure => have := HK1.out; omega
     case rel => exact ⟨(IntKind.u64.wrap (Int.tdiv x0_1 128)), (y405), (by first | rfl | (simp; done) | (simp [*]; done)), H', ⟨by have := HK1.out; omega⟩, ⟨by (with_reducible repeat (first | apply Kd.R_alloc | apply Kd.R_drewN | apply Kd.R_drew)); exact HO407.out⟩, ⟨by repeat (first | exact HB.out | apply b_a | apply b_n | apply b_d)⟩⟩
    ·rw [if_neg c3] at H
     exact absurd H (by simp)
   ·rw [if_neg c2] at H
    have c2b0 : decide (128 ≤ x0_1) = false := decide_eq_false c2
    clear c2
    by_cases c5 : x3_1.length < 140737488355328
    ·rw [if_pos c5] at H
     have LMc5 := a_k c5
     clear c5
     obtain ⟨y408, hy408⟩ : ∃ y_ : List Int, y_ = (x3_1 ++ [(x0_1) % 256]) := ⟨_, rfl⟩
     replace H : (some (strOfNums y408)) = some r := by first | (rw [hy408]; with_reducible exact H) | (have H2_ := (Option.bind_some _ _).symm.trans H; rw [hy408]; with_reducible exact H2_) | (have H2_ := (Option.bind_some _ _).symm.trans H; with_reducible exact H2_) | with_reducible exact H | (rw [hy408]; exact H) | exact H
     have Ny408 := a_k hy408
     clear hy408
     obtain rfl := Option.some.inj H
     go_wp2_with (first | ((with_reducible refine gate_builtin (b := .append) (xs := #[.tmp 15, .tmp 18]) rfl ?_); at_builtin; refine Kd.R_append (Kd.int .u8) (w0 := w) w.heap.size rfl (.tmp 15) (.tmp 18) 219 5 (.int .u8 0) 1 rfl Tryz.underlying219 info5 rfl (by decide) (by omega) u3 x3_1 ((x0_1) % 256) [.int .u8 ((x0_1) % 256)] (fun _ => True) (fun _ => False) rfl rfl ?aP (fun _ hk => hk.elim) ?aF ?aO ?aB ?aS ?aL ?_; (case aP => exact rfl); (case aB => exact (by repeat (first | exact HB.out | apply b_a | apply b_n | apply b_d))); (case aF => exact (fun _ _ => trivial)); (case aO => exact (by (with_reducible repeat (first | apply Kd.R_alloc | apply Kd.R_drewN | apply Kd.R_drew)); exact HO_3.out)); (case aS => exact (below_size (by repeat (first | exact HB.out | apply b_a | apply b_n | apply b_d)))); (case aL => have := LMc5.out; omega); intro v409 w6 ho hb hg hat; rw [← Ny408.out] at ho; have n0_ := a_k (hb); have n1_ := a_k (ho); clear HB; clear HO_3; have HB := n0_; have HO410 := n1_; clear n0_ n1_; clear ho hb hg hat; have hcv7 := own_string (P := Tryz.prog) Tryz.underlying219 Tryz.underlying5 Tryz.underlying9 (Kd.own_of_R HO410.out)))
     go_ret
     exact ⟨by first | rfl | (simp [*, errW_none, errW_some] <;> rfl), by repeat (first | exact HB.out | apply b_a | apply b_n | apply b_d)⟩
    ·rw [if_neg c5] at H
     exact absurd H (by simp)
def cornucopiaref1_Text.f (k : Nat) (a0 : ByteArray) : Option (ByteArray) := (cornucopiaref1_Var.f k (IntKind.u64.wrap ((a0.size : Int)))).bind fun t411 => (if t411.size + a0.size ≤ 9223372036854775807 then (some (t411 ++ a0)) else (none))
theorem cornucopiaref1_Text.calls (k : Nat) (a0 : ByteArray) (r : ByteArray) (w : World) (h : cornucopiaref1_Text.f k a0 = some r) :
  Calls Tryz.prog 166 #[.string a0] w fun e w' => e = .returned (.string r) ∧ Below w.heap.size w w' := by
 have HB := a_k (Below.refl w.heap.size w)
 have H : ((cornucopiaref1_Var.f k (IntKind.u64.wrap ((a0.size : Int)))).bind fun t411 => (if t411.size + a0.size ≤ 9223372036854775807 then (some (t411 ++ a0)) else (none))) = some r := h
 clear h
 replace H := Option.bind_eq_some_iff.mp H
 obtain ⟨t411, A20, H⟩ := H
 replace H : (if t411.size + a0.size ≤ 9223372036854775807 then (some (t411 ++ a0)) else (none)) = some r := H
 have A2 := a_k A20
 clear A20
 by_cases c3 : t411.size + a0.size ≤ 9223372036854775807
 ·rw [if_pos c3] at H
  have c3b0 := eq_true c3
  have c3b1 : decide (t411.size + a0.size ≤ 9223372036854775807) = true := decide_eq_true c3
  try have c3b2 : (9223372036854775807 < t411.size + a0.size) = False := eq_false (Nat.not_lt.2 c3)
  clear c3
  obtain rfl := Option.some.inj H
  go_enter Tryz.func166, Tryz.ntmps166
  go_wp2_with (first | ((with_reducible refine gate_callee (f := 192) rfl ?_); refine goesL_ (some 6) rfl rfl Tryz.func192 (by kernel_rfl) rfl #[.int .u64 (IntKind.u64.wrap ((a0.size : Int)))] rfl (by (try simp only [m_a, m_c, m_n]); first | done | rfl) ?_; (with_reducible refine (cornucopiaref1_Var.calls k (IntKind.u64.wrap ((a0.size : Int))) t411 _ A2.out).mono ?_); rintro e w4 ⟨rfl, hb⟩; refine ⟨_, rfl, ?_⟩; have n0_ := a_k (below_step (by repeat (first | exact HB.out | apply b_a | apply b_n | apply b_d)) hb); clear HB; have HB := n0_; clear n0_; (try clear hb); (try clear hb2); (try clear hk); (try clear hi)))
  go_ret
  exact ⟨by first | rfl | (simp [*, errW_none, errW_some] <;> rfl), by repeat (first | exact HB.out | apply b_a | apply b_n | apply b_d)⟩
 ·rw [if_neg c3] at H
  exact absurd H (by simp)
def cornucopiaref1_Vars.l0 : Nat → List Int → List Int → Int → Option (ByteArray)
 | 0, _, _, _ => none
 | k + 1, x0, x3, x4 => if x4 < (x0.length : Int) then (if 0 ≤ x4 then ((cornucopiaref1_Var.f k (rd x0 x4)).bind fun t413 => (if x3.length + t413.size < 140737488355328 then (cornucopiaref1_Vars.l0 k x0 (x3 ++ bytesOf t413) (wrap64 (x4 + 1))) else (none))) else (none)) else (some (strOfNums x3))
def cornucopiaref1_Vars.f (k : Nat) (l0 : List Int) : Option (ByteArray) := cornucopiaref1_Vars.l0 k l0 ([] : List Int) 0
theorem cornucopiaref1_Vars.calls (k : Nat) (A0 : Option Addr) (c0 : Nat) (l0 : List Int) (r : ByteArray) (w : World) (hr0 : Kd.C (Kd.int .u64) w A0 l0.length l0) (hc0 : l0.length ≤ c0) (h : cornucopiaref1_Vars.f k l0 = some r) :
  Calls Tryz.prog 167 #[.slice A0 l0.length c0] w fun e w' => e = .returned (.string r) ∧ Below w.heap.size w w' := by
 have HR0 := a_k hr0
 have HC0 := a_k hc0
 clear hr0 hc0
 have HB := a_k (Below.refl w.heap.size w)
 have H : (cornucopiaref1_Vars.l0 k l0 ([] : List Int) 0) = some r := h
 clear h
 have H' := a_k H
 clear H
 go_enter Tryz.func167, Tryz.ntmps167
 go_wp2
 go_loopg [3, 4] k (fun kq v3 v4 w' => ∃ (x3_1 : List Int) (x4_1 : Int), v4 = .int .i64 x4_1 ∧ Aside0 (cornucopiaref1_Vars.l0 kq l0 x3_1 x4_1 = some r) ∧ Aside0 (kq ≤ k) ∧ Aside0 (Kd.R (Kd.int .u8) 5 w' w.heap.size (fun _ => True) v3 x3_1) ∧ Aside0 (Below w.heap.size w w'))
 case atStart => exact ⟨(([] : List Int)), (0), (by first | rfl | (simp; done) | (simp [*]; done)), H', ⟨Nat.le_refl _⟩, ⟨by first | exact Kd.R_nil _ _ _ _ _ | exact Kd.N_nil _ _ _ _ _ | exact Kd.V_nil _ _ _ _ _ | exact Kd.Q_nil _ _ _ _ _ | exact Kd.S_nil _ _ _ _ _⟩, ⟨by repeat (first | exact HB.out | apply b_a | apply b_n | apply b_d)⟩⟩
 case round =>
  clear H'
  try clear c1
  obtain ⟨x3_1, x4_1, rfl, HA, HK1, HO_3, HB⟩ := hrel
  cases gk with
  | zero => exact absurd HA.out (by simp [cornucopiaref1_Vars.l0])
  | succ k1 =>
   have H := HA.out
   clear HA
   simp only [cornucopiaref1_Vars.l0] at H
   by_cases c2 : x4_1 < (l0.length : Int)
   ·rw [if_pos c2] at H
    have c2b0 : decide (x4_1 < (l0.length : Int)) = true := decide_eq_true c2
    clear c2
    by_cases c3 : 0 ≤ x4_1
    ·rw [if_pos c3] at H
     have c3b0 : decide (0 ≤ x4_1) = true := decide_eq_true c3
     clear c3
     replace H := Option.bind_eq_some_iff.mp H
     obtain ⟨t413, A40, H⟩ := H
     replace H : (if x3_1.length + t413.size < 140737488355328 then (cornucopiaref1_Vars.l0 k1 l0 (x3_1 ++ bytesOf t413) (wrap64 (x4_1 + 1))) else (none)) = some r := H
     have A4 := a_k A40
     clear A40
     by_cases c5 : x3_1.length + t413.size < 140737488355328
     ·rw [if_pos c5] at H
      have LMc5 := a_k c5
      clear c5
      obtain ⟨y414, hy414⟩ : ∃ y_ : List Int, y_ = (x3_1 ++ bytesOf t413) := ⟨_, rfl⟩
      replace H : (cornucopiaref1_Vars.l0 k1 l0 y414 (wrap64 (x4_1 + 1))) = some r := by first | (rw [hy414]; with_reducible exact H) | (have H2_ := (Option.bind_some _ _).symm.trans H; rw [hy414]; with_reducible exact H2_) | (have H2_ := (Option.bind_some _ _).symm.trans H; with_reducible exact H2_) | with_reducible exact H | (rw [hy414]; exact H) | exact H
      have Ny414 := a_k hy414
      clear hy414
      have H' := a_k H
      clear H
      have p412 : 0 ≤ (x4_1 : Int) := of_decide_eq_true (by assumption)
      have q412 : x4_1 < (l0.length : Int) := of_decide_eq_true (by assumption)
      obtain ⟨ad412, e412, hx412_0⟩ := Kd.at_int HR0.out x4_1 p412 q412
      cases e412
      replace hx412_0 := c_b HB.out hx412_0
      replace p412 := eq_true p412
      replace q412 := eq_true q412
      go_wp2_with (first | ((with_reducible refine gate_callee (f := 192) rfl ?_); refine goesL_ (some 16) rfl rfl Tryz.func192 (by kernel_rfl) rfl #[.int .u64 (rd l0 x4_1)] rfl (by (try simp only [m_a, m_c, m_n]); first | done | rfl) ?_; (with_reducible refine (cornucopiaref1_Var.calls k1 (rd l0 x4_1) t413 _ A4.out).mono ?_); rintro e w6 ⟨rfl, hb⟩; refine ⟨_, rfl, ?_⟩; have n0_ := a_k (Kd.R_below (by (with_reducible repeat (first | apply Kd.R_alloc | apply Kd.R_drewN | apply Kd.R_drew)); exact HO_3.out) hb); have n1_ := a_k (below_step (by repeat (first | exact HB.out | apply b_a | apply b_n | apply b_d)) hb); clear HO_3; clear HB; have HO_3 := n0_; have HB := n1_; clear n0_ n1_; (try clear hb); (try clear hb2); (try clear hk); (try clear hi)) | (at_builtin; refine print_append_str (w0 := w) w.heap.size rfl (.tmp 11) _ 219 9 5 rfl Tryz.underlying219 Tryz.underlying9 info5 u3 x3_1 t413 rfl rfl ?aO ?aB ?aS ?aL ?_; (case aB => exact (by repeat (first | exact HB.out | apply b_a | apply b_n | apply b_d))); (case aO => exact (Kd.own_of_R (by (with_reducible repeat (first | apply Kd.R_alloc | apply Kd.R_drewN | apply Kd.R_drew)); exact HO_3.out))); (case aS => exact (below_size (by repeat (first | exact HB.out | apply b_a | apply b_n | apply b_d)))); (case aL => have := LMc5.out; omega); intro v415 w7 ho0 hb hg; have ho := Kd.R_of_own (h1 := fun _ => rfl) (ok := fun _ => True) ho0 (fun _ _ => trivial); clear ho0; have hat := True.intro; rw [← Ny414.out] at ho; change Kd.R (Kd.int .u8) 5 w7 w.heap.size (fun _ => True) v415 y414 at ho; have n0_ := a_k (hb); have n1_ := a_k (ho); clear HB; clear HO_3; have HB := n0_; have HO416 := n1_; clear n0_ n1_; clear ho hb hg hat))
      go_roundg k1
      case measure => have := HK1.out; omega
      case rel => exact ⟨(y414), (wrap64 (x4_1 + 1)), (by first | rfl | (simp; done) | (simp [*]; done)), H', ⟨by have := HK1.out; omega⟩, ⟨by (with_reducible repeat (first | apply Kd.R_alloc | apply Kd.R_drewN | apply Kd.R_drew)); exact HO416.out⟩, ⟨by repeat (first | exact HB.out | apply b_a | apply b_n | apply b_d)⟩⟩
     ·rw [if_neg c5] at H
      exact absurd H (by simp)
    ·rw [if_neg c3] at H
     exact absurd H (by simp)
   ·rw [if_neg c2] at H
    have c2b0 : decide (x4_1 < (l0.length : Int)) = false := decide_eq_false c2
    clear c2
    obtain rfl := Option.some.inj H
    have hcv8 := own_string (P := Tryz.prog) Tryz.underlying219 Tryz.underlying5 Tryz.underlying9 (Kd.own_of_R HO_3.out)
    go_wp2
    go_ret
    exact ⟨by first | rfl | (simp [*, errW_none, errW_some] <;> rfl), by repeat (first | exact HB.out | apply b_a | apply b_n | apply b_d)⟩
def cornucopiaref5_Valid.f (a0_0 : ByteArray) (a0_1 : Int) (a0_2 : Int) (a0_3 : ByteArray) : Option (Bool) := if (a0_0.size : Int) ≤ 300 then (if (a0_3.size : Int) ≤ 60000 then (if a0_2 = 1 then (some true) else (if a0_2 = 2 then (some (a0_3.toList == ([] : List UInt8))) else (some false))) else (some false)) else (some false)
theorem cornucopiaref5_Valid.calls (a0_0 : ByteArray) (a0_1 : Int) (a0_2 : Int) (a0_3 : ByteArray) (r : Bool) (w : World) (h : cornucopiaref5_Valid.f a0_0 a0_1 a0_2 a0_3 = some r) :
  Calls Tryz.prog 14 #[.agg #[.string a0_0, .int .u64 a0_1, .int .i64 a0_2, .string a0_3]] w fun e w' => e = .returned (.bool r) ∧ Below w.heap.size w w' := by
 have hu32 := Tryz.underlying32
 have HB := a_k (Below.refl w.heap.size w)
 have H : (if (a0_0.size : Int) ≤ 300 then (if (a0_3.size : Int) ≤ 60000 then (if a0_2 = 1 then (some true) else (if a0_2 = 2 then (some (a0_3.toList == ([] : List UInt8))) else (some false))) else (some false)) else (some false)) = some r := h
 clear h
 by_cases c2 : (a0_0.size : Int) ≤ 300
 ·rw [if_pos c2] at H
  have c2b0 : decide ((a0_0.size : Int) ≤ 300) = true := decide_eq_true c2
  have c2b1 : decide (a0_0.size ≤ 300) = true := decide_eq_true (by omega)
  clear c2
  by_cases c3 : (a0_3.size : Int) ≤ 60000
  ·rw [if_pos c3] at H
   have c3b0 : decide ((a0_3.size : Int) ≤ 60000) = true := decide_eq_true c3
   have c3b1 : decide (a0_3.size ≤ 60000) = true := decide_eq_true (by omega)
   clear c3
   by_cases c4 : a0_2 = 1
   ·rw [if_pos c4] at H
    have c4b0 : (a0_2 == 1) = true := beq_iff_eq.mpr c4
    have c4b1 : (a0_2 != 1) = false := bne_eq_false_iff_eq.mpr c4
    clear c4
    obtain rfl := Option.some.inj H
    go_enter Tryz.func14, Tryz.ntmps14
    go_wp2_with (first | ((with_reducible refine gate_dst (N := 1) rfl ?_); (try (refine gate_guard (by rfl) ?_; dsimp only)); refine box_event ?hg (N := 1) ?hd (cs := #[.string a0_0, .int .u64 a0_1, .int .i64 a0_2, .string a0_3]) (t := 32) ?hr ?_; (case hd => rfl); (case hg => rfl); (case hr => first | (go_simp; done) | (go_simp; rfl)); intro gb417 hg w5 hbox hb; have n0_ := a_k (below_step (by repeat (first | exact HB.out | apply b_a | apply b_n | apply b_d)) hb); have n1_ := a_k (hbox); have n2_ := a_k ((by rw [hg]; exact (below_size (by repeat (first | exact HB.out | apply b_a | apply b_n | apply b_d))) : w.heap.size ≤ gb417)); have n3_ := a_k ((by rw [hg]; exact (below_size (by repeat (first | exact HB.out | apply b_a | apply b_n | apply b_d))) : w.heap.size ≤ gb417)); clear HB; have HB := n0_; have BK417 := n1_; have GW417 := n2_; have GE417 := n3_; clear n0_ n1_ n2_ n3_; clear hb hbox hg; have hcz6_0 : w5.cell? ⟨gb417, 0, none⟩ = some (.string a0_0) := (blk_cell BK417.out 0).trans rfl; have hcz6_1 : w5.cell? ⟨gb417, 1, none⟩ = some (.int .u64 a0_1) := (blk_cell BK417.out 1).trans rfl; have hcz6_2 : w5.cell? ⟨gb417, 2, none⟩ = some (.int .i64 a0_2) := (blk_cell BK417.out 2).trans rfl; have hcz6_3 : w5.cell? ⟨gb417, 3, none⟩ = some (.string a0_3) := (blk_cell BK417.out 3).trans rfl; have hfz6_0 := blk_frozen BK417.out 0; have hfz6_1 := blk_frozen BK417.out 1; have hfz6_2 := blk_frozen BK417.out 2; have hfz6_3 := blk_frozen BK417.out 3))
    go_ret
    exact ⟨by first | rfl | (simp [*, errW_none, errW_some] <;> rfl), by repeat (first | (with_reducible first | exact HB.out | apply b_a | apply b_n | apply b_d | refine below_set ?_ GE417.out) | exact HB.out)⟩
   ·rw [if_neg c4] at H
    have c4b0 : (a0_2 == 1) = false := beq_eq_false_iff_ne.mpr c4
    have c4b1 : (a0_2 != 1) = true := bne_iff_ne.mpr c4
    by_cases c7 : a0_2 = 2
    ·rw [if_pos c7] at H
     have c7b0 : (a0_2 == 2) = true := beq_iff_eq.mpr c7
     have c7b1 : (a0_2 != 2) = false := bne_eq_false_iff_eq.mpr c7
     clear c7
     obtain rfl := Option.some.inj H
     go_enter Tryz.func14, Tryz.ntmps14
     go_wp2_with (first | ((with_reducible refine gate_dst (N := 1) rfl ?_); (try (refine gate_guard (by rfl) ?_; dsimp only)); refine box_event ?hg (N := 1) ?hd (cs := #[.string a0_0, .int .u64 a0_1, .int .i64 a0_2, .string a0_3]) (t := 32) ?hr ?_; (case hd => rfl); (case hg => rfl); (case hr => first | (go_simp; done) | (go_simp; rfl)); intro gb417 hg w8 hbox hb; have n0_ := a_k (below_step (by repeat (first | exact HB.out | apply b_a | apply b_n | apply b_d)) hb); have n1_ := a_k (hbox); have n2_ := a_k ((by rw [hg]; exact (below_size (by repeat (first | exact HB.out | apply b_a | apply b_n | apply b_d))) : w.heap.size ≤ gb417)); have n3_ := a_k ((by rw [hg]; exact (below_size (by repeat (first | exact HB.out | apply b_a | apply b_n | apply b_d))) : w.heap.size ≤ gb417)); clear HB; have HB := n0_; have BK417 := n1_; have GW417 := n2_; have GE417 := n3_; clear n0_ n1_ n2_ n3_; clear hb hbox hg; have hcz9_0 : w8.cell? ⟨gb417, 0, none⟩ = some (.string a0_0) := (blk_cell BK417.out 0).trans rfl; have hcz9_1 : w8.cell? ⟨gb417, 1, none⟩ = some (.int .u64 a0_1) := (blk_cell BK417.out 1).trans rfl; have hcz9_2 : w8.cell? ⟨gb417, 2, none⟩ = some (.int .i64 a0_2) := (blk_cell BK417.out 2).trans rfl; have hcz9_3 : w8.cell? ⟨gb417, 3, none⟩ = some (.string a0_3) := (blk_cell BK417.out 3).trans rfl; have hfz9_0 := blk_frozen BK417.out 0; have hfz9_1 := blk_frozen BK417.out 1; have hfz9_2 := blk_frozen BK417.out 2; have hfz9_3 := blk_frozen BK417.out 3))
     go_ret
     exact ⟨by first | rfl | (simp [*, errW_none, errW_some] <;> rfl), by repeat (first | (with_reducible first | exact HB.out | apply b_a | apply b_n | apply b_d | refine below_set ?_ GE417.out) | exact HB.out)⟩
    ·rw [if_neg c7] at H
     have c7b0 : (a0_2 == 2) = false := beq_eq_false_iff_ne.mpr c7
     have c7b1 : (a0_2 != 2) = true := bne_iff_ne.mpr c7
     obtain rfl := Option.some.inj H
     go_enter Tryz.func14, Tryz.ntmps14
     go_wp2_with (first | ((with_reducible refine gate_dst (N := 1) rfl ?_); (try (refine gate_guard (by rfl) ?_; dsimp only)); refine box_event ?hg (N := 1) ?hd (cs := #[.string a0_0, .int .u64 a0_1, .int .i64 a0_2, .string a0_3]) (t := 32) ?hr ?_; (case hd => rfl); (case hg => rfl); (case hr => first | (go_simp; done) | (go_simp; rfl)); intro gb417 hg w10 hbox hb; have n0_ := a_k (below_step (by repeat (first | exact HB.out | apply b_a | apply b_n | apply b_d)) hb); have n1_ := a_k (hbox); have n2_ := a_k ((by rw [hg]; exact (below_size (by repeat (first | exact HB.out | apply b_a | apply b_n | apply b_d))) : w.heap.size ≤ gb417)); have n3_ := a_k ((by rw [hg]; exact (below_size (by repeat (first | exact HB.out | apply b_a | apply b_n | apply b_d))) : w.heap.size ≤ gb417)); clear HB; have HB := n0_; have BK417 := n1_; have GW417 := n2_; have GE417 := n3_; clear n0_ n1_ n2_ n3_; clear hb hbox hg; have hcz11_0 : w10.cell? ⟨gb417, 0, none⟩ = some (.string a0_0) := (blk_cell BK417.out 0).trans rfl; have hcz11_1 : w10.cell? ⟨gb417, 1, none⟩ = some (.int .u64 a0_1) := (blk_cell BK417.out 1).trans rfl; have hcz11_2 : w10.cell? ⟨gb417, 2, none⟩ = some (.int .i64 a0_2) := (blk_cell BK417.out 2).trans rfl; have hcz11_3 : w10.cell? ⟨gb417, 3, none⟩ = some (.string a0_3) := (blk_cell BK417.out 3).trans rfl; have hfz11_0 := blk_frozen BK417.out 0; have hfz11_1 := blk_frozen BK417.out 1; have hfz11_2 := blk_frozen BK417.out 2; have hfz11_3 := blk_frozen BK417.out 3))
     go_ret
     exact ⟨by first | rfl | (simp [*, errW_none, errW_some] <;> rfl), by repeat (first | (with_reducible first | exact HB.out | apply b_a | apply b_n | apply b_d | refine below_set ?_ GE417.out) | exact HB.out)⟩
  ·rw [if_neg c3] at H
   have c3b0 : decide ((a0_3.size : Int) ≤ 60000) = false := decide_eq_false c3
   have c3b1 : decide (a0_3.size ≤ 60000) = false := decide_eq_false (by omega)
   clear c3
   obtain rfl := Option.some.inj H
   go_enter Tryz.func14, Tryz.ntmps14
   go_wp2_with (first | ((with_reducible refine gate_dst (N := 1) rfl ?_); (try (refine gate_guard (by rfl) ?_; dsimp only)); refine box_event ?hg (N := 1) ?hd (cs := #[.string a0_0, .int .u64 a0_1, .int .i64 a0_2, .string a0_3]) (t := 32) ?hr ?_; (case hd => rfl); (case hg => rfl); (case hr => first | (go_simp; done) | (go_simp; rfl)); intro gb417 hg w12 hbox hb; have n0_ := a_k (below_step (by repeat (first | exact HB.out | apply b_a | apply b_n | apply b_d)) hb); have n1_ := a_k (hbox); have n2_ := a_k ((by rw [hg]; exact (below_size (by repeat (first | exact HB.out | apply b_a | apply b_n | apply b_d))) : w.heap.size ≤ gb417)); have n3_ := a_k ((by rw [hg]; exact (below_size (by repeat (first | exact HB.out | apply b_a | apply b_n | apply b_d))) : w.heap.size ≤ gb417)); clear HB; have HB := n0_; have BK417 := n1_; have GW417 := n2_; have GE417 := n3_; clear n0_ n1_ n2_ n3_; clear hb hbox hg; have hcz13_0 : w12.cell? ⟨gb417, 0, none⟩ = some (.string a0_0) := (blk_cell BK417.out 0).trans rfl; have hcz13_1 : w12.cell? ⟨gb417, 1, none⟩ = some (.int .u64 a0_1) := (blk_cell BK417.out 1).trans rfl; have hcz13_2 : w12.cell? ⟨gb417, 2, none⟩ = some (.int .i64 a0_2) := (blk_cell BK417.out 2).trans rfl; have hcz13_3 : w12.cell? ⟨gb417, 3, none⟩ = some (.string a0_3) := (blk_cell BK417.out 3).trans rfl; have hfz13_0 := blk_frozen BK417.out 0; have hfz13_1 := blk_frozen BK417.out 1; have hfz13_2 := blk_frozen BK417.out 2; have hfz13_3 := blk_frozen BK417.out 3))
   go_ret
   exact ⟨by first | rfl | (simp [*, errW_none, errW_some] <;> rfl), by repeat (first | (with_reducible first | exact HB.out | apply b_a | apply b_n | apply b_d | refine below_set ?_ GE417.out) | exact HB.out)⟩
 ·rw [if_neg c2] at H
  have c2b0 : decide ((a0_0.size : Int) ≤ 300) = false := decide_eq_false c2
  have c2b1 : decide (a0_0.size ≤ 300) = false := decide_eq_false (by omega)
  clear c2
  obtain rfl := Option.some.inj H
  go_enter Tryz.func14, Tryz.ntmps14
  go_wp2_with (first | ((with_reducible refine gate_dst (N := 1) rfl ?_); (try (refine gate_guard (by rfl) ?_; dsimp only)); refine box_event ?hg (N := 1) ?hd (cs := #[.string a0_0, .int .u64 a0_1, .int .i64 a0_2, .string a0_3]) (t := 32) ?hr ?_; (case hd => rfl); (case hg => rfl); (case hr => first | (go_simp; done) | (go_simp; rfl)); intro gb417 hg w14 hbox hb; have n0_ := a_k (below_step (by repeat (first | exact HB.out | apply b_a | apply b_n | apply b_d)) hb); have n1_ := a_k (hbox); have n2_ := a_k ((by rw [hg]; exact (below_size (by repeat (first | exact HB.out | apply b_a | apply b_n | apply b_d))) : w.heap.size ≤ gb417)); have n3_ := a_k ((by rw [hg]; exact (below_size (by repeat (first | exact HB.out | apply b_a | apply b_n | apply b_d))) : w.heap.size ≤ gb417)); clear HB; have HB := n0_; have BK417 := n1_; have GW417 := n2_; have GE417 := n3_; clear n0_ n1_ n2_ n3_; clear hb hbox hg; have hcz15_0 : w14.cell? ⟨gb417, 0, none⟩ = some (.string a0_0) := (blk_cell BK417.out 0).trans rfl; have hcz15_1 : w14.cell? ⟨gb417, 1, none⟩ = some (.int .u64 a0_1) := (blk_cell BK417.out 1).trans rfl; have hcz15_2 : w14.cell? ⟨gb417, 2, none⟩ = some (.int .i64 a0_2) := (blk_cell BK417.out 2).trans rfl; have hcz15_3 : w14.cell? ⟨gb417, 3, none⟩ = some (.string a0_3) := (blk_cell BK417.out 3).trans rfl; have hfz15_0 := blk_frozen BK417.out 0; have hfz15_1 := blk_frozen BK417.out 1; have hfz15_2 := blk_frozen BK417.out 2; have hfz15_3 := blk_frozen BK417.out 3))
  go_ret
  exact ⟨by first | rfl | (simp [*, errW_none, errW_some] <;> rfl), by repeat (first | (with_reducible first | exact HB.out | apply b_a | apply b_n | apply b_d | refine below_set ?_ GE417.out) | exact HB.out)⟩
def cornucopiaref5_Compare.f (k : Nat) (a0_0 : ByteArray) (a0_1 : Int) (a0_2 : Int) (a0_3 : ByteArray) (a1_0 : ByteArray) (a1_1 : Int) (a1_2 : Int) (a1_3 : ByteArray) : Option (Int) := (cornucopiaref1_Less.f k a0_0 a1_0).bind fun t420 => (if t420 = true then (some (-1)) else ((cornucopiaref1_Less.f k a1_0 a0_0).bind fun t421 => (if t421 = true then (some 1) else (if a0_1 > a1_1 then (some (-1)) else (if a0_1 < a1_1 then (some 1) else (some 0))))))
theorem cornucopiaref5_Compare.calls (k : Nat) (a0_0 : ByteArray) (a0_1 : Int) (a0_2 : Int) (a0_3 : ByteArray) (a1_0 : ByteArray) (a1_1 : Int) (a1_2 : Int) (a1_3 : ByteArray) (r : Int) (w : World) (h : cornucopiaref5_Compare.f k a0_0 a0_1 a0_2 a0_3 a1_0 a1_1 a1_2 a1_3 = some r) :
  Calls Tryz.prog 48 #[.agg #[.string a0_0, .int .u64 a0_1, .int .i64 a0_2, .string a0_3], .agg #[.string a1_0, .int .u64 a1_1, .int .i64 a1_2, .string a1_3]] w fun e w' => e = .returned (.int .i64 r) ∧ Below w.heap.size w w' := by
 have hu32 := Tryz.underlying32
 have HB := a_k (Below.refl w.heap.size w)
 have H : ((cornucopiaref1_Less.f k a0_0 a1_0).bind fun t420 => (if t420 = true then (some (-1)) else ((cornucopiaref1_Less.f k a1_0 a0_0).bind fun t421 => (if t421 = true then (some 1) else (if a0_1 > a1_1 then (some (-1)) else (if a0_1 < a1_1 then (some 1) else (some 0))))))) = some r := h
 clear h
 replace H := Option.bind_eq_some_iff.mp H
 obtain ⟨t420, A30, H⟩ := H
 replace H : (if t420 = true then (some (-1)) else ((cornucopiaref1_Less.f k a1_0 a0_0).bind fun t421 => (if t421 = true then (some 1) else (if a0_1 > a1_1 then (some (-1)) else (if a0_1 < a1_1 then (some 1) else (some 0)))))) = some r := H
 have A3 := a_k A30
 clear A30
 by_cases c4 : t420 = true
 ·subst c4
  have H1 : (some (-1)) = some r := by rw [if_pos rfl] at H; exact H
  clear H
  have H := H1
  clear H1
  obtain rfl := Option.some.inj H
  go_enter Tryz.func48, Tryz.ntmps48
  go_wp2_with (first | ((with_reducible refine gate_dst (N := 2) rfl ?_); refine box_event ?hg (N := 2) ?hd (cs := #[.string a0_0, .int .u64 a0_1, .int .i64 a0_2, .string a0_3]) (t := 32) ?hr ?_; (case hd => rfl); (case hg => rfl); (case hr => first | (go_simp; done) | (go_simp; rfl)); intro gb418 hg w5 hbox hb; have n0_ := a_k (below_step (by repeat (first | exact HB.out | apply b_a | apply b_n | apply b_d)) hb); have n1_ := a_k (hbox); have n2_ := a_k ((by rw [hg]; exact (below_size (by repeat (first | exact HB.out | apply b_a | apply b_n | apply b_d))) : w.heap.size ≤ gb418)); have n3_ := a_k ((by rw [hg]; exact (below_size (by repeat (first | exact HB.out | apply b_a | apply b_n | apply b_d))) : w.heap.size ≤ gb418)); clear HB; have HB := n0_; have BK418 := n1_; have GW418 := n2_; have GE418 := n3_; clear n0_ n1_ n2_ n3_; clear hb hbox hg) | ((with_reducible refine gate_dst (N := 3) rfl ?_); refine box_event ?hg (N := 3) ?hd (cs := #[.string a1_0, .int .u64 a1_1, .int .i64 a1_2, .string a1_3]) (t := 32) ?hr ?_; (case hd => rfl); (case hg => rfl); (case hr => first | (go_simp; done) | (go_simp; rfl)); intro gb419 hg w6 hbox hb; have n0_ := a_k (blk_below (g := gb418) (o := .cells #[.string a0_0, .int .u64 a0_1, .int .i64 a0_2, .string a0_3] 32 (0, 0)) (by (with_reducible repeat (first | refine blk_drewN ?_ _ | refine blk_drew ?_ | refine blk_alloc ?_ _)); exact BK418.out) hb); have n1_ := a_k (below_step (by repeat (first | (with_reducible first | exact HB.out | apply b_a | apply b_n | apply b_d | refine below_set ?_ GE418.out) | exact HB.out)) hb); have n2_ := a_k (hbox); have n3_ := a_k ((by rw [hg]; exact (below_size (by repeat (first | (with_reducible first | exact HB.out | apply b_a | apply b_n | apply b_d | refine below_set ?_ GE418.out) | exact HB.out))) : w.heap.size ≤ gb419)); have n4_ := a_k ((by rw [hg]; exact (below_size (by repeat (first | (with_reducible first | exact HB.out | apply b_a | apply b_n | apply b_d | refine below_set ?_ GE418.out) | exact HB.out))) : w.heap.size ≤ gb419)); have n5_ := a_k ((by rw [hg]; exact Nat.ne_of_lt (blk_lt (g := gb418) (o := .cells #[.string a0_0, .int .u64 a0_1, .int .i64 a0_2, .string a0_3] 32 (0, 0)) (by (with_reducible repeat (first | refine blk_drewN ?_ _ | refine blk_drew ?_ | refine blk_alloc ?_ _)); exact BK418.out)) : gb418 ≠ gb419)); have n6_ := a_k ((by rw [hg]; exact Nat.ne_of_gt (blk_lt (g := gb418) (o := .cells #[.string a0_0, .int .u64 a0_1, .int .i64 a0_2, .string a0_3] 32 (0, 0)) (by (with_reducible repeat (first | refine blk_drewN ?_ _ | refine blk_drew ?_ | refine blk_alloc ?_ _)); exact BK418.out)) : gb419 ≠ gb418)); clear BK418; clear HB; have BK418 := n0_; have HB := n1_; have BK419 := n2_; have GW419 := n3_; have GE419 := n4_; have NB418_419 := n5_; have NB419_418 := n6_; clear n0_ n1_ n2_ n3_ n4_ n5_ n6_; clear hb hbox hg; have hnb7 := NB418_419.out; have hnc7 := NB419_418.out; have hcz8_0 : w6.cell? ⟨gb418, 0, none⟩ = some (.string a0_0) := (blk_cell BK418.out 0).trans rfl; have hcz8_1 : w6.cell? ⟨gb418, 1, none⟩ = some (.int .u64 a0_1) := (blk_cell BK418.out 1).trans rfl; have hcz8_2 : w6.cell? ⟨gb418, 2, none⟩ = some (.int .i64 a0_2) := (blk_cell BK418.out 2).trans rfl; have hcz8_3 : w6.cell? ⟨gb418, 3, none⟩ = some (.string a0_3) := (blk_cell BK418.out 3).trans rfl; have hfz8_0 := blk_frozen BK418.out 0; have hfz8_1 := blk_frozen BK418.out 1; have hfz8_2 := blk_frozen BK418.out 2; have hfz8_3 := blk_frozen BK418.out 3; have hcz9_0 : w6.cell? ⟨gb419, 0, none⟩ = some (.string a1_0) := (blk_cell BK419.out 0).trans rfl; have hcz9_1 : w6.cell? ⟨gb419, 1, none⟩ = some (.int .u64 a1_1) := (blk_cell BK419.out 1).trans rfl; have hcz9_2 : w6.cell? ⟨gb419, 2, none⟩ = some (.int .i64 a1_2) := (blk_cell BK419.out 2).trans rfl; have hcz9_3 : w6.cell? ⟨gb419, 3, none⟩ = some (.string a1_3) := (blk_cell BK419.out 3).trans rfl; have hfz9_0 := blk_frozen BK419.out 0; have hfz9_1 := blk_frozen BK419.out 1; have hfz9_2 := blk_frozen BK419.out 2; have hfz9_3 := blk_frozen BK419.out 3) | ((with_reducible refine gate_callee (f := 102) rfl ?_); refine goesL_ (some 10) rfl rfl Tryz.func102 (by kernel_rfl) rfl #[.string a0_0, .string a1_0] rfl (by (try simp only [m_a, m_c, m_n]); first | done | rfl) ?_; (with_reducible refine (cornucopiaref1_Less.calls k a0_0 a1_0 true _ A3.out).mono ?_); rintro e w' ⟨rfl, ⟨nd, rfl⟩⟩; refine ⟨_, rfl, ?_⟩))
  go_ret
  exact ⟨by first | rfl | (simp [*, errW_none, errW_some] <;> rfl), by repeat (first | (with_reducible first | exact HB.out | apply b_a | apply b_n | apply b_d | refine below_set ?_ GE418.out | refine below_set ?_ GE419.out) | exact HB.out)⟩
 ·replace c4 := Bool.eq_false_iff.mpr c4
  subst c4
  have H1 : ((cornucopiaref1_Less.f k a1_0 a0_0).bind fun t421 => (if t421 = true then (some 1) else (if a0_1 > a1_1 then (some (-1)) else (if a0_1 < a1_1 then (some 1) else (some 0))))) = some r := by rw [if_neg (show ¬ (false = true) by decide)] at H; exact H
  clear H
  have H := H1
  clear H1
  replace H := Option.bind_eq_some_iff.mp H
  obtain ⟨t421, A100, H⟩ := H
  replace H : (if t421 = true then (some 1) else (if a0_1 > a1_1 then (some (-1)) else (if a0_1 < a1_1 then (some 1) else (some 0)))) = some r := H
  have A10 := a_k A100
  clear A100
  by_cases c11 : t421 = true
  ·subst c11
   have H1 : (some 1) = some r := by rw [if_pos rfl] at H; exact H
   clear H
   have H := H1
   clear H1
   obtain rfl := Option.some.inj H
   go_enter Tryz.func48, Tryz.ntmps48
   go_wp2_with (first | ((with_reducible refine gate_dst (N := 2) rfl ?_); refine box_event ?hg (N := 2) ?hd (cs := #[.string a0_0, .int .u64 a0_1, .int .i64 a0_2, .string a0_3]) (t := 32) ?hr ?_; (case hd => rfl); (case hg => rfl); (case hr => first | (go_simp; done) | (go_simp; rfl)); intro gb418 hg w12 hbox hb; have n0_ := a_k (below_step (by repeat (first | exact HB.out | apply b_a | apply b_n | apply b_d)) hb); have n1_ := a_k (hbox); have n2_ := a_k ((by rw [hg]; exact (below_size (by repeat (first | exact HB.out | apply b_a | apply b_n | apply b_d))) : w.heap.size ≤ gb418)); have n3_ := a_k ((by rw [hg]; exact (below_size (by repeat (first | exact HB.out | apply b_a | apply b_n | apply b_d))) : w.heap.size ≤ gb418)); clear HB; have HB := n0_; have BK418 := n1_; have GW418 := n2_; have GE418 := n3_; clear n0_ n1_ n2_ n3_; clear hb hbox hg) | ((with_reducible refine gate_dst (N := 3) rfl ?_); refine box_event ?hg (N := 3) ?hd (cs := #[.string a1_0, .int .u64 a1_1, .int .i64 a1_2, .string a1_3]) (t := 32) ?hr ?_; (case hd => rfl); (case hg => rfl); (case hr => first | (go_simp; done) | (go_simp; rfl)); intro gb419 hg w13 hbox hb; have n0_ := a_k (blk_below (g := gb418) (o := .cells #[.string a0_0, .int .u64 a0_1, .int .i64 a0_2, .string a0_3] 32 (0, 0)) (by (with_reducible repeat (first | refine blk_drewN ?_ _ | refine blk_drew ?_ | refine blk_alloc ?_ _)); exact BK418.out) hb); have n1_ := a_k (below_step (by repeat (first | (with_reducible first | exact HB.out | apply b_a | apply b_n | apply b_d | refine below_set ?_ GE418.out) | exact HB.out)) hb); have n2_ := a_k (hbox); have n3_ := a_k ((by rw [hg]; exact (below_size (by repeat (first | (with_reducible first | exact HB.out | apply b_a | apply b_n | apply b_d | refine below_set ?_ GE418.out) | exact HB.out))) : w.heap.size ≤ gb419)); have n4_ := a_k ((by rw [hg]; exact (below_size (by repeat (first | (with_reducible first | exact HB.out | apply b_a | apply b_n | apply b_d | refine below_set ?_ GE418.out) | exact HB.out))) : w.heap.size ≤ gb419)); have n5_ := a_k ((by rw [hg]; exact Nat.ne_of_lt (blk_lt (g := gb418) (o := .cells #[.string a0_0, .int .u64 a0_1, .int .i64 a0_2, .string a0_3] 32 (0, 0)) (by (with_reducible repeat (first | refine blk_drewN ?_ _ | refine blk_drew ?_ | refine blk_alloc ?_ _)); exact BK418.out)) : gb418 ≠ gb419)); have n6_ := a_k ((by rw [hg]; exact Nat.ne_of_gt (blk_lt (g := gb418) (o := .cells #[.string a0_0, .int .u64 a0_1, .int .i64 a0_2, .string a0_3] 32 (0, 0)) (by (with_reducible repeat (first | refine blk_drewN ?_ _ | refine blk_drew ?_ | refine blk_alloc ?_ _)); exact BK418.out)) : gb419 ≠ gb418)); clear BK418; clear HB; have BK418 := n0_; have HB := n1_; have BK419 := n2_; have GW419 := n3_; have GE419 := n4_; have NB418_419 := n5_; have NB419_418 := n6_; clear n0_ n1_ n2_ n3_ n4_ n5_ n6_; clear hb hbox hg; have hnb14 := NB418_419.out; have hnc14 := NB419_418.out; have hcz15_0 : w13.cell? ⟨gb418, 0, none⟩ = some (.string a0_0) := (blk_cell BK418.out 0).trans rfl; have hcz15_1 : w13.cell? ⟨gb418, 1, none⟩ = some (.int .u64 a0_1) := (blk_cell BK418.out 1).trans rfl; have hcz15_2 : w13.cell? ⟨gb418, 2, none⟩ = some (.int .i64 a0_2) := (blk_cell BK418.out 2).trans rfl; have hcz15_3 : w13.cell? ⟨gb418, 3, none⟩ = some (.string a0_3) := (blk_cell BK418.out 3).trans rfl; have hfz15_0 := blk_frozen BK418.out 0; have hfz15_1 := blk_frozen BK418.out 1; have hfz15_2 := blk_frozen BK418.out 2; have hfz15_3 := blk_frozen BK418.out 3; have hcz16_0 : w13.cell? ⟨gb419, 0, none⟩ = some (.string a1_0) := (blk_cell BK419.out 0).trans rfl; have hcz16_1 : w13.cell? ⟨gb419, 1, none⟩ = some (.int .u64 a1_1) := (blk_cell BK419.out 1).trans rfl; have hcz16_2 : w13.cell? ⟨gb419, 2, none⟩ = some (.int .i64 a1_2) := (blk_cell BK419.out 2).trans rfl; have hcz16_3 : w13.cell? ⟨gb419, 3, none⟩ = some (.string a1_3) := (blk_cell BK419.out 3).trans rfl; have hfz16_0 := blk_frozen BK419.out 0; have hfz16_1 := blk_frozen BK419.out 1; have hfz16_2 := blk_frozen BK419.out 2; have hfz16_3 := blk_frozen BK419.out 3) | ((with_reducible refine gate_callee (f := 102) rfl ?_); refine goesL_ (some 10) rfl rfl Tryz.func102 (by kernel_rfl) rfl #[.string a0_0, .string a1_0] rfl (by (try simp only [m_a, m_c, m_n]); first | done | rfl) ?_; (with_reducible refine (cornucopiaref1_Less.calls k a0_0 a1_0 false _ A3.out).mono ?_); rintro e w' ⟨rfl, ⟨nd, rfl⟩⟩; refine ⟨_, rfl, ?_⟩) | ((with_reducible refine gate_callee (f := 102) rfl ?_); refine goesL_ (some 16) rfl rfl Tryz.func102 (by kernel_rfl) rfl #[.string a1_0, .string a0_0] rfl (by (try simp only [m_a, m_c, m_n]); first | done | rfl) ?_; (with_reducible refine (cornucopiaref1_Less.calls k a1_0 a0_0 true _ A10.out).mono ?_); rintro e w' ⟨rfl, ⟨nd, rfl⟩⟩; refine ⟨_, rfl, ?_⟩))
   go_ret
   exact ⟨by first | rfl | (simp [*, errW_none, errW_some] <;> rfl), by repeat (first | (with_reducible first | exact HB.out | apply b_a | apply b_n | apply b_d | refine below_set ?_ GE418.out | refine below_set ?_ GE419.out) | exact HB.out)⟩
  ·replace c11 := Bool.eq_false_iff.mpr c11
   subst c11
   have H1 : (if a0_1 > a1_1 then (some (-1)) else (if a0_1 < a1_1 then (some 1) else (some 0))) = some r := by rw [if_neg (show ¬ (false = true) by decide)] at H; exact H
   clear H
   have H := H1
   clear H1
   by_cases c17 : a0_1 > a1_1
   ·rw [if_pos c17] at H
    have c17b0 : decide (a1_1 < a0_1) = true := decide_eq_true c17
    clear c17
    obtain rfl := Option.some.inj H
    go_enter Tryz.func48, Tryz.ntmps48
    go_wp2_with (first | ((with_reducible refine gate_dst (N := 2) rfl ?_); refine box_event ?hg (N := 2) ?hd (cs := #[.string a0_0, .int .u64 a0_1, .int .i64 a0_2, .string a0_3]) (t := 32) ?hr ?_; (case hd => rfl); (case hg => rfl); (case hr => first | (go_simp; done) | (go_simp; rfl)); intro gb418 hg w18 hbox hb; have n0_ := a_k (below_step (by repeat (first | exact HB.out | apply b_a | apply b_n | apply b_d)) hb); have n1_ := a_k (hbox); have n2_ := a_k ((by rw [hg]; exact (below_size (by repeat (first | exact HB.out | apply b_a | apply b_n | apply b_d))) : w.heap.size ≤ gb418)); have n3_ := a_k ((by rw [hg]; exact (below_size (by repeat (first | exact HB.out | apply b_a | apply b_n | apply b_d))) : w.heap.size ≤ gb418)); clear HB; have HB := n0_; have BK418 := n1_; have GW418 := n2_; have GE418 := n3_; clear n0_ n1_ n2_ n3_; clear hb hbox hg) | ((with_reducible refine gate_dst (N := 3) rfl ?_); refine box_event ?hg (N := 3) ?hd (cs := #[.string a1_0, .int .u64 a1_1, .int .i64 a1_2, .string a1_3]) (t := 32) ?hr ?_; (case hd => rfl); (case hg => rfl); (case hr => first | (go_simp; done) | (go_simp; rfl)); intro gb419 hg w19 hbox hb; have n0_ := a_k (blk_below (g := gb418) (o := .cells #[.string a0_0, .int .u64 a0_1, .int .i64 a0_2, .string a0_3] 32 (0, 0)) (by (with_reducible repeat (first | refine blk_drewN ?_ _ | refine blk_drew ?_ | refine blk_alloc ?_ _)); exact BK418.out) hb); have n1_ := a_k (below_step (by repeat (first | (with_reducible first | exact HB.out | apply b_a | apply b_n | apply b_d | refine below_set ?_ GE418.out) | exact HB.out)) hb); have n2_ := a_k (hbox); have n3_ := a_k ((by rw [hg]; exact (below_size (by repeat (first | (with_reducible first | exact HB.out | apply b_a | apply b_n | apply b_d | refine below_set ?_ GE418.out) | exact HB.out))) : w.heap.size ≤ gb419)); have n4_ := a_k ((by rw [hg]; exact (below_size (by repeat (first | (with_reducible first | exact HB.out | apply b_a | apply b_n | apply b_d | refine below_set ?_ GE418.out) | exact HB.out))) : w.heap.size ≤ gb419)); have n5_ := a_k ((by rw [hg]; exact Nat.ne_of_lt (blk_lt (g := gb418) (o := .cells #[.string a0_0, .int .u64 a0_1, .int .i64 a0_2, .string a0_3] 32 (0, 0)) (by (with_reducible repeat (first | refine blk_drewN ?_ _ | refine blk_drew ?_ | refine blk_alloc ?_ _)); exact BK418.out)) : gb418 ≠ gb419)); have n6_ := a_k ((by rw [hg]; exact Nat.ne_of_gt (blk_lt (g := gb418) (o := .cells #[.string a0_0, .int .u64 a0_1, .int .i64 a0_2, .string a0_3] 32 (0, 0)) (by (with_reducible repeat (first | refine blk_drewN ?_ _ | refine blk_drew ?_ | refine blk_alloc ?_ _)); exact BK418.out)) : gb419 ≠ gb418)); clear BK418; clear HB; have BK418 := n0_; have HB := n1_; have BK419 := n2_; have GW419 := n3_; have GE419 := n4_; have NB418_419 := n5_; have NB419_418 := n6_; clear n0_ n1_ n2_ n3_ n4_ n5_ n6_; clear hb hbox hg; have hnb20 := NB418_419.out; have hnc20 := NB419_418.out; have hcz21_0 : w19.cell? ⟨gb418, 0, none⟩ = some (.string a0_0) := (blk_cell BK418.out 0).trans rfl; have hcz21_1 : w19.cell? ⟨gb418, 1, none⟩ = some (.int .u64 a0_1) := (blk_cell BK418.out 1).trans rfl; have hcz21_2 : w19.cell? ⟨gb418, 2, none⟩ = some (.int .i64 a0_2) := (blk_cell BK418.out 2).trans rfl; have hcz21_3 : w19.cell? ⟨gb418, 3, none⟩ = some (.string a0_3) := (blk_cell BK418.out 3).trans rfl; have hfz21_0 := blk_frozen BK418.out 0; have hfz21_1 := blk_frozen BK418.out 1; have hfz21_2 := blk_frozen BK418.out 2; have hfz21_3 := blk_frozen BK418.out 3; have hcz22_0 : w19.cell? ⟨gb419, 0, none⟩ = some (.string a1_0) := (blk_cell BK419.out 0).trans rfl; have hcz22_1 : w19.cell? ⟨gb419, 1, none⟩ = some (.int .u64 a1_1) := (blk_cell BK419.out 1).trans rfl; have hcz22_2 : w19.cell? ⟨gb419, 2, none⟩ = some (.int .i64 a1_2) := (blk_cell BK419.out 2).trans rfl; have hcz22_3 : w19.cell? ⟨gb419, 3, none⟩ = some (.string a1_3) := (blk_cell BK419.out 3).trans rfl; have hfz22_0 := blk_frozen BK419.out 0; have hfz22_1 := blk_frozen BK419.out 1; have hfz22_2 := blk_frozen BK419.out 2; have hfz22_3 := blk_frozen BK419.out 3) | ((with_reducible refine gate_callee (f := 102) rfl ?_); refine goesL_ (some 10) rfl rfl Tryz.func102 (by kernel_rfl) rfl #[.string a0_0, .string a1_0] rfl (by (try simp only [m_a, m_c, m_n]); first | done | rfl) ?_; (with_reducible refine (cornucopiaref1_Less.calls k a0_0 a1_0 false _ A3.out).mono ?_); rintro e w' ⟨rfl, ⟨nd, rfl⟩⟩; refine ⟨_, rfl, ?_⟩) | ((with_reducible refine gate_callee (f := 102) rfl ?_); refine goesL_ (some 16) rfl rfl Tryz.func102 (by kernel_rfl) rfl #[.string a1_0, .string a0_0] rfl (by (try simp only [m_a, m_c, m_n]); first | done | rfl) ?_; (with_reducible refine (cornucopiaref1_Less.calls k a1_0 a0_0 false _ A10.out).mono ?_); rintro e w' ⟨rfl, ⟨nd, rfl⟩⟩; refine ⟨_, rfl, ?_⟩))
    go_ret
    exact ⟨by first | rfl | (simp [*, errW_none, errW_some] <;> rfl), by repeat (first | (with_reducible first | exact HB.out | apply b_a | apply b_n | apply b_d | refine below_set ?_ GE418.out | refine below_set ?_ GE419.out) | exact HB.out)⟩
   ·rw [if_neg c17] at H
    have c17b0 : decide (a1_1 < a0_1) = false := decide_eq_false c17
    clear c17
    by_cases c23 : a0_1 < a1_1
    ·rw [if_pos c23] at H
     have c23b0 : decide (a0_1 < a1_1) = true := decide_eq_true c23
     clear c23
     obtain rfl := Option.some.inj H
     go_enter Tryz.func48, Tryz.ntmps48
     go_wp2_with (first | ((with_reducible refine gate_dst (N := 2) rfl ?_); refine box_event ?hg (N := 2) ?hd (cs := #[.string a0_0, .int .u64 a0_1, .int .i64 a0_2, .string a0_3]) (t := 32) ?hr ?_; (case hd => rfl); (case hg => rfl); (case hr => first | (go_simp; done) | (go_simp; rfl)); intro gb418 hg w24 hbox hb; have n0_ := a_k (below_step (by repeat (first | exact HB.out | apply b_a | apply b_n | apply b_d)) hb); have n1_ := a_k (hbox); have n2_ := a_k ((by rw [hg]; exact (below_size (by repeat (first | exact HB.out | apply b_a | apply b_n | apply b_d))) : w.heap.size ≤ gb418)); have n3_ := a_k ((by rw [hg]; exact (below_size (by repeat (first | exact HB.out | apply b_a | apply b_n | apply b_d))) : w.heap.size ≤ gb418)); clear HB; have HB := n0_; have BK418 := n1_; have GW418 := n2_; have GE418 := n3_; clear n0_ n1_ n2_ n3_; clear hb hbox hg) | ((with_reducible refine gate_dst (N := 3) rfl ?_); refine box_event ?hg (N := 3) ?hd (cs := #[.string a1_0, .int .u64 a1_1, .int .i64 a1_2, .string a1_3]) (t := 32) ?hr ?_; (case hd => rfl); (case hg => rfl); (case hr => first | (go_simp; done) | (go_simp; rfl)); intro gb419 hg w25 hbox hb; have n0_ := a_k (blk_below (g := gb418) (o := .cells #[.string a0_0, .int .u64 a0_1, .int .i64 a0_2, .string a0_3] 32 (0, 0)) (by (with_reducible repeat (first | refine blk_drewN ?_ _ | refine blk_drew ?_ | refine blk_alloc ?_ _)); exact BK418.out) hb); have n1_ := a_k (below_step (by repeat (first | (with_reducible first | exact HB.out | apply b_a | apply b_n | apply b_d | refine below_set ?_ GE418.out) | exact HB.out)) hb); have n2_ := a_k (hbox); have n3_ := a_k ((by rw [hg]; exact (below_size (by repeat (first | (with_reducible first | exact HB.out | apply b_a | apply b_n | apply b_d | refine below_set ?_ GE418.out) | exact HB.out))) : w.heap.size ≤ gb419)); have n4_ := a_k ((by rw [hg]; exact (below_size (by repeat (first | (with_reducible first | exact HB.out | apply b_a | apply b_n | apply b_d | refine below_set ?_ GE418.out) | exact HB.out))) : w.heap.size ≤ gb419)); have n5_ := a_k ((by rw [hg]; exact Nat.ne_of_lt (blk_lt (g := gb418) (o := .cells #[.string a0_0, .int .u64 a0_1, .int .i64 a0_2, .string a0_3] 32 (0, 0)) (by (with_reducible repeat (first | refine blk_drewN ?_ _ | refine blk_drew ?_ | refine blk_alloc ?_ _)); exact BK418.out)) : gb418 ≠ gb419)); have n6_ := a_k ((by rw [hg]; exact Nat.ne_of_gt (blk_lt (g := gb418) (o := .cells #[.string a0_0, .int .u64 a0_1, .int .i64 a0_2, .string a0_3] 32 (0, 0)) (by (with_reducible repeat (first | refine blk_drewN ?_ _ | refine blk_drew ?_ | refine blk_alloc ?_ _)); exact BK418.out)) : gb419 ≠ gb418)); clear BK418; clear HB; have BK418 := n0_; have HB := n1_; have BK419 := n2_; have GW419 := n3_; have GE419 := n4_; have NB418_419 := n5_; have NB419_418 := n6_; clear n0_ n1_ n2_ n3_ n4_ n5_ n6_; clear hb hbox hg; have hnb26 := NB418_419.out; have hnc26 := NB419_418.out; have hcz27_0 : w25.cell? ⟨gb418, 0, none⟩ = some (.string a0_0) := (blk_cell BK418.out 0).trans rfl; have hcz27_1 : w25.cell? ⟨gb418, 1, none⟩ = some (.int .u64 a0_1) := (blk_cell BK418.out 1).trans rfl; have hcz27_2 : w25.cell? ⟨gb418, 2, none⟩ = some (.int .i64 a0_2) := (blk_cell BK418.out 2).trans rfl; have hcz27_3 : w25.cell? ⟨gb418, 3, none⟩ = some (.string a0_3) := (blk_cell BK418.out 3).trans rfl; have hfz27_0 := blk_frozen BK418.out 0; have hfz27_1 := blk_frozen BK418.out 1; have hfz27_2 := blk_frozen BK418.out 2; have hfz27_3 := blk_frozen BK418.out 3; have hcz28_0 : w25.cell? ⟨gb419, 0, none⟩ = some (.string a1_0) := (blk_cell BK419.out 0).trans rfl; have hcz28_1 : w25.cell? ⟨gb419, 1, none⟩ = some (.int .u64 a1_1) := (blk_cell BK419.out 1).trans rfl; have hcz28_2 : w25.cell? ⟨gb419, 2, none⟩ = some (.int .i64 a1_2) := (blk_cell BK419.out 2).trans rfl; have hcz28_3 : w25.cell? ⟨gb419, 3, none⟩ = some (.string a1_3) := (blk_cell BK419.out 3).trans rfl; have hfz28_0 := blk_frozen BK419.out 0; have hfz28_1 := blk_frozen BK419.out 1; have hfz28_2 := blk_frozen BK419.out 2; have hfz28_3 := blk_frozen BK419.out 3) | ((with_reducible refine gate_callee (f := 102) rfl ?_); refine goesL_ (some 10) rfl rfl Tryz.func102 (by kernel_rfl) rfl #[.string a0_0, .string a1_0] rfl (by (try simp only [m_a, m_c, m_n]); first | done | rfl) ?_; (with_reducible refine (cornucopiaref1_Less.calls k a0_0 a1_0 false _ A3.out).mono ?_); rintro e w' ⟨rfl, ⟨nd, rfl⟩⟩; refine ⟨_, rfl, ?_⟩) | ((with_reducible refine gate_callee (f := 102) rfl ?_); refine goesL_ (some 16) rfl rfl Tryz.func102 (by kernel_rfl) rfl #[.string a1_0, .string a0_0] rfl (by (try simp only [m_a, m_c, m_n]); first | done | rfl) ?_; (with_reducible refine (cornucopiaref1_Less.calls k a1_0 a0_0 false _ A10.out).mono ?_); rintro e w' ⟨rfl, ⟨nd, rfl⟩⟩; refine ⟨_, rfl, ?_⟩))
     go_ret
     exact ⟨by first | rfl | (simp [*, errW_none, errW_some] <;> rfl), by repeat (first | (with_reducible first | exact HB.out | apply b_a | apply b_n | apply b_d | refine below_set ?_ GE418.out | refine below_set ?_ GE419.out) | exact HB.out)⟩
    ·rw [if_neg c23] at H
     have c23b0 : decide (a0_1 < a1_1) = false := decide_eq_false c23
     clear c23
     obtain rfl := Option.some.inj H
     go_enter Tryz.func48, Tryz.ntmps48
     go_wp2_with (first | ((with_reducible refine gate_dst (N := 2) rfl ?_); refine box_event ?hg (N := 2) ?hd (cs := #[.string a0_0, .int .u64 a0_1, .int .i64 a0_2, .string a0_3]) (t := 32) ?hr ?_; (case hd => rfl); (case hg => rfl); (case hr => first | (go_simp; done) | (go_simp; rfl)); intro gb418 hg w29 hbox hb; have n0_ := a_k (below_step (by repeat (first | exact HB.out | apply b_a | apply b_n | apply b_d)) hb); have n1_ := a_k (hbox); have n2_ := a_k ((by rw [hg]; exact (below_size (by repeat (first | exact HB.out | apply b_a | apply b_n | apply b_d))) : w.heap.size ≤ gb418)); have n3_ := a_k ((by rw [hg]; exact (below_size (by repeat (first | exact HB.out | apply b_a | apply b_n | apply b_d))) : w.heap.size ≤ gb418)); clear HB; have HB := n0_; have BK418 := n1_; have GW418 := n2_; have GE418 := n3_; clear n0_ n1_ n2_ n3_; clear hb hbox hg) | ((with_reducible refine gate_dst (N := 3) rfl ?_); refine box_event ?hg (N := 3) ?hd (cs := #[.string a1_0, .int .u64 a1_1, .int .i64 a1_2, .string a1_3]) (t := 32) ?hr ?_; (case hd => rfl); (case hg => rfl); (case hr => first | (go_simp; done) | (go_simp; rfl)); intro gb419 hg w30 hbox hb; have n0_ := a_k (blk_below (g := gb418) (o := .cells #[.string a0_0, .int .u64 a0_1, .int .i64 a0_2, .string a0_3] 32 (0, 0)) (by (with_reducible repeat (first | refine blk_drewN ?_ _ | refine blk_drew ?_ | refine blk_alloc ?_ _)); exact BK418.out) hb); have n1_ := a_k (below_step (by repeat (first | (with_reducible first | exact HB.out | apply b_a | apply b_n | apply b_d | refine below_set ?_ GE418.out) | exact HB.out)) hb); have n2_ := a_k (hbox); have n3_ := a_k ((by rw [hg]; exact (below_size (by repeat (first | (with_reducible first | exact HB.out | apply b_a | apply b_n | apply b_d | refine below_set ?_ GE418.out) | exact HB.out))) : w.heap.size ≤ gb419)); have n4_ := a_k ((by rw [hg]; exact (below_size (by repeat (first | (with_reducible first | exact HB.out | apply b_a | apply b_n | apply b_d | refine below_set ?_ GE418.out) | exact HB.out))) : w.heap.size ≤ gb419)); have n5_ := a_k ((by rw [hg]; exact Nat.ne_of_lt (blk_lt (g := gb418) (o := .cells #[.string a0_0, .int .u64 a0_1, .int .i64 a0_2, .string a0_3] 32 (0, 0)) (by (with_reducible repeat (first | refine blk_drewN ?_ _ | refine blk_drew ?_ | refine blk_alloc ?_ _)); exact BK418.out)) : gb418 ≠ gb419)); have n6_ := a_k ((by rw [hg]; exact Nat.ne_of_gt (blk_lt (g := gb418) (o := .cells #[.string a0_0, .int .u64 a0_1, .int .i64 a0_2, .string a0_3] 32 (0, 0)) (by (with_reducible repeat (first | refine blk_drewN ?_ _ | refine blk_drew ?_ | refine blk_alloc ?_ _)); exact BK418.out)) : gb419 ≠ gb418)); clear BK418; clear HB; have BK418 := n0_; have HB := n1_; have BK419 := n2_; have GW419 := n3_; have GE419 := n4_; have NB418_419 := n5_; have NB419_418 := n6_; clear n0_ n1_ n2_ n3_ n4_ n5_ n6_; clear hb hbox hg; have hnb31 := NB418_419.out; have hnc31 := NB419_418.out; have hcz32_0 : w30.cell? ⟨gb418, 0, none⟩ = some (.string a0_0) := (blk_cell BK418.out 0).trans rfl; have hcz32_1 : w30.cell? ⟨gb418, 1, none⟩ = some (.int .u64 a0_1) := (blk_cell BK418.out 1).trans rfl; have hcz32_2 : w30.cell? ⟨gb418, 2, none⟩ = some (.int .i64 a0_2) := (blk_cell BK418.out 2).trans rfl; have hcz32_3 : w30.cell? ⟨gb418, 3, none⟩ = some (.string a0_3) := (blk_cell BK418.out 3).trans rfl; have hfz32_0 := blk_frozen BK418.out 0; have hfz32_1 := blk_frozen BK418.out 1; have hfz32_2 := blk_frozen BK418.out 2; have hfz32_3 := blk_frozen BK418.out 3; have hcz33_0 : w30.cell? ⟨gb419, 0, none⟩ = some (.string a1_0) := (blk_cell BK419.out 0).trans rfl; have hcz33_1 : w30.cell? ⟨gb419, 1, none⟩ = some (.int .u64 a1_1) := (blk_cell BK419.out 1).trans rfl; have hcz33_2 : w30.cell? ⟨gb419, 2, none⟩ = some (.int .i64 a1_2) := (blk_cell BK419.out 2).trans rfl; have hcz33_3 : w30.cell? ⟨gb419, 3, none⟩ = some (.string a1_3) := (blk_cell BK419.out 3).trans rfl; have hfz33_0 := blk_frozen BK419.out 0; have hfz33_1 := blk_frozen BK419.out 1; have hfz33_2 := blk_frozen BK419.out 2; have hfz33_3 := blk_frozen BK419.out 3) | ((with_reducible refine gate_callee (f := 102) rfl ?_); refine goesL_ (some 10) rfl rfl Tryz.func102 (by kernel_rfl) rfl #[.string a0_0, .string a1_0] rfl (by (try simp only [m_a, m_c, m_n]); first | done | rfl) ?_; (with_reducible refine (cornucopiaref1_Less.calls k a0_0 a1_0 false _ A3.out).mono ?_); rintro e w' ⟨rfl, ⟨nd, rfl⟩⟩; refine ⟨_, rfl, ?_⟩) | ((with_reducible refine gate_callee (f := 102) rfl ?_); refine goesL_ (some 16) rfl rfl Tryz.func102 (by kernel_rfl) rfl #[.string a1_0, .string a0_0] rfl (by (try simp only [m_a, m_c, m_n]); first | done | rfl) ?_; (with_reducible refine (cornucopiaref1_Less.calls k a1_0 a0_0 false _ A10.out).mono ?_); rintro e w' ⟨rfl, ⟨nd, rfl⟩⟩; refine ⟨_, rfl, ?_⟩))
     go_ret
     exact ⟨by first | rfl | (simp [*, errW_none, errW_some] <;> rfl), by repeat (first | (with_reducible first | exact HB.out | apply b_a | apply b_n | apply b_d | refine below_set ?_ GE418.out | refine below_set ?_ GE419.out) | exact HB.out)⟩
end Go.Proofs.YtchgpcgolgcfdaaGreat.PNum
end
section
namespace Go.Proofs.YtchgpcgolgcfdaaGreat.PNum
open Go.RowKit Go.Proofs.YtchgpcgolgcfdaaGreatW.PrintWords Go.Proofs.YtchgpcgolgcfdaaGreatW.PrintLast Go.Proofs.YtchgpcgolgcfdaaGreatW.PrintMore
attribute [local go_sem] max2_int min2_int max_two min_two max_three min_three max_four min_four
set_option linter.unusedVariables false
set_option linter.unusedSimpArgs false
def cornucopiaref5_ordered.l0 : Nat → List (S32) → Int → Option (Bool)
 | 0, _, _ => none
 | k + 1, x0, x3 => if x3 < (x0.length : Int) then (if 0 ≤ x3 then ((cornucopiaref5_Valid.f ((rd_T32 x0 x3).f0) ((rd_T32 x0 x3).f1) ((rd_T32 x0 x3).f2) ((rd_T32 x0 x3).f3)).bind fun t423 => (if t423 = true then (if x3 > 0 then (if 0 ≤ (wrap64 (x3 - 1)) then (if (wrap64 (x3 - 1)) < (x0.length : Int) then ((cornucopiaref5_Compare.f k ((rd_T32 x0 (wrap64 (x3 - 1))).f0) ((rd_T32 x0 (wrap64 (x3 - 1))).f1) ((rd_T32 x0 (wrap64 (x3 - 1))).f2) ((rd_T32 x0 (wrap64 (x3 - 1))).f3) ((rd_T32 x0 x3).f0) ((rd_T32 x0 x3).f1) ((rd_T32 x0 x3).f2) ((rd_T32 x0 x3).f3)).bind fun t426 => (if t426 ≥ 0 then (some false) else (cornucopiaref5_ordered.l0 k x0 (wrap64 (x3 + 1))))) else (none)) else (none)) else (cornucopiaref5_ordered.l0 k x0 (wrap64 (x3 + 1)))) else (some false))) else (none)) else (some true)
def cornucopiaref5_ordered.f (k : Nat) (l0 : List (S32)) : Option (Bool) := cornucopiaref5_ordered.l0 k l0 0
def cornucopiaref5_ordered.T4 : Bool × List (List Nat × List Nat) := (true, [([], []), ([], []), ([0, 1], [0, 1]), ([2], [2]), ([3], [3]), ([4], [4]), ([5, 4], [5]), ([6], [6]), ([7, 6], [6, 7]), ([8, 6, 6], [6, 8]), ([9], [9]), ([9], [9]), ([11, 9], [9, 11]), ([10, 12, 9], [9, 10, 12]), ([13, 9], [9, 13]), ([9], [9]), ([9], [9]), ([15, 16, 9], [9, 15, 16]), ([17, 9], [9, 17]), ([14, 18, 9, 9], [9, 14, 18]), ([19, 9], [9, 19]), ([9, 20, 6], [6, 9, 20]), ([6, 21], [6, 21])])
def cornucopiaref5_ordered.B4 : List Nat := [0, 0, 3, 7, 15, 31, 63, 127, 255, 511, 1023, 1023, 3071, 8191, 16383, 1023, 1023, 99327, 230399, 524287, 1048575, 2097151, 4194303]
theorem cornucopiaref5_ordered.tab4 : rtab .any (opsOf Tryz.f190 4) = cornucopiaref5_ordered.T4 := by kernel_rfl
theorem cornucopiaref5_ordered.bits4 : waitsOk cornucopiaref5_ordered.T4.2 cornucopiaref5_ordered.B4 = true := by kernel_rfl
end Go.Proofs.YtchgpcgolgcfdaaGreat.PNum
end
section
namespace Go.Proofs.YtchgpcgolgcfdaaGreat.PNum
open Go.RowKit Go.Proofs.YtchgpcgolgcfdaaGreatW.PrintWords Go.Proofs.YtchgpcgolgcfdaaGreatW.PrintLast Go.Proofs.YtchgpcgolgcfdaaGreatW.PrintMore
attribute [local go_sem] max2_int min2_int max_two min_two max_three min_three max_four min_four
set_option linter.unusedVariables false
set_option linter.unusedSimpArgs false
set_option maxRecDepth 100000
set_option maxHeartbeats 16000000
def IsS97 (w0 W : World) (g : Nat) (f0 : ByteArray) (f1 : Int) : Prop := W.heap[g]? = some (.cells #[.string f0, .int .i64 f1] 97 (0, 0)) ∧ w0.heap.size ≤ g
theorem IsS97.grown {w0 W : World} {g : Nat} {f0 : ByteArray} {f1 : Int} {W1 : World} {row : Option Nat} (h : IsS97 w0 W g f0 f1) (hw : W.grownBy W1 row) (hne : some g ≠ row) : IsS97 w0 W1 g f0 f1 := by
 obtain ⟨hb, hg⟩ := h
 exact ⟨blk_grown hb hw hne, hg⟩
theorem IsS97.kept {w0 W : World} {g : Nat} {f0 : ByteArray} {f1 : Int} {W1 : World} {S : Nat → Prop} (h : IsS97 w0 W g f0 f1) (hk : Kept W W1 S) (hne : ¬ S g) : IsS97 w0 W1 g f0 f1 := by
 obtain ⟨hb, hg⟩ := h
 exact ⟨blk_kept hb hk hne, hg⟩
theorem IsS97.below {w0 W : World} {g : Nat} {f0 : ByteArray} {f1 : Int} {W1 : World} (h : IsS97 w0 W g f0 f1) (hw : Below W.heap.size W W1) : IsS97 w0 W1 g f0 f1 := h.grown (grown_of_below hw none) (by simp)
theorem IsS97.alloc {w0 W : World} {g : Nat} {f0 : ByteArray} {f1 : Int} (h : IsS97 w0 W g f0 f1) (o : Obj) : IsS97 w0 (W.alloc o) g f0 f1 := h.below (below_alloc (Below.refl _ _) o)
theorem IsS97.drewN {w0 W : World} {g : Nat} {f0 : ByteArray} {f1 : Int} (h : IsS97 w0 W g f0 f1) (m : Nat) : IsS97 w0 (W.drewN m) g f0 f1 := h
theorem IsS97.drew {w0 W : World} {g : Nat} {f0 : ByteArray} {f1 : Int} (h : IsS97 w0 W g f0 f1) : IsS97 w0 W.drew g f0 f1 := h
theorem IsS97.at_ {w0 W : World} {g : Nat} {f0 : ByteArray} {f1 : Int} {w' : World} {m : Nat} (hq : W.drewN m = w') (h : IsS97 w0 W g f0 f1) : IsS97 w0 w' g f0 f1 := by subst hq; exact IsS97.drewN h m
theorem IsS97.apart {w0 W : World} {g : Nat} {f0 : ByteArray} {f1 : Int} {α : Type} {d : Kd α} {e : Nat} {base : Nat} {ok : Nat → Prop} {v : Value} {xs : List α} (h : IsS97 w0 W g f0 f1) (ho : d.R e W base ok v xs) (ht : ∀ q, q ∈ e :: d.E → q ≠ 97) : d.R e W base (fun k => ok k ∧ k ≠ g) v xs := by
 obtain ⟨hb, hg⟩ := h
 exact Kd.R_types ho hb ht
theorem IsS97.own_ne {w0 W : World} {g : Nat} {f0 : ByteArray} {f1 : Int} {α : Type} {d : Kd α} {e : Nat} {base : Nat} {ok : Nat → Prop} {v : Value} {xs : List α} (h : IsS97 w0 W g f0 f1) (ho : d.R e W base ok v xs) (ht : e ≠ 97) : some g ≠ v.ownBlock := by
 obtain ⟨hb, hg⟩ := h
 exact Kd.R_ne ho hb ht
theorem IsS97.lt {w0 W : World} {g : Nat} {f0 : ByteArray} {f1 : Int} (h : IsS97 w0 W g f0 f1) : g < W.heap.size := by
 obtain ⟨hb, hg⟩ := h
 exact blk_lt hb
theorem IsS97.ge {w0 W : World} {g : Nat} {f0 : ByteArray} {f1 : Int} (h : IsS97 w0 W g f0 f1) : w0.heap.size ≤ g := by
 obtain ⟨hb, hg⟩ := h
 exact hg
theorem IsS97.ne_blk {w0 W : World} {g : Nat} {f0 : ByteArray} {f1 : Int} {a : Nat} {cs : Array Value} {t : TypeId} {fr : Nat × Nat} (h : IsS97 w0 W g f0 f1) (hb2 : W.heap[a]? = some (.cells cs t fr)) (ht : t ≠ 97) : g ≠ a := by
 obtain ⟨hb, hg⟩ := h
 rintro rfl
 rw [hb] at hb2
 injection hb2 with hb2
 injection hb2 with _ ht2
 exact ht ht2.symm
theorem IsS97.far {w0 W : World} {g : Nat} {f0 : ByteArray} {f1 : Int} {p : Addr} (h : IsS97 w0 W g f0 f1) (hne : g ≠ p.block) (u : Value) : IsS97 w0 (W.setCell p u) g f0 f1 := by
 obtain ⟨hb, hg⟩ := h
 exact ⟨blk_far hb hne u, hg⟩
theorem cellS97_0 {W : World} {g : Nat} {f0 : ByteArray} {f1 : Int} (h : W.heap[g]? = some (.cells #[.string f0, .int .i64 f1] 97 (0, 0))) : W.cell? ⟨g, 0, none⟩ = some (.string f0) := (blk_cell h 0).trans rfl
theorem IsS97.set_0 {w0 W : World} {g : Nat} {f0 : ByteArray} {f1 : Int} (h : IsS97 w0 W g f0 f1) (x : ByteArray) : IsS97 w0 (W.setCell ⟨g, 0, none⟩ (.string x)) g x f1 := by
 obtain ⟨hb, hg⟩ := h
 exact ⟨by simpa using blk_set hb 0 (.string x), hg⟩
theorem cellS97_1 {W : World} {g : Nat} {f0 : ByteArray} {f1 : Int} (h : W.heap[g]? = some (.cells #[.string f0, .int .i64 f1] 97 (0, 0))) : W.cell? ⟨g, 1, none⟩ = some (.int .i64 f1) := (blk_cell h 1).trans rfl
theorem IsS97.set_1 {w0 W : World} {g : Nat} {f0 : ByteArray} {f1 : Int} (h : IsS97 w0 W g f0 f1) (x : Int) : IsS97 w0 (W.setCell ⟨g, 1, none⟩ (.int .i64 x)) g f0 x := by
 obtain ⟨hb, hg⟩ := h
 exact ⟨by simpa using blk_set hb 1 (.int .i64 x), hg⟩
theorem IsS97.new (w0 W : World) (f0 : ByteArray) (f1 : Int) (hB : Below w0.heap.size w0 W) : IsS97 w0 (W.alloc (.cells #[.string f0, .int .i64 f1] 97)) W.heap.size f0 f1 := ⟨by simpa using heap_alloc_new W _, hB.size⟩
def cornucopiaref1_Reader_Fail.f (s0_0 : ByteArray) (s0_1 : Int) (a1 : Int) : Option (ByteArray × Int) := if s0_1 = 0 then (some (s0_0, a1)) else (some (s0_0, s0_1))
theorem cornucopiaref1_Reader_Fail.calls (g : Nat) (s0_0 : ByteArray) (s0_1 : Int) (a1 : Int) (r1 : ByteArray) (r2 : Int) (w0 w : World) (hI : IsS97 w0 w g s0_0 s0_1) (hB : Below w0.heap.size w0 w) (h : cornucopiaref1_Reader_Fail.f s0_0 s0_1 a1 = some (r1, r2)) :
  Calls Tryz.prog 176 #[.pointer (some ⟨g, 0, none⟩), .int .i64 a1] w fun e w' => e = .returned (.tuple #[]) ∧ IsS97 w0 w' g r1 r2 ∧ Below w0.heap.size w0 w' ∧ KeepBut w w' g none := by
 have HI0 := a_k hI
 have HK := a_k (KeepBut.refl w g none)
 have HL := a_k hB.size
 clear hI
 have HW0 := a_k hB.size
 have HB := a_k hB
 clear hB
 have H : (if s0_1 = 0 then (some (s0_0, a1)) else (some (s0_0, s0_1))) = some (r1, r2) := h
 clear h
 by_cases c3 : s0_1 = 0
 ·rw [if_pos c3] at H
  have c3b0 : (s0_1 == 0) = true := beq_iff_eq.mpr c3
  have c3b1 : (s0_1 != 0) = false := bne_eq_false_iff_eq.mpr c3
  clear c3
  simp only [Option.some.injEq, Prod.mk.injEq] at H
  obtain ⟨rfl, rfl⟩ := H
  obtain ⟨HGz4, hgz4⟩ := HI0.out
  have hcz4_0 := cellS97_0 HGz4
  have hcz4_1 := cellS97_1 HGz4
  have hfz4_0 := blk_frozen HGz4 0
  have hfz4_1 := blk_frozen HGz4 1
  clear HGz4 hgz4
  go_enter Tryz.func176, Tryz.ntmps176
  go_wp2
  first | go_end0 | ((try simp only [Exit.inBlock, Exit.then]); refine bodyPost_ret (results_none rfl _ _ _) rfl ?_)
  exact ⟨by first | rfl | (simp [*, errW_none, errW_some] <;> rfl), by repeat (first | (with_reducible first | exact HI0.out | apply IsS97.alloc | apply IsS97.drewN | apply IsS97.drew | apply IsS97.set_0 | apply IsS97.set_1) | exact HI0.out), by repeat (first | (with_reducible first | exact HB.out | apply b_a | apply b_n | apply b_d | refine below_set ?_ (IsS97.ge HI0.out)) | exact HB.out), by repeat (first | (with_reducible first | exact HK.out | apply KeepBut.set_ | apply keep_drewN | apply keep_drew | apply keep_alloc) | exact HK.out)⟩
 ·rw [if_neg c3] at H
  have c3b0 : (s0_1 == 0) = false := beq_eq_false_iff_ne.mpr c3
  have c3b1 : (s0_1 != 0) = true := bne_iff_ne.mpr c3
  simp only [Option.some.injEq, Prod.mk.injEq] at H
  obtain ⟨rfl, rfl⟩ := H
  obtain ⟨HGz5, hgz5⟩ := HI0.out
  have hcz5_0 := cellS97_0 HGz5
  have hcz5_1 := cellS97_1 HGz5
  have hfz5_0 := blk_frozen HGz5 0
  have hfz5_1 := blk_frozen HGz5 1
  clear HGz5 hgz5
  go_enter Tryz.func176, Tryz.ntmps176
  go_wp2
  first | go_end0 | ((try simp only [Exit.inBlock, Exit.then]); refine bodyPost_ret (results_none rfl _ _ _) rfl ?_)
  exact ⟨by first | rfl | (simp [*, errW_none, errW_some] <;> rfl), by repeat (first | (with_reducible first | exact HI0.out | apply IsS97.alloc | apply IsS97.drewN | apply IsS97.drew | apply IsS97.set_0 | apply IsS97.set_1) | exact HI0.out), by repeat (first | (with_reducible first | exact HB.out | apply b_a | apply b_n | apply b_d | refine below_set ?_ (IsS97.ge HI0.out)) | exact HB.out), by repeat (first | (with_reducible first | exact HK.out | apply KeepBut.set_ | apply keep_drewN | apply keep_drew | apply keep_alloc) | exact HK.out)⟩
mutual
def cornucopiaref1_Reader_Var.l0 : Nat → Int → Int → Int → ByteArray → Int → Option (Int × ByteArray × Int)
 | 0, _, _, _, _, _ => none
 | k + 1, x3, x4, x5, x1000, x1001 => if x5 ≥ (x1000.size : Int) then ((cornucopiaref1_Reader_Fail.f x1000 x1001 5).bind fun bt450 => (some (0, bt450.1, bt450.2))) else (if 0 ≤ x5 then (if x5 < (x1000.size : Int) then (if x5 = 9 then (cornucopiaref1_Reader_Var.j1 k x3 x4 x5 (bt x1000 x5) (decide ((bt x1000 x5) > 1)) x1000 x1001) else (cornucopiaref1_Reader_Var.j1 k x3 x4 x5 (bt x1000 x5) false x1000 x1001)) else (none)) else (none))
def cornucopiaref1_Reader_Var.j1 : Nat → Int → Int → Int → Int → Bool → ByteArray → Int → Option (Int × ByteArray × Int)
 | 0, _, _, _, _, _, _, _ => none
 | k + 1, x3, x4, x5, x6, x34, x1000, x1001 => if x34 = true then ((cornucopiaref1_Reader_Fail.f x1000 x1001 4).bind fun bt452 => (some (0, bt452.1, bt452.2))) else (if x6 ≥ 128 then (cornucopiaref1_Reader_Var.l0 k (IntKind.u64.wrap (x3 + (IntKind.u64.wrap ((IntKind.u64.wrap (Int.tmod x6 128)) * x4)))) (IntKind.u64.wrap (x4 * 128)) (wrap64 (x5 + 1)) x1000 x1001) else (if x5 > 0 then (if x6 = 0 then ((cornucopiaref1_Reader_Fail.f x1000 x1001 4).bind fun bt454 => (some (0, bt454.1, bt454.2))) else (if 0 ≤ (wrap64 (x5 + 1)) then (if (wrap64 (x5 + 1)) ≤ (x1000.size : Int) then (some (IntKind.u64.wrap (x3 + (IntKind.u64.wrap ((IntKind.u64.wrap (Int.tmod x6 128)) * x4))), x1000.extract ((wrap64 (x5 + 1)) : Int).toNat x1000.size, x1001)) else (none)) else (none))) else (if 0 ≤ (wrap64 (x5 + 1)) then (if (wrap64 (x5 + 1)) ≤ (x1000.size : Int) then (some (IntKind.u64.wrap (x3 + (IntKind.u64.wrap ((IntKind.u64.wrap (Int.tmod x6 128)) * x4))), x1000.extract ((wrap64 (x5 + 1)) : Int).toNat x1000.size, x1001)) else (none)) else (none))))
end
def cornucopiaref1_Reader_Var.f (k : Nat) (s0_0 : ByteArray) (s0_1 : Int) : Option (Int × ByteArray × Int) := if s0_1 = 0 then (cornucopiaref1_Reader_Var.l0 k 0 1 0 s0_0 s0_1) else (some (0, s0_0, s0_1))
theorem cornucopiaref1_Reader_Var.calls (k : Nat) (g : Nat) (s0_0 : ByteArray) (s0_1 : Int) (r1 : Int) (r2 : ByteArray) (r3 : Int) (w0 w : World) (hI : IsS97 w0 w g s0_0 s0_1) (hB : Below w0.heap.size w0 w) (h : cornucopiaref1_Reader_Var.f k s0_0 s0_1 = some (r1, r2, r3)) :
  Calls Tryz.prog 175 #[.pointer (some ⟨g, 0, none⟩)] w fun e w' => e = .returned (.int .u64 r1) ∧ IsS97 w0 w' g r2 r3 ∧ Below w0.heap.size w0 w' ∧ KeepBut w w' g none := by
 have HI0 := a_k hI
 have HK := a_k (KeepBut.refl w g none)
 have HL := a_k hB.size
 clear hI
 have HW0 := a_k hB.size
 have HB := a_k hB
 clear hB
 have H : (if s0_1 = 0 then (cornucopiaref1_Reader_Var.l0 k 0 1 0 s0_0 s0_1) else (some (0, s0_0, s0_1))) = some (r1, r2, r3) := h
 clear h
 by_cases c2 : s0_1 = 0
 ·rw [if_pos c2] at H
  have c2b0 : (s0_1 == 0) = true := beq_iff_eq.mpr c2
  have c2b1 : (s0_1 != 0) = false := bne_eq_false_iff_eq.mpr c2
  clear c2
  have H' := a_k H
  clear H
  obtain ⟨HGz3, hgz3⟩ := HI0.out
  have hcz3_0 := cellS97_0 HGz3
  have hcz3_1 := cellS97_1 HGz3
  have hfz3_0 := blk_frozen HGz3 0
  have hfz3_1 := blk_frozen HGz3 1
  clear HGz3 hgz3
  go_enter Tryz.func175, Tryz.ntmps175
  go_wp2
  go_loopg [3, 4, 5] k (fun kq v3 v4 v5 w' => ∃ (x3_1 : Int) (x4_1 : Int) (x5_1 : Int) (x1000_1 : ByteArray) (x1001_1 : Int), v3 = .int .u64 x3_1 ∧ v4 = .int .u64 x4_1 ∧ v5 = .int .i64 x5_1 ∧ Aside0 (cornucopiaref1_Reader_Var.l0 kq x3_1 x4_1 x5_1 x1000_1 x1001_1 = some (r1, r2, r3)) ∧ Aside0 (kq ≤ k) ∧ Aside0 (IsS97 w0 w' g x1000_1 x1001_1) ∧ Aside0 (KeepBut w w' g none) ∧ Aside0 (Below w0.heap.size w0 w'))
  case atStart => exact ⟨(0), (1), (0), (s0_0), (s0_1), (by first | rfl | (simp; done) | (simp [*]; done)), (by first | rfl | (simp; done) | (simp [*]; done)), (by first | rfl | (simp; done) | (simp [*]; done)), H', ⟨Nat.le_refl _⟩, ⟨by repeat (first | (with_reducible first | exact HI0.out | apply IsS97.alloc | apply IsS97.drewN | apply IsS97.drew | apply IsS97.set_0 | apply IsS97.set_1) | exact HI0.out)⟩, ⟨by repeat (first | (with_reducible first | exact HK.out | apply KeepBut.set_ | apply keep_drewN | apply keep_drew | apply keep_alloc) | exact HK.out)⟩, ⟨by repeat (first | (with_reducible first | exact HB.out | apply b_a | apply b_n | apply b_d | refine below_set ?_ (IsS97.ge HI0.out)) | exact HB.out)⟩⟩
  case round =>
   clear H'
   try clear c1
   try clear c2
   try clear c2b0
   try clear c2b1
   try clear p2
   try clear hcz3_0
   try clear hcz3_1
   try clear hfz3_0
   try clear hfz3_1
   obtain ⟨x3_1, x4_1, x5_1, x1000_1, x1001_1, rfl, rfl, rfl, HA, HK1, HI0, HK, HB⟩ := hrel
   cases gk with
   | zero => exact absurd HA.out (by simp [cornucopiaref1_Reader_Var.l0])
   | succ k1 =>
    have H := HA.out
    clear HA
    simp only [cornucopiaref1_Reader_Var.l0] at H
    by_cases c4 : x5_1 ≥ (x1000_1.size : Int)
    ·rw [if_pos c4] at H
     have c4b0 : decide ((x1000_1.size : Int) ≤ x5_1) = true := decide_eq_true c4
     clear c4
     replace H := Option.bind_eq_some_iff.mp H
     obtain ⟨⟨t450, t451⟩, A50, H⟩ := H
     replace H : (some (0, t450, t451)) = some (r1, r2, r3) := H
     have A5 := a_k A50
     clear A50
     simp only [Option.some.injEq, Prod.mk.injEq] at H
     obtain ⟨rfl, rfl, rfl⟩ := H
     obtain ⟨HGz6, hgz6⟩ := HI0.out
     have hcz6_0 := cellS97_0 HGz6
     have hcz6_1 := cellS97_1 HGz6
     have hfz6_0 := blk_frozen HGz6 0
     have hfz6_1 := blk_frozen HGz6 1
     clear HGz6 hgz6
     go_wp2_with (first | ((with_reducible refine gate_callee (f := 176) rfl ?_); refine goesL_ (some 22) rfl rfl Tryz.func176 (by kernel_rfl) rfl #[.pointer (some ⟨g, 0, none⟩), .int .i64 5] rfl (by (try simp only [m_a, m_c, m_n]); first | done | rfl) ?_; (with_reducible refine (cornucopiaref1_Reader_Fail.calls g x1000_1 x1001_1 5 t450 t451 w0 _ ?side1 ?side2 A5.out).mono ?_); (case side1 => repeat (first | (with_reducible first | exact HI0.out | apply IsS97.alloc | apply IsS97.drewN | apply IsS97.drew | apply IsS97.set_0 | apply IsS97.set_1) | exact HI0.out)); (case side2 => repeat (first | (with_reducible first | exact HB.out | apply b_a | apply b_n | apply b_d | refine below_set ?_ (IsS97.ge HI0.out)) | exact HB.out)); rintro e w7 ⟨rfl, hi, hb, hk⟩; refine ⟨_, rfl, ?_⟩; have n0_ := a_k (KeepBut.trans (by repeat (first | (with_reducible first | exact HK.out | apply KeepBut.set_ | apply keep_drewN | apply keep_drew | apply keep_alloc) | exact HK.out)) hk (.inl rfl)); have n1_ := a_k (hb); have n2_ := a_k (hi); clear HK; clear HB; clear HI0; have HK := n0_; have HB := n1_; have HI0 := n2_; clear n0_ n1_ n2_; (try clear hb); (try clear hb2); (try clear hk); (try clear hi)))
     go_ret
     exact ⟨by first | rfl | (simp [*, errW_none, errW_some] <;> rfl), by repeat (first | (with_reducible first | exact HI0.out | apply IsS97.alloc | apply IsS97.drewN | apply IsS97.drew | apply IsS97.set_0 | apply IsS97.set_1) | exact HI0.out), by repeat (first | (with_reducible first | exact HB.out | apply b_a | apply b_n | apply b_d | refine below_set ?_ (IsS97.ge HI0.out)) | exact HB.out), by repeat (first | (with_reducible first | exact HK.out | apply KeepBut.set_ | apply keep_drewN | apply keep_drew | apply keep_alloc) | exact HK.out)⟩
    ·rw [if_neg c4] at H
     have c4b0 : decide ((x1000_1.size : Int) ≤ x5_1) = false := decide_eq_false c4
     clear c4
     by_cases c8 : 0 ≤ x5_1
     ·rw [if_pos c8] at H
      have c8b0 : decide (0 ≤ x5_1) = true := decide_eq_true c8
      clear c8
      by_cases c9 : x5_1 < (x1000_1.size : Int)
      ·rw [if_pos c9] at H
       have c9b0 : decide (x5_1 < (x1000_1.size : Int)) = true := decide_eq_true c9
       clear c9
       have HC11 := a_k H
       clear H
       obtain ⟨HGz12, hgz12⟩ := HI0.out
       have hcz12_0 := cellS97_0 HGz12
       have hcz12_1 := cellS97_1 HGz12
       have hfz12_0 := blk_frozen HGz12 0
       have hfz12_1 := blk_frozen HGz12 1
       clear HGz12 hgz12
       have p10 : 0 ≤ (x5_1 : Int) := of_decide_eq_true (by assumption)
       have q10 : x5_1 < (x1000_1.size : Int) := of_decide_eq_true (by assumption)
       have hx10 := bt_at x1000_1 x5_1
       replace p10 := eq_true p10
       replace q10 := eq_true q10
       go_upto_region 10 with (fail)
       go_cut [34] (fun v34 wc => ∃ (kq : Nat) (x34_10 : Bool), v34 = .bool x34_10 ∧ Aside0 (cornucopiaref1_Reader_Var.j1 kq x3_1 x4_1 x5_1 (bt x1000_1 x5_1) x34_10 x1000_1 x1001_1 = some (r1, r2, r3)) ∧ Aside0 (kq ≤ k1) ∧ Aside0 (IsS97 w0 wc g x1000_1 x1001_1) ∧ Aside0 (KeepBut w wc g none) ∧ Aside0 (Below w0.heap.size w0 wc))
       case first =>
        have H := HC11.out
        clear HC11
        by_cases c13 : x5_1 = 9
        ·rw [if_pos c13] at H
         have c13b0 : (x5_1 == 9) = true := beq_iff_eq.mpr c13
         have c13b1 : (x5_1 != 9) = false := bne_eq_false_iff_eq.mpr c13
         clear c13
         (first | rw [c13b0] | (simp only [i64_w, i32_w]; rw [c13b0]) | skip)
         have H' := a_k H
         clear H
         go_wp2
         go_meet
         case rel => exact ⟨_, (decide ((bt x1000_1 x5_1) > 1)), (by first | rfl | (simp; done) | (simp [*]; done)), H', ⟨by have := HK1.out; first | omega | exact Nat.le_refl _⟩, ⟨by repeat (first | (with_reducible first | exact HI0.out | apply IsS97.alloc | apply IsS97.drewN | apply IsS97.drew | apply IsS97.set_0 | apply IsS97.set_1) | exact HI0.out)⟩, ⟨by repeat (first | (with_reducible first | exact HK.out | apply KeepBut.set_ | apply keep_drewN | apply keep_drew | apply keep_alloc) | exact HK.out)⟩, ⟨by repeat (first | (with_reducible first | exact HB.out | apply b_a | apply b_n | apply b_d | refine below_set ?_ (IsS97.ge HI0.out)) | exact HB.out)⟩⟩
        ·rw [if_neg c13] at H
         have c13b0 : (x5_1 == 9) = false := beq_eq_false_iff_ne.mpr c13
         have c13b1 : (x5_1 != 9) = true := bne_iff_ne.mpr c13
         (first | rw [c13b0] | (simp only [i64_w, i32_w]; rw [c13b0]) | skip)
         have H' := a_k H
         clear H
         go_wp2
         go_meet
         case rel => exact ⟨_, (false), (by first | rfl | (simp; done) | (simp [*]; done)), H', ⟨by have := HK1.out; first | omega | exact Nat.le_refl _⟩, ⟨by repeat (first | (with_reducible first | exact HI0.out | apply IsS97.alloc | apply IsS97.drewN | apply IsS97.drew | apply IsS97.set_0 | apply IsS97.set_1) | exact HI0.out)⟩, ⟨by repeat (first | (with_reducible first | exact HK.out | apply KeepBut.set_ | apply keep_drewN | apply keep_drew | apply keep_alloc) | exact HK.out)⟩, ⟨by repeat (first | (with_reducible first | exact HB.out | apply b_a | apply b_n | apply b_d | refine below_set ?_ (IsS97.ge HI0.out)) | exact HB.out)⟩⟩
       case rest =>
        clear HC11
        try clear c1
        try clear p1
        try clear q1
        try clear hx1
        try clear c2
        try clear c2b0
        try clear c2b1
        try clear p2
        try clear c4
        try clear c4b0
        try clear c8
        try clear c8b0
        try clear c9
        try clear c9b0
        try clear p10
        try clear q10
        try clear hx10
        try clear c13
        try clear c13b0
        try clear c13b1
        try clear hcz12_0
        try clear hcz12_1
        try clear hcz3_0
        try clear hcz3_1
        try clear hcz6_0
        try clear hcz6_1
        try clear hfz12_0
        try clear hfz12_1
        try clear hfz3_0
        try clear hfz3_1
        try clear hfz6_0
        try clear hfz6_1
        try clear p10
        try clear p2
        try clear q10
        obtain ⟨kq, x34_10, rfl, HA, HJ10, HI0, HK, HB⟩ := hcut
        cases kq with
        | zero => exact absurd HA.out (by simp [cornucopiaref1_Reader_Var.j1])
        | succ kj10 =>
         have H := HA.out
         clear HA
         simp only [cornucopiaref1_Reader_Var.j1] at H
         by_cases c14 : x34_10 = true
         ·subst c14
          have H1 : ((cornucopiaref1_Reader_Fail.f x1000_1 x1001_1 4).bind fun bt452 => (some (0, bt452.1, bt452.2))) = some (r1, r2, r3) := by rw [if_pos rfl] at H; exact H
          clear H
          have H := H1
          clear H1
          replace H := Option.bind_eq_some_iff.mp H
          obtain ⟨⟨t452, t453⟩, A150, H⟩ := H
          replace H : (some (0, t452, t453)) = some (r1, r2, r3) := H
          have A15 := a_k A150
          clear A150
          simp only [Option.some.injEq, Prod.mk.injEq] at H
          obtain ⟨rfl, rfl, rfl⟩ := H
          go_wp2_with (first | ((with_reducible refine gate_callee (f := 176) rfl ?_); refine goesL_ (some 36) rfl rfl Tryz.func176 (by kernel_rfl) rfl #[.pointer (some ⟨g, 0, none⟩), .int .i64 4] rfl (by (try simp only [m_a, m_c, m_n]); first | done | rfl) ?_; (with_reducible refine (cornucopiaref1_Reader_Fail.calls g x1000_1 x1001_1 4 t452 t453 w0 _ ?side1 ?side2 A15.out).mono ?_); (case side1 => repeat (first | (with_reducible first | exact HI0.out | apply IsS97.alloc | apply IsS97.drewN | apply IsS97.drew | apply IsS97.set_0 | apply IsS97.set_1) | exact HI0.out)); (case side2 => repeat (first | (with_reducible first | exact HB.out | apply b_a | apply b_n | apply b_d | refine below_set ?_ (IsS97.ge HI0.out)) | exact HB.out)); rintro e w16 ⟨rfl, hi, hb, hk⟩; refine ⟨_, rfl, ?_⟩; have n0_ := a_k (KeepBut.trans (by repeat (first | (with_reducible first | exact HK.out | apply KeepBut.set_ | apply keep_drewN | apply keep_drew | apply keep_alloc) | exact HK.out)) hk (.inl rfl)); have n1_ := a_k (hb); have n2_ := a_k (hi); clear HK; clear HB; clear HI0; have HK := n0_; have HB := n1_; have HI0 := n2_; clear n0_ n1_ n2_; (try clear hb); (try clear hb2); (try clear hk); (try clear hi)))
          go_ret
          exact ⟨by first | rfl | (simp [*, errW_none, errW_some] <;> rfl), by repeat (first | (with_reducible first | exact HI0.out | apply IsS97.alloc | apply IsS97.drewN | apply IsS97.drew | apply IsS97.set_0 | apply IsS97.set_1) | exact HI0.out), by repeat (first | (with_reducible first | exact HB.out | apply b_a | apply b_n | apply b_d | refine below_set ?_ (IsS97.ge HI0.out)) | exact HB.out), by repeat (first | (with_reducible first | exact HK.out | apply KeepBut.set_ | apply keep_drewN | apply keep_drew | apply keep_alloc) | exact HK.out)⟩
         ·replace c14 := Bool.eq_false_iff.mpr c14
          subst c14
          have H1 : (if (bt x1000_1 x5_1) ≥ 128 then (cornucopiaref1_Reader_Var.l0 kj10 (IntKind.u64.wrap (x3_1 + (IntKind.u64.wrap ((IntKind.u64.wrap (Int.tmod (bt x1000_1 x5_1) 128)) * x4_1)))) (IntKind.u64.wrap (x4_1 * 128)) (wrap64 (x5_1 + 1)) x1000_1 x1001_1) else (if x5_1 > 0 then (if (bt x1000_1 x5_1) = 0 then ((cornucopiaref1_Reader_Fail.f x1000_1 x1001_1 4).bind fun bt454 => (some (0, bt454.1, bt454.2))) else (if 0 ≤ (wrap64 (x5_1 + 1)) then (if (wrap64 (x5_1 + 1)) ≤ (x1000_1.size : Int) then (some (IntKind.u64.wrap (x3_1 + (IntKind.u64.wrap ((IntKind.u64.wrap (Int.tmod (bt x1000_1 x5_1) 128)) * x4_1))), x1000_1.extract ((wrap64 (x5_1 + 1)) : Int).toNat x1000_1.size, x1001_1)) else (none)) else (none))) else (if 0 ≤ (wrap64 (x5_1 + 1)) then (if (wrap64 (x5_1 + 1)) ≤ (x1000_1.size : Int) then (some (IntKind.u64.wrap (x3_1 + (IntKind.u64.wrap ((IntKind.u64.wrap (Int.tmod (bt x1000_1 x5_1) 128)) * x4_1))), x1000_1.extract ((wrap64 (x5_1 + 1)) : Int).toNat x1000_1.size, x1001_1)) else (none)) else (none)))) = some (r1, r2, r3) := by rw [if_neg (show ¬ (false = true) by decide)] at H; exact H
          clear H
          have H := H1
          clear H1
          by_cases c17 : (bt x1000_1 x5_1) ≥ 128
          ·rw [if_pos c17] at H
           have c17b0 : decide (128 ≤ (bt x1000_1 x5_1)) = true := decide_eq_true c17
           clear c17
           have H' := a_k H
           clear H
           go_wp2
           go_roundg kj10
           case measure => have := HK1.out; have := HJ10.out; omega
           case rel => exact ⟨(IntKind.u64.wrap (x3_1 + (IntKind.u64.wrap ((IntKind.u64.wrap (Int.tmod (bt x1000_1 x5_1) 128)) * x4_1)))), (IntKind.u64.wrap (x4_1 * 128)), (wrap64 (x5_1 + 1)), (x1000_1), (x1001_1), (by first | rfl | (simp; done) | (simp [*]; done)), (by first | rfl | (simp; done) | (simp [*]; done)), (by first | rfl | (simp; done) | (simp [*]; done)), H', ⟨by have := HK1.out; have := HJ10.out; omega⟩, ⟨by repeat (first | (with_reducible first | exact HI0.out | apply IsS97.alloc | apply IsS97.drewN | apply IsS97.drew | apply IsS97.set_0 | apply IsS97.set_1) | exact HI0.out)⟩, ⟨by repeat (first | (with_reducible first | exact HK.out | apply KeepBut.set_ | apply keep_drewN | apply keep_drew | apply keep_alloc) | exact HK.out)⟩, ⟨by repeat (first | (with_reducible first | exact HB.out | apply b_a | apply b_n | apply b_d | refine below_set ?_ (IsS97.ge HI0.out)) | exact HB.out)⟩⟩
          ·rw [if_neg c17] at H
           have c17b0 : decide (128 ≤ (bt x1000_1 x5_1)) = false := decide_eq_false c17
           clear c17
           by_cases c18 : x5_1 > 0
           ·rw [if_pos c18] at H
            have c18b0 : decide (0 < x5_1) = true := decide_eq_true c18
            clear c18
            by_cases c19 : (bt x1000_1 x5_1) = 0
            ·rw [if_pos c19] at H
             have c19b0 : ((bt x1000_1 x5_1) == 0) = true := beq_iff_eq.mpr c19
             have c19b1 : ((bt x1000_1 x5_1) != 0) = false := bne_eq_false_iff_eq.mpr c19
             clear c19
             replace H := Option.bind_eq_some_iff.mp H
             obtain ⟨⟨t454, t455⟩, A200, H⟩ := H
             replace H : (some (0, t454, t455)) = some (r1, r2, r3) := H
             have A20 := a_k A200
             clear A200
             simp only [Option.some.injEq, Prod.mk.injEq] at H
             obtain ⟨rfl, rfl, rfl⟩ := H
             go_wp2_with (first | ((with_reducible refine gate_callee (f := 176) rfl ?_); refine goesL_ (some 55) rfl rfl Tryz.func176 (by kernel_rfl) rfl #[.pointer (some ⟨g, 0, none⟩), .int .i64 4] rfl (by (try simp only [m_a, m_c, m_n]); first | done | rfl) ?_; (with_reducible refine (cornucopiaref1_Reader_Fail.calls g x1000_1 x1001_1 4 t454 t455 w0 _ ?side1 ?side2 A20.out).mono ?_); (case side1 => repeat (first | (with_reducible first | exact HI0.out | apply IsS97.alloc | apply IsS97.drewN | apply IsS97.drew | apply IsS97.set_0 | apply IsS97.set_1) | exact HI0.out)); (case side2 => repeat (first | (with_reducible first | exact HB.out | apply b_a | apply b_n | apply b_d | refine below_set ?_ (IsS97.ge HI0.out)) | exact HB.out)); rintro e w21 ⟨rfl, hi, hb, hk⟩; refine ⟨_, rfl, ?_⟩; have n0_ := a_k (KeepBut.trans (by repeat (first | (with_reducible first | exact HK.out | apply KeepBut.set_ | apply keep_drewN | apply keep_drew | apply keep_alloc) | exact HK.out)) hk (.inl rfl)); have n1_ := a_k (hb); have n2_ := a_k (hi); clear HK; clear HB; clear HI0; have HK := n0_; have HB := n1_; have HI0 := n2_; clear n0_ n1_ n2_; (try clear hb); (try clear hb2); (try clear hk); (try clear hi)))
             go_ret
             exact ⟨by first | rfl | (simp [*, errW_none, errW_some] <;> rfl), by repeat (first | (with_reducible first | exact HI0.out | apply IsS97.alloc | apply IsS97.drewN | apply IsS97.drew | apply IsS97.set_0 | apply IsS97.set_1) | exact HI0.out), by repeat (first | (with_reducible first | exact HB.out | apply b_a | apply b_n | apply b_d | refine below_set ?_ (IsS97.ge HI0.out)) | exact HB.out), by repeat (first | (with_reducible first | exact HK.out | apply KeepBut.set_ | apply keep_drewN | apply keep_drew | apply keep_alloc) | exact HK.out)⟩
            ·rw [if_neg c19] at H
             have c19b0 : ((bt x1000_1 x5_1) == 0) = false := beq_eq_false_iff_ne.mpr c19
             have c19b1 : ((bt x1000_1 x5_1) != 0) = true := bne_iff_ne.mpr c19
             obtain ⟨ji22, hji22⟩ : ∃ j_ : Int, (wrap64 (x5_1 + 1)) = j_ := ⟨_, rfl⟩
             replace H : (if 0 ≤ (ji22) then (if (ji22) ≤ (x1000_1.size : Int) then (some (IntKind.u64.wrap (x3_1 + (IntKind.u64.wrap ((IntKind.u64.wrap (Int.tmod (bt x1000_1 x5_1) 128)) * x4_1))), x1000_1.extract ((ji22) : Int).toNat x1000_1.size, x1001_1)) else (none)) else (none)) = some (r1, r2, r3) := by first | (rw [hji22] at H; exact H) | (simp only [hji22] at H ⊢; exact H)
             have hji22w : (IntKind.i64.wrap (x5_1 + 1)) = ji22 := (i64_w _).trans hji22
             by_cases c23 : 0 ≤ (ji22)
             ·rw [if_pos c23] at H
              have c23b0 := eq_true c23
              have c23b1 : decide (0 ≤ (ji22)) = true := decide_eq_true c23
              clear c23
              by_cases c24 : (ji22) ≤ (x1000_1.size : Int)
              ·rw [if_pos c24] at H
               have c24b0 := eq_true c24
               have c24b1 : decide ((ji22) ≤ (x1000_1.size : Int)) = true := decide_eq_true c24
               clear c24
               simp only [Option.some.injEq, Prod.mk.injEq] at H
               obtain ⟨rfl, rfl, rfl⟩ := H
               obtain ⟨HGz25, hgz25⟩ := HI0.out
               have hcz25_0 := cellS97_0 HGz25
               have hcz25_1 := cellS97_1 HGz25
               have hfz25_0 := blk_frozen HGz25 0
               have hfz25_1 := blk_frozen HGz25 1
               clear HGz25 hgz25
               go_wp2
               go_ret
               exact ⟨by first | rfl | (simp [errW_none, errW_some] <;> rfl) | (simp only [← hji22]; first | rfl | (simp [errW_none, errW_some] <;> rfl)) | (simp [*, errW_none, errW_some] <;> rfl), by repeat (first | (with_reducible first | exact HI0.out | apply IsS97.alloc | apply IsS97.drewN | apply IsS97.drew | apply IsS97.set_0 | apply IsS97.set_1) | exact HI0.out), by repeat (first | (with_reducible first | exact HB.out | apply b_a | apply b_n | apply b_d | refine below_set ?_ (IsS97.ge HI0.out)) | exact HB.out), by repeat (first | (with_reducible first | exact HK.out | apply KeepBut.set_ | apply keep_drewN | apply keep_drew | apply keep_alloc) | exact HK.out)⟩
              ·rw [if_neg c24] at H
               exact absurd H (by simp)
             ·rw [if_neg c23] at H
              exact absurd H (by simp)
           ·rw [if_neg c18] at H
            have c18b0 : decide (0 < x5_1) = false := decide_eq_false c18
            clear c18
            obtain ⟨ji26, hji26⟩ : ∃ j_ : Int, (wrap64 (x5_1 + 1)) = j_ := ⟨_, rfl⟩
            replace H : (if 0 ≤ (ji26) then (if (ji26) ≤ (x1000_1.size : Int) then (some (IntKind.u64.wrap (x3_1 + (IntKind.u64.wrap ((IntKind.u64.wrap (Int.tmod (bt x1000_1 x5_1) 128)) * x4_1))), x1000_1.extract ((ji26) : Int).toNat x1000_1.size, x1001_1)) else (none)) else (none)) = some (r1, r2, r3) := by first | (rw [hji26] at H; exact H) | (simp only [hji26] at H ⊢; exact H)
            have hji26w : (IntKind.i64.wrap (x5_1 + 1)) = ji26 := (i64_w _).trans hji26
            by_cases c27 : 0 ≤ (ji26)
            ·rw [if_pos c27] at H
             have c27b0 := eq_true c27
             have c27b1 : decide (0 ≤ (ji26)) = true := decide_eq_true c27
             clear c27
             by_cases c28 : (ji26) ≤ (x1000_1.size : Int)
             ·rw [if_pos c28] at H
              have c28b0 := eq_true c28
              have c28b1 : decide ((ji26) ≤ (x1000_1.size : Int)) = true := decide_eq_true c28
              clear c28
              simp only [Option.some.injEq, Prod.mk.injEq] at H
              obtain ⟨rfl, rfl, rfl⟩ := H
              obtain ⟨HGz29, hgz29⟩ := HI0.out
              have hcz29_0 := cellS97_0 HGz29
              have hcz29_1 := cellS97_1 HGz29
              have hfz29_0 := blk_frozen HGz29 0
              have hfz29_1 := blk_frozen HGz29 1
              clear HGz29 hgz29
              go_wp2
              go_ret
              exact ⟨by first | rfl | (simp [errW_none, errW_some] <;> rfl) | (simp only [← hji26]; first | rfl | (simp [errW_none, errW_some] <;> rfl)) | (simp [*, errW_none, errW_some] <;> rfl), by repeat (first | (with_reducible first | exact HI0.out | apply IsS97.alloc | apply IsS97.drewN | apply IsS97.drew | apply IsS97.set_0 | apply IsS97.set_1) | exact HI0.out), by repeat (first | (with_reducible first | exact HB.out | apply b_a | apply b_n | apply b_d | refine below_set ?_ (IsS97.ge HI0.out)) | exact HB.out), by repeat (first | (with_reducible first | exact HK.out | apply KeepBut.set_ | apply keep_drewN | apply keep_drew | apply keep_alloc) | exact HK.out)⟩
             ·rw [if_neg c28] at H
              exact absurd H (by simp)
            ·rw [if_neg c27] at H
             exact absurd H (by simp)
      ·rw [if_neg c9] at H
       exact absurd H (by simp)
     ·rw [if_neg c8] at H
      exact absurd H (by simp)
 ·rw [if_neg c2] at H
  have c2b0 : (s0_1 == 0) = false := beq_eq_false_iff_ne.mpr c2
  have c2b1 : (s0_1 != 0) = true := bne_iff_ne.mpr c2
  simp only [Option.some.injEq, Prod.mk.injEq] at H
  obtain ⟨rfl, rfl, rfl⟩ := H
  obtain ⟨HGz30, hgz30⟩ := HI0.out
  have hcz30_0 := cellS97_0 HGz30
  have hcz30_1 := cellS97_1 HGz30
  have hfz30_0 := blk_frozen HGz30 0
  have hfz30_1 := blk_frozen HGz30 1
  clear HGz30 hgz30
  go_enter Tryz.func175, Tryz.ntmps175
  go_wp2
  go_ret
  exact ⟨by first | rfl | (simp [*, errW_none, errW_some] <;> rfl), by repeat (first | (with_reducible first | exact HI0.out | apply IsS97.alloc | apply IsS97.drewN | apply IsS97.drew | apply IsS97.set_0 | apply IsS97.set_1) | exact HI0.out), by repeat (first | (with_reducible first | exact HB.out | apply b_a | apply b_n | apply b_d | refine below_set ?_ (IsS97.ge HI0.out)) | exact HB.out), by repeat (first | (with_reducible first | exact HK.out | apply KeepBut.set_ | apply keep_drewN | apply keep_drew | apply keep_alloc) | exact HK.out)⟩
def cornucopiaref1_Reader_Count.f (k : Nat) (s0_0 : ByteArray) (s0_1 : Int) (a1 : Int) : Option (Int × ByteArray × Int) := (cornucopiaref1_Reader_Var.f k s0_0 s0_1).bind fun bt456 => (if bt456.2.2 = 0 then (if a1 < 0 then ((cornucopiaref1_Reader_Fail.f bt456.2.1 bt456.2.2 2).bind fun bt459 => (some (0, bt459.1, bt459.2))) else (if bt456.1 > (IntKind.u64.wrap (a1)) then ((cornucopiaref1_Reader_Fail.f bt456.2.1 bt456.2.2 2).bind fun bt461 => (some (0, bt461.1, bt461.2))) else (some (wrap64 (bt456.1), bt456.2.1, bt456.2.2)))) else (some (0, bt456.2.1, bt456.2.2)))
theorem cornucopiaref1_Reader_Count.calls (k : Nat) (g : Nat) (s0_0 : ByteArray) (s0_1 : Int) (a1 : Int) (r1 : Int) (r2 : ByteArray) (r3 : Int) (w0 w : World) (hI : IsS97 w0 w g s0_0 s0_1) (hB : Below w0.heap.size w0 w) (h : cornucopiaref1_Reader_Count.f k s0_0 s0_1 a1 = some (r1, r2, r3)) :
  Calls Tryz.prog 198 #[.pointer (some ⟨g, 0, none⟩), .int .i64 a1] w fun e w' => e = .returned (.int .i64 r1) ∧ IsS97 w0 w' g r2 r3 ∧ Below w0.heap.size w0 w' ∧ KeepBut w w' g none := by
 have HI0 := a_k hI
 have HK := a_k (KeepBut.refl w g none)
 have HL := a_k hB.size
 clear hI
 have HW0 := a_k hB.size
 have HB := a_k hB
 clear hB
 have H : ((cornucopiaref1_Reader_Var.f k s0_0 s0_1).bind fun bt456 => (if bt456.2.2 = 0 then (if a1 < 0 then ((cornucopiaref1_Reader_Fail.f bt456.2.1 bt456.2.2 2).bind fun bt459 => (some (0, bt459.1, bt459.2))) else (if bt456.1 > (IntKind.u64.wrap (a1)) then ((cornucopiaref1_Reader_Fail.f bt456.2.1 bt456.2.2 2).bind fun bt461 => (some (0, bt461.1, bt461.2))) else (some (wrap64 (bt456.1), bt456.2.1, bt456.2.2)))) else (some (0, bt456.2.1, bt456.2.2)))) = some (r1, r2, r3) := h
 clear h
 replace H := Option.bind_eq_some_iff.mp H
 obtain ⟨⟨t456, t457, t458⟩, A30, H⟩ := H
 replace H : (if t458 = 0 then (if a1 < 0 then ((cornucopiaref1_Reader_Fail.f t457 t458 2).bind fun bt459 => (some (0, bt459.1, bt459.2))) else (if t456 > (IntKind.u64.wrap (a1)) then ((cornucopiaref1_Reader_Fail.f t457 t458 2).bind fun bt461 => (some (0, bt461.1, bt461.2))) else (some (wrap64 (t456), t457, t458)))) else (some (0, t457, t458))) = some (r1, r2, r3) := H
 have A3 := a_k A30
 clear A30
 by_cases c4 : t458 = 0
 ·rw [if_pos c4] at H
  have c4b0 : (t458 == 0) = true := beq_iff_eq.mpr c4
  have c4b1 : (t458 != 0) = false := bne_eq_false_iff_eq.mpr c4
  clear c4
  by_cases c5 : a1 < 0
  ·rw [if_pos c5] at H
   have c5b0 : decide (a1 < 0) = true := decide_eq_true c5
   clear c5
   replace H := Option.bind_eq_some_iff.mp H
   obtain ⟨⟨t459, t460⟩, A60, H⟩ := H
   replace H : (some (0, t459, t460)) = some (r1, r2, r3) := H
   have A6 := a_k A60
   clear A60
   simp only [Option.some.injEq, Prod.mk.injEq] at H
   obtain ⟨rfl, rfl, rfl⟩ := H
   go_enter Tryz.func198, Tryz.ntmps198
   go_wp2_with (first | ((with_reducible refine gate_callee (f := 175) rfl ?_); refine goesL_ (some 7) rfl rfl Tryz.func175 (by kernel_rfl) rfl #[.pointer (some ⟨g, 0, none⟩)] rfl (by (try simp only [m_a, m_c, m_n]); first | done | rfl) ?_; (with_reducible refine (cornucopiaref1_Reader_Var.calls k g s0_0 s0_1 t456 t457 t458 w0 _ ?side1 ?side2 A3.out).mono ?_); (case side1 => repeat (first | (with_reducible first | exact HI0.out | apply IsS97.alloc | apply IsS97.drewN | apply IsS97.drew | apply IsS97.set_0 | apply IsS97.set_1) | exact HI0.out)); (case side2 => repeat (first | (with_reducible first | exact HB.out | apply b_a | apply b_n | apply b_d | refine below_set ?_ (IsS97.ge HI0.out)) | exact HB.out)); rintro e w7 ⟨rfl, hi, hb, hk⟩; refine ⟨_, rfl, ?_⟩; have n0_ := a_k (KeepBut.trans (by repeat (first | (with_reducible first | exact HK.out | apply KeepBut.set_ | apply keep_drewN | apply keep_drew | apply keep_alloc) | exact HK.out)) hk (.inl rfl)); have n1_ := a_k (hb); have n2_ := a_k (hi); clear HK; clear HB; clear HI0; have HK := n0_; have HB := n1_; have HI0 := n2_; clear n0_ n1_ n2_; (try clear hb); (try clear hb2); (try clear hk); (try clear hi); obtain ⟨HGz8, hgz8⟩ := HI0.out; have hcz8_0 := cellS97_0 HGz8; have hcz8_1 := cellS97_1 HGz8; have hfz8_0 := blk_frozen HGz8 0; have hfz8_1 := blk_frozen HGz8 1; clear HGz8 hgz8) | ((with_reducible refine gate_callee (f := 176) rfl ?_); refine goesL_ (some 22) rfl rfl Tryz.func176 (by kernel_rfl) rfl #[.pointer (some ⟨g, 0, none⟩), .int .i64 2] rfl (by (try simp only [m_a, m_c, m_n]); first | done | rfl) ?_; (with_reducible refine (cornucopiaref1_Reader_Fail.calls g t457 t458 2 t459 t460 w0 _ ?side1 ?side2 A6.out).mono ?_); (case side1 => repeat (first | (with_reducible first | exact HI0.out | apply IsS97.alloc | apply IsS97.drewN | apply IsS97.drew | apply IsS97.set_0 | apply IsS97.set_1) | exact HI0.out)); (case side2 => repeat (first | (with_reducible first | exact HB.out | apply b_a | apply b_n | apply b_d | refine below_set ?_ (IsS97.ge HI0.out)) | exact HB.out)); rintro e w9 ⟨rfl, hi, hb, hk⟩; refine ⟨_, rfl, ?_⟩; have n0_ := a_k (KeepBut.trans (by repeat (first | (with_reducible first | exact HK.out | apply KeepBut.set_ | apply keep_drewN | apply keep_drew | apply keep_alloc) | exact HK.out)) hk (.inl rfl)); have n1_ := a_k (hb); have n2_ := a_k (hi); clear HK; clear HB; clear HI0; have HK := n0_; have HB := n1_; have HI0 := n2_; clear n0_ n1_ n2_; (try clear hb); (try clear hb2); (try clear hk); (try clear hi)))
   go_ret
   exact ⟨by first | rfl | (simp [*, errW_none, errW_some] <;> rfl), by repeat (first | (with_reducible first | exact HI0.out | apply IsS97.alloc | apply IsS97.drewN | apply IsS97.drew | apply IsS97.set_0 | apply IsS97.set_1) | exact HI0.out), by repeat (first | (with_reducible first | exact HB.out | apply b_a | apply b_n | apply b_d | refine below_set ?_ (IsS97.ge HI0.out)) | exact HB.out), by repeat (first | (with_reducible first | exact HK.out | apply KeepBut.set_ | apply keep_drewN | apply keep_drew | apply keep_alloc) | exact HK.out)⟩
  ·rw [if_neg c5] at H
   have c5b0 : decide (a1 < 0) = false := decide_eq_false c5
   clear c5
   by_cases c10 : t456 > (IntKind.u64.wrap (a1))
   ·rw [if_pos c10] at H
    have c10b0 : decide ((IntKind.u64.wrap (a1)) < t456) = true := decide_eq_true c10
    clear c10
    replace H := Option.bind_eq_some_iff.mp H
    obtain ⟨⟨t461, t462⟩, A110, H⟩ := H
    replace H : (some (0, t461, t462)) = some (r1, r2, r3) := H
    have A11 := a_k A110
    clear A110
    simp only [Option.some.injEq, Prod.mk.injEq] at H
    obtain ⟨rfl, rfl, rfl⟩ := H
    go_enter Tryz.func198, Tryz.ntmps198
    go_wp2_with (first | ((with_reducible refine gate_callee (f := 175) rfl ?_); refine goesL_ (some 7) rfl rfl Tryz.func175 (by kernel_rfl) rfl #[.pointer (some ⟨g, 0, none⟩)] rfl (by (try simp only [m_a, m_c, m_n]); first | done | rfl) ?_; (with_reducible refine (cornucopiaref1_Reader_Var.calls k g s0_0 s0_1 t456 t457 t458 w0 _ ?side1 ?side2 A3.out).mono ?_); (case side1 => repeat (first | (with_reducible first | exact HI0.out | apply IsS97.alloc | apply IsS97.drewN | apply IsS97.drew | apply IsS97.set_0 | apply IsS97.set_1) | exact HI0.out)); (case side2 => repeat (first | (with_reducible first | exact HB.out | apply b_a | apply b_n | apply b_d | refine below_set ?_ (IsS97.ge HI0.out)) | exact HB.out)); rintro e w12 ⟨rfl, hi, hb, hk⟩; refine ⟨_, rfl, ?_⟩; have n0_ := a_k (KeepBut.trans (by repeat (first | (with_reducible first | exact HK.out | apply KeepBut.set_ | apply keep_drewN | apply keep_drew | apply keep_alloc) | exact HK.out)) hk (.inl rfl)); have n1_ := a_k (hb); have n2_ := a_k (hi); clear HK; clear HB; clear HI0; have HK := n0_; have HB := n1_; have HI0 := n2_; clear n0_ n1_ n2_; (try clear hb); (try clear hb2); (try clear hk); (try clear hi); obtain ⟨HGz13, hgz13⟩ := HI0.out; have hcz13_0 := cellS97_0 HGz13; have hcz13_1 := cellS97_1 HGz13; have hfz13_0 := blk_frozen HGz13 0; have hfz13_1 := blk_frozen HGz13 1; clear HGz13 hgz13) | ((with_reducible refine gate_callee (f := 176) rfl ?_); refine goesL_ (some 22) rfl rfl Tryz.func176 (by kernel_rfl) rfl #[.pointer (some ⟨g, 0, none⟩), .int .i64 2] rfl (by (try simp only [m_a, m_c, m_n]); first | done | rfl) ?_; (with_reducible refine (cornucopiaref1_Reader_Fail.calls g t457 t458 2 t461 t462 w0 _ ?side1 ?side2 A11.out).mono ?_); (case side1 => repeat (first | (with_reducible first | exact HI0.out | apply IsS97.alloc | apply IsS97.drewN | apply IsS97.drew | apply IsS97.set_0 | apply IsS97.set_1) | exact HI0.out)); (case side2 => repeat (first | (with_reducible first | exact HB.out | apply b_a | apply b_n | apply b_d | refine below_set ?_ (IsS97.ge HI0.out)) | exact HB.out)); rintro e w14 ⟨rfl, hi, hb, hk⟩; refine ⟨_, rfl, ?_⟩; have n0_ := a_k (KeepBut.trans (by repeat (first | (with_reducible first | exact HK.out | apply KeepBut.set_ | apply keep_drewN | apply keep_drew | apply keep_alloc) | exact HK.out)) hk (.inl rfl)); have n1_ := a_k (hb); have n2_ := a_k (hi); clear HK; clear HB; clear HI0; have HK := n0_; have HB := n1_; have HI0 := n2_; clear n0_ n1_ n2_; (try clear hb); (try clear hb2); (try clear hk); (try clear hi)))
    go_ret
    exact ⟨by first | rfl | (simp [*, errW_none, errW_some] <;> rfl), by repeat (first | (with_reducible first | exact HI0.out | apply IsS97.alloc | apply IsS97.drewN | apply IsS97.drew | apply IsS97.set_0 | apply IsS97.set_1) | exact HI0.out), by repeat (first | (with_reducible first | exact HB.out | apply b_a | apply b_n | apply b_d | refine below_set ?_ (IsS97.ge HI0.out)) | exact HB.out), by repeat (first | (with_reducible first | exact HK.out | apply KeepBut.set_ | apply keep_drewN | apply keep_drew | apply keep_alloc) | exact HK.out)⟩
   ·rw [if_neg c10] at H
    have c10b0 : decide ((IntKind.u64.wrap (a1)) < t456) = false := decide_eq_false c10
    clear c10
    simp only [Option.some.injEq, Prod.mk.injEq] at H
    obtain ⟨rfl, rfl, rfl⟩ := H
    go_enter Tryz.func198, Tryz.ntmps198
    go_wp2_with (first | ((with_reducible refine gate_callee (f := 175) rfl ?_); refine goesL_ (some 7) rfl rfl Tryz.func175 (by kernel_rfl) rfl #[.pointer (some ⟨g, 0, none⟩)] rfl (by (try simp only [m_a, m_c, m_n]); first | done | rfl) ?_; (with_reducible refine (cornucopiaref1_Reader_Var.calls k g s0_0 s0_1 t456 t457 t458 w0 _ ?side1 ?side2 A3.out).mono ?_); (case side1 => repeat (first | (with_reducible first | exact HI0.out | apply IsS97.alloc | apply IsS97.drewN | apply IsS97.drew | apply IsS97.set_0 | apply IsS97.set_1) | exact HI0.out)); (case side2 => repeat (first | (with_reducible first | exact HB.out | apply b_a | apply b_n | apply b_d | refine below_set ?_ (IsS97.ge HI0.out)) | exact HB.out)); rintro e w15 ⟨rfl, hi, hb, hk⟩; refine ⟨_, rfl, ?_⟩; have n0_ := a_k (KeepBut.trans (by repeat (first | (with_reducible first | exact HK.out | apply KeepBut.set_ | apply keep_drewN | apply keep_drew | apply keep_alloc) | exact HK.out)) hk (.inl rfl)); have n1_ := a_k (hb); have n2_ := a_k (hi); clear HK; clear HB; clear HI0; have HK := n0_; have HB := n1_; have HI0 := n2_; clear n0_ n1_ n2_; (try clear hb); (try clear hb2); (try clear hk); (try clear hi); obtain ⟨HGz16, hgz16⟩ := HI0.out; have hcz16_0 := cellS97_0 HGz16; have hcz16_1 := cellS97_1 HGz16; have hfz16_0 := blk_frozen HGz16 0; have hfz16_1 := blk_frozen HGz16 1; clear HGz16 hgz16))
    go_ret
    exact ⟨by first | rfl | (simp [*, errW_none, errW_some] <;> rfl), by repeat (first | (with_reducible first | exact HI0.out | apply IsS97.alloc | apply IsS97.drewN | apply IsS97.drew | apply IsS97.set_0 | apply IsS97.set_1) | exact HI0.out), by repeat (first | (with_reducible first | exact HB.out | apply b_a | apply b_n | apply b_d | refine below_set ?_ (IsS97.ge HI0.out)) | exact HB.out), by repeat (first | (with_reducible first | exact HK.out | apply KeepBut.set_ | apply keep_drewN | apply keep_drew | apply keep_alloc) | exact HK.out)⟩
 ·rw [if_neg c4] at H
  have c4b0 : (t458 == 0) = false := beq_eq_false_iff_ne.mpr c4
  have c4b1 : (t458 != 0) = true := bne_iff_ne.mpr c4
  simp only [Option.some.injEq, Prod.mk.injEq] at H
  obtain ⟨rfl, rfl, rfl⟩ := H
  go_enter Tryz.func198, Tryz.ntmps198
  go_wp2_with (first | ((with_reducible refine gate_callee (f := 175) rfl ?_); refine goesL_ (some 7) rfl rfl Tryz.func175 (by kernel_rfl) rfl #[.pointer (some ⟨g, 0, none⟩)] rfl (by (try simp only [m_a, m_c, m_n]); first | done | rfl) ?_; (with_reducible refine (cornucopiaref1_Reader_Var.calls k g s0_0 s0_1 t456 t457 t458 w0 _ ?side1 ?side2 A3.out).mono ?_); (case side1 => repeat (first | (with_reducible first | exact HI0.out | apply IsS97.alloc | apply IsS97.drewN | apply IsS97.drew | apply IsS97.set_0 | apply IsS97.set_1) | exact HI0.out)); (case side2 => repeat (first | (with_reducible first | exact HB.out | apply b_a | apply b_n | apply b_d | refine below_set ?_ (IsS97.ge HI0.out)) | exact HB.out)); rintro e w17 ⟨rfl, hi, hb, hk⟩; refine ⟨_, rfl, ?_⟩; have n0_ := a_k (KeepBut.trans (by repeat (first | (with_reducible first | exact HK.out | apply KeepBut.set_ | apply keep_drewN | apply keep_drew | apply keep_alloc) | exact HK.out)) hk (.inl rfl)); have n1_ := a_k (hb); have n2_ := a_k (hi); clear HK; clear HB; clear HI0; have HK := n0_; have HB := n1_; have HI0 := n2_; clear n0_ n1_ n2_; (try clear hb); (try clear hb2); (try clear hk); (try clear hi); obtain ⟨HGz18, hgz18⟩ := HI0.out; have hcz18_0 := cellS97_0 HGz18; have hcz18_1 := cellS97_1 HGz18; have hfz18_0 := blk_frozen HGz18 0; have hfz18_1 := blk_frozen HGz18 1; clear HGz18 hgz18))
  go_ret
  exact ⟨by first | rfl | (simp [*, errW_none, errW_some] <;> rfl), by repeat (first | (with_reducible first | exact HI0.out | apply IsS97.alloc | apply IsS97.drewN | apply IsS97.drew | apply IsS97.set_0 | apply IsS97.set_1) | exact HI0.out), by repeat (first | (with_reducible first | exact HB.out | apply b_a | apply b_n | apply b_d | refine below_set ?_ (IsS97.ge HI0.out)) | exact HB.out), by repeat (first | (with_reducible first | exact HK.out | apply KeepBut.set_ | apply keep_drewN | apply keep_drew | apply keep_alloc) | exact HK.out)⟩
def cornucopiaref1_Reader_bytes.f (s0_0 : ByteArray) (s0_1 : Int) (a1 : Int) : Option (ByteArray × ByteArray × Int) := if s0_1 = 0 then (if (s0_0.size : Int) < a1 then ((cornucopiaref1_Reader_Fail.f s0_0 s0_1 5).bind fun bt463 => (some ((⟨#[]⟩ : ByteArray), bt463.1, bt463.2))) else (if 0 ≤ a1 then (if a1 ≤ (s0_0.size : Int) then (some (s0_0.extract 0 (a1 : Int).toNat, s0_0.extract (a1 : Int).toNat s0_0.size, s0_1)) else (none)) else (none))) else (some ((⟨#[]⟩ : ByteArray), s0_0, s0_1))
theorem cornucopiaref1_Reader_bytes.calls (g : Nat) (s0_0 : ByteArray) (s0_1 : Int) (a1 : Int) (r1 : ByteArray) (r2 : ByteArray) (r3 : Int) (w0 w : World) (hI : IsS97 w0 w g s0_0 s0_1) (hB : Below w0.heap.size w0 w) (h : cornucopiaref1_Reader_bytes.f s0_0 s0_1 a1 = some (r1, r2, r3)) :
  Calls Tryz.prog 236 #[.pointer (some ⟨g, 0, none⟩), .int .i64 a1] w fun e w' => e = .returned (.string r1) ∧ IsS97 w0 w' g r2 r3 ∧ Below w0.heap.size w0 w' ∧ KeepBut w w' g none := by
 have HI0 := a_k hI
 have HK := a_k (KeepBut.refl w g none)
 have HL := a_k hB.size
 clear hI
 have HW0 := a_k hB.size
 have HB := a_k hB
 clear hB
 have H : (if s0_1 = 0 then (if (s0_0.size : Int) < a1 then ((cornucopiaref1_Reader_Fail.f s0_0 s0_1 5).bind fun bt463 => (some ((⟨#[]⟩ : ByteArray), bt463.1, bt463.2))) else (if 0 ≤ a1 then (if a1 ≤ (s0_0.size : Int) then (some (s0_0.extract 0 (a1 : Int).toNat, s0_0.extract (a1 : Int).toNat s0_0.size, s0_1)) else (none)) else (none))) else (some ((⟨#[]⟩ : ByteArray), s0_0, s0_1))) = some (r1, r2, r3) := h
 clear h
 by_cases c3 : s0_1 = 0
 ·rw [if_pos c3] at H
  have c3b0 : (s0_1 == 0) = true := beq_iff_eq.mpr c3
  have c3b1 : (s0_1 != 0) = false := bne_eq_false_iff_eq.mpr c3
  clear c3
  by_cases c4 : (s0_0.size : Int) < a1
  ·rw [if_pos c4] at H
   have c4b0 : decide ((s0_0.size : Int) < a1) = true := decide_eq_true c4
   clear c4
   replace H := Option.bind_eq_some_iff.mp H
   obtain ⟨⟨t463, t464⟩, A50, H⟩ := H
   replace H : (some ((⟨#[]⟩ : ByteArray), t463, t464)) = some (r1, r2, r3) := H
   have A5 := a_k A50
   clear A50
   simp only [Option.some.injEq, Prod.mk.injEq] at H
   obtain ⟨rfl, rfl, rfl⟩ := H
   obtain ⟨HGz6, hgz6⟩ := HI0.out
   have hcz6_0 := cellS97_0 HGz6
   have hcz6_1 := cellS97_1 HGz6
   have hfz6_0 := blk_frozen HGz6 0
   have hfz6_1 := blk_frozen HGz6 1
   clear HGz6 hgz6
   go_enter Tryz.func236, Tryz.ntmps236
   go_wp2_with (first | ((with_reducible refine gate_callee (f := 176) rfl ?_); refine goesL_ (some 19) rfl rfl Tryz.func176 (by kernel_rfl) rfl #[.pointer (some ⟨g, 0, none⟩), .int .i64 5] rfl (by (try simp only [m_a, m_c, m_n]); first | done | rfl) ?_; (with_reducible refine (cornucopiaref1_Reader_Fail.calls g s0_0 s0_1 5 t463 t464 w0 _ ?side1 ?side2 A5.out).mono ?_); (case side1 => repeat (first | (with_reducible first | exact HI0.out | apply IsS97.alloc | apply IsS97.drewN | apply IsS97.drew | apply IsS97.set_0 | apply IsS97.set_1) | exact HI0.out)); (case side2 => repeat (first | (with_reducible first | exact HB.out | apply b_a | apply b_n | apply b_d | refine below_set ?_ (IsS97.ge HI0.out)) | exact HB.out)); rintro e w7 ⟨rfl, hi, hb, hk⟩; refine ⟨_, rfl, ?_⟩; have n0_ := a_k (KeepBut.trans (by repeat (first | (with_reducible first | exact HK.out | apply KeepBut.set_ | apply keep_drewN | apply keep_drew | apply keep_alloc) | exact HK.out)) hk (.inl rfl)); have n1_ := a_k (hb); have n2_ := a_k (hi); clear HK; clear HB; clear HI0; have HK := n0_; have HB := n1_; have HI0 := n2_; clear n0_ n1_ n2_; (try clear hb); (try clear hb2); (try clear hk); (try clear hi)))
   go_ret
   exact ⟨by first | rfl | (simp [*, errW_none, errW_some] <;> rfl), by repeat (first | (with_reducible first | exact HI0.out | apply IsS97.alloc | apply IsS97.drewN | apply IsS97.drew | apply IsS97.set_0 | apply IsS97.set_1) | exact HI0.out), by repeat (first | (with_reducible first | exact HB.out | apply b_a | apply b_n | apply b_d | refine below_set ?_ (IsS97.ge HI0.out)) | exact HB.out), by repeat (first | (with_reducible first | exact HK.out | apply KeepBut.set_ | apply keep_drewN | apply keep_drew | apply keep_alloc) | exact HK.out)⟩
  ·rw [if_neg c4] at H
   have c4b0 : decide ((s0_0.size : Int) < a1) = false := decide_eq_false c4
   clear c4
   by_cases c8 : 0 ≤ a1
   ·rw [if_pos c8] at H
    have c8b0 := eq_true c8
    have c8b1 : decide (0 ≤ a1) = true := decide_eq_true c8
    clear c8
    by_cases c9 : a1 ≤ (s0_0.size : Int)
    ·rw [if_pos c9] at H
     have c9b0 := eq_true c9
     have c9b1 : decide (a1 ≤ (s0_0.size : Int)) = true := decide_eq_true c9
     clear c9
     have c10b0 := eq_true (of_decide_eq_true (by assumption) : 0 ≤ a1)
     have c11b0 := eq_true (of_decide_eq_true (by assumption) : a1 ≤ (s0_0.size : Int))
     simp only [Option.some.injEq, Prod.mk.injEq] at H
     obtain ⟨rfl, rfl, rfl⟩ := H
     obtain ⟨HGz12, hgz12⟩ := HI0.out
     have hcz12_0 := cellS97_0 HGz12
     have hcz12_1 := cellS97_1 HGz12
     have hfz12_0 := blk_frozen HGz12 0
     have hfz12_1 := blk_frozen HGz12 1
     clear HGz12 hgz12
     go_enter Tryz.func236, Tryz.ntmps236
     go_wp2
     go_ret
     exact ⟨by first | rfl | (simp [*, errW_none, errW_some] <;> rfl), by repeat (first | (with_reducible first | exact HI0.out | apply IsS97.alloc | apply IsS97.drewN | apply IsS97.drew | apply IsS97.set_0 | apply IsS97.set_1) | exact HI0.out), by repeat (first | (with_reducible first | exact HB.out | apply b_a | apply b_n | apply b_d | refine below_set ?_ (IsS97.ge HI0.out)) | exact HB.out), by repeat (first | (with_reducible first | exact HK.out | apply KeepBut.set_ | apply keep_drewN | apply keep_drew | apply keep_alloc) | exact HK.out)⟩
    ·rw [if_neg c9] at H
     exact absurd H (by simp)
   ·rw [if_neg c8] at H
    exact absurd H (by simp)
 ·rw [if_neg c3] at H
  have c3b0 : (s0_1 == 0) = false := beq_eq_false_iff_ne.mpr c3
  have c3b1 : (s0_1 != 0) = true := bne_iff_ne.mpr c3
  simp only [Option.some.injEq, Prod.mk.injEq] at H
  obtain ⟨rfl, rfl, rfl⟩ := H
  obtain ⟨HGz13, hgz13⟩ := HI0.out
  have hcz13_0 := cellS97_0 HGz13
  have hcz13_1 := cellS97_1 HGz13
  have hfz13_0 := blk_frozen HGz13 0
  have hfz13_1 := blk_frozen HGz13 1
  clear HGz13 hgz13
  go_enter Tryz.func236, Tryz.ntmps236
  go_wp2
  go_ret
  exact ⟨by first | rfl | (simp [*, errW_none, errW_some] <;> rfl), by repeat (first | (with_reducible first | exact HI0.out | apply IsS97.alloc | apply IsS97.drewN | apply IsS97.drew | apply IsS97.set_0 | apply IsS97.set_1) | exact HI0.out), by repeat (first | (with_reducible first | exact HB.out | apply b_a | apply b_n | apply b_d | refine below_set ?_ (IsS97.ge HI0.out)) | exact HB.out), by repeat (first | (with_reducible first | exact HK.out | apply KeepBut.set_ | apply keep_drewN | apply keep_drew | apply keep_alloc) | exact HK.out)⟩
def cornucopiaref1_Reader_Text.f (k : Nat) (s0_0 : ByteArray) (s0_1 : Int) (a1 : Int) : Option (ByteArray × ByteArray × Int) := (cornucopiaref1_Reader_Count.f k s0_0 s0_1 a1).bind fun bt465 => ((cornucopiaref1_Reader_bytes.f bt465.2.1 bt465.2.2 bt465.1).bind fun bt468 => (some (bt468.1, bt468.2.1, bt468.2.2)))
theorem cornucopiaref1_Reader_Text.calls (k : Nat) (g : Nat) (s0_0 : ByteArray) (s0_1 : Int) (a1 : Int) (r1 : ByteArray) (r2 : ByteArray) (r3 : Int) (w0 w : World) (hI : IsS97 w0 w g s0_0 s0_1) (hB : Below w0.heap.size w0 w) (h : cornucopiaref1_Reader_Text.f k s0_0 s0_1 a1 = some (r1, r2, r3)) :
  Calls Tryz.prog 174 #[.pointer (some ⟨g, 0, none⟩), .int .i64 a1] w fun e w' => e = .returned (.string r1) ∧ IsS97 w0 w' g r2 r3 ∧ Below w0.heap.size w0 w' ∧ KeepBut w w' g none := by
 have HI0 := a_k hI
 have HK := a_k (KeepBut.refl w g none)
 have HL := a_k hB.size
 clear hI
 have HW0 := a_k hB.size
 have HB := a_k hB
 clear hB
 have H : ((cornucopiaref1_Reader_Count.f k s0_0 s0_1 a1).bind fun bt465 => ((cornucopiaref1_Reader_bytes.f bt465.2.1 bt465.2.2 bt465.1).bind fun bt468 => (some (bt468.1, bt468.2.1, bt468.2.2)))) = some (r1, r2, r3) := h
 clear h
 replace H := Option.bind_eq_some_iff.mp H
 obtain ⟨⟨t465, t466, t467⟩, A30, H⟩ := H
 replace H : ((cornucopiaref1_Reader_bytes.f t466 t467 t465).bind fun bt468 => (some (bt468.1, bt468.2.1, bt468.2.2))) = some (r1, r2, r3) := H
 have A3 := a_k A30
 clear A30
 replace H := Option.bind_eq_some_iff.mp H
 obtain ⟨⟨t468, t469, t470⟩, A40, H⟩ := H
 replace H : (some (t468, t469, t470)) = some (r1, r2, r3) := H
 have A4 := a_k A40
 clear A40
 simp only [Option.some.injEq, Prod.mk.injEq] at H
 obtain ⟨rfl, rfl, rfl⟩ := H
 go_enter Tryz.func174, Tryz.ntmps174
 go_wp2_with (first | ((with_reducible refine gate_callee (f := 198) rfl ?_); refine goesL_ (some 8) rfl rfl Tryz.func198 (by kernel_rfl) rfl #[.pointer (some ⟨g, 0, none⟩), .int .i64 a1] rfl (by (try simp only [m_a, m_c, m_n]); first | done | rfl) ?_; (with_reducible refine (cornucopiaref1_Reader_Count.calls k g s0_0 s0_1 a1 t465 t466 t467 w0 _ ?side1 ?side2 A3.out).mono ?_); (case side1 => repeat (first | (with_reducible first | exact HI0.out | apply IsS97.alloc | apply IsS97.drewN | apply IsS97.drew | apply IsS97.set_0 | apply IsS97.set_1) | exact HI0.out)); (case side2 => repeat (first | (with_reducible first | exact HB.out | apply b_a | apply b_n | apply b_d | refine below_set ?_ (IsS97.ge HI0.out)) | exact HB.out)); rintro e w5 ⟨rfl, hi, hb, hk⟩; refine ⟨_, rfl, ?_⟩; have n0_ := a_k (KeepBut.trans (by repeat (first | (with_reducible first | exact HK.out | apply KeepBut.set_ | apply keep_drewN | apply keep_drew | apply keep_alloc) | exact HK.out)) hk (.inl rfl)); have n1_ := a_k (hb); have n2_ := a_k (hi); clear HK; clear HB; clear HI0; have HK := n0_; have HB := n1_; have HI0 := n2_; clear n0_ n1_ n2_; (try clear hb); (try clear hb2); (try clear hk); (try clear hi)) | ((with_reducible refine gate_callee (f := 236) rfl ?_); refine goesL_ (some 11) rfl rfl Tryz.func236 (by kernel_rfl) rfl #[.pointer (some ⟨g, 0, none⟩), .int .i64 t465] rfl (by (try simp only [m_a, m_c, m_n]); first | done | rfl) ?_; (with_reducible refine (cornucopiaref1_Reader_bytes.calls g t466 t467 t465 t468 t469 t470 w0 _ ?side1 ?side2 A4.out).mono ?_); (case side1 => repeat (first | (with_reducible first | exact HI0.out | apply IsS97.alloc | apply IsS97.drewN | apply IsS97.drew | apply IsS97.set_0 | apply IsS97.set_1) | exact HI0.out)); (case side2 => repeat (first | (with_reducible first | exact HB.out | apply b_a | apply b_n | apply b_d | refine below_set ?_ (IsS97.ge HI0.out)) | exact HB.out)); rintro e w6 ⟨rfl, hi, hb, hk⟩; refine ⟨_, rfl, ?_⟩; have n0_ := a_k (KeepBut.trans (by repeat (first | (with_reducible first | exact HK.out | apply KeepBut.set_ | apply keep_drewN | apply keep_drew | apply keep_alloc) | exact HK.out)) hk (.inl rfl)); have n1_ := a_k (hb); have n2_ := a_k (hi); clear HK; clear HB; clear HI0; have HK := n0_; have HB := n1_; have HI0 := n2_; clear n0_ n1_ n2_; (try clear hb); (try clear hb2); (try clear hk); (try clear hi)))
 go_ret
 exact ⟨by first | rfl | (simp [*, errW_none, errW_some] <;> rfl), by repeat (first | (with_reducible first | exact HI0.out | apply IsS97.alloc | apply IsS97.drewN | apply IsS97.drew | apply IsS97.set_0 | apply IsS97.set_1) | exact HI0.out), by repeat (first | (with_reducible first | exact HB.out | apply b_a | apply b_n | apply b_d | refine below_set ?_ (IsS97.ge HI0.out)) | exact HB.out), by repeat (first | (with_reducible first | exact HK.out | apply KeepBut.set_ | apply keep_drewN | apply keep_drew | apply keep_alloc) | exact HK.out)⟩
def cornucopiaref1_Open.f (k : Nat) (a0 : ByteArray) : Option (ByteArray × Int) := if (a0.size : Int) < 4 then (some ((⟨#[]⟩ : ByteArray), 5)) else (if 0 ≤ (wrap64 ((a0.size : Int) - 4)) then (if (wrap64 ((a0.size : Int) - 4)) ≤ (a0.size : Int) then ((cornucopiaref1_Seal.f k (a0.extract 0 ((wrap64 ((a0.size : Int) - 4)) : Int).toNat)).bind fun t471 => (if t471.toList = a0.toList then (some (a0.extract 0 ((wrap64 ((a0.size : Int) - 4)) : Int).toNat, 0)) else (some ((⟨#[]⟩ : ByteArray), 6)))) else (none)) else (none))
theorem cornucopiaref1_Open.calls (k : Nat) (a0 : ByteArray) (r1 : ByteArray) (r2 : Int) (w : World) (h : cornucopiaref1_Open.f k a0 = some (r1, r2)) :
  Calls Tryz.prog 196 #[.string a0] w fun e w' => e = .returned (.tuple #[.string r1, .int .i64 r2]) ∧ Below w.heap.size w w' := by
 have HB := a_k (Below.refl w.heap.size w)
 have H : (if (a0.size : Int) < 4 then (some ((⟨#[]⟩ : ByteArray), 5)) else (if 0 ≤ (wrap64 ((a0.size : Int) - 4)) then (if (wrap64 ((a0.size : Int) - 4)) ≤ (a0.size : Int) then ((cornucopiaref1_Seal.f k (a0.extract 0 ((wrap64 ((a0.size : Int) - 4)) : Int).toNat)).bind fun t471 => (if t471.toList = a0.toList then (some (a0.extract 0 ((wrap64 ((a0.size : Int) - 4)) : Int).toNat, 0)) else (some ((⟨#[]⟩ : ByteArray), 6)))) else (none)) else (none))) = some (r1, r2) := h
 clear h
 by_cases c2 : (a0.size : Int) < 4
 ·rw [if_pos c2] at H
  have c2b0 : decide ((a0.size : Int) < 4) = true := decide_eq_true c2
  have c2b1 : decide (a0.size < 4) = true := decide_eq_true (by omega)
  clear c2
  simp only [Option.some.injEq, Prod.mk.injEq] at H
  obtain ⟨rfl, rfl⟩ := H
  go_enter Tryz.func196, Tryz.ntmps196
  go_wp2
  go_ret2
  exact ⟨by first | rfl | (simp [*, errW_none, errW_some] <;> rfl), by repeat (first | exact HB.out | apply b_a | apply b_n | apply b_d)⟩
 ·rw [if_neg c2] at H
  have c2b0 : decide ((a0.size : Int) < 4) = false := decide_eq_false c2
  have c2b1 : decide (a0.size < 4) = false := decide_eq_false (by omega)
  clear c2
  obtain ⟨ji3, hji3⟩ : ∃ j_ : Int, (wrap64 ((a0.size : Int) - 4)) = j_ := ⟨_, rfl⟩
  replace H : (if 0 ≤ (ji3) then (if (ji3) ≤ (a0.size : Int) then ((cornucopiaref1_Seal.f k (a0.extract 0 ((ji3) : Int).toNat)).bind fun t471 => (if t471.toList = a0.toList then (some (a0.extract 0 ((ji3) : Int).toNat, 0)) else (some ((⟨#[]⟩ : ByteArray), 6)))) else (none)) else (none)) = some (r1, r2) := by first | (rw [hji3] at H; exact H) | (simp only [hji3] at H ⊢; exact H)
  have hji3w : (IntKind.i64.wrap ((a0.size : Int) - 4)) = ji3 := (i64_w _).trans hji3
  by_cases c4 : 0 ≤ (ji3)
  ·rw [if_pos c4] at H
   have c4b0 := eq_true c4
   have c4b1 : decide (0 ≤ (ji3)) = true := decide_eq_true c4
   clear c4
   by_cases c5 : (ji3) ≤ (a0.size : Int)
   ·rw [if_pos c5] at H
    have c5b0 := eq_true c5
    have c5b1 : decide ((ji3) ≤ (a0.size : Int)) = true := decide_eq_true c5
    clear c5
    replace H := Option.bind_eq_some_iff.mp H
    obtain ⟨t471, A60, H⟩ := H
    replace H : (if t471.toList = a0.toList then (some (a0.extract 0 ((ji3) : Int).toNat, 0)) else (some ((⟨#[]⟩ : ByteArray), 6))) = some (r1, r2) := H
    have A6 := a_k A60
    clear A60
    by_cases c7 : t471.toList = a0.toList
    ·rw [if_pos c7] at H
     have c7b0 : (t471.toList == a0.toList) = true := beq_iff_eq.mpr c7
     have c7b1 : (t471.toList != a0.toList) = false := bne_eq_false_iff_eq.mpr c7
     clear c7
     simp only [Option.some.injEq, Prod.mk.injEq] at H
     obtain ⟨rfl, rfl⟩ := H
     go_enter Tryz.func196, Tryz.ntmps196
     go_wp2_with (first | ((with_reducible refine gate_callee (f := 74) rfl ?_); refine goesL_ (some 14) rfl rfl Tryz.func74 (by kernel_rfl) rfl #[.string (a0.extract 0 ((ji3) : Int).toNat)] rfl (by (try simp only [m_a, m_c, m_n]); first | done | (simp only [hji3]; rfl) | rfl | (simp only [List.length_drop, List.length_take]; rfl)) ?_; (with_reducible refine (cornucopiaref1_Seal.calls k (a0.extract 0 ((ji3) : Int).toNat) t471 _ A6.out).mono ?_); rintro e w8 ⟨rfl, hb⟩; refine ⟨_, rfl, ?_⟩; have n0_ := a_k (below_step (by repeat (first | exact HB.out | apply b_a | apply b_n | apply b_d)) hb); clear HB; have HB := n0_; clear n0_; (try clear hb); (try clear hb2); (try clear hk); (try clear hi)))
     go_ret2
     exact ⟨by first | rfl | (simp [errW_none, errW_some] <;> rfl) | (simp only [← hji3]; first | rfl | (simp [errW_none, errW_some] <;> rfl)) | (simp [*, errW_none, errW_some] <;> rfl), by repeat (first | exact HB.out | apply b_a | apply b_n | apply b_d)⟩
    ·rw [if_neg c7] at H
     have c7b0 : (t471.toList == a0.toList) = false := beq_eq_false_iff_ne.mpr c7
     have c7b1 : (t471.toList != a0.toList) = true := bne_iff_ne.mpr c7
     simp only [Option.some.injEq, Prod.mk.injEq] at H
     obtain ⟨rfl, rfl⟩ := H
     go_enter Tryz.func196, Tryz.ntmps196
     go_wp2_with (first | ((with_reducible refine gate_callee (f := 74) rfl ?_); refine goesL_ (some 14) rfl rfl Tryz.func74 (by kernel_rfl) rfl #[.string (a0.extract 0 ((ji3) : Int).toNat)] rfl (by (try simp only [m_a, m_c, m_n]); first | done | (simp only [hji3]; rfl) | rfl | (simp only [List.length_drop, List.length_take]; rfl)) ?_; (with_reducible refine (cornucopiaref1_Seal.calls k (a0.extract 0 ((ji3) : Int).toNat) t471 _ A6.out).mono ?_); rintro e w9 ⟨rfl, hb⟩; refine ⟨_, rfl, ?_⟩; have n0_ := a_k (below_step (by repeat (first | exact HB.out | apply b_a | apply b_n | apply b_d)) hb); clear HB; have HB := n0_; clear n0_; (try clear hb); (try clear hb2); (try clear hk); (try clear hi)))
     go_ret2
     exact ⟨by first | rfl | (simp [errW_none, errW_some] <;> rfl) | (simp only [← hji3]; first | rfl | (simp [errW_none, errW_some] <;> rfl)) | (simp [*, errW_none, errW_some] <;> rfl), by repeat (first | exact HB.out | apply b_a | apply b_n | apply b_d)⟩
   ·rw [if_neg c5] at H
    exact absurd H (by simp)
  ·rw [if_neg c4] at H
   exact absurd H (by simp)
mutual
def cornucopiaref1_Unfix.j0 : Nat → ByteArray → Int → Int → Bool → Option (Int × Int)
 | 0, _, _, _, _ => none
 | k + 1, x0, x1, x2, x19 => if x19 = true then (some (0, 1)) else (if (x0.size : Int) < x2 then (cornucopiaref1_Unfix.j1 k x0 x1 x2 true) else (cornucopiaref1_Unfix.j1 k x0 x1 x2 (decide (x1 > (wrap64 ((x0.size : Int) - x2))))))
def cornucopiaref1_Unfix.j1 : Nat → ByteArray → Int → Int → Bool → Option (Int × Int)
 | 0, _, _, _, _ => none
 | k + 1, x0, x1, x2, x31 => if x31 = true then (some (0, 5)) else (cornucopiaref1_Unfix.l0 k x0 x1 x2 0 0)
def cornucopiaref1_Unfix.l0 : Nat → ByteArray → Int → Int → Int → Int → Option (Int × Int)
 | 0, _, _, _, _, _ => none
 | k + 1, x0, x1, x2, x8, x9 => if x9 < x2 then (if 0 ≤ (wrap64 (x1 + x9)) then (if (wrap64 (x1 + x9)) < (x0.size : Int) then (cornucopiaref1_Unfix.l0 k x0 x1 x2 (IntKind.u64.wrap ((IntKind.u64.wrap (x8 * 256)) + (IntKind.u64.wrap (bt x0 (wrap64 (x1 + x9)))))) (wrap64 (x9 + 1))) else (none)) else (none)) else (some (x8, 0))
end
def cornucopiaref1_Unfix.f (k : Nat) (a0 : ByteArray) (a1 : Int) (a2 : Int) : Option (Int × Int) := if a2 < 1 then (cornucopiaref1_Unfix.j0 k a0 a1 a2 true) else (if a2 > 8 then (cornucopiaref1_Unfix.j0 k a0 a1 a2 true) else (cornucopiaref1_Unfix.j0 k a0 a1 a2 (decide (a1 < 0))))
theorem cornucopiaref1_Unfix.calls (k : Nat) (a0 : ByteArray) (a1 : Int) (a2 : Int) (r1 : Int) (r2 : Int) (w : World) (h : cornucopiaref1_Unfix.f k a0 a1 a2 = some (r1, r2)) :
  Calls Tryz.prog 197 #[.string a0, .int .i64 a1, .int .i64 a2] w fun e w' => e = .returned (.tuple #[.int .u64 r1, .int .i64 r2]) ∧ Drawn0 w w' := by
 have H : (if a2 < 1 then (cornucopiaref1_Unfix.j0 k a0 a1 a2 true) else (if a2 > 8 then (cornucopiaref1_Unfix.j0 k a0 a1 a2 true) else (cornucopiaref1_Unfix.j0 k a0 a1 a2 (decide (a1 < 0))))) = some (r1, r2) := h
 clear h
 have HC4 := a_k H
 clear H
 go_enter Tryz.func197, Tryz.ntmps197
 go_upto_region 1 with (fail)
 go_cut [19] (fun v19 wc => ∃ (kq : Nat) (x19_3 : Bool), v19 = .bool x19_3 ∧ Aside0 (cornucopiaref1_Unfix.j0 kq a0 a1 a2 x19_3 = some (r1, r2)) ∧ Aside0 (kq ≤ k) ∧ Drawn0 w wc)
 case first =>
  have H := HC4.out
  clear HC4
  by_cases c5 : a2 < 1
  ·rw [if_pos c5] at H
   have c5b0 : decide (a2 < 1) = true := decide_eq_true c5
   clear c5
   (first | rw [c5b0] | (simp only [i64_w, i32_w]; rw [c5b0]) | skip)
   have H' := a_k H
   clear H
   go_wp2
   go_meet
   case rel => exact ⟨_, (true), (by first | rfl | (simp; done) | (simp [*]; done)), H', ⟨by first | omega | exact Nat.le_refl _⟩, by repeat (first | exact Drawn0.refl _ | apply Drawn0.step)⟩
  ·rw [if_neg c5] at H
   have c5b0 : decide (a2 < 1) = false := decide_eq_false c5
   clear c5
   (first | rw [c5b0] | (simp only [i64_w, i32_w]; rw [c5b0]) | skip)
   by_cases c6 : a2 > 8
   ·rw [if_pos c6] at H
    have c6b0 : decide (8 < a2) = true := decide_eq_true c6
    clear c6
    have H' := a_k H
    clear H
    go_wp2
    go_meet
    case rel => exact ⟨_, (true), (by first | rfl | (simp; done) | (simp [*]; done)), H', ⟨by first | omega | exact Nat.le_refl _⟩, by repeat (first | exact Drawn0.refl _ | apply Drawn0.step)⟩
   ·rw [if_neg c6] at H
    have c6b0 : decide (8 < a2) = false := decide_eq_false c6
    clear c6
    have H' := a_k H
    clear H
    go_wp2
    go_meet
    case rel => exact ⟨_, (decide (a1 < 0)), (by first | rfl | (simp; done) | (simp [*]; done)), H', ⟨by first | omega | exact Nat.le_refl _⟩, by repeat (first | exact Drawn0.refl _ | apply Drawn0.step)⟩
 case rest =>
  clear HC4
  try clear c1
  try clear p2
  try clear c5
  try clear c5b0
  try clear c6
  try clear c6b0
  obtain ⟨kq, x19_3, rfl, HA, HJ3, ⟨mc3, rfl⟩⟩ := hcut
  cases kq with
  | zero => exact absurd HA.out (by simp [cornucopiaref1_Unfix.j0])
  | succ kj3 =>
   have H := HA.out
   clear HA
   simp only [cornucopiaref1_Unfix.j0] at H
   by_cases c7 : x19_3 = true
   ·subst c7
    have H1 : (some (0, 1)) = some (r1, r2) := by rw [if_pos rfl] at H; exact H
    clear H
    have H := H1
    clear H1
    simp only [Option.some.injEq, Prod.mk.injEq] at H
    obtain ⟨rfl, rfl⟩ := H
    go_wp2
    go_ret2
    exact ⟨by first | rfl | (simp; done) | (simp [*]; done), by repeat (first | exact Drawn0.refl _ | apply Drawn0.step)⟩
   ·replace c7 := Bool.eq_false_iff.mpr c7
    subst c7
    have H1 : (if (a0.size : Int) < a2 then (cornucopiaref1_Unfix.j1 kj3 a0 a1 a2 true) else (cornucopiaref1_Unfix.j1 kj3 a0 a1 a2 (decide (a1 > (wrap64 ((a0.size : Int) - a2)))))) = some (r1, r2) := by rw [if_neg (show ¬ (false = true) by decide)] at H; exact H
    clear H
    have H := H1
    clear H1
    have HC8 := a_k H
    clear H
    go_upto_region 3 with (fail)
    go_cut [31] (fun v31 wc => ∃ (kq : Nat) (x31_7 : Bool), v31 = .bool x31_7 ∧ Aside0 (cornucopiaref1_Unfix.j1 kq a0 a1 a2 x31_7 = some (r1, r2)) ∧ Aside0 (kq ≤ kj3) ∧ Drawn0 w wc)
    case first =>
     have H := HC8.out
     clear HC8
     by_cases c9 : (a0.size : Int) < a2
     ·rw [if_pos c9] at H
      have c9b0 : decide ((a0.size : Int) < a2) = true := decide_eq_true c9
      clear c9
      (first | rw [c9b0] | (simp only [i64_w, i32_w]; rw [c9b0]) | skip)
      have H' := a_k H
      clear H
      go_wp2
      go_meet
      case rel => exact ⟨_, (true), (by first | rfl | (simp; done) | (simp [*]; done)), H', ⟨by have := HJ3.out; first | omega | exact Nat.le_refl _⟩, by repeat (first | exact Drawn0.refl _ | apply Drawn0.step)⟩
     ·rw [if_neg c9] at H
      have c9b0 : decide ((a0.size : Int) < a2) = false := decide_eq_false c9
      clear c9
      (first | rw [c9b0] | (simp only [i64_w, i32_w]; rw [c9b0]) | skip)
      have H' := a_k H
      clear H
      go_wp2
      go_meet
      case rel => exact ⟨_, (decide (a1 > (wrap64 ((a0.size : Int) - a2)))), (by first | rfl | (simp; done) | (simp [*]; done)), H', ⟨by have := HJ3.out; first | omega | exact Nat.le_refl _⟩, by repeat (first | exact Drawn0.refl _ | apply Drawn0.step)⟩
    case rest =>
     clear HC8
     try clear c1
     try clear p2
     try clear c3
     try clear c5
     try clear c5b0
     try clear c6
     try clear c6b0
     try clear p6
     try clear c7
     try clear c9
     try clear c9b0
     try clear p2
     obtain ⟨kq, x31_7, rfl, HA, HJ7, ⟨mc7, rfl⟩⟩ := hcut
     cases kq with
     | zero => exact absurd HA.out (by simp [cornucopiaref1_Unfix.j1])
     | succ kj7 =>
      have H := HA.out
      clear HA
      simp only [cornucopiaref1_Unfix.j1] at H
      by_cases c10 : x31_7 = true
      ·subst c10
       have H1 : (some (0, 5)) = some (r1, r2) := by rw [if_pos rfl] at H; exact H
       clear H
       have H := H1
       clear H1
       simp only [Option.some.injEq, Prod.mk.injEq] at H
       obtain ⟨rfl, rfl⟩ := H
       go_wp2
       go_ret2
       exact ⟨by first | rfl | (simp; done) | (simp [*]; done), by repeat (first | exact Drawn0.refl _ | apply Drawn0.step)⟩
      ·replace c10 := Bool.eq_false_iff.mpr c10
       subst c10
       have H1 : (cornucopiaref1_Unfix.l0 kj7 a0 a1 a2 0 0) = some (r1, r2) := by rw [if_neg (show ¬ (false = true) by decide)] at H; exact H
       clear H
       have H := H1
       clear H1
       have H' := a_k H
       clear H
       go_wp2
       go_loopg [8, 9] kj7 (fun kq v8 v9 w' => ∃ (x8_3 : Int) (x9_3 : Int), v8 = .int .u64 x8_3 ∧ v9 = .int .i64 x9_3 ∧ Aside0 (cornucopiaref1_Unfix.l0 kq a0 a1 a2 x8_3 x9_3 = some (r1, r2)) ∧ Aside0 (kq ≤ kj7) ∧ Drawn0 w w')
       case atStart => exact ⟨(0), (0), (by first | rfl | (simp; done) | (simp [*]; done)), (by first | rfl | (simp; done) | (simp [*]; done)), H', ⟨Nat.le_refl _⟩, by repeat (first | exact Drawn0.refl _ | apply Drawn0.step)⟩
       case round =>
        clear H'
        try clear c1
        try clear p2
        try clear c3
        try clear c5
        try clear c5b0
        try clear c6
        try clear c6b0
        try clear p6
        try clear c7
        try clear c9
        try clear c9b0
        try clear c10
        try clear p2
        try clear p6
        obtain ⟨x8_3, x9_3, rfl, rfl, HA, HK3, ⟨m3, rfl⟩⟩ := hrel
        cases gk with
        | zero => exact absurd HA.out (by simp [cornucopiaref1_Unfix.l0])
        | succ k3 =>
         have H := HA.out
         clear HA
         simp only [cornucopiaref1_Unfix.l0] at H
         by_cases c11 : x9_3 < a2
         ·rw [if_pos c11] at H
          have c11b0 : decide (x9_3 < a2) = true := decide_eq_true c11
          clear c11
          obtain ⟨ji12, hji12⟩ : ∃ j_ : Int, (wrap64 (a1 + x9_3)) = j_ := ⟨_, rfl⟩
          replace H : (if 0 ≤ (ji12) then (if (ji12) < (a0.size : Int) then (cornucopiaref1_Unfix.l0 k3 a0 a1 a2 (IntKind.u64.wrap ((IntKind.u64.wrap (x8_3 * 256)) + (IntKind.u64.wrap (bt a0 (ji12))))) (wrap64 (x9_3 + 1))) else (none)) else (none)) = some (r1, r2) := by first | (rw [hji12] at H; exact H) | (simp only [hji12] at H ⊢; exact H)
          have hji12w : (IntKind.i64.wrap (a1 + x9_3)) = ji12 := (i64_w _).trans hji12
          by_cases c13 : 0 ≤ (ji12)
          ·rw [if_pos c13] at H
           have c13b0 : decide (0 ≤ (ji12)) = true := decide_eq_true c13
           clear c13
           by_cases c14 : (ji12) < (a0.size : Int)
           ·rw [if_pos c14] at H
            have c14b0 : decide ((ji12) < (a0.size : Int)) = true := decide_eq_true c14
            clear c14
            have H' := a_k H
            clear H
            have p15 : 0 ≤ ((ji12) : Int) := of_decide_eq_true (by assumption)
            have q15 : (ji12) < (a0.size : Int) := of_decide_eq_true (by assumption)
            have hx15 := bt_at a0 (ji12)
            replace p15 := eq_true p15
            replace q15 := eq_true q15
            go_wp2
            go_roundg k3
            case measure => have := HJ3.out; have := HJ7.out; have := HK3.out; omega
            case rel => exact ⟨(IntKind.u64.wrap ((IntKind.u64.wrap (x8_3 * 256)) + (IntKind.u64.wrap (bt a0 (ji12))))), (wrap64 (x9_3 + 1)), (by first | rfl | (simp; done) | (simp only [← hji12] <;> (first | rfl | simp)) | (simp [*]; done)), (by first | rfl | (simp; done) | (simp [*]; done)), H', ⟨by have := HJ3.out; have := HJ7.out; have := HK3.out; omega⟩, by repeat (first | exact Drawn0.refl _ | apply Drawn0.step)⟩
           ·rw [if_neg c14] at H
            exact absurd H (by simp)
          ·rw [if_neg c13] at H
           exact absurd H (by simp)
         ·rw [if_neg c11] at H
          have c11b0 : decide (x9_3 < a2) = false := decide_eq_false c11
          clear c11
          simp only [Option.some.injEq, Prod.mk.injEq] at H
          obtain ⟨rfl, rfl⟩ := H
          go_wp2
          go_ret2
          exact ⟨by first | rfl | (simp; done) | (simp [*]; done), by repeat (first | exact Drawn0.refl _ | apply Drawn0.step)⟩
end Go.Proofs.YtchgpcgolgcfdaaGreat.PNum
end
section
namespace Go.Proofs.YtchgpcgolgcfdaaGreat.PuVt
open Go Go.RowKit Go.Proofs.YtchgpcgolgcfdaaGreat.PNum Go.Proofs.YtchgpcgolgcfdaaGreatW.PrintWords Go.Proofs.YtchgpcgolgcfdaaGreatW.PrintLast Go.Proofs.YtchgpcgolgcfdaaGreatW.PrintMore Go.Proofs.YtchgpcgolgcfdaaGreatW.Pu
def vb (n : Nat) : List Int := if n < 128 then [(n : Int)] else ((n % 128 + 128 : Nat) : Int) :: vb (n / 128)
theorem vb_low {n : Nat} (h : n < 128) : vb n = [(n : Int)] := by rw [vb, if_pos h]
theorem vb_high {n : Nat} (h : ¬ n < 128) : vb n = ((n % 128 + 128 : Nat) : Int) :: vb (n / 128) := by rw [vb, if_neg h]
theorem vb_len (k : Nat) : ∀ n, n < 128 ^ (k + 1) → (vb n).length ≤ k + 1 := by
 induction k with
 | zero => intro n h; rw [vb_low (by simpa using h)]; simp
 | succ k ih =>
  intro n h
  by_cases hn : n < 128
  ·rw [vb_low hn]; simp
  ·rw [vb_high hn, List.length_cons]
   have := ih (n / 128) (by rw [Nat.pow_succ] at h; omega)
   omega
theorem vb_len10 {n : Nat} (h : n < 18446744073709551616) : (vb n).length ≤ 10 := vb_len 9 n (by omega)
theorem vb_pos (n : Nat) : 0 < (vb n).length := by rw [vb]; split <;> simp
theorem vb_ok (n : Nat) : ok8 (vb n) := by
 induction n using Nat.strongRecOn with
 | _ n ih =>
  by_cases hn : n < 128
  ·rw [vb_low hn]; exact ok8_cons (by omega) ok8_nil
  ·rw [vb_high hn]; exact ok8_cons (by omega) (ih _ (by omega))
theorem or128 : ∀ m : Fin 256, m.val ||| 128 = m.val % 128 + 128 := by decide +kernel
theorem or_more (n : Nat) : Go.bits .or .u8 ((n : Int) % 256) 128 = ((n % 128 + 128 : Nat) : Int) := by
 rw [show ((n : Int) % 256) = ((n % 256 : Nat) : Int) from by omega]
 have h := or_u8 (n % 256) 128 (by omega) (by decide)
 refine h.trans ?_
 have := or128 ⟨n % 256, by omega⟩
 simp only at this
 rw [this]
 congr 1
 omega
theorem Var_l1 (l6 : List Int) (x7 x8 : Int) (r : ByteArray) (n : Nat) : ∀ (x3 : List Int), n < 18446744073709551616 → x3.length + 10 < 140737488355328 →
  Ev (fun k => num_Var.l0 k (x3 ++ vb n) l6 x7 (wrap64 (x8 + 1))) r → Ev (fun k => num_Var.l1 k x3 n l6 x7 x8) r := by
 have key : ∀ (j : Nat) (n : Nat) (x3 : List Int), (vb n).length ≤ j → x3.length + j < 140737488355328 →
   Ev (fun k => num_Var.l0 k (x3 ++ vb n) l6 x7 (wrap64 (x8 + 1))) r → Ev (fun k => num_Var.l1 k x3 n l6 x7 x8) r := by
  intro j
  induction j with
  | zero => intro n x3 h; have := vb_pos n; omega
  | succ j ih =>
   intro n x3 h hl he
   refine Ev.step (fun k => by rw [num_Var.l1]) ?_
   by_cases hn : n < 128
   ·refine ev_neg (by omega) (ev_pos (by omega) ?_)
    rw [vb_low hn] at he
    rw [show ((n : Int) % 256) = n from by omega]
    exact he
   ·refine ev_pos (by omega) (ev_pos (by omega) ?_)
    rw [vb_high hn] at h he
    rw [or_more, show ((n : Int) / 128) = ((n / 128 : Nat) : Int) from by omega]
    exact ih (n / 128) _ (by simpa using h) (by simp; omega) (by simpa using he)
 intro x3 hn hl he
 exact key 10 n x3 (vb_len10 hn) (by omega) he
def u64s (l : List Int) : Prop := ∀ x ∈ l, 0 ≤ x ∧ x ≤ 18446744073709551615
def vbs (l : List Int) : List Int := l.flatMap fun x => vb x.toNat
theorem vbs_cons (x : Int) (l : List Int) : vbs (x :: l) = vb x.toNat ++ vbs l := rfl
theorem rd_nat (l : List Int) (i : Nat) (h : i < l.length) : rd l (i : Int) = l[i] := by
 simp [rd, List.getD_eq_getElem?_getD, List.getElem?_eq_getElem h]
theorem Var_l0 (l : List Int) (hl : u64s l) (hb : 10 * l.length < 140737488355328) (d : Nat) : ∀ (i : Nat) (x3 : List Int), i + d = l.length → x3.length ≤ 10 * i →
  Ev (fun k => num_Var.l0 k x3 l (l.length : Int) (i : Int)) (strOfNums (x3 ++ vbs (l.drop i))) := by
 induction d with
 | zero =>
  intro i x3 hi h3
  refine Ev.step (fun k => by rw [num_Var.l0]) ?_
  refine ev_neg (by omega) ?_
  rw [List.drop_of_length_le (by omega)]
  exact ev_const (by simp [vbs])
 | succ d ih =>
  intro i x3 hi h3
  have hlt : i < l.length := by omega
  have hx := hl l[i] (List.getElem_mem hlt)
  refine Ev.step (fun k => by rw [num_Var.l0]) ?_
  refine ev_pos (by omega) (ev_pos (by omega) (ev_pos (by omega) ?_))
  rw [rd_nat l i hlt]
  obtain ⟨n, hn⟩ := Int.eq_ofNat_of_zero_le hx.1
  have hn' : n < 18446744073709551616 := by omega
  have hd : vbs (l.drop i) = vb n ++ vbs (l.drop (i + 1)) := by
   rw [List.drop_eq_getElem_cons hlt, vbs_cons, hn]; rfl
  rw [hd, hn]
  refine Var_l1 l _ _ _ n x3 hn' (by omega) ?_
  rw [wrap64_id (by omega), show ((i : Int) + 1) = ((i + 1 : Nat) : Int) from by omega]
  have := ih (i + 1) (x3 ++ vb n) (by omega) (by have := vb_len10 hn'; simp; omega)
  simpa using this
theorem Var_ev {l : List Int} (hl : u64s l) (hb : 10 * l.length < 140737488355328) : Ev (fun k => num_Var.f k l) (strOfNums (vbs l)) := by
 have := Var_l0 l hl hb l.length 0 [] (by omega) (by simp)
 simpa [num_Var.f] using this
def tx (l : List ByteArray) : List Int := l.flatMap fun s => vb s.size ++ bytesOf s
theorem tx_cons (s : ByteArray) (l : List ByteArray) : tx (s :: l) = (vb s.size ++ bytesOf s) ++ tx l := rfl
def room (l : List ByteArray) : Nat := (l.map fun s => s.size + 10).sum
theorem Text_go (l : List ByteArray) : ∀ (acc : ByteArray), acc.size + room l < 140737488355328 → Ev (fun k => num_Text.go k l acc) (acc ++ strOfNums (tx l)) := by
 induction l with
 | nil =>
  intro acc _
  refine ev_const ?_
  simp only [tx, List.flatMap_nil, S_nil]
  exact congrArg some (ByteArray.ext (by simp [ByteArray.data_append]))
 | cons s l ih =>
  intro acc h
  have e : room (s :: l) = s.size + 10 + room l := rfl
  rw [e] at h
  have h1 := vb_len10 (n := s.size) (by omega)
  have hv := Var_ev (l := [(s.size : Int)]) (by intro x hx; simp at hx; omega) (by simp)
  have ev : vbs [(s.size : Int)] = vb s.size := by simp [vbs]
  rw [ev] at hv
  refine Ev.congr (fun k => by rw [num_Text.go]) (Ev.bind hv (ev_pos ?_ ?_))
  ·rw [S_size]
   omega
  have := ih (acc ++ (strOfNums (vb s.size) ++ s)) (by rw [ByteArray.size_append, ByteArray.size_append, S_size]; omega)
  rw [tx_cons, ← S_append, ← S_append, S_of]
  rw [ByteArray.append_assoc] at this
  exact this
theorem room_mem {l : List ByteArray} {s : ByteArray} (h : s ∈ l) : s.size + 10 ≤ room l := by
 induction l with
 | nil => simp at h
 | cons x l ih =>
  have e : room (x :: l) = x.size + 10 + room l := rfl
  rcases List.mem_cons.1 h with rfl | h
  ·omega
  ·have := ih h
   omega
theorem Text_ev (l : List ByteArray) (h : room l < 140737488355328) : Ev (fun k => num_Text.f k l) (strOfNums (tx l)) := by
 have hs : ∀ s ∈ l, s.size ≤ 140737488355328 := by
  intro s hs
  have := room_mem hs
  omega
 have := Text_go l ⟨#[]⟩ (by show 0 + room l < _; omega)
 refine Ev.congr (fun k => by rw [num_Text.f, if_pos hs]) ?_
 have e : (⟨#[]⟩ : ByteArray) ++ strOfNums (tx l) = strOfNums (tx l) := ByteArray.ext (by simp [ByteArray.data_append])
 rw [e] at this
 exact this
end Go.Proofs.YtchgpcgolgcfdaaGreat.PuVt
end
