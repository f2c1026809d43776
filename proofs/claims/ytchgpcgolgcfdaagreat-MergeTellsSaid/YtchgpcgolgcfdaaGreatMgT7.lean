/- Texts of this claim, put together and cut down to what is used (T7). -/
import Derived.Deep.RegionHeld3
import Derived.BigRegion
import Derived.Test.YtchgpcgolgcfdaaGreatProg
import Derived.Deep.DeepCutAuto
import Derived.Deep.QuietTactic
import Derived.BigQuiet
import Derived.Maps.OwnSet
import Derived.Maps.Own
import Derived.Maps.Keyed
import Derived.Carry
import Derived.KernelRfl
import Derived.DeepKeys4
import Derived.Deep.LoopGhost
import Derived.StringKeys
import Derived.Test.YtchgpcgolgcfdaaGreatMgT3
import Derived.Test.YtchgpcgolgcfdaaGreatMgT1
import Derived.Test.YtchgpcgolgcfdaaGreatMgT0
section
namespace Go.Proofs.YtchgpcgolgcfdaaGreat.PNum
open Go.RowKit Go.Proofs.YtchgpcgolgcfdaaGreatW.PrintWords Go.Proofs.YtchgpcgolgcfdaaGreatW.PrintLast Go.Proofs.YtchgpcgolgcfdaaGreatW.PrintMore
attribute [local go_sem] max2_int min2_int max_two min_two max_three min_three max_four min_four   -- for this text's walks alone
set_option linter.unusedVariables false
set_option linter.unusedSimpArgs false
def cmp_Or_int.l0 : Nat → Int → List Int → Int → Int → Option (Int)
 | 0, _, _, _, _ => none
 | k + 1, x3, x6, x7, x8 => if x8 < x7 then (if 0 ≤ x8 then (if x8 < (x6.length : Int) then (if (rd x6 x8) = x3 then (cmp_Or_int.l0 k x3 x6 x7 (wrap64 (x8 + 1))) else (some (rd x6 x8))) else (none)) else (none)) else (some x3)
def cmp_Or_int.f (k : Nat) (l0 : List Int) : Option (Int) := cmp_Or_int.l0 k 0 l0 (l0.length : Int) 0
theorem cmp_Or_int.mono_l : ∀ k, (∀ y0 y1 y2 y3, LeO (cmp_Or_int.l0 k y0 y1 y2 y3) (cmp_Or_int.l0 (k + 1) y0 y1 y2 y3))
 | 0 => fun _ _ _ _ r h => by simp [cmp_Or_int.l0] at h
 | k + 1 => by
  have ih0 := cmp_Or_int.mono_l k
  ·intro y0 y1 y2 y3
   unfold cmp_Or_int.l0
   repeat' first
   | (with_reducible exact ih0 _ _ _ _)
   | (with_reducible exact LeO.refl _)
   | (with_reducible exact LeO.none _)
   | (with_reducible refine LeO.ite ?_ ?_)
   | (with_reducible refine LeO.bind ?_ (fun _ => ?_))
   | exact ih0 _ _ _ _
   | exact LeO.none _
   | refine LeO.ite ?_ ?_
   | refine LeO.bind ?_ (fun _ => ?_)
theorem cmp_Or_int.mono : ∀ a0 k, LeO (cmp_Or_int.f k a0) (cmp_Or_int.f (k + 1) a0) := by
 intro a0 k
 have ih0 := cmp_Or_int.mono_l k
 unfold cmp_Or_int.f
 repeat' first
   | (with_reducible exact ih0 _ _ _ _)
   | (with_reducible exact LeO.refl _)
   | (with_reducible exact LeO.none _)
   | (with_reducible refine LeO.ite ?_ ?_)
   | (with_reducible refine LeO.bind ?_ (fun _ => ?_))
   | exact ih0 _ _ _ _
   | exact LeO.none _
   | refine LeO.ite ?_ ?_
   | refine LeO.bind ?_ (fun _ => ?_)
set_option maxHeartbeats 8000000 in
set_option maxRecDepth 100000 in
theorem cmp_Or_int.calls (k : Nat) (A0 : Option Addr) (c0 : Nat) (l0 : List Int) (r : Int) (w : World) (hr0 : Kd.C (Kd.int .i64) w A0 l0.length l0) (hc0 : l0.length ≤ c0) (h : cmp_Or_int.f k l0 = some r) :
  Calls Tryz.prog 168 #[.slice A0 l0.length c0] w fun e w' => e = .returned (.int .i64 r) ∧ Drawn0 w w' := by
 have HR0 := Aside0.mk hr0
 have HC0 := Aside0.mk hc0
 clear hr0 hc0
 have H : (cmp_Or_int.l0 k 0 l0 (l0.length : Int) 0) = some r := h
 clear h
 have H' := Aside0.mk H
 clear H
 go_enter Tryz.func168, Tryz.ntmps168
 go_wp2
 go_loopg [8] k (fun kq v8 w' => ∃ (x8_1 : Int), v8 = .int .i64 x8_1 ∧ Aside0 (cmp_Or_int.l0 kq 0 l0 (l0.length : Int) x8_1 = some r) ∧ Aside0 (kq ≤ k) ∧ Drawn0 w w')
 case atStart => exact ⟨(0), (by first | rfl | (simp; done) | (simp [*]; done)), H', ⟨Nat.le_refl _⟩, by repeat (first | exact Drawn0.refl _ | apply Drawn0.step)⟩
 case round =>
  clear H'
  try clear c1
  obtain ⟨x8_1, rfl, HA, HK1, ⟨m1, rfl⟩⟩ := hrel
  cases gk with
  | zero => exact absurd HA.out (by simp [cmp_Or_int.l0])
  | succ k1 =>
   have H := HA.out
   clear HA
   simp only [cmp_Or_int.l0] at H
   by_cases c2 : x8_1 < (l0.length : Int)
   ·rw [if_pos c2] at H
    have c2b0 : decide (x8_1 < (l0.length : Int)) = true := decide_eq_true c2
    clear c2
    by_cases c3 : 0 ≤ x8_1
    ·rw [if_pos c3] at H
     have c3b0 : decide (0 ≤ x8_1) = true := decide_eq_true c3
     clear c3
     by_cases c4 : x8_1 < (l0.length : Int)
     ·rw [if_pos c4] at H
      have c4b0 : decide (x8_1 < (l0.length : Int)) = true := decide_eq_true c4
      clear c4
      by_cases c5 : (rd l0 x8_1) = 0
      ·rw [if_pos c5] at H
       have c5b0 : ((rd l0 x8_1) == 0) = true := beq_iff_eq.mpr c5
       have c5b1 : ((rd l0 x8_1) != 0) = false := bne_eq_false_iff_eq.mpr c5
       clear c5
       have H' := Aside0.mk H
       clear H
       have p115 : 0 ≤ (x8_1 : Int) := of_decide_eq_true (by first | (with_reducible assumption) | assumption)
       have q115 : x8_1 < (l0.length : Int) := of_decide_eq_true (by first | (with_reducible assumption) | assumption)
       obtain ⟨ad115, e115, hx115_0⟩ := Kd.at_int HR0.out x8_1 p115 q115
       cases e115
       replace p115 := eq_true p115
       replace q115 := eq_true q115
       go_wp2
       go_roundg k1
       case measure => have := HK1.out; omega
       case rel => exact ⟨(wrap64 (x8_1 + 1)), (by first | rfl | (simp; done) | (simp [*]; done)), H', ⟨by have := HK1.out; omega⟩, by repeat (first | exact Drawn0.refl _ | apply Drawn0.step)⟩
      ·rw [if_neg c5] at H
       have c5b0 : ((rd l0 x8_1) == 0) = false := beq_eq_false_iff_ne.mpr c5
       have c5b1 : ((rd l0 x8_1) != 0) = true := bne_iff_ne.mpr c5
       obtain rfl := Option.some.inj H
       have p115 : 0 ≤ (x8_1 : Int) := of_decide_eq_true (by first | (with_reducible assumption) | assumption)
       have q115 : x8_1 < (l0.length : Int) := of_decide_eq_true (by first | (with_reducible assumption) | assumption)
       obtain ⟨ad115, e115, hx115_0⟩ := Kd.at_int HR0.out x8_1 p115 q115
       cases e115
       replace p115 := eq_true p115
       replace q115 := eq_true q115
       go_wp2
       go_ret
       exact ⟨by first | rfl | (simp; done) | (simp [*]; done), by repeat (first | exact Drawn0.refl _ | apply Drawn0.step)⟩
     ·rw [if_neg c4] at H
      exact absurd H (by simp)
    ·rw [if_neg c3] at H
     exact absurd H (by simp)
   ·rw [if_neg c2] at H
    have c2b0 : decide (x8_1 < (l0.length : Int)) = false := decide_eq_false c2
    clear c2
    obtain rfl := Option.some.inj H
    go_wp2
    go_ret
    exact ⟨by first | rfl | (simp; done) | (simp [*]; done), by repeat (first | exact Drawn0.refl _ | apply Drawn0.step)⟩
def strings_Compare.f (a0 a1 : ByteArray) : Option Int := some (Lib.compareBytes a0.data.toList a1.data.toList)
theorem strings_Compare.calls (a0 a1 : ByteArray) (r : Int) (w : World) (h : strings_Compare.f a0 a1 = some r) :
  Calls Tryz.prog 169 #[.string a0, .string a1] w fun e w' => e = .returned (.int .i64 r) ∧ Drawn0 w w' := by
 obtain rfl := Option.some.inj h
 refine (Tryz.strings_Compare a0 a1 w).mono ?_
 rintro e w' ⟨rfl, rfl⟩
 exact ⟨rfl, Drawn0.refl _⟩
def cmp_isNaN_uint64.f (a0 : Int) : Option (Bool) := some (a0 != a0)
set_option maxHeartbeats 8000000 in
set_option maxRecDepth 100000 in
theorem cmp_isNaN_uint64.calls (a0 : Int) (r : Bool) (w : World) (h : cmp_isNaN_uint64.f a0 = some r) :
  Calls Tryz.prog 231 #[.int .u64 a0] w fun e w' => e = .returned (.bool r) ∧ Drawn0 w w' := by
 have H : (some (a0 != a0)) = some r := h
 clear h
 obtain rfl := Option.some.inj H
 go_enter Tryz.func231, Tryz.ntmps231
 go_wp2
 go_ret
 exact ⟨by first | rfl | (simp; done) | (simp [*]; done), by repeat (first | exact Drawn0.refl _ | apply Drawn0.step)⟩
def cmp_Compare_uint64.f (a0 : Int) (a1 : Int) : Option (Int) := (cmp_isNaN_uint64.f a0).bind fun t116 => ((cmp_isNaN_uint64.f a1).bind fun t117 => (if t116 = true then (if t117 = true then (some 0) else (some (-1))) else (if t117 = true then (some 1) else (if a0 < a1 then (some (-1)) else (if a0 > a1 then (some 1) else (some 0))))))
set_option maxHeartbeats 8000000 in
set_option maxRecDepth 100000 in
theorem cmp_Compare_uint64.calls (a0 : Int) (a1 : Int) (r : Int) (w : World) (h : cmp_Compare_uint64.f a0 a1 = some r) :
  Calls Tryz.prog 170 #[.int .u64 a0, .int .u64 a1] w fun e w' => e = .returned (.int .i64 r) ∧ Drawn0 w w' := by
 have H : ((cmp_isNaN_uint64.f a0).bind fun t116 => ((cmp_isNaN_uint64.f a1).bind fun t117 => (if t116 = true then (if t117 = true then (some 0) else (some (-1))) else (if t117 = true then (some 1) else (if a0 < a1 then (some (-1)) else (if a0 > a1 then (some 1) else (some 0))))))) = some r := h
 clear h
 replace H := Option.bind_eq_some_iff.mp H
 obtain ⟨t116, A30, H⟩ := H
 replace H : ((cmp_isNaN_uint64.f a1).bind fun t117 => (if t116 = true then (if t117 = true then (some 0) else (some (-1))) else (if t117 = true then (some 1) else (if a0 < a1 then (some (-1)) else (if a0 > a1 then (some 1) else (some 0)))))) = some r := H
 have A3 := Aside0.mk A30
 clear A30
 replace H := Option.bind_eq_some_iff.mp H
 obtain ⟨t117, A40, H⟩ := H
 replace H : (if t116 = true then (if t117 = true then (some 0) else (some (-1))) else (if t117 = true then (some 1) else (if a0 < a1 then (some (-1)) else (if a0 > a1 then (some 1) else (some 0))))) = some r := H
 have A4 := Aside0.mk A40
 clear A40
 by_cases c5 : t116 = true
 ·subst c5
  have H1 : (if t117 = true then (some 0) else (some (-1))) = some r := by rw [if_pos rfl] at H; exact H
  clear H
  have H := H1
  clear H1
  by_cases c6 : t117 = true
  ·subst c6
   have H1 : (some 0) = some r := by rw [if_pos rfl] at H; exact H
   clear H
   have H := H1
   clear H1
   obtain rfl := Option.some.inj H
   go_enter Tryz.func170, Tryz.ntmps170
   go_wp2_with (first | ((with_reducible refine gate_callee (f := 231) rfl ?_); refine goesL_ (some 8) rfl rfl Tryz.func231 (by kernel_rfl) rfl #[.int .u64 a0] rfl (by (try simp only [List.map_toArray, List.map_cons, List.map_nil]); first | done | rfl | (simp only [List.length_drop, List.length_take]; rfl)) ?_; (with_reducible refine (cmp_isNaN_uint64.calls a0 true _ A3.out).mono ?_); rintro e w' ⟨rfl, ⟨nd, rfl⟩⟩; refine ⟨_, rfl, ?_⟩) | ((with_reducible refine gate_callee (f := 231) rfl ?_); refine goesL_ (some 10) rfl rfl Tryz.func231 (by kernel_rfl) rfl #[.int .u64 a1] rfl (by (try simp only [List.map_toArray, List.map_cons, List.map_nil]); first | done | rfl | (simp only [List.length_drop, List.length_take]; rfl)) ?_; (with_reducible refine (cmp_isNaN_uint64.calls a1 true _ A4.out).mono ?_); rintro e w' ⟨rfl, ⟨nd, rfl⟩⟩; refine ⟨_, rfl, ?_⟩))
   go_ret
   exact ⟨by first | rfl | (simp; done) | (simp [*]; done), by repeat (first | exact Drawn0.refl _ | apply Drawn0.step)⟩
  ·replace c6 := Bool.eq_false_iff.mpr c6
   subst c6
   have H1 : (some (-1)) = some r := by rw [if_neg (show ¬ (false = true) by decide)] at H; exact H
   clear H
   have H := H1
   clear H1
   obtain rfl := Option.some.inj H
   go_enter Tryz.func170, Tryz.ntmps170
   go_wp2_with (first | ((with_reducible refine gate_callee (f := 231) rfl ?_); refine goesL_ (some 8) rfl rfl Tryz.func231 (by kernel_rfl) rfl #[.int .u64 a0] rfl (by (try simp only [List.map_toArray, List.map_cons, List.map_nil]); first | done | rfl | (simp only [List.length_drop, List.length_take]; rfl)) ?_; (with_reducible refine (cmp_isNaN_uint64.calls a0 true _ A3.out).mono ?_); rintro e w' ⟨rfl, ⟨nd, rfl⟩⟩; refine ⟨_, rfl, ?_⟩) | ((with_reducible refine gate_callee (f := 231) rfl ?_); refine goesL_ (some 10) rfl rfl Tryz.func231 (by kernel_rfl) rfl #[.int .u64 a1] rfl (by (try simp only [List.map_toArray, List.map_cons, List.map_nil]); first | done | rfl | (simp only [List.length_drop, List.length_take]; rfl)) ?_; (with_reducible refine (cmp_isNaN_uint64.calls a1 false _ A4.out).mono ?_); rintro e w' ⟨rfl, ⟨nd, rfl⟩⟩; refine ⟨_, rfl, ?_⟩))
   go_ret
   exact ⟨by first | rfl | (simp; done) | (simp [*]; done), by repeat (first | exact Drawn0.refl _ | apply Drawn0.step)⟩
 ·replace c5 := Bool.eq_false_iff.mpr c5
  subst c5
  have H1 : (if t117 = true then (some 1) else (if a0 < a1 then (some (-1)) else (if a0 > a1 then (some 1) else (some 0)))) = some r := by rw [if_neg (show ¬ (false = true) by decide)] at H; exact H
  clear H
  have H := H1
  clear H1
  by_cases c7 : t117 = true
  ·subst c7
   have H1 : (some 1) = some r := by rw [if_pos rfl] at H; exact H
   clear H
   have H := H1
   clear H1
   obtain rfl := Option.some.inj H
   go_enter Tryz.func170, Tryz.ntmps170
   go_wp2_with (first | ((with_reducible refine gate_callee (f := 231) rfl ?_); refine goesL_ (some 8) rfl rfl Tryz.func231 (by kernel_rfl) rfl #[.int .u64 a0] rfl (by (try simp only [List.map_toArray, List.map_cons, List.map_nil]); first | done | rfl | (simp only [List.length_drop, List.length_take]; rfl)) ?_; (with_reducible refine (cmp_isNaN_uint64.calls a0 false _ A3.out).mono ?_); rintro e w' ⟨rfl, ⟨nd, rfl⟩⟩; refine ⟨_, rfl, ?_⟩) | ((with_reducible refine gate_callee (f := 231) rfl ?_); refine goesL_ (some 10) rfl rfl Tryz.func231 (by kernel_rfl) rfl #[.int .u64 a1] rfl (by (try simp only [List.map_toArray, List.map_cons, List.map_nil]); first | done | rfl | (simp only [List.length_drop, List.length_take]; rfl)) ?_; (with_reducible refine (cmp_isNaN_uint64.calls a1 true _ A4.out).mono ?_); rintro e w' ⟨rfl, ⟨nd, rfl⟩⟩; refine ⟨_, rfl, ?_⟩))
   go_ret
   exact ⟨by first | rfl | (simp; done) | (simp [*]; done), by repeat (first | exact Drawn0.refl _ | apply Drawn0.step)⟩
  ·replace c7 := Bool.eq_false_iff.mpr c7
   subst c7
   have H1 : (if a0 < a1 then (some (-1)) else (if a0 > a1 then (some 1) else (some 0))) = some r := by rw [if_neg (show ¬ (false = true) by decide)] at H; exact H
   clear H
   have H := H1
   clear H1
   by_cases c8 : a0 < a1
   ·rw [if_pos c8] at H
    have c8b0 : decide (a0 < a1) = true := decide_eq_true c8
    clear c8
    obtain rfl := Option.some.inj H
    go_enter Tryz.func170, Tryz.ntmps170
    go_wp2_with (first | ((with_reducible refine gate_callee (f := 231) rfl ?_); refine goesL_ (some 8) rfl rfl Tryz.func231 (by kernel_rfl) rfl #[.int .u64 a0] rfl (by (try simp only [List.map_toArray, List.map_cons, List.map_nil]); first | done | rfl | (simp only [List.length_drop, List.length_take]; rfl)) ?_; (with_reducible refine (cmp_isNaN_uint64.calls a0 false _ A3.out).mono ?_); rintro e w' ⟨rfl, ⟨nd, rfl⟩⟩; refine ⟨_, rfl, ?_⟩) | ((with_reducible refine gate_callee (f := 231) rfl ?_); refine goesL_ (some 10) rfl rfl Tryz.func231 (by kernel_rfl) rfl #[.int .u64 a1] rfl (by (try simp only [List.map_toArray, List.map_cons, List.map_nil]); first | done | rfl | (simp only [List.length_drop, List.length_take]; rfl)) ?_; (with_reducible refine (cmp_isNaN_uint64.calls a1 false _ A4.out).mono ?_); rintro e w' ⟨rfl, ⟨nd, rfl⟩⟩; refine ⟨_, rfl, ?_⟩))
    go_ret
    exact ⟨by first | rfl | (simp; done) | (simp [*]; done), by repeat (first | exact Drawn0.refl _ | apply Drawn0.step)⟩
   ·rw [if_neg c8] at H
    have c8b0 : decide (a0 < a1) = false := decide_eq_false c8
    clear c8
    by_cases c9 : a0 > a1
    ·rw [if_pos c9] at H
     have c9b0 : decide (a1 < a0) = true := decide_eq_true c9
     clear c9
     obtain rfl := Option.some.inj H
     go_enter Tryz.func170, Tryz.ntmps170
     go_wp2_with (first | ((with_reducible refine gate_callee (f := 231) rfl ?_); refine goesL_ (some 8) rfl rfl Tryz.func231 (by kernel_rfl) rfl #[.int .u64 a0] rfl (by (try simp only [List.map_toArray, List.map_cons, List.map_nil]); first | done | rfl | (simp only [List.length_drop, List.length_take]; rfl)) ?_; (with_reducible refine (cmp_isNaN_uint64.calls a0 false _ A3.out).mono ?_); rintro e w' ⟨rfl, ⟨nd, rfl⟩⟩; refine ⟨_, rfl, ?_⟩) | ((with_reducible refine gate_callee (f := 231) rfl ?_); refine goesL_ (some 10) rfl rfl Tryz.func231 (by kernel_rfl) rfl #[.int .u64 a1] rfl (by (try simp only [List.map_toArray, List.map_cons, List.map_nil]); first | done | rfl | (simp only [List.length_drop, List.length_take]; rfl)) ?_; (with_reducible refine (cmp_isNaN_uint64.calls a1 false _ A4.out).mono ?_); rintro e w' ⟨rfl, ⟨nd, rfl⟩⟩; refine ⟨_, rfl, ?_⟩))
     go_ret
     exact ⟨by first | rfl | (simp; done) | (simp [*]; done), by repeat (first | exact Drawn0.refl _ | apply Drawn0.step)⟩
    ·rw [if_neg c9] at H
     have c9b0 : decide (a1 < a0) = false := decide_eq_false c9
     clear c9
     obtain rfl := Option.some.inj H
     go_enter Tryz.func170, Tryz.ntmps170
     go_wp2_with (first | ((with_reducible refine gate_callee (f := 231) rfl ?_); refine goesL_ (some 8) rfl rfl Tryz.func231 (by kernel_rfl) rfl #[.int .u64 a0] rfl (by (try simp only [List.map_toArray, List.map_cons, List.map_nil]); first | done | rfl | (simp only [List.length_drop, List.length_take]; rfl)) ?_; (with_reducible refine (cmp_isNaN_uint64.calls a0 false _ A3.out).mono ?_); rintro e w' ⟨rfl, ⟨nd, rfl⟩⟩; refine ⟨_, rfl, ?_⟩) | ((with_reducible refine gate_callee (f := 231) rfl ?_); refine goesL_ (some 10) rfl rfl Tryz.func231 (by kernel_rfl) rfl #[.int .u64 a1] rfl (by (try simp only [List.map_toArray, List.map_cons, List.map_nil]); first | done | rfl | (simp only [List.length_drop, List.length_take]; rfl)) ?_; (with_reducible refine (cmp_isNaN_uint64.calls a1 false _ A4.out).mono ?_); rintro e w' ⟨rfl, ⟨nd, rfl⟩⟩; refine ⟨_, rfl, ?_⟩))
     go_ret
     exact ⟨by first | rfl | (simp; done) | (simp [*]; done), by repeat (first | exact Drawn0.refl _ | apply Drawn0.step)⟩
end Go.Proofs.YtchgpcgolgcfdaaGreat.PNum
end
section
namespace Go.Proofs.YtchgpcgolgcfdaaGreat.PNum
open Go.RowKit Go.Proofs.YtchgpcgolgcfdaaGreatW.PrintWords Go.Proofs.YtchgpcgolgcfdaaGreatW.PrintLast Go.Proofs.YtchgpcgolgcfdaaGreatW.PrintMore
attribute [local go_sem] max2_int min2_int max_two min_two max_three min_three max_four min_four   -- for this text's walks alone
set_option linter.unusedVariables false
set_option linter.unusedSimpArgs false
def ikey_Compare.f (k : Nat) (a0_0 : ByteArray) (a0_1 : Int) (a0_2 : Int) (a0_3 : ByteArray) (a1_0 : ByteArray) (a1_1 : Int) (a1_2 : Int) (a1_3 : ByteArray) : Option (Int) := (strings_Compare.f a0_0 a1_0).bind fun t120 => ((cmp_Compare_uint64.f a1_1 a0_1).bind fun t121 => ((cmp_Or_int.f k (([t120, t121] : List Int))).bind fun t125 => (some t125)))
theorem ikey_Compare.mono : ∀ a0 a1 a2 a3 a4 a5 a6 a7 k, LeO (ikey_Compare.f k a0 a1 a2 a3 a4 a5 a6 a7) (ikey_Compare.f (k + 1) a0 a1 a2 a3 a4 a5 a6 a7) := by
 intro a0 a1 a2 a3 a4 a5 a6 a7 k
 unfold ikey_Compare.f
 repeat' first
   | (with_reducible exact cmp_Or_int.mono _ _)
   | (with_reducible exact LeO.refl _)
   | (with_reducible exact LeO.none _)
   | (with_reducible refine LeO.ite ?_ ?_)
   | (with_reducible refine LeO.bind ?_ (fun _ => ?_))
   | exact cmp_Or_int.mono _ _
   | exact LeO.none _
   | refine LeO.ite ?_ ?_
   | refine LeO.bind ?_ (fun _ => ?_)
def ikey_Compare.T1 : Bool × List (List Nat × List Nat) := (true, [([], []), ([0], [0]), ([], []), ([2], [2]), ([1, 3], [1, 3]), ([], []), ([5], [5]), ([], []), ([7], [7]), ([6, 8, 4], [6, 8]), ([4, 9], [4, 9]), ([10, 9], [10]), ([11, 11, 0, 1, 2, 3, 4, 5, 6, 7, 8, 9, 10, 11], [11])])
def ikey_Compare.B1 : List Nat := [0, 1, 0, 4, 15, 0, 32, 0, 128, 511, 1023, 2047, 4095]
theorem ikey_Compare.tab1 : rtab .any (opsOf Tryz.f47 1) = ikey_Compare.T1 := by kernel_rfl
theorem ikey_Compare.bits1 : waitsOk ikey_Compare.T1.2 ikey_Compare.B1 = true := by kernel_rfl
set_option maxHeartbeats 8000000 in
set_option maxRecDepth 100000 in
theorem ikey_Compare.calls (k : Nat) (a0_0 : ByteArray) (a0_1 : Int) (a0_2 : Int) (a0_3 : ByteArray) (a1_0 : ByteArray) (a1_1 : Int) (a1_2 : Int) (a1_3 : ByteArray) (r : Int) (w : World) (h : ikey_Compare.f k a0_0 a0_1 a0_2 a0_3 a1_0 a1_1 a1_2 a1_3 = some r) :
  Calls Tryz.prog 47 #[.agg #[.string a0_0, .int .u64 a0_1, .int .i64 a0_2, .string a0_3], .agg #[.string a1_0, .int .u64 a1_1, .int .i64 a1_2, .string a1_3]] w fun e w' => e = .returned (.int .i64 r) ∧ Below w.heap.size w w' := by
 have hu32 := Tryz.underlying32
 have HB := Aside0.mk (Below.refl w.heap.size w)
 have H : ((strings_Compare.f a0_0 a1_0).bind fun t120 => ((cmp_Compare_uint64.f a1_1 a0_1).bind fun t121 => ((cmp_Or_int.f k (([t120, t121] : List Int))).bind fun t125 => (some t125)))) = some r := h
 clear h
 replace H := Option.bind_eq_some_iff.mp H
 obtain ⟨t120, A30, H⟩ := H
 replace H : ((cmp_Compare_uint64.f a1_1 a0_1).bind fun t121 => ((cmp_Or_int.f k (([t120, t121] : List Int))).bind fun t125 => (some t125))) = some r := H
 have A3 := Aside0.mk A30
 clear A30
 replace H := Option.bind_eq_some_iff.mp H
 obtain ⟨t121, A40, H⟩ := H
 replace H : ((cmp_Or_int.f k (([t120, t121] : List Int))).bind fun t125 => (some t125)) = some r := H
 have A4 := Aside0.mk A40
 clear A40
 obtain ⟨y122, hy122⟩ : ∃ y_ : List Int, y_ = (([t120, t121] : List Int)) := ⟨_, rfl⟩
 replace H : ((cmp_Or_int.f k y122).bind fun t125 => (some t125)) = some r := by first | (rw [hy122]; with_reducible exact H) | (have H2_ := (Option.bind_some _ _).symm.trans H; rw [hy122]; with_reducible exact H2_) | (have H2_ := (Option.bind_some _ _).symm.trans H; with_reducible exact H2_) | with_reducible exact H | (rw [hy122]; exact H) | exact H
 have Ny122 := Aside0.mk hy122
 clear hy122
 replace H := Option.bind_eq_some_iff.mp H
 obtain ⟨t125, A50, H⟩ := H
 replace H : (some t125) = some r := H
 have A5 := Aside0.mk A50
 clear A50
 obtain rfl := Option.some.inj H
 go_enter Tryz.func47, Tryz.ntmps47
 try go_wp2_with (first | ((with_reducible refine gate_dst (N := 2) rfl ?_); refine box_event ?hg (N := 2) ?hd (cs := #[.string a0_0, .int .u64 a0_1, .int .i64 a0_2, .string a0_3]) (t := 32) ?hr ?_; (case hd => rfl); (case hg => rfl); (case hr => first | (go_simp; done) | (go_simp; rfl)); intro gb118 hg w6 hbox hb; have n0_ := Aside0.mk (below_step (by repeat (first | (with_reducible first | exact HB.out | apply below_alloc | apply pw_below_drewN | apply below_drew1) | exact HB.out)) hb); have n1_ := Aside0.mk (hbox); have n2_ := Aside0.mk ((by rw [hg]; exact (below_size (by repeat (first | (with_reducible first | exact HB.out | apply below_alloc | apply pw_below_drewN | apply below_drew1) | exact HB.out))) : w.heap.size ≤ gb118)); have n3_ := Aside0.mk ((by rw [hg]; exact (below_size (by repeat (first | (with_reducible first | exact HB.out | apply below_alloc | apply pw_below_drewN | apply below_drew1) | exact HB.out))) : w.heap.size ≤ gb118)); clear HB; have HB := n0_; have BK118 := n1_; have GW118 := n2_; have GE118 := n3_; clear n0_ n1_ n2_ n3_; clear hb hbox hg) | ((with_reducible refine gate_dst (N := 3) rfl ?_); refine box_event ?hg (N := 3) ?hd (cs := #[.string a1_0, .int .u64 a1_1, .int .i64 a1_2, .string a1_3]) (t := 32) ?hr ?_; (case hd => rfl); (case hg => rfl); (case hr => first | (go_simp; done) | (go_simp; rfl)); intro gb119 hg w7 hbox hb; have n0_ := Aside0.mk (blk_below (g := gb118) (o := .cells #[.string a0_0, .int .u64 a0_1, .int .i64 a0_2, .string a0_3] 32 (0, 0)) (by (with_reducible repeat (first | refine blk_drewN ?_ _ | refine blk_drew ?_ | refine blk_alloc ?_ _)); exact BK118.out) hb); have n1_ := Aside0.mk (below_step (by repeat (first | (with_reducible first | exact HB.out | apply below_alloc | apply pw_below_drewN | apply below_drew1 | refine below_set ?_ GE118.out) | exact HB.out)) hb); have n2_ := Aside0.mk (hbox); have n3_ := Aside0.mk ((by rw [hg]; exact (below_size (by repeat (first | (with_reducible first | exact HB.out | apply below_alloc | apply pw_below_drewN | apply below_drew1 | refine below_set ?_ GE118.out) | exact HB.out))) : w.heap.size ≤ gb119)); have n4_ := Aside0.mk ((by rw [hg]; exact (below_size (by repeat (first | (with_reducible first | exact HB.out | apply below_alloc | apply pw_below_drewN | apply below_drew1 | refine below_set ?_ GE118.out) | exact HB.out))) : w.heap.size ≤ gb119)); have n5_ := Aside0.mk ((by rw [hg]; exact Nat.ne_of_lt (blk_lt (g := gb118) (o := .cells #[.string a0_0, .int .u64 a0_1, .int .i64 a0_2, .string a0_3] 32 (0, 0)) (by (with_reducible repeat (first | refine blk_drewN ?_ _ | refine blk_drew ?_ | refine blk_alloc ?_ _)); exact BK118.out)) : gb118 ≠ gb119)); have n6_ := Aside0.mk ((by rw [hg]; exact Nat.ne_of_gt (blk_lt (g := gb118) (o := .cells #[.string a0_0, .int .u64 a0_1, .int .i64 a0_2, .string a0_3] 32 (0, 0)) (by (with_reducible repeat (first | refine blk_drewN ?_ _ | refine blk_drew ?_ | refine blk_alloc ?_ _)); exact BK118.out)) : gb119 ≠ gb118)); clear BK118; clear HB; have BK118 := n0_; have HB := n1_; have BK119 := n2_; have GW119 := n3_; have GE119 := n4_; have NB118_119 := n5_; have NB119_118 := n6_; clear n0_ n1_ n2_ n3_ n4_ n5_ n6_; clear hb hbox hg))
 have n0_ := Aside0.mk (blk_drew BK118.out)
 have n1_ := Aside0.mk (blk_drew BK119.out)
 have n2_ := Aside0.mk (below_drew1 HB.out)
 clear BK118
 clear BK119
 clear HB
 have BK118 := n0_
 have BK119 := n1_
 have HB := n2_
 clear n0_ n1_ n2_
 refine start_ (n := 13) (S := fun w' => w'.cell? ⟨gb118, 0, none⟩ = some (.string a0_0) ∧ w'.cell? ⟨gb118, 1, none⟩ = some (.int .u64 a0_1) ∧ w'.cell? ⟨gb118, 2, none⟩ = some (.int .i64 a0_2) ∧ w'.cell? ⟨gb118, 3, none⟩ = some (.string a0_3) ∧ w'.cell? ⟨gb119, 0, none⟩ = some (.string a1_0) ∧ w'.cell? ⟨gb119, 1, none⟩ = some (.int .u64 a1_1) ∧ w'.cell? ⟨gb119, 2, none⟩ = some (.int .i64 a1_2) ∧ w'.cell? ⟨gb119, 3, none⟩ = some (.string a1_3)) (ds := []) #[false, false, false, false, false, false, false, false, false, false, false, false, false] (by kernel_rfl) rfl rfl ⟨(blk_cell BK118.out 0).trans rfl, (blk_cell BK118.out 1).trans rfl, (blk_cell BK118.out 2).trans rfl, (blk_cell BK118.out 3).trans rfl, (blk_cell BK119.out 0).trans rfl, (blk_cell BK119.out 1).trans rfl, (blk_cell BK119.out 2).trans rfl, (blk_cell BK119.out 3).trans rfl⟩ (fun hHeld => ?_); refine with_tabW ikey_Compare.tab1 ikey_Compare.bits1 (fun HT_ HW_ => ?_)
 generalize w7.drew = w8 at BK118 BK119 HB hHeld ⊢
 refine pure_ (i := 0) (N := some 5) (v := ?_) (a' := ?_) #[true, false, false, false, false, false, false, false, false, false, false, false, false] rfl rfl (any_of HT_.out (by kernel_rfl)) (fun _ _ _ h => h) (Or.inl ⟨by rfl, ?_⟩) ?_ ?_
 rotate_left
 ·intro w'
  go_simp
  with_reducible rfl
 rotate_left
 ·simp only [Act.put, List.setIfInBounds_toArray, List.set_cons_zero, List.set_cons_succ, i64_w, i32_w]
  rfl
 refine pure_ (i := 2) (N := some 7) (v := ?_) (a' := ?_) #[true, false, true, false, false, false, false, false, false, false, false, false, false] rfl rfl (any_of HT_.out (by kernel_rfl)) (fun _ _ _ h => h) (Or.inl ⟨by rfl, ?_⟩) ?_ ?_
 rotate_left
 ·intro w'
  go_simp
  with_reducible rfl
 rotate_left
 ·simp only [Act.put, List.setIfInBounds_toArray, List.set_cons_zero, List.set_cons_succ, i64_w, i32_w]
  rfl
 refine pure_ (i := 5) (N := some 10) (v := ?_) (a' := ?_) #[true, false, true, false, false, true, false, false, false, false, false, false, false] rfl rfl (any_of HT_.out (by kernel_rfl)) (fun _ _ _ h => h) (Or.inl ⟨by rfl, ?_⟩) ?_ ?_
 rotate_left
 ·intro w'
  go_simp
  with_reducible rfl
 rotate_left
 ·simp only [Act.put, List.setIfInBounds_toArray, List.set_cons_zero, List.set_cons_succ, i64_w, i32_w]
  rfl
 refine pure_ (i := 7) (N := some 12) (v := ?_) (a' := ?_) #[true, false, true, false, false, true, false, true, false, false, false, false, false] rfl rfl (any_of HT_.out (by kernel_rfl)) (fun _ _ _ h => h) (Or.inl ⟨by rfl, ?_⟩) ?_ ?_
 rotate_left
 ·intro w'
  go_simp
  with_reducible rfl
 rotate_left
 ·simp only [Act.put, List.setIfInBounds_toArray, List.set_cons_zero, List.set_cons_succ, i64_w, i32_w]
  rfl
 refine take_ (i := 1) (N := some 6) (v := ?_) (a' := ?_) #[true, true, true, false, false, true, false, true, false, false, false, false, false] rfl rfl (take_ofW HT_.out HW_.out (by kernel_rfl)) (fun _ _ _ h => h) (Or.inl ⟨by rfl, ?_⟩) hHeld ?_ ?_
 rotate_left
 ·rintro w' ⟨s0, s1, s2, s3, s4, s5, s6, s7⟩
  go_simp
  with_reducible rfl
 rotate_left
 ·simp only [Act.put, List.setIfInBounds_toArray, List.set_cons_zero, List.set_cons_succ, i64_w, i32_w]
  rfl
 refine take_ (i := 3) (N := some 8) (v := ?_) (a' := ?_) #[true, true, true, true, false, true, false, true, false, false, false, false, false] rfl rfl (take_ofW HT_.out HW_.out (by kernel_rfl)) (fun _ _ _ h => h) (Or.inl ⟨by rfl, ?_⟩) hHeld ?_ ?_
 rotate_left
 ·rintro w' ⟨s0, s1, s2, s3, s4, s5, s6, s7⟩
  go_simp
  with_reducible rfl
 rotate_left
 ·simp only [Act.put, List.setIfInBounds_toArray, List.set_cons_zero, List.set_cons_succ, i64_w, i32_w]
  rfl
 refine take_ (i := 6) (N := some 11) (v := ?_) (a' := ?_) #[true, true, true, true, false, true, true, true, false, false, false, false, false] rfl rfl (take_ofW HT_.out HW_.out (by kernel_rfl)) (fun _ _ _ h => h) (Or.inl ⟨by rfl, ?_⟩) hHeld ?_ ?_
 rotate_left
 ·rintro w' ⟨s0, s1, s2, s3, s4, s5, s6, s7⟩
  go_simp
  with_reducible rfl
 rotate_left
 ·simp only [Act.put, List.setIfInBounds_toArray, List.set_cons_zero, List.set_cons_succ, i64_w, i32_w]
  rfl
 refine take_ (i := 8) (N := some 13) (v := ?_) (a' := ?_) #[true, true, true, true, false, true, true, true, true, false, false, false, false] rfl rfl (take_ofW HT_.out HW_.out (by kernel_rfl)) (fun _ _ _ h => h) (Or.inl ⟨by rfl, ?_⟩) hHeld ?_ ?_
 rotate_left
 ·rintro w' ⟨s0, s1, s2, s3, s4, s5, s6, s7⟩
  go_simp
  with_reducible rfl
 rotate_left
 ·simp only [Act.put, List.setIfInBounds_toArray, List.set_cons_zero, List.set_cons_succ, i64_w, i32_w]
  rfl
 refine one_ (i := 4) (N := some 9) #[true, true, true, true, true, true, true, true, true, false, false, false, false] rfl rfl (one_of HT_.out (by kernel_rfl)) (by decide) (fun K hK => ?_)
 refine goes_ Tryz.func169 (by kernel_rfl) rfl #[.string a0_0, .string a1_0] (by rfl) rfl rfl (by (try simp only [List.map_toArray, List.map_cons, List.map_nil]); first | done | rfl | (simp only [List.length_drop, List.length_take]; rfl)) ?_
 with_reducible refine (strings_Compare.calls a0_0 a1_0 t120 _ A3.out).mono ?_
 rintro e w' ⟨rfl, ⟨nd, rfl⟩⟩
 refine ⟨_, rfl, ?_⟩
 refine hK.out _ _ ⟨(blk_cell BK118.out 0).trans rfl, (blk_cell BK118.out 1).trans rfl, (blk_cell BK118.out 2).trans rfl, (blk_cell BK118.out 3).trans rfl, (blk_cell BK119.out 0).trans rfl, (blk_cell BK119.out 1).trans rfl, (blk_cell BK119.out 2).trans rfl, (blk_cell BK119.out 3).trans rfl⟩ (fun hHeld => ?_)
 clear hK K
 refine norm_ (a' := ?_) ?_ ?_
 rotate_left
 ·show Act.put _ (some 9) _ = _
  simp only [Act.put, List.setIfInBounds_toArray, List.set_cons_zero, List.set_cons_succ, i64_w, i32_w]
  rfl
 refine one_ (i := 9) (N := some 14) #[true, true, true, true, true, true, true, true, true, true, false, false, false] rfl rfl (one_of HT_.out (by kernel_rfl)) (by decide) (fun K hK => ?_)
 refine goes_ Tryz.func170 (by kernel_rfl) rfl #[.int .u64 a1_1, .int .u64 a0_1] (by rfl) rfl rfl (by (try simp only [List.map_toArray, List.map_cons, List.map_nil]); first | done | rfl | (simp only [List.length_drop, List.length_take]; rfl)) ?_
 with_reducible refine (cmp_Compare_uint64.calls a1_1 a0_1 t121 _ A4.out).mono ?_
 rintro e w' ⟨rfl, ⟨nd, rfl⟩⟩
 refine ⟨_, rfl, ?_⟩
 refine hK.out _ _ ⟨(blk_cell BK118.out 0).trans rfl, (blk_cell BK118.out 1).trans rfl, (blk_cell BK118.out 2).trans rfl, (blk_cell BK118.out 3).trans rfl, (blk_cell BK119.out 0).trans rfl, (blk_cell BK119.out 1).trans rfl, (blk_cell BK119.out 2).trans rfl, (blk_cell BK119.out 3).trans rfl⟩ (fun hHeld => ?_)
 clear hK K
 refine norm_ (a' := ?_) ?_ ?_
 rotate_left
 ·show Act.put _ (some 14) _ = _
  simp only [Act.put, List.setIfInBounds_toArray, List.set_cons_zero, List.set_cons_succ, i64_w, i32_w]
  rfl
 refine one_ (i := 10) (N := some 15) #[true, true, true, true, true, true, true, true, true, true, true, false, false] rfl rfl (one_of HT_.out (by kernel_rfl)) (by decide) (fun K hK => ?_)
 refine Kd.R_lit_step (Kd.int .i64) _ 3 ?hg (N := 15) ?hd (xs := ([t120, t121] : List Int)) (inner := [.int .i64 t120, .int .i64 t121]) (ok := fun _ => True) (okp := fun _ => True) ?hr ?hp (fun _ hk => hk) trivial (Below.refl _ _) (Nat.le_refl _) (by simp) ?_; (case hd => rfl); (case hg => rfl); (case hr => first | (go_simp; done) | (go_simp; rfl)); (case hp => exact (Reps.one (show Kd.M (Kd.int .i64) _ _ _ t120 [.int .i64 t120] from rfl) (Reps.one (show Kd.M (Kd.int .i64) _ _ _ t121 [.int .i64 t121] from rfl) (Reps.none _ _))))
 intro v123 w9 ho10 hb hg_ hnew_
 clear hg_ hnew_
 (first | rw [← Ny122.out] at ho10 | (simp only [Int.reduceToNat] at ho10; rw [← Ny122.out] at ho10))
 have n0_ := Aside0.mk (Kd.R_lower ho10 (below_size (by repeat (first | (with_reducible first | exact HB.out | apply below_alloc | apply pw_below_drewN | apply below_drew1 | refine below_set ?_ GE118.out | refine below_set ?_ GE119.out) | exact HB.out))))
 have n1_ := Aside0.mk (blk_below (g := gb118) (o := .cells #[.string a0_0, .int .u64 a0_1, .int .i64 a0_2, .string a0_3] 32 (0, 0)) (by (with_reducible repeat (first | refine blk_drewN ?_ _ | refine blk_drew ?_ | refine blk_alloc ?_ _)); exact BK118.out) hb)
 have n2_ := Aside0.mk (blk_below (g := gb119) (o := .cells #[.string a1_0, .int .u64 a1_1, .int .i64 a1_2, .string a1_3] 32 (0, 0)) (by (with_reducible repeat (first | refine blk_drewN ?_ _ | refine blk_drew ?_ | refine blk_alloc ?_ _)); exact BK119.out) hb)
 have n3_ := Aside0.mk (below_step (by repeat (first | (with_reducible first | exact HB.out | apply below_alloc | apply pw_below_drewN | apply below_drew1 | refine below_set ?_ GE118.out | refine below_set ?_ GE119.out) | exact HB.out)) hb)
 clear BK118
 clear BK119
 clear HB
 have HO124 := n0_
 have BK118 := n1_
 have BK119 := n2_
 have HB := n3_
 clear n0_ n1_ n2_ n3_
 clear hb ho10
 obtain ⟨Ao11, co11, eo11⟩ := Kd.R_slice HO124.out
 (first | subst eo11 | (injection eo11 with f1_ f2_ f3_; have f4_ := f1_.symm; have f5_ := f3_.symm; clear f1_ f2_ f3_; subst f4_; subst f5_))
 refine hK.out _ _ ⟨(blk_cell BK118.out 0).trans rfl, (blk_cell BK118.out 1).trans rfl, (blk_cell BK118.out 2).trans rfl, (blk_cell BK118.out 3).trans rfl, (blk_cell BK119.out 0).trans rfl, (blk_cell BK119.out 1).trans rfl, (blk_cell BK119.out 2).trans rfl, (blk_cell BK119.out 3).trans rfl⟩ (fun hHeld => ?_)
 clear hK K
 refine norm_ (a' := ?_) ?_ ?_
 rotate_left
 ·show Act.put _ (some 15) _ = _
  simp only [Act.put, List.setIfInBounds_toArray, List.set_cons_zero, List.set_cons_succ, i64_w, i32_w]
  rfl
 refine one_ (i := 11) (N := some 16) #[true, true, true, true, true, true, true, true, true, true, true, true, false] rfl rfl (one_of HT_.out (by kernel_rfl)) (by decide) (fun K hK => ?_)
 refine goes_ Tryz.func168 (by kernel_rfl) rfl #[.slice Ao11 y122.length co11] (by rfl) rfl rfl (by (try simp only [List.map_toArray, List.map_cons, List.map_nil]); first | done | rfl | (simp only [List.length_drop, List.length_take]; rfl)) ?_
 with_reducible refine (cmp_Or_int.calls k _ _ y122 t125 _ ?side1 ?side2 A5.out).mono ?_
 (case side1 => repeat (first | exact (Kd.R_reads' HO124.out).2.2 | (with_reducible refine Kd.C_alloc ?_ _) | (with_reducible refine Kd.C_drewN ?_ _) | (with_reducible refine Kd.C_drew ?_)))
 (case side2 => exact (Kd.R_reads' HO124.out).2.1)
 rintro e w' ⟨rfl, ⟨nd, rfl⟩⟩
 refine ⟨_, rfl, ?_⟩
 refine hK.out _ _ ⟨(blk_cell BK118.out 0).trans rfl, (blk_cell BK118.out 1).trans rfl, (blk_cell BK118.out 2).trans rfl, (blk_cell BK118.out 3).trans rfl, (blk_cell BK119.out 0).trans rfl, (blk_cell BK119.out 1).trans rfl, (blk_cell BK119.out 2).trans rfl, (blk_cell BK119.out 3).trans rfl⟩ (fun hHeld => ?_)
 clear hK K
 refine norm_ (a' := ?_) ?_ ?_
 rotate_left
 ·show Act.put _ (some 16) _ = _
  simp only [Act.put, List.setIfInBounds_toArray, List.set_cons_zero, List.set_cons_succ, i64_w, i32_w]
  rfl
 refine pure_ (i := 12) (N := some 4) (v := ?_) (a' := ?_) #[true, true, true, true, true, true, true, true, true, true, true, true, true] rfl rfl (any_of HT_.out (by kernel_rfl)) (fun _ _ _ h => h) (Or.inl ⟨by rfl, ?_⟩) ?_ ?_
 rotate_left
 ·intro w'
  go_simp
  with_reducible rfl
 rotate_left
 ·simp only [Act.put, List.setIfInBounds_toArray, List.set_cons_zero, List.set_cons_succ, i64_w, i32_w]
  rfl
 refine done_ (done_of HT_.out (by kernel_rfl)) ?_
 try go_wp2
 go_ret
 exact ⟨by first | rfl | (simp [errW_none, errW_some] <;> rfl) | (simp [*, errW_none, errW_some] <;> rfl), by repeat (first | (with_reducible first | exact HB.out | apply below_alloc | apply pw_below_drewN | apply below_drew1 | refine below_set ?_ GE118.out | refine below_set ?_ GE119.out) | exact HB.out)⟩
end Go.Proofs.YtchgpcgolgcfdaaGreat.PNum
end
section
namespace Go.Proofs.YtchgpcgolgcfdaaGreat.PNum
open Go.RowKit Go.Proofs.YtchgpcgolgcfdaaGreatW.PrintWords Go.Proofs.YtchgpcgolgcfdaaGreatW.PrintLast Go.Proofs.YtchgpcgolgcfdaaGreatW.PrintMore
attribute [local go_sem] max2_int min2_int max_two min_two max_three min_three max_four min_four   -- for this text's walks alone
set_option linter.unusedVariables false
set_option linter.unusedSimpArgs false
def cornucopiabook_Room.l0 : Nat → Int → List Int → Int → Option (Int)
 | 0, _, _, _ => none
 | k + 1, x0, x1, x5 => if x5 < (x1.length : Int) then (if x0 < 0 then (some (-1)) else (if 0 ≤ x5 then (if (rd x1 x5) > x0 then (some (-1)) else (cornucopiabook_Room.l0 k (wrap64 (x0 - (rd x1 x5))) x1 (wrap64 (x5 + 1)))) else (none))) else (some x0)
def cornucopiabook_Room.f (k : Nat) (a0 : Int) (l1 : List Int) : Option (Int) := cornucopiabook_Room.l0 k a0 l1 0
theorem cornucopiabook_Room.mono_l : ∀ k, (∀ y0 y1 y2, LeO (cornucopiabook_Room.l0 k y0 y1 y2) (cornucopiabook_Room.l0 (k + 1) y0 y1 y2))
 | 0 => fun _ _ _ r h => by simp [cornucopiabook_Room.l0] at h
 | k + 1 => by
  have ih0 := cornucopiabook_Room.mono_l k
  ·intro y0 y1 y2
   unfold cornucopiabook_Room.l0
   repeat' first
   | (with_reducible exact ih0 _ _ _)
   | (with_reducible exact LeO.refl _)
   | (with_reducible exact LeO.none _)
   | (with_reducible refine LeO.ite ?_ ?_)
   | (with_reducible refine LeO.bind ?_ (fun _ => ?_))
   | exact ih0 _ _ _
   | exact LeO.none _
   | refine LeO.ite ?_ ?_
   | refine LeO.bind ?_ (fun _ => ?_)
theorem cornucopiabook_Room.mono : ∀ a0 a1 k, LeO (cornucopiabook_Room.f k a0 a1) (cornucopiabook_Room.f (k + 1) a0 a1) := by
 intro a0 a1 k
 have ih0 := cornucopiabook_Room.mono_l k
 unfold cornucopiabook_Room.f
 repeat' first
   | (with_reducible exact ih0 _ _ _)
   | (with_reducible exact LeO.refl _)
   | (with_reducible exact LeO.none _)
   | (with_reducible refine LeO.ite ?_ ?_)
   | (with_reducible refine LeO.bind ?_ (fun _ => ?_))
   | exact ih0 _ _ _
   | exact LeO.none _
   | refine LeO.ite ?_ ?_
   | refine LeO.bind ?_ (fun _ => ?_)
set_option maxHeartbeats 8000000 in
set_option maxRecDepth 100000 in
theorem cornucopiabook_Room.calls (k : Nat) (a0 : Int) (A1 : Option Addr) (c1 : Nat) (l1 : List Int) (r : Int) (w : World) (hr1 : Kd.C (Kd.int .i64) w A1 l1.length l1) (hc1 : l1.length ≤ c1) (h : cornucopiabook_Room.f k a0 l1 = some r) :
  Calls Tryz.prog 96 #[.int .i64 a0, .slice A1 l1.length c1] w fun e w' => e = .returned (.int .i64 r) ∧ Drawn0 w w' := by
 have HR1 := Aside0.mk hr1
 have HC1 := Aside0.mk hc1
 clear hr1 hc1
 have H : (cornucopiabook_Room.l0 k a0 l1 0) = some r := h
 clear h
 have H' := Aside0.mk H
 clear H
 go_enter Tryz.func96, Tryz.ntmps96
 go_wp2
 go_loopg [0, 5] k (fun kq v0 v5 w' => ∃ (x0_1 : Int) (x5_1 : Int), v0 = .int .i64 x0_1 ∧ v5 = .int .i64 x5_1 ∧ Aside0 (cornucopiabook_Room.l0 kq x0_1 l1 x5_1 = some r) ∧ Aside0 (kq ≤ k) ∧ Drawn0 w w')
 case atStart => exact ⟨(a0), (0), (by first | rfl | (simp; done) | (simp [*]; done)), (by first | rfl | (simp; done) | (simp [*]; done)), H', ⟨Nat.le_refl _⟩, by repeat (first | exact Drawn0.refl _ | apply Drawn0.step)⟩
 case round =>
  clear H'
  try clear c1
  try clear p2
  obtain ⟨x0_1, x5_1, rfl, rfl, HA, HK1, ⟨m1, rfl⟩⟩ := hrel
  cases gk with
  | zero => exact absurd HA.out (by simp [cornucopiabook_Room.l0])
  | succ k1 =>
   have H := HA.out
   clear HA
   simp only [cornucopiabook_Room.l0] at H
   by_cases c3 : x5_1 < (l1.length : Int)
   ·rw [if_pos c3] at H
    have c3b0 : decide (x5_1 < (l1.length : Int)) = true := decide_eq_true c3
    clear c3
    by_cases c4 : x0_1 < 0
    ·rw [if_pos c4] at H
     have c4b0 : decide (x0_1 < 0) = true := decide_eq_true c4
     clear c4
     obtain rfl := Option.some.inj H
     go_wp2
     go_ret
     exact ⟨by first | rfl | (simp; done) | (simp [*]; done), by repeat (first | exact Drawn0.refl _ | apply Drawn0.step)⟩
    ·rw [if_neg c4] at H
     have c4b0 : decide (x0_1 < 0) = false := decide_eq_false c4
     clear c4
     by_cases c5 : 0 ≤ x5_1
     ·rw [if_pos c5] at H
      have c5b0 : decide (0 ≤ x5_1) = true := decide_eq_true c5
      clear c5
      by_cases c6 : (rd l1 x5_1) > x0_1
      ·rw [if_pos c6] at H
       have c6b0 : decide (x0_1 < (rd l1 x5_1)) = true := decide_eq_true c6
       clear c6
       obtain rfl := Option.some.inj H
       have p101 : 0 ≤ (x5_1 : Int) := of_decide_eq_true (by first | (with_reducible assumption) | assumption)
       have q101 : x5_1 < (l1.length : Int) := of_decide_eq_true (by first | (with_reducible assumption) | assumption)
       obtain ⟨ad101, e101, hx101_0⟩ := Kd.at_int HR1.out x5_1 p101 q101
       cases e101
       replace p101 := eq_true p101
       replace q101 := eq_true q101
       go_wp2
       go_ret
       exact ⟨by first | rfl | (simp; done) | (simp [*]; done), by repeat (first | exact Drawn0.refl _ | apply Drawn0.step)⟩
      ·rw [if_neg c6] at H
       have c6b0 : decide (x0_1 < (rd l1 x5_1)) = false := decide_eq_false c6
       clear c6
       have H' := Aside0.mk H
       clear H
       have p101 : 0 ≤ (x5_1 : Int) := of_decide_eq_true (by first | (with_reducible assumption) | assumption)
       have q101 : x5_1 < (l1.length : Int) := of_decide_eq_true (by first | (with_reducible assumption) | assumption)
       obtain ⟨ad101, e101, hx101_0⟩ := Kd.at_int HR1.out x5_1 p101 q101
       cases e101
       replace p101 := eq_true p101
       replace q101 := eq_true q101
       have p102 : 0 ≤ (x5_1 : Int) := of_decide_eq_true (by first | (with_reducible assumption) | assumption)
       have q102 : x5_1 < (l1.length : Int) := of_decide_eq_true (by first | (with_reducible assumption) | assumption)
       obtain ⟨ad102, e102, hx102_0⟩ := Kd.at_int HR1.out x5_1 p102 q102
       obtain rfl : ad101 = ad102 := (by injection e102)
       replace p102 := eq_true p102
       replace q102 := eq_true q102
       go_wp2
       go_roundg k1
       case measure => have := HK1.out; omega
       case rel => exact ⟨(wrap64 (x0_1 - (rd l1 x5_1))), (wrap64 (x5_1 + 1)), (by first | rfl | (simp; done) | (simp [*]; done)), (by first | rfl | (simp; done) | (simp [*]; done)), H', ⟨by have := HK1.out; omega⟩, by repeat (first | exact Drawn0.refl _ | apply Drawn0.step)⟩
     ·rw [if_neg c5] at H
      exact absurd H (by simp)
   ·rw [if_neg c3] at H
    have c3b0 : decide (x5_1 < (l1.length : Int)) = false := decide_eq_false c3
    clear c3
    obtain rfl := Option.some.inj H
    go_wp2
    go_ret
    exact ⟨by first | rfl | (simp; done) | (simp [*]; done), by repeat (first | exact Drawn0.refl _ | apply Drawn0.step)⟩
end Go.Proofs.YtchgpcgolgcfdaaGreat.PNum
end
section
namespace Go.Proofs.YtchgpcgolgcfdaaGreat.PuIkC
open Go Go.RowKit Go.Proofs.YtchgpcgolgcfdaaGreat.PNum Go.Proofs.YtchgpcgolgcfdaaGreatW.PrintWords Go.Proofs.YtchgpcgolgcfdaaGreatW.PrintLast Go.Proofs.YtchgpcgolgcfdaaGreatW.PrintMore Go.Proofs.YtchgpcgolgcfdaaGreatW.Pu
theorem cl_range : ∀ a b : List UInt8, Lib.compareBytes a b = -1 ∨ Lib.compareBytes a b = 0 ∨ Lib.compareBytes a b = 1
 | [], [] => .inr (.inl rfl)
 | [], _ :: _ => .inl rfl
 | _ :: _, [] => .inr (.inr rfl)
 | a :: xs, b :: ys => by
  rw [Lib.compareBytes]
  split
  ·exact .inl rfl
  ·split
   ·exact .inr (.inr rfl)
   ·exact cl_range xs ys
theorem cl_neg : ∀ a b : List UInt8, Lib.compareBytes a b = -Lib.compareBytes b a
 | [], [] => rfl
 | [], _ :: _ => rfl
 | _ :: _, [] => rfl
 | a :: xs, b :: ys => by
  rw [Lib.compareBytes, Lib.compareBytes, cl_neg xs ys]
  by_cases h : a < b
  ·rw [if_pos h, if_neg (fun k => UInt8.lt_asymm h k), if_pos h]
  ·by_cases k : b < a
   ·rw [if_neg h, if_pos k, if_pos k]; rfl
   ·rw [if_neg h, if_neg k, if_neg k, if_neg h]
theorem cl_zero : ∀ a b : List UInt8, Lib.compareBytes a b = 0 ↔ a = b
 | [], [] => by simp [Lib.compareBytes]
 | [], _ :: _ => by simp [Lib.compareBytes]
 | _ :: _, [] => by simp [Lib.compareBytes]
 | a :: xs, b :: ys => by
  rw [Lib.compareBytes]
  by_cases h : a < b
  ·rw [if_pos h]
   simp only [List.cons.injEq]
   exact ⟨fun k => by omega, fun k => absurd (k.1 ▸ h) (UInt8.lt_irrefl _)⟩
  ·by_cases k : b < a
   ·rw [if_neg h, if_pos k]
    simp only [List.cons.injEq]
    exact ⟨fun k => by omega, fun q => absurd (q.1 ▸ k) (UInt8.lt_irrefl _)⟩
   ·rw [if_neg h, if_neg k, cl_zero xs ys, List.cons.injEq]
    have : a = b := UInt8.le_antisymm (UInt8.not_lt.1 k) (UInt8.not_lt.1 h)
    simp [this]
theorem cl_trans : ∀ a b c : List UInt8, Lib.compareBytes a b = -1 → Lib.compareBytes b c = -1 → Lib.compareBytes a c = -1
 | [], _, [] => fun h k => by
  rename_i b
  cases b with
  | nil => cases h
  | cons => cases k
 | [], _, _ :: _ => fun _ _ => rfl
 | _ :: _, [], _ => fun h _ => by cases h
 | _ :: _, _ :: _, [] => fun _ h => by cases h
 | a :: xs, b :: ys, c :: zs => by
  intro h k
  rw [Lib.compareBytes] at h k ⊢
  by_cases h1 : a < b
  ·by_cases k1 : b < c
   ·rw [if_pos (UInt8.lt_trans h1 k1)]
   ·rw [if_neg k1] at k
    by_cases k2 : c < b
    ·rw [if_pos k2] at k; cases k
    ·have : b = c := UInt8.le_antisymm (UInt8.not_lt.1 k2) (UInt8.not_lt.1 k1)
     rw [if_pos (this ▸ h1)]
  ·rw [if_neg h1] at h
   by_cases h2 : b < a
   ·rw [if_pos h2] at h; cases h
   ·rw [if_neg h2] at h
    have hab : a = b := UInt8.le_antisymm (UInt8.not_lt.1 h2) (UInt8.not_lt.1 h1)
    subst hab
    by_cases k1 : a < c
    ·rw [if_pos k1]
    ·rw [if_neg k1] at k ⊢
     by_cases k2 : c < a
     ·rw [if_pos k2] at k; cases k
     ·rw [if_neg k2] at k ⊢
      exact cl_trans xs ys zs h k
def cb (a b : ByteArray) : Int := Lib.compareBytes a.data.toList b.data.toList
theorem ba_ext {a b : ByteArray} : a.data.toList = b.data.toList ↔ a = b := by
 refine ⟨fun h => ?_, fun h => by rw [h]⟩
 cases a; cases b
 simp only [ByteArray.mk.injEq]
 exact Array.toList_inj.1 h
theorem tl_ext {a b : ByteArray} : a.toList = b.toList ↔ a = b := by rw [toList_data, toList_data, ba_ext]
theorem tl_beq (a b : ByteArray) : (a.toList == b.toList) = decide (a = b) := by
 by_cases h : a = b
 ·subst h; simp
 ·rw [decide_eq_false h, beq_eq_false_iff_ne]
  exact fun k => h (tl_ext.1 k)
def cs (x y : Int) : Int := if x < y then -1 else if x > y then 1 else 0
def ce (a b : S32) : Int := if cb a.f0 b.f0 = 0 then cs b.f1 a.f1 else cb a.f0 b.f0
theorem cs_range (x y : Int) : cs x y = -1 ∨ cs x y = 0 ∨ cs x y = 1 := by
 unfold cs
 split
 ·exact .inl rfl
 ·split
  ·exact .inr (.inr rfl)
  ·exact .inr (.inl rfl)
theorem cmp_u64 (x y : Int) : cmp_Compare_uint64.f x y = some (cs x y) := by
 simp only [cmp_Compare_uint64.f, cmp_isNaN_uint64.f, Option.bind_some, bne_self_eq_false]
 rw [if_neg (by simp), if_neg (by simp)]
 unfold cs
 split
 ·rfl
 ·split <;> rfl
theorem Or_ev (x y : Int) : Ev (fun k => cmp_Or_int.f k [x, y]) (if x = 0 then y else x) := by
 refine Ev.congr (fun k => by rw [cmp_Or_int.f]) (Ev.step (fun k => by rw [cmp_Or_int.l0]) ?_)
 refine ev_pos (show (0 : Int) < (([x, y] : List Int).length : Int) by simp) (ev_pos (by omega) (ev_pos (show (0 : Int) < (([x, y] : List Int).length : Int) by simp) ?_))
 rw [show rd [x, y] 0 = x from rfl]
 by_cases h : x = 0
 ·rw [if_pos h]
  refine ev_pos h ?_
  rw [show wrap64 (0 + 1) = 1 from wrap64_id (by omega)]
  refine Ev.step (fun k => by rw [cmp_Or_int.l0]) ?_
  refine ev_pos (show (1 : Int) < (([x, y] : List Int).length : Int) by simp) (ev_pos (by omega) (ev_pos (show (1 : Int) < (([x, y] : List Int).length : Int) by simp) ?_))
  rw [show rd [x, y] 1 = y from rfl]
  by_cases k : y = 0
  ·refine ev_pos k ?_
   rw [show wrap64 (1 + 1) = 2 from wrap64_id (by omega)]
   refine Ev.step (fun k => by rw [cmp_Or_int.l0]) (ev_neg (show ¬ (2 : Int) < (([x, y] : List Int).length : Int) by simp) (ev_const ?_))
   rw [k]
  ·exact ev_neg k (ev_const rfl)
 ·rw [if_neg h]
  exact ev_neg h (ev_const rfl)
theorem Compare_ev (a b : S32) : Ev (fun k => ikey_Compare.f k a.f0 a.f1 a.f2 a.f3 b.f0 b.f1 b.f2 b.f3) (ce a b) := by
 refine Ev.congr (fun k => by rw [ikey_Compare.f]) (ev_call (show strings_Compare.f a.f0 b.f0 = some (cb a.f0 b.f0) from rfl) (ev_call (cmp_u64 b.f1 a.f1) (Ev.bind (Or_ev _ _) (ev_const rfl))))
theorem ce_range (a b : S32) : ce a b = -1 ∨ ce a b = 0 ∨ ce a b = 1 := by
 unfold ce
 split
 ·exact cs_range _ _
 ·exact cl_range _ _
theorem cb_neg (a b : ByteArray) : cb a b = - cb b a := cl_neg _ _
theorem cb_zero (a b : ByteArray) : cb a b = 0 ↔ a = b := (cl_zero _ _).trans ba_ext
theorem cs_neg (x y : Int) : cs x y = - cs y x := by unfold cs; split <;> split <;> (try split) <;> omega
theorem ce_neg (a b : S32) : ce a b = - ce b a := by
 unfold ce
 rw [cb_neg a.f0 b.f0, cs_neg b.f1 a.f1]
 by_cases h : cb b.f0 a.f0 = 0
 ·rw [if_pos h, if_pos (by omega)]
 ·rw [if_neg h, if_neg (by omega)]
theorem cs_zero (x y : Int) : cs x y = 0 ↔ x = y := by unfold cs; split <;> (try split) <;> omega
theorem ce_zero (a b : S32) : ce a b = 0 ↔ a.f0 = b.f0 ∧ a.f1 = b.f1 := by
 unfold ce
 by_cases h : cb a.f0 b.f0 = 0
 ·rw [if_pos h, cs_zero]
  have := (cb_zero _ _).1 h
  exact ⟨fun k => ⟨this, k.symm⟩, fun k => k.2.symm⟩
 ·rw [if_neg h]
  exact ⟨fun k => absurd k h, fun k => absurd ((cb_zero _ _).2 k.1) h⟩
theorem ce_trans {a b c : S32} (h : ce a b = -1) (k : ce b c = -1) : ce a c = -1 := by
 unfold ce at *
 by_cases h0 : cb a.f0 b.f0 = 0
 ·rw [if_pos h0] at h
  have e := (cb_zero _ _).1 h0
  rw [e]
  by_cases k0 : cb b.f0 c.f0 = 0
  ·rw [if_pos k0] at k ⊢
   unfold cs at *
   rw [if_pos]
   split at h
   ·split at k
    ·omega
    ·split at k <;> cases k
   ·split at h <;> cases h
  ·rw [if_neg k0] at k ⊢
   exact k
 ·rw [if_neg h0] at h
  by_cases k0 : cb b.f0 c.f0 = 0
  ·have e := (cb_zero _ _).1 k0
   rw [← e, if_neg h0]
   exact h
  ·rw [if_neg k0] at k
   have : cb a.f0 c.f0 = -1 := cl_trans _ _ _ h k
   rw [if_neg (by omega)]
   exact this
theorem ce_same {a b : S32} (h : a.f0 = b.f0) (c : S32) (k : a.f1 = b.f1) : ce a c = ce b c := by
 unfold ce
 rw [h, k]
theorem Room_ev (r a b : Int) (hr : -1 ≤ r ∧ r ≤ 20000) (ha : 0 ≤ a ∧ a ≤ 9223372036854775807) (hb : 0 ≤ b ∧ b ≤ 9223372036854775807) : ∃ q, Ev (fun k => cornucopiabook_Room.f k r [a, b]) q ∧ -1 ≤ q ∧ q ≤ 20000 := by
 have fin : ∀ q, (h : Ev (fun k => cornucopiabook_Room.l0 k r [a, b] 0) q) → Ev (fun k => cornucopiabook_Room.f k r [a, b]) q := fun q h => Ev.congr (fun k => by rw [cornucopiabook_Room.f]) h
 have l2 : (([a, b] : List Int).length : Int) = 2 := rfl
 by_cases h0 : r < 0
 ·exact ⟨-1, fin _ (Ev.step (fun k => by rw [cornucopiabook_Room.l0, l2]) (ev_pos (by omega) (ev_pos h0 (ev_const rfl)))), by omega, by omega⟩
 by_cases h1 : a > r
 ·exact ⟨-1, fin _ (Ev.step (fun k => by rw [cornucopiabook_Room.l0, l2, show rd [a, b] 0 = a from rfl]) (ev_pos (by omega) (ev_neg h0 (ev_pos (by omega) (ev_pos h1 (ev_const rfl)))))), by omega, by omega⟩
 have s1 : wrap64 (r - a) = r - a := wrap64_id (by omega)
 have s2 : wrap64 ((0 : Int) + 1) = 1 := wrap64_id (by omega)
 have s3 : wrap64 ((1 : Int) + 1) = 2 := wrap64_id (by omega)
 have f1 : ∀ q, (h : Ev (fun k => cornucopiabook_Room.l0 k (r - a) [a, b] 1) q) → Ev (fun k => cornucopiabook_Room.f k r [a, b]) q := fun q h =>
  fin _ (Ev.step (fun k => by rw [cornucopiabook_Room.l0, l2, show rd [a, b] 0 = a from rfl, s1, s2]) (ev_pos (by omega) (ev_neg h0 (ev_pos (by omega) (ev_neg h1 h)))))
 by_cases h2 : b > r - a
 ·exact ⟨-1, f1 _ (Ev.step (fun k => by rw [cornucopiabook_Room.l0, l2, show rd [a, b] 1 = b from rfl]) (ev_pos (by omega) (ev_neg (by omega) (ev_pos (by omega) (ev_pos h2 (ev_const rfl)))))), by omega, by omega⟩
 ·have s4 : wrap64 (r - a - b) = r - a - b := wrap64_id (by omega)
  exact ⟨r - a - b, f1 _ (Ev.step (fun k => by rw [cornucopiabook_Room.l0, l2, show rd [a, b] 1 = b from rfl, s3, s4]) (ev_pos (by omega) (ev_neg (by omega) (ev_pos (by omega) (ev_neg h2 (Ev.step (fun k => by rw [cornucopiabook_Room.l0, l2]) (ev_neg (by omega) (ev_const rfl)))))))), by omega, by omega⟩
end Go.Proofs.YtchgpcgolgcfdaaGreat.PuIkC
end
section
namespace Go.Proofs.YtchgpcgolgcfdaaGreat.PuLess
open Go Go.RowKit Go.Proofs.YtchgpcgolgcfdaaGreat.PNum Go.Proofs.YtchgpcgolgcfdaaGreat.PuIkC Go.Proofs.YtchgpcgolgcfdaaGreatW.PrintWords Go.Proofs.YtchgpcgolgcfdaaGreatW.PrintLast Go.Proofs.YtchgpcgolgcfdaaGreatW.PrintMore Go.Proofs.YtchgpcgolgcfdaaGreatW.Pu
abbrev E := S32
theorem bt_at (s : ByteArray) (i : Nat) (h : i < s.data.toList.length) : bt s (i : Int) = (s.data.toList[i].toNat : Int) := by
 have h' : i < s.data.size := by simpa using h
 rw [bt_eq]
 simp only [bytesOf, List.getD_eq_getElem?_getD, List.getElem?_map, Array.getElem?_toList, Array.getElem_toList]
 rw [Array.getElem?_eq_getElem h']
 rfl
theorem size_data (s : ByteArray) : s.data.toList.length = s.size := by
 show s.data.toList.length = s.data.size
 simp
theorem Less_l0 (a b : ByteArray) (_ha : a.size ≤ 140737488351232) (hb : b.size ≤ 140737488351232) (d : Nat) : ∀ i, i + d = a.size → i ≤ b.size →
  Ev (fun k => cornucopiaref1_Less.l0 k a b (i : Int)) (decide (Lib.compareBytes (a.data.toList.drop i) (b.data.toList.drop i) = -1)) := by
 have la := size_data a
 have lb := size_data b
 induction d with
 | zero =>
  intro i hi hib
  refine Ev.step (fun k => by rw [cornucopiaref1_Less.l0]) (ev_neg (by omega) ?_)
  refine Ev.step (fun k => by rw [cornucopiaref1_Less.j1]) (ev_neg (by simp) (ev_const ?_))
  rw [show a.data.toList.drop i = [] from List.drop_of_length_le (by omega)]
  refine congrArg some (decide_eq_decide.2 ?_)
  cases h : b.data.toList.drop i with
  | nil =>
   have := congrArg List.length h
   rw [List.length_drop] at this
   simp only [List.length_nil] at this
   rw [Lib.compareBytes]
   omega
  | cons y ys =>
   have := congrArg List.length h
   rw [List.length_drop] at this
   simp only [List.length_cons] at this
   rw [Lib.compareBytes]
   omega
 | succ d ih =>
  intro i hi hib
  have ia : i < a.data.toList.length := by omega
  refine Ev.step (fun k => by rw [cornucopiaref1_Less.l0]) (ev_pos (by omega) ?_)
  have da : a.data.toList.drop i = a.data.toList[i] :: a.data.toList.drop (i + 1) := List.drop_eq_getElem_cons ia
  by_cases h : i < b.size
  ·have ib : i < b.data.toList.length := by omega
   have db : b.data.toList.drop i = b.data.toList[i] :: b.data.toList.drop (i + 1) := List.drop_eq_getElem_cons ib
   rw [decide_eq_true (show (i : Int) < (b.size : Int) by omega), da, db, Lib.compareBytes]
   refine Ev.step (fun k => by rw [cornucopiaref1_Less.j1, bt_at a i ia, bt_at b i ib]) (ev_pos rfl (ev_pos (by omega) (ev_pos (by omega) (ev_pos (by omega) ?_))))
   by_cases e : a.data.toList[i] = b.data.toList[i]
   ·refine ev_pos (by rw [e]) ?_
    rw [e, if_neg (UInt8.lt_irrefl _), if_neg (UInt8.lt_irrefl _), wrap64_id (by omega), show ((i : Int) + 1) = ((i + 1 : Nat) : Int) from by omega]
    exact ih (i + 1) (by omega) (by omega)
   ·have hne : a.data.toList[i].toNat ≠ b.data.toList[i].toNat := fun k => e (UInt8.toNat_inj.1 k)
    refine ev_neg (by omega) (ev_const ?_)
    refine congrArg some (decide_eq_decide.2 ?_)
    by_cases k : a.data.toList[i] < b.data.toList[i]
    ·rw [if_pos k]
     have := UInt8.lt_iff_toNat_lt.1 k
     omega
    ·have k2 : b.data.toList[i] < a.data.toList[i] := UInt8.lt_iff_toNat_lt.2 (by have := mt UInt8.lt_iff_toNat_lt.2 k; omega)
     rw [if_neg k, if_pos k2]
     have := UInt8.lt_iff_toNat_lt.1 k2
     omega
  ·rw [decide_eq_false (show ¬ (i : Int) < (b.size : Int) by omega), da, show b.data.toList.drop i = [] from List.drop_of_length_le (by omega), Lib.compareBytes]
   refine Ev.step (fun k => by rw [cornucopiaref1_Less.j1]) (ev_neg (by simp) (ev_const ?_))
   refine congrArg some (decide_eq_decide.2 ?_)
   omega
theorem Less_ev (a b : ByteArray) (ha : a.size ≤ 140737488351232) (hb : b.size ≤ 140737488351232) : Ev (fun k => cornucopiaref1_Less.f k a b) (decide (cb a b = -1)) := by
 have := Less_l0 a b ha hb a.size 0 (by omega) (by omega)
 rw [List.drop_zero, List.drop_zero] at this
 exact Ev.congr (fun k => by rw [cornucopiaref1_Less.f]; rfl) this
theorem RefCompare_ev (a b : E) (ha : a.f0.size ≤ 140737488351232) (hb : b.f0.size ≤ 140737488351232) : Ev (fun k => cornucopiaref5_Compare.f k a.f0 a.f1 a.f2 a.f3 b.f0 b.f1 b.f2 b.f3) (ce a b) := by
 refine Ev.congr (fun k => by rw [cornucopiaref5_Compare.f]) (Ev.bind (Less_ev _ _ ha hb) ?_)
 have r : cb a.f0 b.f0 = -1 ∨ cb a.f0 b.f0 = 0 ∨ cb a.f0 b.f0 = 1 := cl_range _ _
 have n := cb_neg a.f0 b.f0
 unfold ce
 by_cases h : cb a.f0 b.f0 = -1
 ·rw [if_neg (show ¬ cb a.f0 b.f0 = 0 by omega), decide_eq_true h, h]
  exact ev_pos rfl (ev_const rfl)
 ·rw [decide_eq_false h]
  refine ev_neg (by simp) (Ev.bind (Less_ev _ _ hb ha) ?_)
  by_cases k : cb b.f0 a.f0 = -1
  ·rw [if_neg (show ¬ cb a.f0 b.f0 = 0 by omega), decide_eq_true k, show cb a.f0 b.f0 = 1 by omega]
   exact ev_pos rfl (ev_const rfl)
  ·rw [if_pos (show cb a.f0 b.f0 = 0 by omega), decide_eq_false k]
   refine ev_neg (by simp) ?_
   unfold cs
   by_cases q : a.f1 > b.f1
   ·refine ev_pos q (ev_const ?_)
    rw [if_pos q]
   ·refine ev_neg q ?_
    rw [if_neg q]
    by_cases q2 : a.f1 < b.f1
    ·refine ev_pos q2 (ev_const ?_)
     rw [if_pos q2]
    ·refine ev_neg q2 (ev_const ?_)
     rw [if_neg q2]
end Go.Proofs.YtchgpcgolgcfdaaGreat.PuLess
end
section
namespace Go.Proofs.YtchgpcgolgcfdaaGreat.RefIns
open Go Go.RowKit Go.Proofs.YtchgpcgolgcfdaaGreat.PNum Go.Proofs.YtchgpcgolgcfdaaGreat.BkW Go.Proofs.YtchgpcgolgcfdaaGreat.PuIkC Go.Proofs.YtchgpcgolgcfdaaGreat.PuLess Go.Proofs.YtchgpcgolgcfdaaGreatW.PrintWords Go.Proofs.YtchgpcgolgcfdaaGreatW.PrintLast Go.Proofs.YtchgpcgolgcfdaaGreatW.PrintMore Go.Proofs.YtchgpcgolgcfdaaGreatW.Pu
set_option linter.unusedVariables false
set_option linter.unusedSimpArgs false
def encE (x : E) : List Value := [.string x.f0, .int .u64 x.f1, .int .i64 x.f2, .string x.f3]
theorem flatE : Flat k32 encE := ⟨fun _ => rfl, fun h => k32_openM h, fun w x => k32_mk w x, fun h => k32_open h⟩
def insL (e : E) : List E → List E
 | [] => [e]
 | x :: r => if ce x e < 0 then x :: insL e r else if ce x e = 0 then x :: r else e :: x :: r
def insB (e : E) : List E → Bool
 | [] => true
 | x :: r => if ce x e < 0 then insB e r else decide (ce x e ≠ 0)
def pos (e : E) : List E → Nat
 | [] => 0
 | x :: r => if ce x e < 0 then pos e r + 1 else 0
theorem pos_le (e : E) : ∀ l : List E, pos e l ≤ l.length
 | [] => Nat.le_refl _
 | x :: r => by
  rw [pos]
  split
  ·have := pos_le e r
   simpa using this
  ·exact Nat.zero_le _
theorem pos_lt (e : E) : ∀ (l : List E) (j : Nat) (x : E), l[j]? = some x → j < pos e l → ce x e < 0
 | [], j, x, h, _ => by simp at h
 | y :: r, j, x, h, hj => by
  rw [pos] at hj
  split at hj
  ·cases j with
   | zero =>
    have : y = x := by simpa using h
    subst this
    assumption
   | succ j => exact pos_lt e r j x (by simpa using h) (by omega)
  ·omega
theorem pos_at (e : E) : ∀ (l : List E) (x : E), l[pos e l]? = some x → ¬ ce x e < 0
 | [], x, h => by simp at h
 | y :: r, x, h => by
  rw [pos] at h
  split at h
  ·exact pos_at e r x (by simpa using h)
  ·have : y = x := by simpa using h
   subst this
   assumption
theorem ins_yes (e : E) : ∀ (l : List E), insB e l = true → insL e l = l.take (pos e l) ++ e :: l.drop (pos e l)
 | [], _ => rfl
 | x :: r, h => by
  rw [insB] at h
  rw [insL, pos]
  split
  ·rename_i h1
   rw [if_pos h1] at h
   rw [ins_yes e r h]
   rfl
  ·rename_i h1
   rw [if_neg h1] at h
   rw [if_neg (of_decide_eq_true h)]
   rfl
theorem ins_no (e : E) : ∀ (l : List E), insB e l = false → insL e l = l ∧ ∃ x, l[pos e l]? = some x ∧ ce x e = 0
 | [], h => by cases h
 | x :: r, h => by
  rw [insB] at h
  rw [insL, pos]
  split
  ·rename_i h1
   rw [if_pos h1] at h
   obtain ⟨h2, y, h3, h4⟩ := ins_no e r h
   exact ⟨by rw [h2], y, by simpa using h3, h4⟩
  ·rename_i h1
   rw [if_neg h1] at h
   have h2 : ce x e = 0 := by simpa using h
   rw [if_pos h2]
   exact ⟨rfl, x, rfl, h2⟩
theorem ins_hit (e : E) : ∀ (l : List E), insB e l = true → ∀ x, l[pos e l]? = some x → ce x e ≠ 0
 | [], _, x, h => by simp at h
 | y :: r, h, x, hx => by
  rw [insB] at h
  rw [pos] at hx
  split at hx
  ·rename_i h1
   rw [if_pos h1] at h
   exact ins_hit e r h x (by simpa using hx)
  ·rename_i h1
   rw [if_neg h1] at h
   have : y = x := by simpa using hx
   subst this
   exact of_decide_eq_true h
theorem infoE : (Tryz.prog.info? 32).map (fun i => (i.zero, i.size, i.bytes)) = some (some (.agg #[.string ⟨#[]⟩, .int .u64 0, .int .i64 0, .string ⟨#[]⟩]), 4, 48) := by kernel_rfl
def Ask (V : World) (ad : Addr) (m : Nat) (x : E) (eb : Nat) (e : E) : Prop := V.cell? (ad.add m) = some (.string x.f0) ∧ V.cell? ⟨(ad.add m).block, (ad.add m).off + 1, none⟩ = some (.int .u64 x.f1) ∧ V.cell? ⟨(ad.add m).block, (ad.add m).off + 2, none⟩ = some (.int .i64 x.f2) ∧ V.cell? ⟨(ad.add m).block, (ad.add m).off + 3, none⟩ = some (.string x.f3) ∧ V.cell? ⟨eb, 0, none⟩ = some (.string e.f0) ∧ V.cell? ⟨eb, 1, none⟩ = some (.int .u64 e.f1) ∧ V.cell? ⟨eb, 2, none⟩ = some (.int .i64 e.f2) ∧ V.cell? ⟨eb, 3, none⟩ = some (.string e.f3)
theorem Ask.below {V V1 : World} {ad : Addr} {m eb : Nat} {x e : E} (h : Ask V ad m x eb e) (hb : Below V.heap.size V V1) : Ask V1 ad m x eb e := by
 obtain ⟨a, b, c, d, a', b', c', d'⟩ := h
 exact ⟨pw_cell_below hb a, pw_cell_below hb b, pw_cell_below hb c, pw_cell_below hb d, pw_cell_below hb a', pw_cell_below hb b', pw_cell_below hb c', pw_cell_below hb d'⟩
theorem Ask.mk_ {V : World} {A : Option Addr} {l : List E} {k eb : Nat} {e : E} (hC : Kd.C k32 V A l.length l) (hk : k < l.length) (hX : V.heap[eb]? = some (.cells #[.string e.f0, .int .u64 e.f1, .int .i64 e.f2, .string e.f3] 32 (0, 0))) : ∃ ad, A = some ad ∧ Ask V ad (k * 4) l[k] eb e := by
 obtain ⟨ad, e0, y0, y1, y2, y3⟩ := at_T32 hC (k : Int) (Int.natCast_nonneg _) (Int.ofNat_lt.mpr hk)
 have hx : rd_T32 l (k : Int) = l[k] := by simp [rd_T32, hk]
 rw [hx] at y0 y1 y2 y3
 simp only [Int.toNat_natCast] at y0 y1 y2 y3
 exact ⟨ad, e0, y0, y1, y2, y3, (blk_cell hX 0).trans rfl, (blk_cell hX 1).trans rfl, (blk_cell hX 2).trans rfl, (blk_cell hX 3).trans rfl⟩
theorem rw_box (V : World) (e : E) : Rw (V.alloc (.cells #[.string e.f0, .int .u64 e.f1, .int .i64 e.f2, .string e.f3] 32)) 32 4 (.slice (some ⟨V.heap.size, 0, none⟩) 1 1) 1 (encL encE [e]) :=
 ⟨rfl, .inr ⟨V.heap.size, 0, 1, _, rfl, blk_new V _, Nat.le_refl _, by unfold maxLen; omega, by simp, rfl⟩⟩
theorem fresh_of {v1 : Value} {W : World} {n m N : Nat} (hat : (∃ A' c', (Value.slice none 0 0) = .slice A' n c' ∧ v1 = .slice A' m c') ∨ ∃ b, v1.ownBlock = some b ∧ W.heap.size ≤ b) (hN : N ≤ W.heap.size) : ∀ q, v1.ownBlock = some q → N ≤ q := fun q hq => by
 rcases hat with ⟨A', c', h1, h2⟩ | ⟨b, hb, hle⟩
 ·injection h1 with h1 _ _
  subst h1; subst h2
  simp [Value.ownBlock] at hq
 ·rw [hb] at hq
  injection hq with hq
  omega
theorem fresh_step {v v1 : Value} {W : World} {n m N : Nat} (hat : (∃ A' c', v = .slice A' n c' ∧ v1 = .slice A' m c') ∨ ∃ b, v1.ownBlock = some b ∧ W.heap.size ≤ b) (h0 : ∀ q, v.ownBlock = some q → N ≤ q) (hN : N ≤ W.heap.size) : ∀ q, v1.ownBlock = some q → N ≤ q := fun q hq => by
 rcases hat with ⟨A', c', h1, h2⟩ | ⟨b, hb, hle⟩
 ·subst h1; subst h2
  exact h0 q ((own_sl A' n c' m c').trans hq)
 ·rw [hb] at hq
  injection hq with hq
  omega
set_option maxHeartbeats 8000000 in
set_option maxRecDepth 100000 in
theorem insert_calls (w : World) (A : Option Addr) (c : Nat) (l : List E) (e : E) (hC : Kd.C k32 w A l.length l) (hc : l.length ≤ c) (hl : l.length ≤ 1000000) (hs : ∀ x ∈ l, x.f0.size ≤ 140737488351232) (he : e.f0.size ≤ 140737488351232) :
  Calls Tryz.prog 13 #[.slice A l.length c, .agg #[.string e.f0, .int .u64 e.f1, .int .i64 e.f2, .string e.f3]] w fun ee w' => Below w.heap.size w w' ∧ ((insB e l = false ∧ ee = .returned (.tuple #[.slice A l.length c, .bool false])) ∨ (insB e l = true ∧ ∃ A' c', ee = .returned (.tuple #[.slice A' (insL e l).length c', .bool true]) ∧ Rw w' 32 4 (.slice A' (insL e l).length c') (insL e l).length (encL encE (insL e l)) ∧ ∀ k, (Value.slice A' (insL e l).length c').ownBlock = some k → w.heap.size ≤ k)) := by
 have HC := Aside0.mk hC
 have HCC := Aside0.mk hc
 have HL := Aside0.mk hl
 have HS := Aside0.mk hs
 have HE := Aside0.mk he
 have hlen : l.length ≤ 9223372036854775807 := by omega
 clear hC hc hs he
 go_enter Tryz.func13, Tryz.ntmps13
 go_wp2_with (fail)
 have HX : Aside0 ((w.alloc (.cells #[.string e.f0, .int .u64 e.f1, .int .i64 e.f2, .string e.f3] 32)).heap[w.heap.size]? = some (.cells #[.string e.f0, .int .u64 e.f1, .int .i64 e.f2, .string e.f3] 32 (0, 0))) := ⟨blk_new w _⟩
 have HB := Aside0.mk (below_alloc (Below.refl w.heap.size w) (.cells #[.string e.f0, .int .u64 e.f1, .int .i64 e.f2, .string e.f3] 32))
 obtain ⟨eb, heb⟩ : ∃ eb, eb = w.heap.size := ⟨_, rfl⟩
 rw [← heb] at HX ⊢
 have HEB : Aside0 (w.heap.size ≤ eb) := ⟨by omega⟩
 clear heb
 go_loopw [6] (fun v6 w' => ∃ k : Nat, v6 = .int .i64 k ∧ k ≤ pos e l ∧ Aside0 (w'.heap[eb]? = some (.cells #[.string e.f0, .int .u64 e.f1, .int .i64 e.f2, .string e.f3] 32 (0, 0))) ∧ Aside0 (Below w.heap.size w w')) (fun v6 _ => l.length - (intOf v6).toNat)
 case atStart => exact ⟨0, rfl, Nat.zero_le _, HX, HB⟩
 case round =>
  clear HX HB
  obtain ⟨k, rfl, hk, HX, HB⟩ := hrel
  have hpl := pos_le e l
  have HCR := Aside0.mk (Kd.C_below HC.out HB.out)
  by_cases hlt : k < l.length
  ·have p0 : (0 : Int) ≤ (k : Int) := Int.natCast_nonneg _
   have q0 : (k : Int) < (l.length : Int) := Int.ofNat_lt.mpr hlt
   have t0 : decide ((k : Int) < (l.length : Int)) = true := decide_eq_true q0
   obtain ⟨ad, ea, hask⟩ := Ask.mk_ HCR.out hlt HX.out
   subst ea
   have HPA : Aside0 (¬ k < pos e l → ¬ ce l[k] e < 0) := ⟨fun hn => pos_at e l _ (by rw [show pos e l = k from by omega]; exact List.getElem?_eq_getElem hlt)⟩
   have HPL : Aside0 (k < pos e l → ce l[k] e < 0) := ⟨fun h => pos_lt e l k _ (List.getElem?_eq_getElem hlt) h⟩
   obtain ⟨kk, hkk⟩ := RefCompare_ev l[k] e (HS.out _ (List.getElem_mem hlt)) HE.out
   have HKK := Aside0.mk (hkk kk (Nat.le_refl _))
   have HLK := Aside0.mk (List.getElem?_eq_getElem hlt)
   have HASK := Aside0.mk hask
   have hlt' : k < l.length := hlt
   clear hkk hask
   generalize l[k] = x at *
   have HPK := Aside0.mk hpl
   clear hpl
   by_cases hkp : k < pos e l
   ·have hce := HPL.out hkp
    have u0 : decide (ce x e < 0) = true := decide_eq_true hce
    have HKP := Aside0.mk hkp
    have HCE := Aside0.mk hce
    clear hkp hce
    generalize ce x e = r at *
    go_wp2_with (fail)
    go_region_held3 (fun V => V.cell? (ad.add (k * 4)) = some (.string x.f0) ∧ V.cell? ⟨(ad.add (k * 4)).block, (ad.add (k * 4)).off + 1, none⟩ = some (.int .u64 x.f1) ∧ V.cell? ⟨(ad.add (k * 4)).block, (ad.add (k * 4)).off + 2, none⟩ = some (.int .i64 x.f2) ∧ V.cell? ⟨(ad.add (k * 4)).block, (ad.add (k * 4)).off + 3, none⟩ = some (.string x.f3) ∧ V.cell? ⟨eb, 0, none⟩ = some (.string e.f0) ∧ V.cell? ⟨eb, 1, none⟩ = some (.int .u64 e.f1) ∧ V.cell? ⟨eb, 2, none⟩ = some (.int .i64 e.f2) ∧ V.cell? ⟨eb, 3, none⟩ = some (.string e.f3)) (first | exact HASK.out | exact HASK.out.below (below_drew (Below.refl _ _)) | exact (HASK.out.below (below_drew (Below.refl _ _))).below hb) (first | (go_at_call 48; refine (cornucopiaref5_Compare.calls kk x.f0 x.f1 x.f2 x.f3 e.f0 e.f1 e.f2 e.f3 r _ HKK.out).mono ?_; rintro ee w3 ⟨rfl, hb⟩))
    go_wp2_with (fail)
    go_roundw
    case rel => exact ⟨k + 1, by go_num, by have := HKP.out; omega, ⟨blk_below (blk_drew HX.out) hb⟩, ⟨below_step (below_drew HB.out) hb⟩⟩
    case measure => simp [intOf]; omega
   ·have hce := HPA.out hkp
    have u0 : decide (ce x e < 0) = false := decide_eq_false hce
    have HKE : Aside0 (k = pos e l) := ⟨by omega⟩
    have HCE := Aside0.mk hce
    have HINB : Aside0 (insB e l = decide (ce x e ≠ 0)) := ⟨by
     have h1 := HLK.out
     rw [HKE.out] at h1
     cases hb : insB e l with
     | true => exact (decide_eq_true (ins_hit e l hb x h1)).symm
     | false =>
      obtain ⟨_, y, h2, h3⟩ := ins_no e l hb
      rw [h1] at h2
      injection h2 with h2
      subst h2
      simp [h3]⟩
    clear hkp hce HPL HPA
    generalize ce x e = r at *
    go_wp2_with (fail)
    go_region_held3 (fun V => V.cell? (ad.add (k * 4)) = some (.string x.f0) ∧ V.cell? ⟨(ad.add (k * 4)).block, (ad.add (k * 4)).off + 1, none⟩ = some (.int .u64 x.f1) ∧ V.cell? ⟨(ad.add (k * 4)).block, (ad.add (k * 4)).off + 2, none⟩ = some (.int .i64 x.f2) ∧ V.cell? ⟨(ad.add (k * 4)).block, (ad.add (k * 4)).off + 3, none⟩ = some (.string x.f3) ∧ V.cell? ⟨eb, 0, none⟩ = some (.string e.f0) ∧ V.cell? ⟨eb, 1, none⟩ = some (.int .u64 e.f1) ∧ V.cell? ⟨eb, 2, none⟩ = some (.int .i64 e.f2) ∧ V.cell? ⟨eb, 3, none⟩ = some (.string e.f3)) (first | exact HASK.out | exact HASK.out.below (below_drew (Below.refl _ _)) | exact (HASK.out.below (below_drew (Below.refl _ _))).below hb) (first | (go_at_call 48; refine (cornucopiaref5_Compare.calls kk x.f0 x.f1 x.f2 x.f3 e.f0 e.f1 e.f2 e.f3 r _ HKK.out).mono ?_; rintro ee w3 ⟨rfl, hb⟩))
    have HXV := Aside0.mk (blk_below (blk_drew HX.out) hb)
    have HBV := Aside0.mk (below_step (below_drew HB.out) hb)
    have HASK3 := Aside0.mk ((HASK.out.below (below_drew (Below.refl _ _))).below hb)
    clear hb HX HB HASK HCR
    by_cases hr0 : r = 0
    ·have u1 : (r == 0) = true := beq_iff_eq.mpr hr0
     have HNB : Aside0 (insB e l = false) := ⟨by rw [HINB.out, hr0]; rfl⟩
     clear hr0 HINB
     go_wp2_with (fail)
     go_region_held3 (fun V => V.cell? (ad.add (k * 4)) = some (.string x.f0) ∧ V.cell? ⟨(ad.add (k * 4)).block, (ad.add (k * 4)).off + 1, none⟩ = some (.int .u64 x.f1) ∧ V.cell? ⟨(ad.add (k * 4)).block, (ad.add (k * 4)).off + 2, none⟩ = some (.int .i64 x.f2) ∧ V.cell? ⟨(ad.add (k * 4)).block, (ad.add (k * 4)).off + 3, none⟩ = some (.string x.f3) ∧ V.cell? ⟨eb, 0, none⟩ = some (.string e.f0) ∧ V.cell? ⟨eb, 1, none⟩ = some (.int .u64 e.f1) ∧ V.cell? ⟨eb, 2, none⟩ = some (.int .i64 e.f2) ∧ V.cell? ⟨eb, 3, none⟩ = some (.string e.f3)) (first | exact HASK3.out | exact HASK3.out.below (below_drew (Below.refl _ _)) | exact (HASK3.out.below (below_drew (Below.refl _ _))).below hb) (first | (go_at_call 48; refine (cornucopiaref5_Compare.calls kk x.f0 x.f1 x.f2 x.f3 e.f0 e.f1 e.f2 e.f3 r _ HKK.out).mono ?_; rintro ee w4 ⟨rfl, hb⟩))
     go_wp2_with (fail)
     go_ret2
     exact ⟨below_step (below_drew HBV.out) hb, Or.inl ⟨HNB.out, rfl⟩⟩
    ·have u1 : (r == 0) = false := beq_eq_false_iff_ne.mpr hr0
     have HINS : Aside0 (insB e l = true) := ⟨by rw [HINB.out]; exact decide_eq_true hr0⟩
     clear hr0 HINB
     go_wp2_with (fail)
     go_region_held3 (fun V => V.cell? (ad.add (k * 4)) = some (.string x.f0) ∧ V.cell? ⟨(ad.add (k * 4)).block, (ad.add (k * 4)).off + 1, none⟩ = some (.int .u64 x.f1) ∧ V.cell? ⟨(ad.add (k * 4)).block, (ad.add (k * 4)).off + 2, none⟩ = some (.int .i64 x.f2) ∧ V.cell? ⟨(ad.add (k * 4)).block, (ad.add (k * 4)).off + 3, none⟩ = some (.string x.f3) ∧ V.cell? ⟨eb, 0, none⟩ = some (.string e.f0) ∧ V.cell? ⟨eb, 1, none⟩ = some (.int .u64 e.f1) ∧ V.cell? ⟨eb, 2, none⟩ = some (.int .i64 e.f2) ∧ V.cell? ⟨eb, 3, none⟩ = some (.string e.f3)) (first | exact HASK3.out | exact HASK3.out.below (below_drew (Below.refl _ _)) | exact (HASK3.out.below (below_drew (Below.refl _ _))).below hb) (first | (go_at_call 48; refine (cornucopiaref5_Compare.calls kk x.f0 x.f1 x.f2 x.f3 e.f0 e.f1 e.f2 e.f3 r _ HKK.out).mono ?_; rintro ee w4 ⟨rfl, hb⟩))
     have n0_ := Aside0.mk (blk_below (blk_drew HXV.out) hb)
     have n1_ := Aside0.mk (below_step (below_drew HBV.out) hb)
     clear hb HXV HBV HASK3
     have HXV := n0_
     have HBV := n1_
     clear n0_ n1_
     obtain ⟨A, hA⟩ : ∃ A, A = some ad := ⟨_, rfl⟩
     rw [← hA] at HC ⊢
     clear hA
     go_wp2_with (fail)
     have HC6 := Aside0.mk (Kd.C_below HC.out (below_drew HBV.out))
     have e0 : w4.cell? ⟨eb, 0, none⟩ = some (.string e.f0) := (blk_cell HXV.out 0).trans rfl
     have e1 : w4.cell? ⟨eb, 1, none⟩ = some (.int .u64 e.f1) := (blk_cell HXV.out 1).trans rfl
     have e2 : w4.cell? ⟨eb, 2, none⟩ = some (.int .i64 e.f2) := (blk_cell HXV.out 2).trans rfl
     have e3 : w4.cell? ⟨eb, 3, none⟩ = some (.string e.f3) := (blk_cell HXV.out 3).trans rfl
     have hebl : eb < w4.heap.size := blk_lt HXV.out
     obtain ⟨i0, hi0, _, hsz0, _⟩ := info_parts infoE
     have hcut1 := cut_to (P := Tryz.prog) 22 32 .i64 Tryz.underlying22 hi0 A l.length c (k : Int) (Int.natCast_nonneg _) (by have := HKE.out; have := pos_le e l; omega) HCC.out
     have hcut2 := cut_from (P := Tryz.prog) 22 32 .i64 Tryz.underlying22 hi0 4 hsz0 A l.length c (k : Int) (Int.natCast_nonneg _) (by have := HKE.out; have := pos_le e l; omega)
     simp only [Int.toNat_natCast] at hcut1 hcut2
     have HKL : Aside0 (k ≤ l.length) := ⟨by have := HKE.out; have := pos_le e l; omega⟩
     have HCD : Aside0 (Kd.C k32 w (if c = k then A else A.map (·.add (k * 4))) (l.drop k).length (l.drop k)) := ⟨Kd.C_drop HC.out HKL.out HCC.out⟩
     rw [List.length_drop] at HCD
     obtain ⟨A2, hA2⟩ : ∃ A2, A2 = (if c = k then A else A.map (·.add (k * 4))) := ⟨_, rfl⟩
     obtain ⟨m2, hm2⟩ : ∃ m2, m2 = l.length - k := ⟨_, rfl⟩
     rw [← hA2, ← hm2] at HCD hcut2
     have HM2 := Aside0.mk hm2
     have HCT : Aside0 (Kd.C k32 w A k (l.take k)) := ⟨by have h := Kd.C_take (m := k) HC.out HKL.out; have e : (l.take k).length = k := (by rw [List.length_take]; have := HKL.out; omega); rw [e] at h; exact h⟩
     have HBD := Aside0.mk (below_drew HBV.out)
     have HBR : Aside0 (∃ V', V' = w4.drew) := ⟨_, rfl⟩
     clear hA2 hm2 hi0 hsz0
     go_region_law (first
      | (refine step_append_rw flatE (by rfl) (.const (.slice none 0 0)) (.tmp 38) 22 32 (.agg #[.string ⟨#[]⟩, .int .u64 0, .int .i64 0, .string ⟨#[]⟩]) 48 (by rfl) Tryz.underlying22 infoE rfl (by decide) (.slice none 0 0) [] (l.take k) A k c ?_ ?_ (Rw.nil _ _ _) ?_ ?_ ?_ ?_; (next => first | rfl | (simp [Act.eval, Act.put]; done)); (next => first | rfl | (simp [Act.eval, Act.put]; done)); (next => first | exact Kd.C_below HCT.out HBD.out | exact Kd.C_below HCT.out (below_alloc HBD.out _)); (next => rw [List.length_nil]; have := HKL.out; have := HL.out; omega); (next => rw [List.length_nil]; unfold maxLen; have := HKL.out; have := HL.out; omega); intro v39 w6 hr39 _ hg6 hat6; rw [List.nil_append] at hr39; obtain ⟨A39, c39, ev39, _⟩ := hr39.slice; rw [List.length_take, Nat.min_eq_left HKL.out] at ev39; subst ev39; have HR39 := Aside0.mk hr39; have HF39 : Aside0 (∀ q, (Value.slice A39 k c39).ownBlock = some q → w.heap.size ≤ q) := ⟨fresh_of hat6 (by first | exact HBD.out.size | exact (below_alloc HBD.out _).size)⟩; have HB6 : Aside0 (Below w.heap.size w w6) := ⟨by first | exact HBD.out.grown hg6 HBD.out.size (fun q hq => by simp [Value.ownBlock] at hq) | exact (below_alloc HBD.out _).grown hg6 (below_alloc HBD.out _).size (fun q hq => by simp [Value.ownBlock] at hq)⟩; have hx6 : w6.heap[eb]? = some (.cells #[.string e.f0, .int .u64 e.f1, .int .i64 e.f2, .string e.f3] 32 (0, 0)) := (by first | exact (hg6.block eb (blk_lt (blk_drew HXV.out)) (by simp [Value.ownBlock])).trans (blk_drew HXV.out) | exact (hg6.block eb (blk_lt (blk_alloc (blk_drew HXV.out) _)) (by simp [Value.ownBlock])).trans (blk_alloc (blk_drew HXV.out) _)); have hebl6 := blk_lt hx6; have z0 := (blk_cell hx6 0).trans (rfl : _ = some (Value.string e.f0)); have z1 := (blk_cell hx6 1).trans (rfl : _ = some (Value.int .u64 e.f1)); have z2 := (blk_cell hx6 2).trans (rfl : _ = some (Value.int .i64 e.f2)); have z3 := (blk_cell hx6 3).trans (rfl : _ = some (Value.string e.f3)); (try (have HBX := Aside0.mk ((rw_box w4.drew e).grown hg6 (Or.inr (by simp [Value.ownBlock]))))); clear hr39 hg6 hat6 hx6)
      | (refine step_append_rw flatE (by rfl) (.tmp 39) (.tmp 41) 22 32 (.agg #[.string ⟨#[]⟩, .int .u64 0, .int .i64 0, .string ⟨#[]⟩]) 48 (by rfl) Tryz.underlying22 infoE rfl (by decide) (.slice A39 k c39) (l.take k) [e] (some ⟨w6.heap.size, 0, none⟩) 1 1 ?_ ?_ ?_ ?_ ?_ ?_ ?_; (next => first | rfl | (simp [Act.eval, Act.put]; done)); (next => first | rfl | (simp [Act.eval, Act.put]; done)); (next => first | exact HR39.out | exact HR39.out.below (below_alloc (Below.refl _ _) _)); (next => exact flatE.to_C (rw_box w6 e) rfl); (next => rw [List.length_take]; have := HKL.out; have := HL.out; omega); (next => rw [List.length_take]; unfold maxLen; have := HKL.out; have := HL.out; omega); intro v42 w7 hr42 _ hg7 hat7; obtain ⟨A42, c42, ev42, _⟩ := hr42.slice; rw [List.length_append, List.length_take, Nat.min_eq_left HKL.out] at ev42; subst ev42; have HR42 := Aside0.mk hr42; have HF42 : Aside0 (∀ q, (Value.slice A42 (k + [e].length) c42).ownBlock = some q → w.heap.size ≤ q) := ⟨fresh_step hat7 HF39.out (by first | exact HB6.out.size | exact (below_alloc HB6.out _).size)⟩; have HB7 : Aside0 (Below w.heap.size w w7) := ⟨by first | exact HB6.out.grown hg7 HB6.out.size HF39.out | exact (below_alloc HB6.out _).grown hg7 (below_alloc HB6.out _).size HF39.out⟩; clear hr42 hg7 hat7)
      | (refine step_append_rw flatE (by rfl) (.tmp 39) (.tmp 41) 22 32 (.agg #[.string ⟨#[]⟩, .int .u64 0, .int .i64 0, .string ⟨#[]⟩]) 48 (by rfl) Tryz.underlying22 infoE rfl (by decide) (.slice A39 k c39) (l.take k) [e] (some ⟨w4.drew.heap.size, 0, none⟩) 1 1 ?_ ?_ ?_ ?_ ?_ ?_ ?_; (next => first | rfl | (simp [Act.eval, Act.put]; done)); (next => first | rfl | (simp [Act.eval, Act.put]; done)); (next => first | exact HR39.out | exact HR39.out.below (below_alloc (Below.refl _ _) _)); (next => exact flatE.to_C HBX.out rfl); (next => rw [List.length_take]; have := HKL.out; have := HL.out; omega); (next => rw [List.length_take]; unfold maxLen; have := HKL.out; have := HL.out; omega); intro v42 w7 hr42 _ hg7 hat7; obtain ⟨A42, c42, ev42, _⟩ := hr42.slice; rw [List.length_append, List.length_take, Nat.min_eq_left HKL.out] at ev42; subst ev42; have HR42 := Aside0.mk hr42; have HF42 : Aside0 (∀ q, (Value.slice A42 (k + [e].length) c42).ownBlock = some q → w.heap.size ≤ q) := ⟨fresh_step hat7 HF39.out (by first | exact HB6.out.size | exact (below_alloc HB6.out _).size)⟩; have HB7 : Aside0 (Below w.heap.size w w7) := ⟨by first | exact HB6.out.grown hg7 HB6.out.size HF39.out | exact (below_alloc HB6.out _).grown hg7 (below_alloc HB6.out _).size HF39.out⟩; clear hr42 hg7 hat7)
      | (refine step_append_rw flatE (by rfl) (.tmp 42) (.tmp 45) 22 32 (.agg #[.string ⟨#[]⟩, .int .u64 0, .int .i64 0, .string ⟨#[]⟩]) 48 (by rfl) Tryz.underlying22 infoE rfl (by decide) (.slice A42 (k + [e].length) c42) (l.take k ++ [e]) (l.drop k) A2 m2 (c - k) ?_ ?_ HR42.out (Kd.C_below HCD.out HB7.out) ?_ ?_ ?_; (next => first | rfl | (simp [Act.eval, Act.put]; done)); (next => first | rfl | (simp [Act.eval, Act.put]; done)); (next => rw [List.length_append, List.length_take]; have := HKL.out; have := HL.out; have := HM2.out; simp only [List.length_singleton]; omega); (next => rw [List.length_append, List.length_take]; unfold maxLen; have := HKL.out; have := HL.out; have := HM2.out; simp only [List.length_singleton]; omega); intro v46 w8 hr46 _ hg8 hat8; have HR46 := Aside0.mk hr46; have HF46 := Aside0.mk (fresh_step hat8 HF42.out HB7.out.size); have HB8 := Aside0.mk (HB7.out.grown hg8 HB7.out.size HF42.out); clear hr46 hg8 hat8))
     all_goals
      obtain ⟨A46, c46, ev46, _⟩ := HR46.out.slice
      subst ev46
      go_wp2_with (fail)
      go_ret2
      have hfin : (l.take k ++ [e]) ++ l.drop k = insL e l := by rw [ins_yes e l HINS.out, ← HKE.out, List.append_assoc]; rfl
      have hR := HR46.out
      have hF := HF46.out
      rw [hfin] at hR hF ⊢
      exact ⟨HB8.out, Or.inr ⟨HINS.out, A46, c46, rfl, hR, hF⟩⟩
  ·have hkl : k = l.length := by omega
   have HKE : Aside0 (k = pos e l) := ⟨by omega⟩
   have HINS : Aside0 (insB e l = true) := ⟨by
    cases hb : insB e l with
    | true => rfl
    | false =>
     obtain ⟨_, y, h2, h3⟩ := ins_no e l hb
     have := (List.getElem?_eq_some_iff.1 h2).1
     omega⟩
   have t0 : decide ((k : Int) < (l.length : Int)) = false := decide_eq_false (by omega)
   have t0' : decide (k < l.length) = false := decide_eq_false (by omega)
   clear hkl hpl hlt
   go_wp2_with (fail)
   go_quiet (fail)
   go_wp2_with (fail)
   have n0_ := Aside0.mk (blk_drewN HX.out nq)
   have n1_ := Aside0.mk (pw_below_drewN HB.out nq)
   clear HX HB HCR
   generalize wr.drewN nq = w3 at *
   go_quiet (fail)
   have HXV := Aside0.mk (blk_drewN n0_.out nq)
   have HBV := Aside0.mk (pw_below_drewN n1_.out nq)
   clear n0_ n1_
   generalize w3.drewN nq = w4 at *
   go_wp2_with (fail)
   have HC6 := Aside0.mk (Kd.C_below HC.out (below_drew HBV.out))
   have e0 : w4.cell? ⟨eb, 0, none⟩ = some (.string e.f0) := (blk_cell HXV.out 0).trans rfl
   have e1 : w4.cell? ⟨eb, 1, none⟩ = some (.int .u64 e.f1) := (blk_cell HXV.out 1).trans rfl
   have e2 : w4.cell? ⟨eb, 2, none⟩ = some (.int .i64 e.f2) := (blk_cell HXV.out 2).trans rfl
   have e3 : w4.cell? ⟨eb, 3, none⟩ = some (.string e.f3) := (blk_cell HXV.out 3).trans rfl
   have hebl : eb < w4.heap.size := blk_lt HXV.out
   obtain ⟨i0, hi0, _, hsz0, _⟩ := info_parts infoE
   have hcut1 := cut_to (P := Tryz.prog) 22 32 .i64 Tryz.underlying22 hi0 A l.length c (k : Int) (Int.natCast_nonneg _) (by have := HKE.out; have := pos_le e l; omega) HCC.out
   have hcut2 := cut_from (P := Tryz.prog) 22 32 .i64 Tryz.underlying22 hi0 4 hsz0 A l.length c (k : Int) (Int.natCast_nonneg _) (by have := HKE.out; have := pos_le e l; omega)
   simp only [Int.toNat_natCast] at hcut1 hcut2
   have HKL : Aside0 (k ≤ l.length) := ⟨by have := HKE.out; have := pos_le e l; omega⟩
   have HCD : Aside0 (Kd.C k32 w (if c = k then A else A.map (·.add (k * 4))) (l.drop k).length (l.drop k)) := ⟨Kd.C_drop HC.out HKL.out HCC.out⟩
   rw [List.length_drop] at HCD
   obtain ⟨A2, hA2⟩ : ∃ A2, A2 = (if c = k then A else A.map (·.add (k * 4))) := ⟨_, rfl⟩
   obtain ⟨m2, hm2⟩ : ∃ m2, m2 = l.length - k := ⟨_, rfl⟩
   rw [← hA2, ← hm2] at HCD hcut2
   have HM2 := Aside0.mk hm2
   have HCT : Aside0 (Kd.C k32 w A k (l.take k)) := ⟨by have h := Kd.C_take (m := k) HC.out HKL.out; have e : (l.take k).length = k := (by rw [List.length_take]; have := HKL.out; omega); rw [e] at h; exact h⟩
   have HBD := Aside0.mk (below_drew HBV.out)
   have HBR : Aside0 (∃ V', V' = w4.drew) := ⟨_, rfl⟩
   clear hA2 hm2 hi0 hsz0
   go_region_law (first
    | (refine step_append_rw flatE (by rfl) (.const (.slice none 0 0)) (.tmp 38) 22 32 (.agg #[.string ⟨#[]⟩, .int .u64 0, .int .i64 0, .string ⟨#[]⟩]) 48 (by rfl) Tryz.underlying22 infoE rfl (by decide) (.slice none 0 0) [] (l.take k) A k c ?_ ?_ (Rw.nil _ _ _) ?_ ?_ ?_ ?_; (next => first | rfl | (simp [Act.eval, Act.put]; done)); (next => first | rfl | (simp [Act.eval, Act.put]; done)); (next => first | exact Kd.C_below HCT.out HBD.out | exact Kd.C_below HCT.out (below_alloc HBD.out _)); (next => rw [List.length_nil]; have := HKL.out; have := HL.out; omega); (next => rw [List.length_nil]; unfold maxLen; have := HKL.out; have := HL.out; omega); intro v39 w6 hr39 _ hg6 hat6; rw [List.nil_append] at hr39; obtain ⟨A39, c39, ev39, _⟩ := hr39.slice; rw [List.length_take, Nat.min_eq_left HKL.out] at ev39; subst ev39; have HR39 := Aside0.mk hr39; have HF39 : Aside0 (∀ q, (Value.slice A39 k c39).ownBlock = some q → w.heap.size ≤ q) := ⟨fresh_of hat6 (by first | exact HBD.out.size | exact (below_alloc HBD.out _).size)⟩; have HB6 : Aside0 (Below w.heap.size w w6) := ⟨by first | exact HBD.out.grown hg6 HBD.out.size (fun q hq => by simp [Value.ownBlock] at hq) | exact (below_alloc HBD.out _).grown hg6 (below_alloc HBD.out _).size (fun q hq => by simp [Value.ownBlock] at hq)⟩; have hx6 : w6.heap[eb]? = some (.cells #[.string e.f0, .int .u64 e.f1, .int .i64 e.f2, .string e.f3] 32 (0, 0)) := (by first | exact (hg6.block eb (blk_lt (blk_drew HXV.out)) (by simp [Value.ownBlock])).trans (blk_drew HXV.out) | exact (hg6.block eb (blk_lt (blk_alloc (blk_drew HXV.out) _)) (by simp [Value.ownBlock])).trans (blk_alloc (blk_drew HXV.out) _)); have hebl6 := blk_lt hx6; have z0 := (blk_cell hx6 0).trans (rfl : _ = some (Value.string e.f0)); have z1 := (blk_cell hx6 1).trans (rfl : _ = some (Value.int .u64 e.f1)); have z2 := (blk_cell hx6 2).trans (rfl : _ = some (Value.int .i64 e.f2)); have z3 := (blk_cell hx6 3).trans (rfl : _ = some (Value.string e.f3)); (try (have HBX := Aside0.mk ((rw_box w4.drew e).grown hg6 (Or.inr (by simp [Value.ownBlock]))))); clear hr39 hg6 hat6 hx6)
    | (refine step_append_rw flatE (by rfl) (.tmp 39) (.tmp 41) 22 32 (.agg #[.string ⟨#[]⟩, .int .u64 0, .int .i64 0, .string ⟨#[]⟩]) 48 (by rfl) Tryz.underlying22 infoE rfl (by decide) (.slice A39 k c39) (l.take k) [e] (some ⟨w6.heap.size, 0, none⟩) 1 1 ?_ ?_ ?_ ?_ ?_ ?_ ?_; (next => first | rfl | (simp [Act.eval, Act.put]; done)); (next => first | rfl | (simp [Act.eval, Act.put]; done)); (next => first | exact HR39.out | exact HR39.out.below (below_alloc (Below.refl _ _) _)); (next => exact flatE.to_C (rw_box w6 e) rfl); (next => rw [List.length_take]; have := HKL.out; have := HL.out; omega); (next => rw [List.length_take]; unfold maxLen; have := HKL.out; have := HL.out; omega); intro v42 w7 hr42 _ hg7 hat7; obtain ⟨A42, c42, ev42, _⟩ := hr42.slice; rw [List.length_append, List.length_take, Nat.min_eq_left HKL.out] at ev42; subst ev42; have HR42 := Aside0.mk hr42; have HF42 : Aside0 (∀ q, (Value.slice A42 (k + [e].length) c42).ownBlock = some q → w.heap.size ≤ q) := ⟨fresh_step hat7 HF39.out (by first | exact HB6.out.size | exact (below_alloc HB6.out _).size)⟩; have HB7 : Aside0 (Below w.heap.size w w7) := ⟨by first | exact HB6.out.grown hg7 HB6.out.size HF39.out | exact (below_alloc HB6.out _).grown hg7 (below_alloc HB6.out _).size HF39.out⟩; clear hr42 hg7 hat7)
    | (refine step_append_rw flatE (by rfl) (.tmp 39) (.tmp 41) 22 32 (.agg #[.string ⟨#[]⟩, .int .u64 0, .int .i64 0, .string ⟨#[]⟩]) 48 (by rfl) Tryz.underlying22 infoE rfl (by decide) (.slice A39 k c39) (l.take k) [e] (some ⟨w4.drew.heap.size, 0, none⟩) 1 1 ?_ ?_ ?_ ?_ ?_ ?_ ?_; (next => first | rfl | (simp [Act.eval, Act.put]; done)); (next => first | rfl | (simp [Act.eval, Act.put]; done)); (next => first | exact HR39.out | exact HR39.out.below (below_alloc (Below.refl _ _) _)); (next => exact flatE.to_C HBX.out rfl); (next => rw [List.length_take]; have := HKL.out; have := HL.out; omega); (next => rw [List.length_take]; unfold maxLen; have := HKL.out; have := HL.out; omega); intro v42 w7 hr42 _ hg7 hat7; obtain ⟨A42, c42, ev42, _⟩ := hr42.slice; rw [List.length_append, List.length_take, Nat.min_eq_left HKL.out] at ev42; subst ev42; have HR42 := Aside0.mk hr42; have HF42 : Aside0 (∀ q, (Value.slice A42 (k + [e].length) c42).ownBlock = some q → w.heap.size ≤ q) := ⟨fresh_step hat7 HF39.out (by first | exact HB6.out.size | exact (below_alloc HB6.out _).size)⟩; have HB7 : Aside0 (Below w.heap.size w w7) := ⟨by first | exact HB6.out.grown hg7 HB6.out.size HF39.out | exact (below_alloc HB6.out _).grown hg7 (below_alloc HB6.out _).size HF39.out⟩; clear hr42 hg7 hat7)
    | (refine step_append_rw flatE (by rfl) (.tmp 42) (.tmp 45) 22 32 (.agg #[.string ⟨#[]⟩, .int .u64 0, .int .i64 0, .string ⟨#[]⟩]) 48 (by rfl) Tryz.underlying22 infoE rfl (by decide) (.slice A42 (k + [e].length) c42) (l.take k ++ [e]) (l.drop k) A2 m2 (c - k) ?_ ?_ HR42.out (Kd.C_below HCD.out HB7.out) ?_ ?_ ?_; (next => first | rfl | (simp [Act.eval, Act.put]; done)); (next => first | rfl | (simp [Act.eval, Act.put]; done)); (next => rw [List.length_append, List.length_take]; have := HKL.out; have := HL.out; have := HM2.out; simp only [List.length_singleton]; omega); (next => rw [List.length_append, List.length_take]; unfold maxLen; have := HKL.out; have := HL.out; have := HM2.out; simp only [List.length_singleton]; omega); intro v46 w8 hr46 _ hg8 hat8; have HR46 := Aside0.mk hr46; have HF46 := Aside0.mk (fresh_step hat8 HF42.out HB7.out.size); have HB8 := Aside0.mk (HB7.out.grown hg8 HB7.out.size HF42.out); clear hr46 hg8 hat8))
   all_goals
    obtain ⟨A46, c46, ev46, _⟩ := HR46.out.slice
    subst ev46
    go_wp2_with (fail)
    go_ret2
    have hfin : (l.take k ++ [e]) ++ l.drop k = insL e l := by rw [ins_yes e l HINS.out, ← HKE.out, List.append_assoc]; rfl
    have hR := HR46.out
    have hF := HF46.out
    rw [hfin] at hR hF ⊢
    exact ⟨HB8.out, Or.inr ⟨HINS.out, A46, c46, rfl, hR, hF⟩⟩
end Go.Proofs.YtchgpcgolgcfdaaGreat.RefIns
end
section
namespace Go.Proofs.YtchgpcgolgcfdaaGreatW.PuHeap
set_option linter.unusedVariables false
set_option linter.unusedSimpArgs false
section
variable {H : Type}
structure Pre (le : H → H → Prop) : Prop where
 total : ∀ a b, le a b ∨ le b a
 trans : ∀ {a b c}, le a b → le b c → le a c
variable {le : H → H → Prop}
theorem Pre.refl (h : Pre le) (a : H) : le a a := (h.total a a).elim id id
def Hp (le : H → H → Prop) (f : Nat → H) (n lo : Nat) : Prop := ∀ c, 0 < c → c < n → lo ≤ (c - 1) / 2 → le (f ((c - 1) / 2)) (f c)
def Hx (le : H → H → Prop) (f : Nat → H) (n lo i : Nat) : Prop :=
 (∀ c, 0 < c → c < n → lo ≤ (c - 1) / 2 → (c - 1) / 2 ≠ i → le (f ((c - 1) / 2)) (f c)) ∧ (∀ c, 0 < c → c < n → (c - 1) / 2 = i → 0 < i → lo ≤ (i - 1) / 2 → le (f ((i - 1) / 2)) (f c))
def sw (f : Nat → H) (i j : Nat) : Nat → H := fun k => if k = i then f j else if k = j then f i else f k
theorem Hp.min (hP : Pre le) {f : Nat → H} {n : Nat} (h : Hp le f n 0) : ∀ c, c < n → le (f 0) (f c) := by
 intro c
 induction c using Nat.strongRecOn with
 | ind c ih =>
  intro hc
  by_cases h0 : c = 0
  ·subst h0
   exact hP.refl _
  ·exact hP.trans (ih ((c - 1) / 2) (by omega) (by omega)) (h c (by omega) hc (Nat.zero_le _))
theorem Hx.leaf {f : Nat → H} {n lo i : Nat} (h : Hx le f n lo i) (hn : n ≤ 2 * i + 1) : Hp le f n lo := by
 intro c h0 hc hl
 exact h.1 c h0 hc hl (by omega)
theorem Hx.stop {f : Nat → H} {n lo i : Nat} (h : Hx le f n lo i) (hk : ∀ c, 0 < c → c < n → (c - 1) / 2 = i → le (f i) (f c)) : Hp le f n lo := by
 intro c h0 hc hl
 by_cases e : (c - 1) / 2 = i
 ·rw [e]; exact hk c h0 hc e
 ·exact h.1 c h0 hc hl e
theorem Hx.step (hP : Pre le) {f : Nat → H} {n lo i j : Nat} (h : Hx le f n lo i) (hi : lo ≤ i) (hj0 : 0 < j) (hjn : j < n) (hj : (j - 1) / 2 = i) (hle : le (f j) (f i)) (hs : ∀ c, 0 < c → c < n → (c - 1) / 2 = i → le (f j) (f c)) : Hx le (sw f i j) n lo j := by
 have hij : i < j := by omega
 refine ⟨fun c h0 hc hl hp => ?_, fun c h0 hc hp _ _ => ?_⟩
 ·unfold sw
  by_cases e1 : (c - 1) / 2 = i
  ·rw [if_pos e1]
   by_cases e2 : c = j
   ·rw [if_neg (by omega), if_pos e2]; exact hle
   ·rw [if_neg (by omega), if_neg e2]; exact hs c h0 hc e1
  ·rw [if_neg e1, if_neg hp]
   by_cases e2 : c = i
   ·subst e2
    rw [if_pos rfl]
    exact h.2 j hj0 hjn hj h0 hl
   ·rw [if_neg e2, if_neg (by rintro rfl; exact e1 hj)]
    exact h.1 c h0 hc hl e1
 ·unfold sw
  rw [if_pos hj, if_neg (by omega), if_neg (by omega)]
  have := h.1 c h0 hc (by omega) (by omega)
  rw [hp] at this
  exact this
theorem Hp.first {f : Nat → H} {n : Nat} : Hp le f n (n / 2) := fun c h0 hc hl => by omega
theorem Hp.next {f : Nat → H} {n k : Nat} (h : Hp le f n (k + 1)) : Hx le f n k k :=
 ⟨fun c h0 hc hl hp => h c h0 hc (by omega), fun c h0 hc hp h1 hl => by omega⟩
theorem Hp.again {f g : Nat → H} {n : Nat} (h : Hp le f n 0) (hg : ∀ k, k ≠ 0 → k < n → g k = f k) : Hx le g n 0 0 :=
 ⟨fun c h0 hc hl hp => by rw [hg c (by omega) hc, hg _ hp (by omega)]; exact h c h0 hc hl, fun c _ _ _ h1 _ => by omega⟩
theorem Hp.less {f : Nat → H} {n m : Nat} (h : Hp le f n 0) (hm : m ≤ n) : Hp le f m 0 := fun c h0 hc hl => h c h0 (by omega) hl
theorem Hx.congr {f g : Nat → H} {n lo i : Nat} (h : Hx le f n lo i) (hi : i < n) (hg : ∀ k, k < n → g k = f k) : Hx le g n lo i :=
 ⟨fun c h0 hc hl hp => by rw [hg c hc, hg _ (by omega)]; exact h.1 c h0 hc hl hp, fun c h0 hc hp h1 hl => by rw [hg c hc, hg _ (by omega)]; exact h.2 c h0 hc hp h1 hl⟩
theorem Hp.congr {f g : Nat → H} {n lo : Nat} (h : Hp le f n lo) (hg : ∀ k, k < n → g k = f k) : Hp le g n lo := fun c h0 hc hl => by rw [hg c hc, hg _ (by omega)]; exact h c h0 hc hl
def swL (l : List H) (i j : Nat) : List H := if h : i < l.length ∧ j < l.length then (l.set i l[j]).set j l[i] else l
theorem swL_len (l : List H) (i j : Nat) : (swL l i j).length = l.length := by unfold swL; split <;> simp
theorem swL_perm (l : List H) (i j : Nat) : (swL l i j).Perm l := by
 unfold swL
 split
 ·rename_i h
  exact List.set_set_perm h.1 h.2
 ·exact List.Perm.refl _
theorem swL_get (d : H) (l : List H) {i j : Nat} (hi : i < l.length) (hj : j < l.length) (k : Nat) : (swL l i j).getD k d = sw (fun k => l.getD k d) i j k := by
 unfold swL sw
 rw [dif_pos ⟨hi, hj⟩]
 simp only [List.getD_eq_getElem?_getD, List.getElem?_set, List.length_set]
 by_cases h1 : k = j
 ·subst h1
  by_cases h2 : k = i
  ·subst h2; simp [hi]
  ·simp [hj, hi, Ne.symm h2, h2]
 ·by_cases h2 : k = i
  ·subst h2; simp [hi, hj, h1, Ne.symm h1]
  ·simp [h1, h2, Ne.symm h1, Ne.symm h2]
end
end Go.Proofs.YtchgpcgolgcfdaaGreatW.PuHeap
end
section
namespace Go.Proofs.YtchgpcgolgcfdaaGreatW.PuMrg
open Go.Proofs.YtchgpcgolgcfdaaGreatW.PuHeap
set_option linter.unusedVariables false
set_option linter.unusedSimpArgs false
section
variable {E : Type}
structure Ord (ce : E → E → Int) : Prop where
 range : ∀ a b, ce a b = -1 ∨ ce a b = 0 ∨ ce a b = 1
 neg : ∀ a b, ce a b = - ce b a
 trans : ∀ {a b c}, ce a b = -1 → ce b c = -1 → ce a c = -1
 same : ∀ {a b}, ce a b = 0 → ∀ c, ce a c = ce b c
variable {ce : E → E → Int}
theorem Ord.refl (o : Ord ce) (a : E) : ce a a = 0 := by have := o.neg a a; omega
theorem Ord.same' (o : Ord ce) {a b : E} (h : ce a b = 0) (c : E) : ce c a = ce c b := by
 have h1 := o.neg c a; have h2 := o.neg c b; have h3 := o.same h c; omega
theorem Ord.symm (o : Ord ce) {a b : E} (h : ce a b = 0) : ce b a = 0 := by have := o.neg b a; omega
theorem Ord.le_trans (o : Ord ce) {a b c : E} (h : ce a b ≤ 0) (k : ce b c ≤ 0) : ce a c ≤ 0 := by
 rcases o.range a b with h1 | h1 | h1
 ·rcases o.range b c with k1 | k1 | k1
  ·have := o.trans h1 k1; omega
  ·have := o.same' k1 a; omega
  ·omega
 ·have := o.same h1 c; omega
 ·omega
abbrev Srt (ce : E → E → Int) (l : List E) : Prop := l.Pairwise (fun x y => ce x y = -1)
def Fst (ce : E → E → Int) (ls : List (List E)) (e : E) : Prop := ∃ (i : Nat) (l : List E), ls[i]? = some l ∧ e ∈ l ∧ ∀ j, j < i → ∀ l', ls[j]? = some l' → ∀ e' ∈ l', ce e e' ≠ 0
def Mg (ce : E → E → Int) (ls : List (List E)) (r : List E) : Prop := Srt ce r ∧ ∀ e, e ∈ r ↔ Fst ce ls e
theorem srt_eq (o : Ord ce) : ∀ {a b : List E}, Srt ce a → Srt ce b → (∀ e, e ∈ a ↔ e ∈ b) → a = b
 | [], [], _, _, _ => rfl
 | [], y :: b, _, _, h => absurd ((h y).2 (by simp)) (by simp)
 | x :: a, [], _, _, h => absurd ((h x).1 (by simp)) (by simp)
 | x :: a, y :: b, ha, hb, h => by
  have ha2 := List.pairwise_cons.1 ha
  have hb2 := List.pairwise_cons.1 hb
  have hxy : x = y := by
   rcases List.mem_cons.1 ((h x).1 (by simp)) with e | e
   ·exact e
   ·rcases List.mem_cons.1 ((h y).2 (by simp)) with e2 | e2
    ·exact e2.symm
    ·have h1 := hb2.1 x e
     have h2 := ha2.1 y e2
     have h3 := o.neg x y
     omega
  subst hxy
  congr 1
  refine srt_eq o ha2.2 hb2.2 (fun e => ⟨fun he => ?_, fun he => ?_⟩)
  ·rcases List.mem_cons.1 ((h e).1 (List.mem_cons_of_mem _ he)) with q | q
   ·subst q
    have := ha2.1 e he
    have := o.refl e
    omega
   ·exact q
  ·rcases List.mem_cons.1 ((h e).2 (List.mem_cons_of_mem _ he)) with q | q
   ·subst q
    have := hb2.1 e he
    have := o.refl e
    omega
   ·exact q
theorem Mg.eq (o : Ord ce) {ls : List (List E)} {a b : List E} (ha : Mg ce ls a) (hb : Mg ce ls b) : a = b :=
 srt_eq o ha.1 hb.1 (fun e => (ha.2 e).trans (hb.2 e).symm)
theorem srt_same (o : Ord ce) : ∀ {l : List E}, Srt ce l → ∀ x ∈ l, ∀ y ∈ l, ce x y = 0 → x = y
 | [], _, x, hx, _, _, _ => by simp at hx
 | a :: l, h, x, hx, y, hy, he => by
  have h2 := List.pairwise_cons.1 h
  rcases List.mem_cons.1 hx with e1 | e1
  ·rcases List.mem_cons.1 hy with e2 | e2
   ·rw [e1, e2]
   ·have := h2.1 y e2; rw [← e1] at this; omega
  ·rcases List.mem_cons.1 hy with e2 | e2
   ·have := h2.1 x e1
    rw [← e2] at this
    have := o.neg x y
    omega
   ·exact srt_same o h2.2 x e1 y e2 he
def ins (ce : E → E → Int) (e : E) : List E → List E
 | [] => [e]
 | x :: r => if ce x e < 0 then x :: ins ce e r else if ce x e = 0 then x :: r else e :: x :: r
theorem mem_ins (o : Ord ce) (e : E) : ∀ {l : List E}, Srt ce l → ∀ y, y ∈ ins ce e l ↔ y ∈ l ∨ (y = e ∧ ∀ x ∈ l, ce x e ≠ 0)
 | [], _, y => by simp [ins]
 | x :: r, h, y => by
  have h2 := List.pairwise_cons.1 h
  rw [ins]
  split
  ·rename_i h1
   rw [List.mem_cons, mem_ins o e h2.2 y, List.mem_cons]
   constructor
   ·rintro (q | q | ⟨q, q2⟩)
    ·exact .inl (.inl q)
    ·exact .inl (.inr q)
    ·refine .inr ⟨q, fun z hz => ?_⟩
     rcases List.mem_cons.1 hz with rfl | hz
     ·omega
     ·exact q2 z hz
   ·rintro ((q | q) | ⟨q, q2⟩)
    ·exact .inl q
    ·exact .inr (.inl q)
    ·exact .inr (.inr ⟨q, fun z hz => q2 z (List.mem_cons_of_mem _ hz)⟩)
  ·rename_i h1
   split
   ·rename_i h3
    constructor
    ·exact .inl
    ·rintro (q | ⟨q, q2⟩)
     ·exact q
     ·exact absurd h3 (q2 x (by simp))
   ·rename_i h3
    have h4 : ce e x = -1 := by have := o.neg e x; rcases o.range x e with q | q | q <;> omega
    rw [List.mem_cons]
    constructor
    ·rintro (q | q)
     ·refine .inr ⟨q, fun z hz => ?_⟩
      rcases List.mem_cons.1 hz with rfl | hz
      ·exact h3
      ·have := o.trans h4 (h2.1 z hz)
       have := o.neg e z
       omega
     ·exact .inl q
    ·rintro (q | ⟨q, _⟩)
     ·exact .inr q
     ·exact .inl q
theorem srt_ins (o : Ord ce) (e : E) : ∀ {l : List E}, Srt ce l → Srt ce (ins ce e l)
 | [], _ => List.pairwise_singleton _ _
 | x :: r, h => by
  have h2 := List.pairwise_cons.1 h
  rw [ins]
  split
  ·rename_i h1
   refine List.pairwise_cons.2 ⟨fun y hy => ?_, srt_ins o e h2.2⟩
   rcases (mem_ins o e h2.2 y).1 hy with q | ⟨q, _⟩
   ·exact h2.1 y q
   ·subst q
    rcases o.range x y with q | q | q <;> omega
  ·rename_i h1
   split
   ·exact h
   ·rename_i h3
    have h4 : ce e x = -1 := by have := o.neg e x; rcases o.range x e with q | q | q <;> omega
    refine List.pairwise_cons.2 ⟨fun y hy => ?_, h⟩
    rcases List.mem_cons.1 hy with rfl | hy
    ·exact h4
    ·exact o.trans h4 (h2.1 y hy)
def mrg (ce : E → E → Int) (ls : List (List E)) : List E := ls.flatten.foldl (fun a e => ins ce e a) []
theorem foldl_mem (o : Ord ce) : ∀ (xs acc : List E), Srt ce acc → Srt ce (xs.foldl (fun a e => ins ce e a) acc) ∧ ∀ y, y ∈ xs.foldl (fun a e => ins ce e a) acc ↔ y ∈ acc ∨ ∃ p q, xs = p ++ y :: q ∧ (∀ x ∈ acc, ce x y ≠ 0) ∧ ∀ x ∈ p, ce x y ≠ 0
 | [], acc, h => ⟨h, fun y => by simp⟩
 | a :: xs, acc, h => by
  obtain ⟨h1, h2⟩ := foldl_mem o xs (ins ce a acc) (srt_ins o a h)
  refine ⟨h1, fun y => ?_⟩
  rw [List.foldl_cons, h2 y, mem_ins o a h y]
  constructor
  ·rintro ((q | ⟨q, q2⟩) | ⟨p, q, e, q1, q2⟩)
   ·exact .inl q
   ·subst q
    exact .inr ⟨[], xs, rfl, q2, by simp⟩
   ·refine .inr ⟨a :: p, q, by rw [e]; rfl, fun x hx => q1 x ((mem_ins o a h x).2 (.inl hx)), fun x hx => ?_⟩
    rcases List.mem_cons.1 hx with rfl | hx
    ·by_cases k : ∀ z ∈ acc, ce z x ≠ 0
     ·exact q1 x ((mem_ins o x h x).2 (.inr ⟨rfl, k⟩))
     ·intro k2
      obtain ⟨z, hz⟩ := Classical.not_forall.1 k
      obtain ⟨hz, k3⟩ := Classical.not_imp.1 hz
      have k3 : ce z x = 0 := Classical.not_not.1 k3
      have := o.same k3 y
      exact q1 z ((mem_ins o x h z).2 (.inl hz)) (by omega)
    ·exact q2 x hx
  ·rintro (q | ⟨p, q, e, q1, q2⟩)
   ·exact .inl (.inl q)
   ·cases p with
    | nil =>
     simp only [List.nil_append, List.cons.injEq] at e
     obtain ⟨rfl, rfl⟩ := e
     exact .inl (.inr ⟨rfl, q1⟩)
    | cons b p =>
     simp only [List.cons_append, List.cons.injEq] at e
     obtain ⟨rfl, rfl⟩ := e
     refine .inr ⟨p, q, rfl, fun x hx => ?_, fun x hx => q2 x (List.mem_cons_of_mem _ hx)⟩
     rcases (mem_ins o a h x).1 hx with k | ⟨k, _⟩
     ·exact q1 x k
     ·subst k
      exact q2 x (by simp)
theorem flat_split {ls : List (List E)} : ∀ {p q : List E} {y : E}, ls.flatten = p ++ y :: q → ∃ i l p2 q2, ls[i]? = some l ∧ l = p2 ++ y :: q2 ∧ p = (ls.take i).flatten ++ p2 := by
 induction ls with
 | nil => intro p q y h; simp at h
 | cons a ls ih =>
  intro p q y h
  rw [List.flatten_cons] at h
  rcases List.append_eq_append_iff.1 h with ⟨r, h1, h2⟩ | ⟨r, h1, h2⟩
  ·obtain ⟨i, l, p2, q2, e1, e2, e3⟩ := ih h2
   exact ⟨i + 1, l, p2, q2, by simpa using e1, e2, by rw [h1, e3, List.take_succ_cons, List.flatten_cons, List.append_assoc]⟩
  ·cases r with
   | nil =>
    simp only [List.nil_append] at h2
    obtain ⟨i, l, p2, q2, e1, e2, e3⟩ := ih (p := []) (q := q) (y := y) (by simpa using h2.symm)
    refine ⟨i + 1, l, p2, q2, by simpa using e1, e2, ?_⟩
    rw [List.take_succ_cons, List.flatten_cons, List.append_assoc, ← e3]
    simpa using h1.symm
   | cons b r =>
    simp only [List.cons_append, List.cons.injEq] at h2
    obtain ⟨rfl, h2⟩ := h2
    exact ⟨0, a, p, r, by simp, h1, by simp⟩
theorem split_flat {ls : List (List E)} {i : Nat} {l p q : List E} {y : E} (h : ls[i]? = some l) (e : l = p ++ y :: q) : ls.flatten = ((ls.take i).flatten ++ p) ++ y :: (q ++ (ls.drop (i + 1)).flatten) := by
 have hi := (List.getElem?_eq_some_iff.1 h)
 obtain ⟨hlt, hl⟩ := hi
 have : ls = ls.take i ++ l :: ls.drop (i + 1) := by
  conv => lhs; rw [← List.take_append_drop i ls, List.drop_eq_getElem_cons hlt, hl]
 conv => lhs; rw [this, List.flatten_append, List.flatten_cons, e]
 simp
theorem mem_take_flat {ls : List (List E)} {i : Nat} {x : E} : x ∈ (ls.take i).flatten ↔ ∃ j, j < i ∧ ∃ l, ls[j]? = some l ∧ x ∈ l := by
 rw [List.mem_flatten]
 constructor
 ·rintro ⟨l, hl, hx⟩
  obtain ⟨j, hj⟩ := List.mem_iff_getElem?.1 hl
  rw [List.getElem?_take] at hj
  split at hj
  ·exact ⟨j, by assumption, l, hj, hx⟩
  ·cases hj
 ·rintro ⟨j, hj, l, hl, hx⟩
  exact ⟨l, List.mem_iff_getElem?.2 ⟨j, by rw [List.getElem?_take, if_pos hj]; exact hl⟩, hx⟩
theorem mrg_mg (o : Ord ce) {ls : List (List E)} (hs : ∀ l ∈ ls, Srt ce l) : Mg ce ls (mrg ce ls) := by
 obtain ⟨h1, h2⟩ := foldl_mem o ls.flatten [] List.Pairwise.nil
 refine ⟨h1, fun e => (h2 e).trans ⟨?_, ?_⟩⟩
 ·rintro (q | ⟨p, q, e1, _, q2⟩)
  ·simp at q
  ·obtain ⟨i, l, p2, q2', e2, e3, e4⟩ := flat_split e1
   refine ⟨i, l, e2, by rw [e3]; simp, fun j hj l' hl' e' he' k => ?_⟩
   refine q2 e' ?_ (o.symm k)
   rw [e4]
   exact List.mem_append.2 (.inl (mem_take_flat.2 ⟨j, hj, l', hl', he'⟩))
 ·rintro ⟨i, l, e1, e2, q⟩
  obtain ⟨p, r, e3⟩ := List.append_of_mem e2
  refine .inr ⟨_, _, split_flat e1 e3, by simp, fun x hx k => ?_⟩
  rcases List.mem_append.1 hx with hx | hx
  ·obtain ⟨j, hj, l', hl', hx⟩ := mem_take_flat.1 hx
   exact q j hj l' hl' x hx (o.symm k)
  ·have := hs l (List.mem_iff_getElem?.2 ⟨i, e1⟩)
   rw [e3] at this
   have := (List.pairwise_append.1 this).2.2 x hx e (by simp)
   omega
abbrev Hd (E : Type) := List E × Nat
def fr (z : E) (h : Hd E) : E := h.1.headD z
def le (ce : E → E → Int) (z : E) (a b : Hd E) : Prop := ce (fr z a) (fr z b) = -1 ∨ (ce (fr z a) (fr z b) = 0 ∧ a.2 ≤ b.2)
theorem le_pre (o : Ord ce) (z : E) : Pre (le ce z) := ⟨fun a b => by
 unfold le
 have h1 := o.neg (fr z a) (fr z b)
 rcases o.range (fr z a) (fr z b) with h | h | h
 ·exact .inl (.inl h)
 ·rcases Nat.le_total a.2 b.2 with k | k
  ·exact .inl (.inr ⟨h, k⟩)
  ·exact .inr (.inr ⟨by omega, k⟩)
 ·exact .inr (.inl (by omega)), fun {a b c} h k => by
 unfold le at *
 rcases h with h | ⟨h, h'⟩
 ·rcases k with k | ⟨k, _⟩
  ·exact .inl (o.trans h k)
  ·have := o.same' k (fr z a); exact .inl (by omega)
 ·have := o.same h (fr z c)
  rcases k with k | ⟨k, k'⟩
  ·exact .inl (by omega)
  ·exact .inr ⟨by omega, Nat.le_trans h' k'⟩⟩
structure Inv (ce : E → E → Int) (ls : List (List E)) (hs : List (Hd E)) (out : List E) : Prop where
 ne : ∀ h ∈ hs, h.1 ≠ []
 at_ : ∀ h ∈ hs, ∃ l t, ls[h.2]? = some l ∧ l = t ++ h.1
 sound : ∀ e ∈ out, Fst ce ls e
 full : ∀ i l e, ls[i]? = some l → e ∈ l → (∃ h ∈ hs, h.2 = i ∧ e ∈ h.1) ∨ ∃ x ∈ out, ce x e = 0
 srt : Srt ce out
 lo : ∀ x ∈ out, ∀ h ∈ hs, ∀ y ∈ h.1, ce x y ≤ 0
theorem Inv.perm {ls : List (List E)} {hs hs' : List (Hd E)} {out : List E} (h : Inv ce ls hs out) (p : hs'.Perm hs) : Inv ce ls hs' out :=
 ⟨fun x hx => h.ne x (p.mem_iff.1 hx), fun x hx => h.at_ x (p.mem_iff.1 hx), h.sound, fun i l e h1 h2 => (h.full i l e h1 h2).elim (fun ⟨x, hx, q⟩ => .inl ⟨x, p.mem_iff.2 hx, q⟩) .inr, h.srt, fun x hx y hy => h.lo x hx y (p.mem_iff.1 hy)⟩
theorem Inv.done (o : Ord ce) {ls : List (List E)} {out : List E} (hs : ∀ l ∈ ls, Srt ce l) (h : Inv ce ls [] out) : out = mrg ce ls := by
 refine Mg.eq o ⟨h.srt, fun e => ⟨h.sound e, ?_⟩⟩ (mrg_mg o hs)
 rintro ⟨i, l, e1, e2, q⟩
 rcases h.full i l e e1 e2 with ⟨x, hx, _⟩ | ⟨x, hx, k⟩
 ·simp at hx
 ·obtain ⟨i', l', e1', e2', q'⟩ := h.sound x hx
  rcases Nat.lt_trichotomy i i' with c | c | c
  ·exact absurd k (q' i c l e1 e e2)
  ·subst c
   rw [e1] at e1'
   obtain rfl := Option.some.inj e1'
   have := srt_same o (hs l (List.mem_iff_getElem?.2 ⟨i, e1⟩)) x e2' e e2 k
   rw [← this]
   exact hx
  ·exact absurd (o.symm k) (q i' c l' e1' x e2')
theorem Inv.start {ls : List (List E)} {hs : List (Hd E)} (h1 : ∀ h ∈ hs, h.1 ≠ [] ∧ ls[h.2]? = some h.1) (h2 : ∀ i l, ls[i]? = some l → l ≠ [] → (l, i) ∈ hs) : Inv ce ls hs [] :=
 ⟨fun h hh => (h1 h hh).1, fun h hh => ⟨h.1, [], (h1 h hh).2, rfl⟩, fun e he => by simp at he, fun i l e e1 e2 => .inl ⟨(l, i), h2 i l e1 (List.ne_nil_of_mem e2), rfl, e2⟩, List.Pairwise.nil, fun x hx => by simp at hx⟩
theorem suf_srt {ls : List (List E)} (hs : ∀ l ∈ ls, Srt ce l) {i : Nat} {l t r : List E} (h : ls[i]? = some l) (e : l = t ++ r) : Srt ce r := by
 have := hs l (List.mem_iff_getElem?.2 ⟨i, h⟩)
 rw [e] at this
 exact (List.pairwise_append.1 this).2.1
theorem Inv.step (o : Ord ce) (z : E) {ls : List (List E)} (hls : ∀ l ∈ ls, Srt ce l) {hs rest : List (Hd E)} {out : List E} {e : E} {t : List E} {i : Nat} (h : Inv ce ls hs out) (p : hs.Perm ((e :: t, i) :: rest)) (hm : ∀ x ∈ hs, le ce z (e :: t, i) x) (hs' : List (Hd E)) (hp : hs'.Perm (if t = [] then rest else (t, i) :: rest)) (b : Bool) (hb : b = true ↔ ∃ x ∈ out, ce x e = 0) :
  Inv ce ls hs' (if b = true then out else out ++ [e]) := by
 have H := h.perm p.symm
 obtain ⟨l0, t0, e0, s0⟩ := H.at_ (e :: t, i) (by simp)
 have hsr := List.pairwise_cons.1 (suf_srt hls e0 s0)
 have hmin : ∀ x ∈ hs, ∀ y ∈ x.1, ce e y ≤ 0 := by
  intro x hx y hy
  obtain ⟨l1, t1, e1, s1⟩ := h.at_ x hx
  have hsx := suf_srt hls e1 s1
  have h3 := hm x hx
  have h4 : ce e (fr z x) ≤ 0 := by
   rcases h3 with q | ⟨q, _⟩ <;> · simp only [fr, List.headD_cons] at q ⊢; omega
  cases hx1 : x.1 with
  | nil => rw [hx1] at hy; simp at hy
  | cons a r =>
   rw [hx1] at hy hsx
   simp only [fr, hx1, List.headD_cons] at h4
   rcases List.mem_cons.1 hy with rfl | hy
   ·exact h4
   ·have := (List.pairwise_cons.1 hsx).1 y hy
    exact o.le_trans h4 (by omega)
 have hmem : ∀ x ∈ hs', (x ∈ rest ∧ x ∈ hs) ∨ (t ≠ [] ∧ x = (t, i)) := by
  intro x hx
  have := hp.mem_iff.1 hx
  split at this
  ·exact .inl ⟨this, p.mem_iff.2 (List.mem_cons_of_mem _ this)⟩
  ·rcases List.mem_cons.1 this with q | q
   ·exact .inr ⟨by assumption, q⟩
   ·exact .inl ⟨q, p.mem_iff.2 (List.mem_cons_of_mem _ q)⟩
 have h0 : (e :: t, i) ∈ hs := p.mem_iff.2 (by simp)
 have hfst : b = false → Fst ce ls e := by
  intro hbf
  refine ⟨i, l0, e0, by rw [s0]; simp, fun j hj l' hl' e' he' k => ?_⟩
  rcases h.full j l' e' hl' he' with ⟨x, hx, hxj, hxe⟩ | ⟨x, hx, k2⟩
  ·have h3 := hm x hx
   obtain ⟨l1, t1, e1, s1⟩ := h.at_ x hx
   have hsx := suf_srt hls e1 s1
   cases hx1 : x.1 with
   | nil => rw [hx1] at hxe; simp at hxe
   | cons a r =>
    rw [hx1] at hxe hsx
    have h5 : ce a e' ≤ 0 := by
     rcases List.mem_cons.1 hxe with rfl | q
     ·have := o.refl e'; omega
     ·have := (List.pairwise_cons.1 hsx).1 e' q; omega
    have h6 : ce a e ≤ 0 := by have := o.same' k a; omega
    rcases h3 with q | ⟨q, q2⟩
    ·simp only [fr, hx1, List.headD_cons] at q
     have := o.neg a e
     omega
    ·simp only at q2
     omega
  ·have k3 := o.symm k
   have := o.same' k3 x
   have := hb.2 ⟨x, hx, by omega⟩
   rw [hbf] at this
   cases this
 refine ⟨fun x hx => ?_, fun x hx => ?_, fun x hx => ?_, fun j l y hl hy => ?_, ?_, fun x hx k hk y hy => ?_⟩
 ·rcases hmem x hx with ⟨_, q⟩ | ⟨q, rfl⟩
  ·exact h.ne x q
  ·exact q
 ·rcases hmem x hx with ⟨_, q⟩ | ⟨q, rfl⟩
  ·exact h.at_ x q
  ·exact ⟨l0, t0 ++ [e], e0, by rw [s0]; simp⟩
 ·cases b with
  | true => exact h.sound x hx
  | false =>
   rcases List.mem_append.1 hx with q | q
   ·exact h.sound x q
   ·rw [List.mem_singleton.1 q]; exact hfst rfl
 ·have hout : ∀ x ∈ out, x ∈ (if b = true then out else out ++ [e]) := fun x hx => by
   split
   ·exact hx
   ·exact List.mem_append.2 (.inl hx)
  rcases h.full j l y hl hy with ⟨x, hx, q1, q2⟩ | ⟨x, hx, q⟩
  ·rcases List.mem_cons.1 (p.mem_iff.1 hx) with rfl | hr
   ·rcases List.mem_cons.1 q2 with rfl | q2
    ·right
     cases b with
     | true =>
      obtain ⟨x, hx, k⟩ := hb.1 rfl
      exact ⟨x, hx, k⟩
     | false => exact ⟨y, by simp, o.refl y⟩
    ·left
     refine ⟨(t, i), hp.mem_iff.2 ?_, q1, q2⟩
     rw [if_neg (List.ne_nil_of_mem q2)]
     simp
   ·left
    refine ⟨x, hp.mem_iff.2 ?_, q1, q2⟩
    split
    ·exact hr
    ·exact List.mem_cons_of_mem _ hr
  ·exact .inr ⟨x, hout x hx, q⟩
 ·cases b with
  | true => exact h.srt
  | false =>
   show Srt ce (out ++ [e])
   refine List.pairwise_append.2 ⟨h.srt, List.pairwise_singleton _ _, fun x hx y hy => ?_⟩
   rw [List.mem_singleton.1 hy]
   have h1 := h.lo x hx _ h0 e (by simp)
   rcases o.range x e with q | q | q
   ·exact q
   ·have := hb.2 ⟨x, hx, q⟩
    cases this
   ·omega
 ·have hy' : (∃ k' ∈ hs, y ∈ k'.1) := by
   rcases hmem k hk with ⟨_, q⟩ | ⟨q, rfl⟩
   ·exact ⟨k, q, hy⟩
   ·exact ⟨_, h0, List.mem_cons_of_mem _ hy⟩
  obtain ⟨k', hk', hy'⟩ := hy'
  cases b with
  | true => exact h.lo x hx k' hk' y hy'
  | false =>
   rcases List.mem_append.1 hx with q | q
   ·exact h.lo x q k' hk' y hy'
   ·rw [List.mem_singleton.1 q]; exact hmin k' hk' y hy'
end
end Go.Proofs.YtchgpcgolgcfdaaGreatW.PuMrg
end
section
namespace Go.Proofs.YtchgpcgolgcfdaaGreatW.PuMrg
set_option linter.unusedVariables false
set_option linter.unusedSimpArgs false
section
variable {E : Type} {ce : E → E → Int}
theorem mrg_srt (o : Ord ce) {ls : List (List E)} (h : ∀ l ∈ ls, Srt ce l) : Srt ce (mrg ce ls) := (mrg_mg o h).1
theorem mrg_mem (o : Ord ce) {ls : List (List E)} (h : ∀ l ∈ ls, Srt ce l) {e : E} (he : e ∈ mrg ce ls) : ∃ l ∈ ls, e ∈ l := by
 obtain ⟨i, l, h1, h2, _⟩ := ((mrg_mg o h).2 e).1 he
 exact ⟨l, List.mem_iff_getElem?.2 ⟨i, h1⟩, h2⟩
theorem ins_len (ce : E → E → Int) (e : E) : ∀ l : List E, (ins ce e l).length ≤ l.length + 1
 | [] => by simp [ins]
 | x :: r => by
  rw [ins]
  have := ins_len ce e r
  split
  ·simp; omega
  ·split
   ·simp
   ·simp
theorem foldl_len (ce : E → E → Int) : ∀ (xs acc : List E), (xs.foldl (fun a e => ins ce e a) acc).length ≤ acc.length + xs.length
 | [], acc => by simp
 | x :: xs, acc => by
  rw [List.foldl_cons]
  have h1 := foldl_len ce xs (ins ce x acc)
  have h2 := ins_len ce x acc
  simp only [List.length_cons]
  omega
theorem mrg_len (ce : E → E → Int) (ls : List (List E)) : (mrg ce ls).length ≤ ls.flatten.length := by
 have := foldl_len ce ls.flatten []
 simpa [mrg] using this
end
end Go.Proofs.YtchgpcgolgcfdaaGreatW.PuMrg
end
section
namespace Go.Proofs.YtchgpcgolgcfdaaGreat.Hp
open Go Go.RowKit Go.Proofs.YtchgpcgolgcfdaaGreat.PNum Go.Proofs.YtchgpcgolgcfdaaGreat.BkW Go.Proofs.YtchgpcgolgcfdaaGreat.PuIkC Go.Proofs.YtchgpcgolgcfdaaGreatW.PrintWords Go.Proofs.YtchgpcgolgcfdaaGreatW.PrintLast Go.Proofs.YtchgpcgolgcfdaaGreatW.PrintMore Go.Proofs.YtchgpcgolgcfdaaGreatW.Pu Go.Proofs.YtchgpcgolgcfdaaGreatW.PuMrg Go.Proofs.YtchgpcgolgcfdaaGreatW.PuHeap
set_option linter.unusedVariables false
set_option linter.unusedSimpArgs false
abbrev E := S32
abbrev kE := k32
theorem nan_calls (x : Int) (w : World) : Calls Tryz.prog 295 #[.int .i64 x] w fun e w' => e = .returned (.bool false) ∧ Below w.heap.size w w' := by
 have h0 : (x != x) = false := bne_self_eq_false x
 go_enter Tryz.func295, Tryz.ntmps295
 go_wp2
 go_ret
 exact ⟨rfl, Below.refl _ _⟩
set_option maxHeartbeats 8000000 in
theorem cmp_calls (x y : Int) (w : World) : Calls Tryz.prog 294 #[.int .i64 x, .int .i64 y] w fun e w' => e = .returned (.int .i64 (cs x y)) ∧ Below w.heap.size w w' := by
 have HB := Aside0.mk (Below.refl w.heap.size w)
 unfold cs
 by_cases h1 : x < y
 ·have t1 : decide (x < y) = true := decide_eq_true h1
  rw [if_pos h1]
  go_enter Tryz.func294, Tryz.ntmps294
  go_wp2_with (first | (go_at_call 295; refine (nan_calls _ _).mono ?_; rintro e w1 ⟨rfl, hb⟩; have n0_ := Aside0.mk (below_step HB.out hb); clear HB hb; have HB := n0_; clear n0_))
  go_ret
  exact ⟨rfl, HB.out⟩
 ·have t1 : decide (x < y) = false := decide_eq_false h1
  rw [if_neg h1]
  by_cases h2 : x > y
  ·have t2 : decide (y < x) = true := decide_eq_true h2
   rw [if_pos h2]
   go_enter Tryz.func294, Tryz.ntmps294
   go_wp2_with (first | (go_at_call 295; refine (nan_calls _ _).mono ?_; rintro e w1 ⟨rfl, hb⟩; have n0_ := Aside0.mk (below_step HB.out hb); clear HB hb; have HB := n0_; clear n0_))
   go_ret
   exact ⟨rfl, HB.out⟩
  ·have t2 : decide (y < x) = false := decide_eq_false h2
   rw [if_neg h2]
   go_enter Tryz.func294, Tryz.ntmps294
   go_wp2_with (first | (go_at_call 295; refine (nan_calls _ _).mono ?_; rintro e w1 ⟨rfl, hb⟩; have n0_ := Aside0.mk (below_step HB.out hb); clear HB hb; have HB := n0_; clear n0_))
   go_ret
   exact ⟨rfl, HB.out⟩
structure Fr where
 A : Option Addr
 c : Nat
 l : List E
 p : Nat
def encH (h : Fr) : List Value := [.slice h.A h.l.length h.c, .int .i64 (h.p : Int)]
def zE : E := ⟨⟨#[]⟩, 0, 0, ⟨#[]⟩⟩
def hdE (h : Fr) : E := h.l.headD zE
def pr (h : Fr) : Hd E := (h.l, h.p)
def lsI (a b : Fr) : Int := if ce (hdE a) (hdE b) = 0 then cs (a.p : Int) (b.p : Int) else ce (hdE a) (hdE b)
def ls (a b : Fr) : Bool := decide (lsI a b < 0)
theorem cells_of {w : World} {g c : Nat} {hs : List Fr} {o : Nat} (h : Rw w 188 2 (.slice (some ⟨g, o, none⟩) hs.length c) hs.length (encL encH hs)) {i : Nat} (hi : i < hs.length) :
  w.cell? ⟨g, o + i * 2, none⟩ = some (.slice hs[i].A hs[i].l.length hs[i].c) ∧ w.cell? ⟨g, o + i * 2 + 1, none⟩ = some (.int .i64 (hs[i].p : Int)) := by
 obtain ⟨g', o', c', e, hc, hf, hcell⟩ := h.form (by omega)
 injection e with e1 e2 e3
 injection e1 with e1
 injection e1 with e1 e4
 subst e1; subst e4
 have hl : ∀ (xs : List Fr) (j : Nat) (x : Fr), xs[j]? = some x → (encL encH xs)[j * 2]? = some (.slice x.A x.l.length x.c) ∧ (encL encH xs)[j * 2 + 1]? = some (.int .i64 (x.p : Int)) := by
  intro xs
  induction xs with
  | nil => intro j x hx; simp at hx
  | cons a xs ih =>
   intro j x hx
   cases j with
   | zero =>
    have : a = x := by simpa using hx
    subst this
    exact ⟨rfl, rfl⟩
   | succ j =>
    have := ih j x (by simpa using hx)
    have e1 : encL encH (a :: xs) = [.slice a.A a.l.length a.c, .int .i64 (a.p : Int)] ++ encL encH xs := rfl
    rw [e1, show (j + 1) * 2 = 2 + j * 2 from by omega, show 2 + j * 2 + 1 = 2 + (j * 2 + 1) from by omega, List.getElem?_append_right (by simp), List.getElem?_append_right (by first | (simp; done) | (simp; omega))]
    simpa using this
 have h1 := hl hs i hs[i] (List.getElem?_eq_getElem hi)
 refine ⟨hcell _ _ h1.1, ?_⟩
 have := hcell _ _ h1.2
 rw [← Nat.add_assoc] at this
 exact this
end Go.Proofs.YtchgpcgolgcfdaaGreat.Hp
end
section
namespace Go.Proofs.YtchgpcgolgcfdaaGreat.Hp
open Go Go.RowKit Go.Proofs.YtchgpcgolgcfdaaGreat.PNum Go.Proofs.YtchgpcgolgcfdaaGreat.BkW Go.Proofs.YtchgpcgolgcfdaaGreat.PuIkC Go.Proofs.YtchgpcgolgcfdaaGreatW.PrintWords Go.Proofs.YtchgpcgolgcfdaaGreatW.PrintLast Go.Proofs.YtchgpcgolgcfdaaGreatW.PrintMore Go.Proofs.YtchgpcgolgcfdaaGreatW.Pu Go.Proofs.YtchgpcgolgcfdaaGreatW.PuMrg Go.Proofs.YtchgpcgolgcfdaaGreatW.PuHeap
set_option linter.unusedVariables false
set_option linter.unusedSimpArgs false
theorem ecell0 {w : World} {A : Option Addr} {l : List E} (hC : Kd.C kE w A l.length l) (hi : l ≠ []) : ∃ ad, A = some ad ∧ (w.cell? ad = some (.string (l.headD zE).f0) ∧ w.cell? ⟨ad.block, ad.off + 1, none⟩ = some (.int .u64 (l.headD zE).f1) ∧ w.cell? ⟨ad.block, ad.off + 2, none⟩ = some (.int .i64 (l.headD zE).f2) ∧ w.cell? ⟨ad.block, ad.off + 3, none⟩ = some (.string (l.headD zE).f3)) := by
 have h0 : 0 < l.length := List.length_pos_iff.2 hi
 obtain ⟨ad, e0, y0, y1, y2, y3⟩ := at_T32 hC (0 : Int) (by omega) (by omega)
 have hx : rd_T32 l (0 : Int) = l.headD zE := by
  cases l with
  | nil => exact absurd rfl hi
  | cons a l => simp [rd_T32]
 have hz : ad.add (Int.toNat 0 * 4) = ad := by simp [Addr.add]
 rw [hx] at y0 y1 y2 y3
 rw [hz] at y0 y1 y2 y3
 exact ⟨ad, e0, y0, y1, y2, y3⟩
def encI (x : Int) : List Value := [.int .i64 x]
theorem flatI : Flat (Kd.int .i64) encI := ⟨fun _ => rfl, fun h => h, fun _ _ => rfl, fun h => h⟩
theorem cmp_calls' (x y c : Int) (h : c = cs x y) (w : World) : Calls Tryz.prog 294 #[.int .i64 x, .int .i64 y] w fun e w' => e = .returned (.int .i64 c) ∧ Below w.heap.size w w' := by
 subst h
 exact cmp_calls x y w
theorem lit2 (W : World) (a b : Int) : Kd.C (Kd.int .i64) (W.alloc (.cells #[.int .i64 a, .int .i64 b] 3)) (some ⟨W.heap.size, 0, none⟩) 2 [a, b] := by
 have hb := blk_new W (.cells #[.int .i64 a, .int .i64 b] 3)
 refine flatI.to_C (e := 3) (c := 2) ⟨rfl, .inr ⟨W.heap.size, 0, 2, #[.int .i64 a, .int .i64 b], rfl, by simpa using hb, Nat.le_refl 2, by decide, Nat.le_refl 2, rfl⟩⟩ rfl
set_option maxHeartbeats 16000000 in
set_option maxRecDepth 100000 in
theorem less_calls {w : World} {g c o : Nat} {hs : List Fr} (h : Rw w 188 2 (.slice (some ⟨g, o, none⟩) hs.length c) hs.length (encL encH hs)) (hl : ∀ x ∈ hs, Kd.C kE w x.A x.l.length x.l) {i j : Nat} (hi : i < hs.length) (hj : j < hs.length) (ni : hs[i].l ≠ []) (nj : hs[j].l ≠ []) :
  Calls Tryz.prog 292 #[.slice (some ⟨g, o, none⟩) hs.length c, .int .i64 (i : Int), .int .i64 (j : Int)] w fun e w' => e = .returned (.bool (ls hs[i] hs[j])) ∧ Below w.heap.size w w' := by
 obtain ⟨r0, r1⟩ := cells_of h hi
 obtain ⟨s0, s1⟩ := cells_of h hj
 have ci := hl _ (List.getElem_mem hi)
 have cj := hl _ (List.getElem_mem hj)
 obtain ⟨ai, e1, y0, y1, y2, y3⟩ := ecell0 ci ni
 obtain ⟨aj, e2, z0, z1, z2, z3⟩ := ecell0 cj nj
 have li : 0 < hs[i].l.length := List.length_pos_iff.2 ni
 have lj : 0 < hs[j].l.length := List.length_pos_iff.2 nj
 unfold ls lsI hdE
 rw [e1] at r0
 rw [e2] at s0
 clear ci cj ni nj e1 e2 hl h
 generalize hs[i].l.headD zE = x at *
 generalize hs[j].l.headD zE = y at *
 generalize hs[i].p = pi_ at *
 generalize hs[j].p = pj at *
 generalize hs[i].l.length = ni at *
 generalize hs[j].l.length = nj at *
 generalize hs[i].c = ki at *
 generalize hs[j].c = kj at *
 generalize hs.length = n at *
 have p1 : (0 : Int) ≤ (i : Int) := Int.natCast_nonneg _
 have p2 : (0 : Int) ≤ (j : Int) := Int.natCast_nonneg _
 have q1 : (i : Int) < (n : Int) := Int.ofNat_lt.mpr hi
 have q2 : (j : Int) < (n : Int) := Int.ofNat_lt.mpr hj
 have q3 : (0 : Int) < (ni : Int) := Int.ofNat_lt.mpr li
 have q4 : (0 : Int) < (nj : Int) := Int.ofNat_lt.mpr lj
 have HB := Aside0.mk (Below.refl w.heap.size w)
 obtain ⟨kc, hkc⟩ := Compare_ev x y
 have HKC := Aside0.mk (hkc kc (Nat.le_refl _))
 obtain ⟨ko, hko⟩ := Or_ev (ce x y) (cs (pi_ : Int) (pj : Int))
 have HKO := Aside0.mk (hko ko (Nat.le_refl _))
 clear hkc hko
 have HS : Aside0 (∀ V, Below w.heap.size w V → V.cell? ⟨g, o + i * 2, none⟩ = some (.slice (some ai) ni ki) ∧ V.cell? ⟨g, o + i * 2 + 1, none⟩ = some (.int .i64 (pi_ : Int)) ∧ V.cell? ⟨g, o + j * 2, none⟩ = some (.slice (some aj) nj kj) ∧ V.cell? ⟨g, o + j * 2 + 1, none⟩ = some (.int .i64 (pj : Int)) ∧
   V.cell? ai = some (.string x.f0) ∧ V.cell? ⟨ai.block, ai.off + 1, none⟩ = some (.int .u64 x.f1) ∧ V.cell? ⟨ai.block, ai.off + 2, none⟩ = some (.int .i64 x.f2) ∧ V.cell? ⟨ai.block, ai.off + 3, none⟩ = some (.string x.f3) ∧
   V.cell? aj = some (.string y.f0) ∧ V.cell? ⟨aj.block, aj.off + 1, none⟩ = some (.int .u64 y.f1) ∧ V.cell? ⟨aj.block, aj.off + 2, none⟩ = some (.int .i64 y.f2) ∧ V.cell? ⟨aj.block, aj.off + 3, none⟩ = some (.string y.f3)) :=
  ⟨fun V hb => ⟨pw_cell_below hb r0, pw_cell_below hb r1, pw_cell_below hb s0, pw_cell_below hb s1, pw_cell_below hb y0, pw_cell_below hb y1, pw_cell_below hb y2, pw_cell_below hb y3, pw_cell_below hb z0, pw_cell_below hb z1, pw_cell_below hb z2, pw_cell_below hb z3⟩⟩
 obtain ⟨oo, hoo⟩ : ∃ oo, oo = (if ce x y = 0 then cs (pi_ : Int) (pj : Int) else ce x y) := ⟨_, rfl⟩
 rw [← hoo] at HKO ⊢
 clear hoo
 generalize ce x y = cxy at *
 obtain ⟨cpp, hcpp⟩ : ∃ cpp, cpp = cs (pi_ : Int) (pj : Int) := ⟨_, rfl⟩
 rw [← hcpp] at HKO
 have HPP := Aside0.mk hcpp
 clear hcpp
 go_enter Tryz.func292, Tryz.ntmps292
 go_wp2
 go_region_held3 (fun V => V.cell? ⟨g, o + i * 2, none⟩ = some (.slice (some ai) ni ki) ∧ V.cell? ⟨g, o + i * 2 + 1, none⟩ = some (.int .i64 (pi_ : Int)) ∧ V.cell? ⟨g, o + j * 2, none⟩ = some (.slice (some aj) nj kj) ∧ V.cell? ⟨g, o + j * 2 + 1, none⟩ = some (.int .i64 (pj : Int)) ∧
   V.cell? ai = some (.string x.f0) ∧ V.cell? ⟨ai.block, ai.off + 1, none⟩ = some (.int .u64 x.f1) ∧ V.cell? ⟨ai.block, ai.off + 2, none⟩ = some (.int .i64 x.f2) ∧ V.cell? ⟨ai.block, ai.off + 3, none⟩ = some (.string x.f3) ∧
   V.cell? aj = some (.string y.f0) ∧ V.cell? ⟨aj.block, aj.off + 1, none⟩ = some (.int .u64 y.f1) ∧ V.cell? ⟨aj.block, aj.off + 2, none⟩ = some (.int .i64 y.f2) ∧ V.cell? ⟨aj.block, aj.off + 3, none⟩ = some (.string y.f3)) (exact HS.out _ (by repeat (first | exact HB.out | apply below_alloc | apply pw_below_drewN | apply below_drew1))) (first
  | (go_at_call 47; refine (ikey_Compare.calls kc _ _ _ _ _ _ _ _ cxy _ HKC.out).mono ?_; rintro e w1 ⟨rfl, hb⟩; have n0_ := Aside0.mk (below_step (by repeat (first | exact HB.out | apply below_alloc | apply pw_below_drewN | apply below_drew1)) hb); clear HB hb; have HB := n0_; clear n0_)
  | (go_at_call 294; refine (cmp_calls' _ _ _ HPP.out _).mono ?_; rintro e w2 ⟨rfl, hb⟩; have n0_ := Aside0.mk (below_step (by repeat (first | exact HB.out | apply below_alloc | apply pw_below_drewN | apply below_drew1)) hb); clear HB hb; have HB := n0_; clear n0_)
  | (go_at_call 168; refine (cmp_Or_int.calls ko _ _ [cxy, cpp] oo _ (lit2 _ cxy cpp) (Nat.le_refl 2) HKO.out).mono ?_; rintro e w3 ⟨rfl, hb⟩; have n0_ := Aside0.mk (below_step (by repeat (first | exact HB.out | apply below_alloc | apply pw_below_drewN | apply below_drew1)) hb.below); clear HB hb; have HB := n0_; clear n0_))
 all_goals
  go_wp2_with (fail)
  go_ret
  exact ⟨rfl, HB.out⟩
end Go.Proofs.YtchgpcgolgcfdaaGreat.Hp
end
section
namespace Go.Proofs.YtchgpcgolgcfdaaGreat.Hp
open Go Go.RowKit Go.Proofs.YtchgpcgolgcfdaaGreat.PNum Go.Proofs.YtchgpcgolgcfdaaGreat.BkW Go.Proofs.YtchgpcgolgcfdaaGreat.PuIkC Go.Proofs.YtchgpcgolgcfdaaGreatW.PrintWords Go.Proofs.YtchgpcgolgcfdaaGreatW.PrintLast Go.Proofs.YtchgpcgolgcfdaaGreatW.PrintMore Go.Proofs.YtchgpcgolgcfdaaGreatW.Pu Go.Proofs.YtchgpcgolgcfdaaGreatW.PuMrg Go.Proofs.YtchgpcgolgcfdaaGreatW.PuHeap
set_option linter.unusedVariables false
set_option linter.unusedSimpArgs false
theorem encH_len : ∀ xs : List Fr, (encL encH xs).length = xs.length * 2
 | [] => rfl
 | x :: xs => by
  have e1 : encL encH (x :: xs) = encH x ++ encL encH xs := rfl
  rw [e1, List.length_append, encH_len xs]
  show 2 + _ = _
  simp
  omega
theorem encH_set (x : Fr) : ∀ (xs : List Fr) (j : Nat), j < xs.length → (encL encH xs).take (j * 2) ++ encH x ++ (encL encH xs).drop (j * 2 + (encH x).length) = encL encH (xs.set j x)
 | [], j, h => by simp at h
 | a :: xs, 0, h => by
  have e1 : encL encH (a :: xs) = encH a ++ encL encH xs := rfl
  rw [List.set_cons_zero, e1]
  rfl
 | a :: xs, j + 1, h => by
  have e1 : encL encH (a :: xs) = encH a ++ encL encH xs := rfl
  have e2 : encL encH (a :: xs.set j x) = encH a ++ encL encH (xs.set j x) := rfl
  have ih := encH_set x xs j (by simpa using h)
  rw [List.set_cons_succ, e1, e2, ← ih]
  have h2 : (encH a).length = 2 := rfl
  have h3 : (encH x).length = 2 := rfl
  rw [show (j + 1) * 2 = (encH a).length + j * 2 from by rw [h2]; omega, List.take_length_add_append, show (encH a).length + j * 2 + (encH x).length = (encH a).length + (j * 2 + (encH x).length) from by omega, List.drop_length_add_append]
  simp
theorem Rw.seth {w : World} {g c o : Nat} {hs : List Fr} (h : Rw w 188 2 (.slice (some ⟨g, o, none⟩) hs.length c) hs.length (encL encH hs)) {i : Nat} (hi : i < hs.length) (x : Fr) :
  Rw ((w.setCell ⟨g, o + i * 2, none⟩ (.slice x.A x.l.length x.c)).setCell ⟨g, o + i * 2 + 1, none⟩ (.int .i64 (x.p : Int))) 188 2 (.slice (some ⟨g, o, none⟩) (hs.set i x).length c) (hs.set i x).length (encL encH (hs.set i x)) := by
 have h1 := h.put (p := i * 2) (seg := encH x) (by rw [encH_len]; show i * 2 + 2 ≤ _; omega)
 rw [encH_set x hs i hi] at h1
 rw [List.length_set]
 exact h1
theorem swL_eq (hs : List Fr) {i j : Nat} (hi : i < hs.length) (hj : j < hs.length) : swL hs i j = (hs.set i hs[j]).set j hs[i] := by
 unfold swL
 rw [dif_pos ⟨hi, hj⟩]
theorem frozen_of {w : World} {g c o : Nat} {hs : List Fr} (h : Rw w 188 2 (.slice (some ⟨g, o, none⟩) hs.length c) hs.length (encL encH hs)) (h0 : 0 < hs.length) (q : Nat) : w.frozen? ⟨g, q, none⟩ = false := by
 obtain ⟨g', o', c', e, hc, hf, hcell⟩ := h.form h0
 injection e with e1 e2 e3
 injection e1 with e1
 injection e1 with e1 e4
 rw [e1]
 exact hf q
theorem cell?_setCell_some {w : World} {p q : Addr} {x v : Value} (h : w.cell? q = some v) : ∃ v', (w.setCell p x).cell? q = some v' := by
 by_cases e : p = q
 ·subst e; exact ⟨x, World.cell?_setCell_same w p x h⟩
 ·exact ⟨v, (World.cell?_setCell_other w p q x e).trans h⟩
set_option maxHeartbeats 16000000 in
set_option maxRecDepth 100000 in
theorem swap_calls {w0 w : World} {g c o : Nat} {hs : List Fr} (h : Rw w 188 2 (.slice (some ⟨g, o, none⟩) hs.length c) hs.length (encL encH hs)) (hb : Below w0.heap.size w0 w) (hg : w0.heap.size ≤ g) {i j : Nat} (hi : i < hs.length) (hj : j < hs.length) :
  Calls Tryz.prog 293 #[.slice (some ⟨g, o, none⟩) hs.length c, .int .i64 (i : Int), .int .i64 (j : Int)] w fun e w' => e = .returned (.tuple #[]) ∧ Rw w' 188 2 (.slice (some ⟨g, o, none⟩) hs.length c) hs.length (encL encH (swL hs i j)) ∧ Below w0.heap.size w0 w' ∧ w'.heap.size = w.heap.size ∧ ∀ k, k ≠ g → w'.heap[k]? = w.heap[k]? := by
 obtain ⟨r0, r1⟩ := cells_of h hi
 obtain ⟨s0, s1⟩ := cells_of h hj
 have hf := frozen_of h (by omega)
 have hR : ∀ V : World, Rw V 188 2 (.slice (some ⟨g, o, none⟩) hs.length c) hs.length (encL encH hs) → Rw ((((V.setCell ⟨g, o + i * 2, none⟩ (.slice hs[j].A hs[j].l.length hs[j].c)).setCell ⟨g, o + i * 2 + 1, none⟩ (.int .i64 (hs[j].p : Int))).setCell ⟨g, o + j * 2, none⟩ (.slice hs[i].A hs[i].l.length hs[i].c)).setCell ⟨g, o + j * 2 + 1, none⟩ (.int .i64 (hs[i].p : Int))) 188 2 (.slice (some ⟨g, o, none⟩) hs.length c) hs.length (encL encH (swL hs i j)) := by
  intro V hV
  have h1 := Rw.seth (Rw.seth hV hi hs[j]) (i := j) (by rw [List.length_set]; exact hj) hs[i]
  rw [swL_eq hs hi hj]
  simpa using h1
 have p1 : (0 : Int) ≤ (i : Int) := Int.natCast_nonneg _
 have p2 : (0 : Int) ≤ (j : Int) := Int.natCast_nonneg _
 have q1 : (i : Int) < (hs.length : Int) := Int.ofNat_lt.mpr hi
 have q2 : (j : Int) < (hs.length : Int) := Int.ofNat_lt.mpr hj
 have HR := Aside0.mk hR
 have HH := Aside0.mk h
 have HB := Aside0.mk hb
 have HG := Aside0.mk hg
 have f0 := hf (o + i * 2)
 have f1 := hf (o + i * 2 + 1)
 have f2 := hf (o + j * 2)
 have f3 := hf (o + j * 2 + 1)
 clear hR hf h hb hg
 generalize hs[i].A = Ai at *
 generalize hs[i].l.length = ni at *
 generalize hs[i].c = ki at *
 generalize (hs[i].p : Int) = pi_ at *
 generalize hs[j].A = Aj at *
 generalize hs[j].l.length = nj at *
 generalize hs[j].c = kj at *
 generalize (hs[j].p : Int) = pj at *
 have hd0 : w.drew.cell? ⟨g, o + i * 2, none⟩ = some (.slice Ai ni ki) := r0
 have hd1 : w.drew.cell? ⟨g, o + i * 2 + 1, none⟩ = some (.int .i64 pi_) := r1
 have hd2 : w.drew.cell? ⟨g, o + j * 2, none⟩ = some (.slice Aj nj kj) := s0
 have hd3 : w.drew.cell? ⟨g, o + j * 2 + 1, none⟩ = some (.int .i64 pj) := s1
 obtain ⟨v1, k1⟩ := cell?_setCell_some (w := w) (p := ⟨g, o + i * 2, none⟩) (x := .slice Aj nj kj) (q := ⟨g, o + i * 2 + 1, none⟩) (v := .int .i64 pi_) r1
 obtain ⟨v2, k2⟩ := cell?_setCell_some (w := w) (p := ⟨g, o + i * 2, none⟩) (x := .slice Aj nj kj) (q := ⟨g, o + j * 2, none⟩) (v := .slice Aj nj kj) s0
 obtain ⟨v3, k3⟩ := cell?_setCell_some (w := w) (p := ⟨g, o + i * 2, none⟩) (x := .slice Aj nj kj) (q := ⟨g, o + j * 2 + 1, none⟩) (v := .int .i64 pj) s1
 obtain ⟨v4, k4⟩ := cell?_setCell_some (p := ⟨g, o + i * 2 + 1, none⟩) (x := .int .i64 pj) (q := ⟨g, o + j * 2, none⟩) k2
 obtain ⟨v5, k5⟩ := cell?_setCell_some (p := ⟨g, o + i * 2 + 1, none⟩) (x := .int .i64 pj) (q := ⟨g, o + j * 2 + 1, none⟩) k3
 obtain ⟨v6, k6⟩ := cell?_setCell_some (p := ⟨g, o + j * 2, none⟩) (x := .slice Ai ni ki) (q := ⟨g, o + j * 2 + 1, none⟩) k5
 go_enter Tryz.func293, Tryz.ntmps293
 go_wp2
 go_region
 all_goals
  (try go_wp2)
  first | go_end0 | ((try simp only [Exit.inBlock, Exit.then]); refine bodyPost_ret (results_none rfl _ _ _) rfl ?_)
  refine ⟨rfl, HR.out w HH.out, ?_, ?_, ?_⟩
  ·have := below_set (below_set (below_set (below_set HB.out HG.out (j := o + i * 2) (v := .slice Aj nj kj)) HG.out (j := o + i * 2 + 1) (v := .int .i64 pj)) HG.out (j := o + j * 2) (v := .slice Ai ni ki)) HG.out (j := o + j * 2 + 1) (v := .int .i64 pi_)
   exact below_drew1 this
  ·show ((((w.setCell _ _).setCell _ _).setCell _ _).setCell _ _).heap.size = _
   simp [World.setCell]
  ·intro k hk
   exact (Below.heap_setCell _ _ _ k (fun e => hk e)).trans ((Below.heap_setCell _ _ _ k (fun e => hk e)).trans ((Below.heap_setCell _ _ _ k (fun e => hk e)).trans (Below.heap_setCell _ _ _ k (fun e => hk e))))
end Go.Proofs.YtchgpcgolgcfdaaGreat.Hp
end
section
namespace Go.Proofs.YtchgpcgolgcfdaaGreat.Hp
open Go Go.RowKit Go.Proofs.YtchgpcgolgcfdaaGreat.PNum Go.Proofs.YtchgpcgolgcfdaaGreat.BkW Go.Proofs.YtchgpcgolgcfdaaGreat.PuIkC Go.Proofs.YtchgpcgolgcfdaaGreatW.PrintWords Go.Proofs.YtchgpcgolgcfdaaGreatW.PrintLast Go.Proofs.YtchgpcgolgcfdaaGreatW.PrintMore Go.Proofs.YtchgpcgolgcfdaaGreatW.Pu Go.Proofs.YtchgpcgolgcfdaaGreatW.PuMrg Go.Proofs.YtchgpcgolgcfdaaGreatW.PuHeap
set_option linter.unusedVariables false
set_option linter.unusedSimpArgs false
def Kf (w w1 : World) (g : Nat) (A : Option Addr) : Prop := w.heap.size ≤ w1.heap.size ∧ ∀ k, k < w.heap.size → k ≠ g → (Value.slice A 0 0).ownBlock ≠ some k → w1.heap[k]? = w.heap[k]?
theorem Kf.refl (w : World) (g : Nat) (A : Option Addr) : Kf w w g A := ⟨Nat.le_refl _, fun _ _ _ _ => rfl⟩
theorem Kf.trans {a b c : World} {g : Nat} {A : Option Addr} (h : Kf a b g A) (k : Kf b c g A) : Kf a c g A := ⟨Nat.le_trans h.1 k.1, fun i hi h1 h2 => (k.2 i (Nat.lt_of_lt_of_le hi h.1) h1 h2).trans (h.2 i hi h1 h2)⟩
theorem Kf.of_below {w w1 : World} (hb : Below w.heap.size w w1) (g : Nat) (A : Option Addr) : Kf w w1 g A := ⟨hb.size, fun k hk _ _ => hb.block k hk⟩
structure Hm (w0 wb w : World) (g : Nat) (A : Option Addr) (c : Nat) (hs : List Fr) : Prop where
 blk : w.heap[g]? = some (.cells #[.slice A hs.length c] 186 (0, 0))
 row : Rw w 188 2 (.slice A hs.length c) hs.length (encL encH hs)
 rb : ∀ k, (Value.slice A hs.length c).ownBlock = some k → w0.heap.size ≤ k
 gb : w0.heap.size ≤ g
 bel : Below w0.heap.size w0 w
 fr : Kf wb w g A
 ls : ∀ x ∈ hs, Kd.C kE w0 x.A x.l.length x.l ∧ x.l.length ≤ x.c
section
variable {w0 wb w w1 : World} {g c : Nat} {A : Option Addr} {hs : List Fr}
theorem Hm.below (h : Hm w0 wb w g A c hs) (hb : Below w.heap.size w w1) : Hm w0 wb w1 g A c hs := ⟨blk_below h.blk hb, h.row.below hb, h.rb, h.gb, below_step h.bel hb, h.fr.trans (Kf.of_below hb g A), h.ls⟩
theorem Hm.reset (h : Hm w0 wb w g A c hs) : Hm w0 w w g A c hs := ⟨h.blk, h.row, h.rb, h.gb, h.bel, Kf.refl _ _ _, h.ls⟩
theorem Hm.some_ (h : Hm w0 wb w g A c hs) (h0 : 0 < hs.length) : ∃ G o, A = some ⟨G, o, none⟩ ∧ G ≠ g ∧ w0.heap.size ≤ G := by
 obtain ⟨G, o, c', e, _⟩ := h.row.form h0
 injection e with e1 _ _
 subst e1
 refine ⟨G, o, rfl, ?_, h.rb G (by simp [Value.ownBlock])⟩
 rintro rfl
 obtain ⟨cur, hc⟩ := h.row.typed G (by simp [Value.ownBlock])
 have := h.blk.symm.trans hc
 simp at this
theorem Hm.less (h : Hm w0 wb w g A c hs) {i j : Nat} (hi : i < hs.length) (hj : j < hs.length) (ni : hs[i].l ≠ []) (nj : hs[j].l ≠ []) :
  Calls Tryz.prog 292 #[.slice A hs.length c, .int .i64 (i : Int), .int .i64 (j : Int)] w fun e w' => e = .returned (.bool (Hp.ls hs[i] hs[j])) ∧ Hm w0 wb w' g A c hs := by
 obtain ⟨G, o, rfl, _, _⟩ := h.some_ (by omega)
 refine (less_calls h.row (fun x hx => Kd.C_below (h.ls x hx).1 h.bel) hi hj ni nj).mono ?_
 rintro e w' ⟨rfl, hb⟩
 exact ⟨rfl, h.below hb⟩
theorem Hm.swap (h : Hm w0 wb w g A c hs) {i j : Nat} (hi : i < hs.length) (hj : j < hs.length) :
  Calls Tryz.prog 293 #[.slice A hs.length c, .int .i64 (i : Int), .int .i64 (j : Int)] w fun e w' => e = .returned (.tuple #[]) ∧ Hm w0 wb w' g A c (swL hs i j) := by
 obtain ⟨G, o, rfl, hne, hG⟩ := h.some_ (by omega)
 refine (swap_calls h.row h.bel hG hi hj).mono ?_
 rintro e w' ⟨rfl, hr, hb, hsz, hk⟩
 refine ⟨rfl, ?_, ?_, ?_, h.gb, hb, h.fr.trans ⟨Nat.le_of_eq hsz.symm, fun k hk1 _ hk3 => hk k (fun e => hk3 (by rw [e]; simp [Value.ownBlock]))⟩, fun x hx => h.ls x ((swL_perm hs i j).mem_iff.1 hx)⟩
 ·rw [swL_len, hk g hne.symm]; exact h.blk
 ·rw [swL_len]; exact hr
 ·rw [swL_len]; exact h.rb
end
set_option maxHeartbeats 4000000 in
set_option maxRecDepth 100000 in
theorem len_calls (A : Option Addr) (n c : Nat) (w : World) : Calls Tryz.prog 291 #[.slice A n c] w fun e w' => e = .returned (.int .i64 (n : Int)) ∧ Below w.heap.size w w' := by
 go_enter Tryz.func291, Tryz.ntmps291
 go_wp2
 go_ret
 exact ⟨rfl, Below.refl _ _⟩
theorem load_v (g : Nat) (v : Value) (w : World) (h : w.cell? ⟨g, 0, none⟩ = some v) : (loadVar 186 ⟨g, 0, none⟩).run Tryz.prog w = .ok v w := by
 have hu := Tryz.underlying186
 go_simp
theorem wrap_some (ts : Array TypeId) (t : TypeId) (a : Addr) (x y : String) (w : World) : (Builtin.ssaWrapNilChk_ ts t #[.pointer (some a), strVal x, strVal y]).run Tryz.prog w = .ok (.pointer (some a)) w := rfl
theorem m_val (g : Nat) (f : FuncId) (nm : String) (v : Value) (w : World) (h : w.cell? ⟨g, 0, none⟩ = some v) (hq0 : (Array.find? (fun x => x.name == nm) Tryz.t190.methods).map (fun m => (m.path, m.func)) = some (#[], some (f, false))) (n : Nat) : (method (n + 1) 190 (.pointer (some ⟨g, 0, none⟩)) nm).run Tryz.prog w = .ok (f, v) w := by
 have hu := Tryz.underlying190
 cases hq : Array.find? (fun x => x.name == nm) Tryz.t190.methods with
 | none => rw [hq] at hq0; simp at hq0
 | some m =>
  rw [hq] at hq0
  simp only [Option.map_some, Option.some.injEq, Prod.mk.injEq] at hq0
  obtain ⟨h1, h2⟩ := hq0
  simp [method, hq, h1, h2, follow, receiverAt, Place.get, asAddr]
  rw [wrap_some]
  simp [Result.andThen, load_v g v w h]
theorem m_len (g : Nat) (v : Value) (w : World) (h : w.cell? ⟨g, 0, none⟩ = some v) : ∀ n, (method (n + 1) 190 (.pointer (some ⟨g, 0, none⟩)) "Len").run Tryz.prog w = .ok (291, v) w := m_val g _ _ v w h (by kernel_rfl)
theorem m_less (g : Nat) (v : Value) (w : World) (h : w.cell? ⟨g, 0, none⟩ = some v) : ∀ n, (method (n + 1) 190 (.pointer (some ⟨g, 0, none⟩)) "Less").run Tryz.prog w = .ok (292, v) w := m_val g _ _ v w h (by kernel_rfl)
theorem m_swap (g : Nat) (v : Value) (w : World) (h : w.cell? ⟨g, 0, none⟩ = some v) : ∀ n, (method (n + 1) 190 (.pointer (some ⟨g, 0, none⟩)) "Swap").run Tryz.prog w = .ok (293, v) w := m_val g _ _ v w h (by kernel_rfl)
theorem m_pop (g : Nat) (w : World) : ∀ n, (method (n + 1) 190 (.pointer (some ⟨g, 0, none⟩)) "Pop").run Tryz.prog w = .ok (296, .pointer (some ⟨g, 0, none⟩)) w := fun _ => by kernel_rfl
theorem Hm.cell {w0 wb w : World} {g c : Nat} {A : Option Addr} {hs : List Fr} (h : Hm w0 wb w g A c hs) : w.cell? ⟨g, 0, none⟩ = some (.slice A hs.length c) := (blk_cell h.blk 0).trans rfl
theorem ordE : Ord (ce : E → E → Int) := ⟨ce_range, ce_neg, fun h k => ce_trans h k, fun {a b} h c => by have := (ce_zero a b).1 h; exact ce_same this.1 c this.2⟩
def leF (a b : Fr) : Prop := Go.Proofs.YtchgpcgolgcfdaaGreatW.PuMrg.le ce zE (pr a) (pr b)
theorem leF_pre : Pre leF := ⟨fun a b => (le_pre ordE zE).total (pr a) (pr b), fun h k => (le_pre ordE zE).trans h k⟩
theorem ls_true {a b : Fr} (h : Hp.ls a b = true) : leF a b := by
 have h := of_decide_eq_true h
 unfold lsI cs at h
 unfold leF Go.Proofs.YtchgpcgolgcfdaaGreatW.PuMrg.le fr pr
 show ce (hdE a) (hdE b) = -1 ∨ (ce (hdE a) (hdE b) = 0 ∧ a.p ≤ b.p)
 have := ce_range (hdE a) (hdE b)
 split at h
 ·rename_i h0
  refine .inr ⟨h0, ?_⟩
  split at h
  ·omega
  ·split at h <;> omega
 ·exact .inl (by omega)
theorem ls_false {a b : Fr} (h : Hp.ls a b = false) : leF b a := by
 have h := of_decide_eq_false h
 unfold lsI cs at h
 unfold leF Go.Proofs.YtchgpcgolgcfdaaGreatW.PuMrg.le fr pr
 show ce (hdE b) (hdE a) = -1 ∨ (ce (hdE b) (hdE a) = 0 ∧ b.p ≤ a.p)
 have h1 := ce_neg (hdE b) (hdE a)
 have := ce_range (hdE a) (hdE b)
 split at h
 ·rename_i h0
  refine .inr ⟨by omega, ?_⟩
  split at h
  ·omega
  ·split at h <;> omega
 ·exact .inl (by omega)
def d0 : Fr := ⟨none, 0, [], 0⟩
def fv (hs : List Fr) : Nat → Fr := fun k => hs.getD k d0
theorem fv_get {hs : List Fr} {i : Nat} (h : i < hs.length) : fv hs i = hs[i] := by unfold fv; rw [List.getD_eq_getElem?_getD, List.getElem?_eq_getElem h]; rfl
theorem fv_sw (hs : List Fr) {i j : Nat} (hi : i < hs.length) (hj : j < hs.length) : fv (swL hs i j) = sw (fv hs) i j := funext fun k => swL_get d0 hs hi hj k
end Go.Proofs.YtchgpcgolgcfdaaGreat.Hp
end
section
namespace Go.Proofs.YtchgpcgolgcfdaaGreat.Hp
open Go Go.RowKit Go.Proofs.YtchgpcgolgcfdaaGreat.PNum Go.Proofs.YtchgpcgolgcfdaaGreat.BkW Go.Proofs.YtchgpcgolgcfdaaGreat.PuIkC Go.Proofs.YtchgpcgolgcfdaaGreatW.PrintWords Go.Proofs.YtchgpcgolgcfdaaGreatW.PrintLast Go.Proofs.YtchgpcgolgcfdaaGreatW.PrintMore Go.Proofs.YtchgpcgolgcfdaaGreatW.Pu Go.Proofs.YtchgpcgolgcfdaaGreatW.PuMrg Go.Proofs.YtchgpcgolgcfdaaGreatW.PuHeap
set_option linter.unusedVariables false
set_option linter.unusedSimpArgs false
theorem Hm.less_ {w0 wb w : World} {g c n : Nat} {A : Option Addr} {hs : List Fr} (h : Hm w0 wb w g A c hs) {x y : Int} {i j : Nat} (hn : n = hs.length) (hx : x = (i : Int)) (hy : y = (j : Int)) (hi : i < hs.length) (hj : j < hs.length) (ni : hs[i].l ≠ []) (nj : hs[j].l ≠ []) :
  Calls Tryz.prog 292 #[.slice A n c, .int .i64 x, .int .i64 y] w fun e w' => e = .returned (.bool (Hp.ls hs[i] hs[j])) ∧ Hm w0 wb w' g A c hs := by
 subst hn hx hy
 exact h.less hi hj ni nj
theorem Hm.swap_ {w0 wb w : World} {g c n : Nat} {A : Option Addr} {hs : List Fr} (h : Hm w0 wb w g A c hs) {x y : Int} {i j : Nat} (hn : n = hs.length) (hx : x = (i : Int)) (hy : y = (j : Int)) (hi : i < hs.length) (hj : j < hs.length) :
  Calls Tryz.prog 293 #[.slice A n c, .int .i64 x, .int .i64 y] w fun e w' => e = .returned (.tuple #[]) ∧ Hm w0 wb w' g A c (swL hs i j) := by
 subst hn hx hy
 exact h.swap hi hj
set_option maxHeartbeats 16000000 in
set_option maxRecDepth 100000 in
theorem down_calls {w0 wb w : World} {g c : Nat} {A : Option Addr} {hs : List Fr} (h : Hm w0 wb w g A c hs) {i0 n lo : Nat} (hn : n ≤ hs.length) (hL : hs.length ≤ 1000) (hi0 : i0 ≤ 1000) (hlo : lo ≤ i0) (hx : Hx leF (fv hs) n lo i0) (hne : ∀ k, k < n → (fv hs k).l ≠ []) :
  Calls Tryz.prog 228 #[.iface 190 (.pointer (some ⟨g, 0, none⟩)), .int .i64 (i0 : Int), .int .i64 (n : Int)] w fun e w' => ∃ b, e = .returned (.bool b) ∧ ∃ hs', Hm w0 wb w' g A c hs' ∧ Hp leF (fv hs') n lo ∧ hs'.Perm hs ∧ ∀ k, n ≤ k → fv hs' k = fv hs k := by
 have HM := Aside0.mk h
 have HX := Aside0.mk hx
 have HNN := Aside0.mk hne
 clear h hx hne
 go_enter Tryz.func228, Tryz.ntmps228
 go_wp2
 go_loopw [7] (fun v7 w' => ∃ (i : Nat) (hs' : List Fr), v7 = .int .i64 i ∧ i ≤ 1000 ∧ lo ≤ i ∧ hs'.length = hs.length ∧ Aside0 (Hm w0 wb w' g A c hs') ∧ Aside0 (Hx leF (fv hs') n lo i) ∧ Aside0 (hs'.Perm hs) ∧ Aside0 (∀ k, n ≤ k → fv hs' k = fv hs k) ∧ Aside0 (∀ k, k < n → (fv hs' k).l ≠ [])) (fun v7 _ => 1001 - (intOf v7).toNat)
 case atStart => exact ⟨i0, hs, rfl, hi0, hlo, rfl, HM, HX, ⟨List.Perm.refl _⟩, ⟨fun _ _ => rfl⟩, HNN⟩
 case round =>
  clear HM HX HNN
  obtain ⟨i, hs', rfl, hi, hli, hl', HM, HX, HP, HT, HNN⟩ := hrel
  have e1 : wrap64 (2 * (i : Int)) = ((2 * i : Nat) : Int) := by rw [wrap64_id (by omega)]; omega
  have e2 : wrap64 (((2 * i : Nat) : Int) + 1) = ((2 * i + 1 : Nat) : Int) := by rw [wrap64_id (by omega)]; omega
  have e3 : wrap64 (((2 * i + 1 : Nat) : Int) + 1) = ((2 * i + 2 : Nat) : Int) := by rw [wrap64_id (by omega)]; omega
  by_cases c1 : 2 * i + 1 < n
  ·have t1 : decide ((n : Int) ≤ ((2 * i + 1 : Nat) : Int)) = false := decide_eq_false (by omega)
   have t2 : decide (((2 * i + 1 : Nat) : Int) < 0) = false := decide_eq_false (by omega)
   have hi_ : i < hs'.length := by omega
   have mm := m_less g _ _ HM.out.cell
   have ms := m_swap g _ _ HM.out.cell
   by_cases c2 : 2 * i + 2 < n
   ·have t3 : decide (((2 * i + 2 : Nat) : Int) < (n : Int)) = true := decide_eq_true (by omega)
    have h1_ : 2 * i + 1 < hs'.length := by omega
    have h2_ : 2 * i + 2 < hs'.length := by omega
    have T1 := Aside0.mk True.intro
    cases hb1 : Hp.ls hs'[2 * i + 2] hs'[2 * i + 1]
    case false =>
     have HB1 := Aside0.mk hb1
     clear hb1
     have hj_ : 2 * i + 1 < hs'.length := by omega
     have HSIB : Aside0 (∀ c, 0 < c → c < n → (c - 1) / 2 = i → leF (fv hs' (2 * i + 1)) (fv hs' c)) := ⟨by
      intro c_ h0_ hc_ hp_
      have hc3 : c_ = 2 * i + 1 ∨ c_ = 2 * i + 2 := by omega
      rcases hc3 with rfl | rfl
      ·exact leF_pre.refl _
      ·rw [fv_get h1_, fv_get h2_]
       exact ls_false HB1.out
      ⟩
     cases hb2 : Hp.ls (hs'[2 * i + 1]'hj_) hs'[i]
     case false =>
      have HB2 := Aside0.mk hb2
      clear hb2
      have T2 := Aside0.mk True.intro
      go_wp2_with (first | (go_at_call 292; have t_ := T1; refine (HM.out.less_ (i := 2 * i + 2) (j := 2 * i + 1) (by omega) (by omega) (by omega) h2_ h1_ (by rw [← fv_get h2_]; exact HNN.out _ (by omega)) (by rw [← fv_get h1_]; exact HNN.out _ (by omega))).mono ?_; rintro e w1 ⟨rfl, hh⟩; rw [HB1.out]; have n0_ := Aside0.mk hh; clear HM mm ms hh t_ T1; have HM := n0_; clear n0_; have T1b := Aside0.mk True.intro; have mm := m_less g _ _ HM.out.cell; have ms := m_swap g _ _ HM.out.cell) | (go_at_call 292; have t_ := T2; refine (HM.out.less_ (i := 2 * i + 1) (j := i) (by omega) (by omega) (by omega) hj_ hi_ (by rw [← fv_get hj_]; exact HNN.out _ (by omega)) (by rw [← fv_get hi_]; exact HNN.out _ (by omega))).mono ?_; rintro e w2 ⟨rfl, hh⟩; rw [HB2.out]; have n0_ := Aside0.mk hh; clear HM mm ms hh t_ T2; have HM := n0_; clear n0_; have T3 := Aside0.mk True.intro; have mm := m_less g _ _ HM.out.cell; have ms := m_swap g _ _ HM.out.cell) | (go_at_call 293; refine (HM.out.swap_ (i := i) (j := 2 * i + 1) (by omega) (by omega) (by omega) hi_ hj_).mono ?_; rintro e w3 ⟨rfl, hh⟩; have n0_ := Aside0.mk hh; clear HM mm ms hh; have HM := n0_; clear n0_))
      go_ret
      refine ⟨_, rfl, hs', HM.out, HX.out.stop (fun c_ h0_ hc_ hp_ => leF_pre.trans ?_ (HSIB.out c_ h0_ hc_ hp_)), HP.out, HT.out⟩
      have := ls_false HB2.out
      rw [fv_get hi_, fv_get hj_]
      exact this
     case true =>
      have HB2 := Aside0.mk hb2
      clear hb2
      have T2 := Aside0.mk True.intro
      go_wp2_with (first | (go_at_call 292; have t_ := T1; refine (HM.out.less_ (i := 2 * i + 2) (j := 2 * i + 1) (by omega) (by omega) (by omega) h2_ h1_ (by rw [← fv_get h2_]; exact HNN.out _ (by omega)) (by rw [← fv_get h1_]; exact HNN.out _ (by omega))).mono ?_; rintro e w1 ⟨rfl, hh⟩; rw [HB1.out]; have n0_ := Aside0.mk hh; clear HM mm ms hh t_ T1; have HM := n0_; clear n0_; have T1b := Aside0.mk True.intro; have mm := m_less g _ _ HM.out.cell; have ms := m_swap g _ _ HM.out.cell) | (go_at_call 292; have t_ := T2; refine (HM.out.less_ (i := 2 * i + 1) (j := i) (by omega) (by omega) (by omega) hj_ hi_ (by rw [← fv_get hj_]; exact HNN.out _ (by omega)) (by rw [← fv_get hi_]; exact HNN.out _ (by omega))).mono ?_; rintro e w2 ⟨rfl, hh⟩; rw [HB2.out]; have n0_ := Aside0.mk hh; clear HM mm ms hh t_ T2; have HM := n0_; clear n0_; have T3 := Aside0.mk True.intro; have mm := m_less g _ _ HM.out.cell; have ms := m_swap g _ _ HM.out.cell) | (go_at_call 293; refine (HM.out.swap_ (i := i) (j := 2 * i + 1) (by omega) (by omega) (by omega) hi_ hj_).mono ?_; rintro e w3 ⟨rfl, hh⟩; have n0_ := Aside0.mk hh; clear HM mm ms hh; have HM := n0_; clear n0_))
      go_roundw
      case rel =>
       refine ⟨2 * i + 1, swL hs' i (2 * i + 1), by go_num, by omega, by omega, by rw [swL_len]; exact hl', HM, ⟨?_⟩, ⟨(swL_perm _ _ _).trans HP.out⟩, ⟨?_⟩, ⟨?_⟩⟩
       ·rw [fv_sw hs' hi_ hj_]
        refine HX.out.step leF_pre (by omega) (by omega) (by omega) (by omega) ?_ HSIB.out
        rw [fv_get hi_, fv_get hj_]
        exact ls_true HB2.out
       ·intro k_ hk_
        rw [← HT.out k_ hk_, fv_sw hs' hi_ hj_]
        unfold sw
        rw [if_neg (by omega), if_neg (by omega)]
       ·intro k_ hk_
        rw [fv_sw hs' hi_ hj_]
        unfold sw
        split
        ·exact HNN.out _ (by omega)
        ·split
         ·exact HNN.out _ (by omega)
         ·exact HNN.out _ hk_
      case measure => simp [intOf]; omega
    case true =>
     have HB1 := Aside0.mk hb1
     clear hb1
     have hj_ : 2 * i + 2 < hs'.length := by omega
     have HSIB : Aside0 (∀ c, 0 < c → c < n → (c - 1) / 2 = i → leF (fv hs' (2 * i + 2)) (fv hs' c)) := ⟨by
      intro c_ h0_ hc_ hp_
      have hc3 : c_ = 2 * i + 1 ∨ c_ = 2 * i + 2 := by omega
      rcases hc3 with rfl | rfl
      ·rw [fv_get h1_, fv_get h2_]
       exact ls_true HB1.out
      ·exact leF_pre.refl _
      ⟩
     cases hb2 : Hp.ls (hs'[2 * i + 2]'hj_) hs'[i]
     case false =>
      have HB2 := Aside0.mk hb2
      clear hb2
      have T2 := Aside0.mk True.intro
      go_wp2_with (first | (go_at_call 292; have t_ := T1; refine (HM.out.less_ (i := 2 * i + 2) (j := 2 * i + 1) (by omega) (by omega) (by omega) h2_ h1_ (by rw [← fv_get h2_]; exact HNN.out _ (by omega)) (by rw [← fv_get h1_]; exact HNN.out _ (by omega))).mono ?_; rintro e w1 ⟨rfl, hh⟩; rw [HB1.out]; have n0_ := Aside0.mk hh; clear HM mm ms hh t_ T1; have HM := n0_; clear n0_; have T1b := Aside0.mk True.intro; have mm := m_less g _ _ HM.out.cell; have ms := m_swap g _ _ HM.out.cell) | (go_at_call 292; have t_ := T2; refine (HM.out.less_ (i := 2 * i + 2) (j := i) (by omega) (by omega) (by omega) hj_ hi_ (by rw [← fv_get hj_]; exact HNN.out _ (by omega)) (by rw [← fv_get hi_]; exact HNN.out _ (by omega))).mono ?_; rintro e w2 ⟨rfl, hh⟩; rw [HB2.out]; have n0_ := Aside0.mk hh; clear HM mm ms hh t_ T2; have HM := n0_; clear n0_; have T3 := Aside0.mk True.intro; have mm := m_less g _ _ HM.out.cell; have ms := m_swap g _ _ HM.out.cell) | (go_at_call 293; refine (HM.out.swap_ (i := i) (j := 2 * i + 2) (by omega) (by omega) (by omega) hi_ hj_).mono ?_; rintro e w3 ⟨rfl, hh⟩; have n0_ := Aside0.mk hh; clear HM mm ms hh; have HM := n0_; clear n0_))
      go_ret
      refine ⟨_, rfl, hs', HM.out, HX.out.stop (fun c_ h0_ hc_ hp_ => leF_pre.trans ?_ (HSIB.out c_ h0_ hc_ hp_)), HP.out, HT.out⟩
      have := ls_false HB2.out
      rw [fv_get hi_, fv_get hj_]
      exact this
     case true =>
      have HB2 := Aside0.mk hb2
      clear hb2
      have T2 := Aside0.mk True.intro
      go_wp2_with (first | (go_at_call 292; have t_ := T1; refine (HM.out.less_ (i := 2 * i + 2) (j := 2 * i + 1) (by omega) (by omega) (by omega) h2_ h1_ (by rw [← fv_get h2_]; exact HNN.out _ (by omega)) (by rw [← fv_get h1_]; exact HNN.out _ (by omega))).mono ?_; rintro e w1 ⟨rfl, hh⟩; rw [HB1.out]; have n0_ := Aside0.mk hh; clear HM mm ms hh t_ T1; have HM := n0_; clear n0_; have T1b := Aside0.mk True.intro; have mm := m_less g _ _ HM.out.cell; have ms := m_swap g _ _ HM.out.cell) | (go_at_call 292; have t_ := T2; refine (HM.out.less_ (i := 2 * i + 2) (j := i) (by omega) (by omega) (by omega) hj_ hi_ (by rw [← fv_get hj_]; exact HNN.out _ (by omega)) (by rw [← fv_get hi_]; exact HNN.out _ (by omega))).mono ?_; rintro e w2 ⟨rfl, hh⟩; rw [HB2.out]; have n0_ := Aside0.mk hh; clear HM mm ms hh t_ T2; have HM := n0_; clear n0_; have T3 := Aside0.mk True.intro; have mm := m_less g _ _ HM.out.cell; have ms := m_swap g _ _ HM.out.cell) | (go_at_call 293; refine (HM.out.swap_ (i := i) (j := 2 * i + 2) (by omega) (by omega) (by omega) hi_ hj_).mono ?_; rintro e w3 ⟨rfl, hh⟩; have n0_ := Aside0.mk hh; clear HM mm ms hh; have HM := n0_; clear n0_))
      go_roundw
      case rel =>
       refine ⟨2 * i + 2, swL hs' i (2 * i + 2), by go_num, by omega, by omega, by rw [swL_len]; exact hl', HM, ⟨?_⟩, ⟨(swL_perm _ _ _).trans HP.out⟩, ⟨?_⟩, ⟨?_⟩⟩
       ·rw [fv_sw hs' hi_ hj_]
        refine HX.out.step leF_pre (by omega) (by omega) (by omega) (by omega) ?_ HSIB.out
        rw [fv_get hi_, fv_get hj_]
        exact ls_true HB2.out
       ·intro k_ hk_
        rw [← HT.out k_ hk_, fv_sw hs' hi_ hj_]
        unfold sw
        rw [if_neg (by omega), if_neg (by omega)]
       ·intro k_ hk_
        rw [fv_sw hs' hi_ hj_]
        unfold sw
        split
        ·exact HNN.out _ (by omega)
        ·split
         ·exact HNN.out _ (by omega)
         ·exact HNN.out _ hk_
      case measure => simp [intOf]; omega
   ·have t3 : decide (((2 * i + 2 : Nat) : Int) < (n : Int)) = false := decide_eq_false (by omega)
    have hj_ : 2 * i + 1 < hs'.length := by omega
    have HSIB : Aside0 (∀ c, 0 < c → c < n → (c - 1) / 2 = i → leF (fv hs' (2 * i + 1)) (fv hs' c)) := ⟨by
     intro c_ h0_ hc_ hp_
     have hc3 : c_ = 2 * i + 1 := by omega
     rw [hc3]
     exact leF_pre.refl _
     ⟩
    cases hb2 : Hp.ls (hs'[2 * i + 1]'hj_) hs'[i]
    case false =>
     have HB2 := Aside0.mk hb2
     clear hb2
     have T2 := Aside0.mk True.intro
     go_wp2_with (first | (go_at_call 292; have t_ := T2; refine (HM.out.less_ (i := 2 * i + 1) (j := i) (by omega) (by omega) (by omega) hj_ hi_ (by rw [← fv_get hj_]; exact HNN.out _ (by omega)) (by rw [← fv_get hi_]; exact HNN.out _ (by omega))).mono ?_; rintro e w2 ⟨rfl, hh⟩; rw [HB2.out]; have n0_ := Aside0.mk hh; clear HM mm ms hh t_ T2; have HM := n0_; clear n0_; have T3 := Aside0.mk True.intro; have mm := m_less g _ _ HM.out.cell; have ms := m_swap g _ _ HM.out.cell) | (go_at_call 293; refine (HM.out.swap_ (i := i) (j := 2 * i + 1) (by omega) (by omega) (by omega) hi_ hj_).mono ?_; rintro e w3 ⟨rfl, hh⟩; have n0_ := Aside0.mk hh; clear HM mm ms hh; have HM := n0_; clear n0_))
     go_ret
     refine ⟨_, rfl, hs', HM.out, HX.out.stop (fun c_ h0_ hc_ hp_ => leF_pre.trans ?_ (HSIB.out c_ h0_ hc_ hp_)), HP.out, HT.out⟩
     have := ls_false HB2.out
     rw [fv_get hi_, fv_get hj_]
     exact this
    case true =>
     have HB2 := Aside0.mk hb2
     clear hb2
     have T2 := Aside0.mk True.intro
     go_wp2_with (first | (go_at_call 292; have t_ := T2; refine (HM.out.less_ (i := 2 * i + 1) (j := i) (by omega) (by omega) (by omega) hj_ hi_ (by rw [← fv_get hj_]; exact HNN.out _ (by omega)) (by rw [← fv_get hi_]; exact HNN.out _ (by omega))).mono ?_; rintro e w2 ⟨rfl, hh⟩; rw [HB2.out]; have n0_ := Aside0.mk hh; clear HM mm ms hh t_ T2; have HM := n0_; clear n0_; have T3 := Aside0.mk True.intro; have mm := m_less g _ _ HM.out.cell; have ms := m_swap g _ _ HM.out.cell) | (go_at_call 293; refine (HM.out.swap_ (i := i) (j := 2 * i + 1) (by omega) (by omega) (by omega) hi_ hj_).mono ?_; rintro e w3 ⟨rfl, hh⟩; have n0_ := Aside0.mk hh; clear HM mm ms hh; have HM := n0_; clear n0_))
     go_roundw
     case rel =>
      refine ⟨2 * i + 1, swL hs' i (2 * i + 1), by go_num, by omega, by omega, by rw [swL_len]; exact hl', HM, ⟨?_⟩, ⟨(swL_perm _ _ _).trans HP.out⟩, ⟨?_⟩, ⟨?_⟩⟩
      ·rw [fv_sw hs' hi_ hj_]
       refine HX.out.step leF_pre (by omega) (by omega) (by omega) (by omega) ?_ HSIB.out
       rw [fv_get hi_, fv_get hj_]
       exact ls_true HB2.out
      ·intro k_ hk_
       rw [← HT.out k_ hk_, fv_sw hs' hi_ hj_]
       unfold sw
       rw [if_neg (by omega), if_neg (by omega)]
      ·intro k_ hk_
       rw [fv_sw hs' hi_ hj_]
       unfold sw
       split
       ·exact HNN.out _ (by omega)
       ·split
        ·exact HNN.out _ (by omega)
        ·exact HNN.out _ hk_
     case measure => simp [intOf]; omega
  ·have t1 : decide ((n : Int) ≤ ((2 * i + 1 : Nat) : Int)) = true := decide_eq_true (by omega)
   go_wp2
   go_ret
   have hle := HX.out.leaf (by omega)
   refine ⟨?_, hs', HM.out, hle, HP.out, HT.out⟩
   rcases Bool.eq_false_or_eq_true (decide (i0 < i)) with q | q
   ·exact .inr (congrArg (fun b => Ending.returned (Value.bool b)) q)
   ·exact .inl (congrArg (fun b => Ending.returned (Value.bool b)) q)
end Go.Proofs.YtchgpcgolgcfdaaGreat.Hp
end
section
namespace Go.Proofs.YtchgpcgolgcfdaaGreat.Hp
open Go Go.RowKit Go.Proofs.YtchgpcgolgcfdaaGreat.PNum Go.Proofs.YtchgpcgolgcfdaaGreat.BkW Go.Proofs.YtchgpcgolgcfdaaGreat.PuIkC Go.Proofs.YtchgpcgolgcfdaaGreatW.PrintWords Go.Proofs.YtchgpcgolgcfdaaGreatW.PrintLast Go.Proofs.YtchgpcgolgcfdaaGreatW.PrintMore Go.Proofs.YtchgpcgolgcfdaaGreatW.Pu Go.Proofs.YtchgpcgolgcfdaaGreatW.PuMrg Go.Proofs.YtchgpcgolgcfdaaGreatW.PuHeap
set_option linter.unusedVariables false
set_option linter.unusedSimpArgs false
theorem infoH : (Tryz.prog.info? 188).map (fun i => (i.zero, i.size, i.bytes)) = some (some (.agg #[.slice none 0 0, .int .i64 0]), 2, 32) := by kernel_rfl
set_option maxHeartbeats 8000000 in
set_option maxRecDepth 100000 in
theorem up_calls (g : Nat) (w : World) : Calls Tryz.prog 229 #[.iface 190 (.pointer (some ⟨g, 0, none⟩)), .int .i64 0] w fun e w' => e = .returned (.tuple #[]) ∧ Below w.heap.size w w' := by
 go_enter Tryz.func229, Tryz.ntmps229
 go_wp2
 go_loopw [1] (fun v1 w' => v1 = .int .i64 0 ∧ w' = w) (fun _ _ => 0)
 case atStart => exact ⟨rfl, rfl⟩
 case round =>
  obtain ⟨rfl, rfl⟩ := hrel
  go_wp2
  first | go_end0 | ((try simp only [Exit.inBlock, Exit.then]); refine bodyPost_ret (results_none rfl _ _ _) rfl ?_)
  exact ⟨rfl, Below.refl _ _⟩
set_option maxHeartbeats 8000000 in
set_option maxRecDepth 100000 in
theorem hpop_calls {w0 wb w : World} {g c n : Nat} {A : Option Addr} {hs : List Fr} (h : Hm w0 wb w g A c hs) (hn : hs.length = n + 1) (hL : n ≤ 1000) :
  Calls Tryz.prog 296 #[.pointer (some ⟨g, 0, none⟩)] w fun e w' => (∃ v, e = .returned v) ∧ Hm w0 wb w' g A c (hs.take n) := by
 have hc : w.cell? ⟨g, 0, none⟩ = some (.slice A (n + 1) c) := by rw [← hn]; exact h.cell
 obtain ⟨G, o, rfl, hne, hG⟩ := h.some_ (by omega)
 obtain ⟨r0, r1⟩ := cells_of h.row (show n < hs.length by omega)
 have hcc : n + 1 ≤ c := by
  obtain ⟨_, _, e, hc'⟩ := h.row.slice
  injection e with _ _ e
  omega
 obtain ⟨ih, hih, _, hsz, _⟩ := info_parts infoH
 have hcut := fun W : World => Lent.cut_room (P := Tryz.prog) 186 188 .i64 Tryz.underlying186 hih (some ⟨G, o, none⟩) (n + 1) c (n : Int) (Int.natCast_nonneg _) (by omega) W
 simp only [Int.toNat_natCast] at hcut
 have HH := Aside0.mk h
 have hlen : (hs.take n).length = n := by rw [List.length_take]; omega
 have hen : (encL encH hs).take (n * 2) = encL encH (hs.take n) := by
  have e1 : encL encH hs = encL encH (hs.take n) ++ encL encH (hs.drop n) := by rw [← encL_append, List.take_append_drop]
  rw [e1, List.take_append_of_le_length (by rw [encH_len, hlen]; exact Nat.le_refl _)]
  exact List.take_of_length_le (by rw [encH_len, hlen]; exact Nat.le_refl _)
 have hgs : w.heap.size ≠ g := Nat.ne_of_gt (blk_lt h.blk)
 clear h
 generalize hs[n].A = An at *
 generalize hs[n].l.length = ln at *
 generalize hs[n].c = cn at *
 generalize (hs[n].p : Int) = pn at *
 have hc1 : (w.alloc (.cells #[.slice An ln cn, .int .i64 pn] 188)).cell? ⟨g, 0, none⟩ = some (.slice (some ⟨G, o, none⟩) (n + 1) c) := by rw [← hn]; exact (blk_cell (blk_alloc HH.out.blk _) 0).trans rfl
 have hf1 : (w.alloc (.cells #[.slice An ln cn, .int .i64 pn] 188)).frozen? ⟨g, 0, none⟩ = false := blk_frozen (blk_alloc HH.out.blk _) 0
 have hx0 : ((w.alloc (.cells #[.slice An ln cn, .int .i64 pn] 188)).setCell ⟨g, 0, none⟩ (.slice (some ⟨G, o, none⟩) n c)).cell? ⟨w.heap.size, 0, none⟩ = some (.slice An ln cn) := (blk_cell (blk_far (blk_new w (.cells #[.slice An ln cn, .int .i64 pn] 188)) hgs _) 0).trans rfl
 have hx1 : ((w.alloc (.cells #[.slice An ln cn, .int .i64 pn] 188)).setCell ⟨g, 0, none⟩ (.slice (some ⟨G, o, none⟩) n c)).cell? ⟨w.heap.size, 1, none⟩ = some (.int .i64 pn) := (blk_cell (blk_far (blk_new w (.cells #[.slice An ln cn, .int .i64 pn] 188)) hgs _) 1).trans rfl
 have p1 : (0 : Int) ≤ (n : Int) := Int.natCast_nonneg _
 have p2 : (n : Int) < ((n + 1 : Nat) : Int) := by omega
 have p3 : (n : Int) ≤ 1000 := by omega
 go_enter Tryz.func296, Tryz.ntmps296
 go_wp2
 go_ret
 refine ⟨⟨_, rfl⟩, ?_⟩
 have hb1 : Below w.heap.size w (w.alloc (.cells #[.slice An ln cn, .int .i64 pn] 188)) := below_alloc (Below.refl _ _) _
 refine ⟨?_, ?_, ?_, HH.out.gb, below_set (below_step HH.out.bel hb1) HH.out.gb, HH.out.fr.trans ((Kf.of_below hb1 g _).trans ⟨by simp [World.setCell], fun k _ hk _ => Below.heap_setCell _ _ _ k (fun e => hk e)⟩), fun x hx => HH.out.ls x (List.mem_of_mem_take hx)⟩
 ·rw [hlen]
  exact blk_put (blk_alloc HH.out.blk _) 0 _ rfl
 ·rw [hlen, ← hen]
  have h1 := (HH.out.row.below hb1)
  rw [hn] at h1
  refine (h1.take (m := n) (by omega)).move (fun k hk => Below.heap_setCell _ _ _ k (fun e => ?_))
  have : k = G := by simpa [Value.ownBlock] using hk.symm
  exact hne (this.symm.trans e)
 ·rw [hlen]
  exact fun k hk => HH.out.rb k (by rw [← hk]; rfl)
set_option maxHeartbeats 8000000 in
set_option maxRecDepth 100000 in
theorem fix_calls {w0 wb w : World} {g c : Nat} {A : Option Addr} {hs : List Fr} (h : Hm w0 wb w g A c hs) (hL : hs.length ≤ 1000) (hx : Hx leF (fv hs) hs.length 0 0) (hne : ∀ k, k < hs.length → (fv hs k).l ≠ []) :
  Calls Tryz.prog 161 #[.iface 190 (.pointer (some ⟨g, 0, none⟩)), .int .i64 0] w fun e w' => e = .returned (.tuple #[]) ∧ ∃ hs', Hm w0 wb w' g A c hs' ∧ Hp leF (fv hs') hs'.length 0 ∧ hs'.Perm hs := by
 have mm := m_len g _ w h.cell
 have HM := Aside0.mk h
 have HX := Aside0.mk hx
 have HNN := Aside0.mk hne
 clear h hx hne
 go_enter Tryz.func161, Tryz.ntmps161
 go_wp2_with (first
  | (go_at_call 291; refine (len_calls _ _ _ _).mono ?_; rintro e w1 ⟨rfl, hb⟩; have n0_ := Aside0.mk (HM.out.below hb); clear HM hb mm; have HM := n0_; clear n0_)
  | (go_at_call 228; refine (down_calls (lo := 0) (i0 := 0) HM.out (Nat.le_refl _) hL (by omega) (Nat.le_refl _) HX.out HNN.out).mono ?_; rintro e w2 ⟨b, rfl, hs', hm, hp, hq, _⟩; have HM2 := Aside0.mk hm; have HP := Aside0.mk hp; have HQ2 := Aside0.mk hq; clear HM hm hp hq; cases b)
  | (go_at_call 229; refine (up_calls g _).mono ?_; rintro e w3 ⟨rfl, hb⟩; have n0_ := Aside0.mk (HM2.out.below hb); clear HM2 hb; have HM2 := n0_; clear n0_))
 all_goals
  (try go_wp2_with (first | (go_at_call 229; refine (up_calls g _).mono ?_; rintro e w3 ⟨rfl, hb⟩; have n0_ := Aside0.mk (HM2.out.below hb); clear HM2 hb; have HM2 := n0_; clear n0_)))
  first | go_end0 | ((try simp only [Exit.inBlock, Exit.then]); refine bodyPost_ret (results_none rfl _ _ _) rfl ?_)
  exact ⟨rfl, hs', HM2.out, by rw [HQ2.out.length_eq]; exact HP.out, HQ2.out⟩
end Go.Proofs.YtchgpcgolgcfdaaGreat.Hp
end
section
namespace Go.Proofs.YtchgpcgolgcfdaaGreat.Hp
open Go Go.RowKit Go.Proofs.YtchgpcgolgcfdaaGreat.PNum Go.Proofs.YtchgpcgolgcfdaaGreat.BkW Go.Proofs.YtchgpcgolgcfdaaGreat.PuIkC Go.Proofs.YtchgpcgolgcfdaaGreatW.PrintWords Go.Proofs.YtchgpcgolgcfdaaGreatW.PrintLast Go.Proofs.YtchgpcgolgcfdaaGreatW.PrintMore Go.Proofs.YtchgpcgolgcfdaaGreatW.Pu Go.Proofs.YtchgpcgolgcfdaaGreatW.PuMrg Go.Proofs.YtchgpcgolgcfdaaGreatW.PuHeap
set_option linter.unusedVariables false
set_option linter.unusedSimpArgs false
set_option maxHeartbeats 8000000 in
set_option maxRecDepth 100000 in
theorem pop_calls {w0 wb w : World} {g c n : Nat} {A : Option Addr} {hs : List Fr} (h : Hm w0 wb w g A c hs) (hn : hs.length = n + 1) (hL : n ≤ 900) (hp : Hx leF (fv hs) hs.length 0 0) (hne : ∀ k, 0 < k → k < hs.length → (fv hs k).l ≠ []) :
  Calls Tryz.prog 162 #[.iface 190 (.pointer (some ⟨g, 0, none⟩))] w fun e w' => (∃ v, e = .returned v) ∧ ∃ hs', Hm w0 wb w' g A c hs' ∧ Hp leF (fv hs') hs'.length 0 ∧ (hs' ++ [fv hs 0]).Perm hs := by
 have mm := m_len g _ w h.cell
 have ms := m_swap g _ w h.cell
 have mp := m_pop g
 have HM := Aside0.mk h
 have h0 : 0 < hs.length := by omega
 have h1 : n < hs.length := by omega
 have HX : Aside0 (Hx leF (fv (swL hs 0 n)) n 0 0) := ⟨by
  rw [fv_sw hs h0 h1]
  refine ⟨fun c_ h0_ hc_ hl_ hp_ => ?_, fun c_ _ _ _ h1_ _ => by omega⟩
  have := hp.1 c_ h0_ (by omega) hl_ hp_
  unfold sw
  rw [if_neg hp_, if_neg (by omega), if_neg (by omega), if_neg (by omega)]
  exact this⟩
 have HNN : Aside0 (∀ k, k < n → (fv (swL hs 0 n) k).l ≠ []) := ⟨by
  intro k hk
  rw [fv_sw hs h0 h1]
  unfold sw
  split
  ·exact hne n (by omega) h1
  ·rw [if_neg (by omega)]
   exact hne k (by omega) (by omega)⟩
 have H0 : Aside0 (fv (swL hs 0 n) n = fv hs 0) := ⟨by
  rw [fv_sw hs h0 h1]
  unfold sw
  by_cases e : n = 0
  ·subst e; rw [if_pos rfl]
  ·rw [if_neg e, if_pos rfl]⟩
 have HP1 := Aside0.mk (swL_perm hs 0 n)
 have HL1 := swL_len hs 0 n
 clear h hp hne
 have hn3 : (n : Int) ≤ 900 := by omega
 go_enter Tryz.func162, Tryz.ntmps162
 go_wp2_with (first
  | (go_at_call 291; refine (len_calls _ _ _ _).mono ?_; rintro e w1 ⟨rfl, hb⟩; have n0_ := Aside0.mk (HM.out.below hb); clear HM hb mm ms; have HM := n0_; clear n0_; have ms := m_swap g _ _ HM.out.cell)
  | (go_at_call 293; refine (HM.out.swap_ (i := 0) (j := n) (by omega) (by omega) (by omega) h0 h1).mono ?_; rintro e w2 ⟨rfl, hh⟩; clear HM ms; have HM := Aside0.mk hh; clear hh)
  | (go_at_call 228; refine (down_calls (lo := 0) (i0 := 0) (n := n) HM.out (by omega) (by omega) (by omega) (Nat.le_refl _) HX.out HNN.out).mono ?_; rintro e w3 ⟨b, rfl, hs2, hm, hp, hq, ht⟩; have HM2 := Aside0.mk hm; have HP := Aside0.mk hp; have HQ2 := Aside0.mk hq; have HT := Aside0.mk ht; clear HM hm hp hq ht)
  | (go_at_call 296; refine (hpop_calls (n := n) HM2.out (by rw [HQ2.out.length_eq, HL1]; exact hn) (by omega)).mono ?_; rintro e w4 ⟨⟨v, rfl⟩, hh⟩; have HM3 := Aside0.mk hh; clear hh))
 go_ret
 have e2 : hs2.length = n + 1 := by rw [HQ2.out.length_eq, HL1]; exact hn
 have e3 : (hs2.take n).length = n := by rw [List.length_take]; omega
 refine ⟨⟨_, rfl⟩, hs2.take n, HM3.out, ?_, ?_⟩
 ·rw [e3]
  refine HP.out.congr (fun k hk => ?_)
  rw [fv_get (by omega), fv_get (by omega), List.getElem_take]
 ·have e4 : hs2.take n ++ [fv hs 0] = hs2 := by
   have e5 : fv hs 0 = hs2[n]'(by omega) := by
    rw [← H0.out, ← HT.out n (Nat.le_refl _), fv_get (by omega)]
   rw [e5]
   have := List.take_append_drop n hs2
   conv => rhs; rw [← this, List.drop_eq_getElem_cons (by omega), List.drop_of_length_le (by omega)]
  rw [e4]
  exact HQ2.out.trans HP1.out
set_option maxHeartbeats 8000000 in
set_option maxRecDepth 100000 in
theorem init_calls {w0 wb w : World} {g c n : Nat} {A : Option Addr} {hs : List Fr} (h : Hm w0 wb w g A c hs) (hn : hs.length = n) (hL : n ≤ 900) (hne : ∀ x ∈ hs, x.l ≠ []) :
  Calls Tryz.prog 160 #[.iface 190 (.pointer (some ⟨g, 0, none⟩))] w fun e w' => e = .returned (.tuple #[]) ∧ ∃ hs', Hm w0 wb w' g A c hs' ∧ Hp leF (fv hs') hs'.length 0 ∧ hs'.Perm hs := by
 have mm := m_len g _ w h.cell
 have HM := Aside0.mk h
 clear h
 have hn3 : (n : Int) ≤ 900 := by omega
 have hq : Int.tdiv (n : Int) 2 = ((n / 2 : Nat) : Int) := by rw [Int.tdiv_eq_ediv_of_nonneg (by omega)]; omega
 obtain ⟨m, hm⟩ : ∃ m, m = n / 2 := ⟨_, rfl⟩
 rw [← hm] at hq
 have hm9 : (m : Int) ≤ 450 := by omega
 go_enter Tryz.func160, Tryz.ntmps160
 go_wp2_with (first
  | (go_at_call 291; refine (len_calls _ _ _ _).mono ?_; rintro e w1 ⟨rfl, hb⟩; have n0_ := Aside0.mk (HM.out.below hb); clear HM hb mm; have HM := n0_; clear n0_))
 go_loopw [3] (fun v3 w' => ∃ (k : Nat) (hs' : List Fr), v3 = .int .i64 ((k : Int) - 1) ∧ k ≤ 450 ∧ Aside0 (Hm w0 wb w' g A c hs') ∧ Aside0 (Hp leF (fv hs') n k) ∧ Aside0 (hs'.Perm hs)) (fun v3 _ => (intOf v3 + 1).toNat)
 case atStart => exact ⟨m, hs, by go_num, by omega, HM, ⟨by rw [hm]; exact Hp.first⟩, ⟨List.Perm.refl _⟩⟩
 case round =>
  clear HM
  obtain ⟨k, hs', rfl, hk, HM, HX, HP⟩ := hrel
  by_cases h0 : 0 < k
  ·obtain ⟨j, rfl⟩ : ∃ j, k = j + 1 := ⟨k - 1, by omega⟩
   have ej : ((j + 1 : Nat) : Int) - 1 = (j : Int) := by omega
   have t1 : decide ((0 : Int) ≤ (j : Int)) = true := decide_eq_true (by omega)
   have hln : hs'.length = n := by rw [HP.out.length_eq]; exact hn
   rw [ej]
   go_wp2_with (first
    | (go_at_call 228; refine (down_calls (lo := j) (i0 := j) (n := n) HM.out (by omega) (by omega) (by omega) (Nat.le_refl _) HX.out.next (fun k_ hk_ => by rw [fv_get (by omega)]; exact hne _ (HP.out.mem_iff.1 (List.getElem_mem (by omega))))).mono ?_; rintro e w3 ⟨b, rfl, hs2, hm2, hp, hq2, ht⟩; have HM2 := Aside0.mk hm2; have HPP := Aside0.mk hp; have HQ2 := Aside0.mk hq2; clear HM hm2 hp hq2 ht))
   go_roundw
   case rel => exact ⟨j, hs2, by go_num, by omega, HM2, HPP, ⟨HQ2.out.trans HP.out⟩⟩
   case measure => simp [intOf]
  ·obtain rfl : k = 0 := by omega
   have ej : ((0 : Nat) : Int) - 1 = -1 := by omega
   have hln : hs'.length = n := by rw [HP.out.length_eq]; exact hn
   rw [ej]
   go_wp2
   first | go_end0 | ((try simp only [Exit.inBlock, Exit.then]); refine bodyPost_ret (results_none rfl _ _ _) rfl ?_)
   exact ⟨rfl, hs', HM.out, by rw [hln]; exact HX.out, HP.out⟩
end Go.Proofs.YtchgpcgolgcfdaaGreat.Hp
end
section
namespace Go.Proofs.YtchgpcgolgcfdaaGreat.SetS
open Go Go.RowKit Go.Maps Go.Proofs.YtchgpcgolgcfdaaGreatW.PrintWords
theorem laidOut : laidOutB Tryz.prog = true := by kernel_rfl
theorem law0 : WideMaps.KeyLaw Tryz.prog 195 := deep_law_laid laidOut (m := 2) (by omega) (of_decide_eq_true (by kernel_rfl)) (by kernel_rfl) (by rw [Tryz.underlying195])
theorem law : Keyed Tryz.prog 195 := Keyed.of_law law0
theorem unit0 (w : World) : (zeroValue 196).run Tryz.prog w = .ok (.agg #[]) w := by kernel_rfl
abbrev K2 := ByteArray × Int
def kv (x : K2) : Value := .agg #[.string x.1, .int .u64 x.2]
def kl (x : K2) : Lit := .string (keyBytes [.string x.1.data.toList, .int .u64 x.2])
theorem cells2 : Tryz.prog.cellsOf 195 = 2 := by kernel_rfl
theorem kt : Tryz.prog.keyType 195 = true := by kernel_rfl
theorem sz : 1 < Tryz.prog.types.size := of_decide_eq_true (by kernel_rfl)
theorem key {x : K2} (h1 : x.1.size ≤ maxLen) (h2 : (Lit.int .u64 x.2).wf = true) : keyOf Tryz.prog 195 (kv x) = some (kl x) := by
 have hu := Tryz.underlying195
 have hs := Tryz.underlying9
 have hi := Tryz.underlying25
 have c1 : Tryz.prog.cellsOf 9 = 1 := by kernel_rfl
 have c2 : Tryz.prog.cellsOf 25 = 1 := by kernel_rfl
 have hf : (kv x).formed Tryz.prog 195 = true := by simp [kv, Value.formed, hu, cells2]
 obtain ⟨m, hm⟩ : ∃ m, Tryz.prog.types.size = m + 1 := ⟨Tryz.prog.types.size - 1, by have := sz; omega⟩
 unfold keyOf
 rw [hu]
 simp only [kt, hf, Bool.and_self, if_true]
 rw [hm]
 simp [Program.keyLits, hu, hs, hi, cells2, c1, c2, kv, Value.cells, h1, h2, kl]
def ok (x : K2) : Prop := x.1.size ≤ maxLen ∧ (Lit.int .u64 x.2).wf = true
theorem kl_inj {x y : K2} (hx : ok x) (hy : ok y) (h : kl x = kl y) : x = y := by
 have h1 := law.inj (key hx.1 hx.2) ((key hy.1 hy.2).trans (congrArg some h.symm))
 have h2 : x.1 = y.1 ∧ x.2 = y.2 := by
  simp [kv] at h1
  exact h1
 exact Prod.ext h2.1 h2.2
def D (L : List K2) : DataW Unit := setOf (.agg []) (L.map kl)
def Is (W : World) (b : Nat) (L : List K2) : Prop := W.ownsMap Tryz.prog 195 (unitElem (H := Unit)) b L.length (D L)
theorem has_D {L : List K2} {x : K2} (hL : ∀ y ∈ L, ok y) (hx : ok x) : Maps.has (D L) (kl x) = L.any (fun y => decide (x = y)) := by
 unfold D
 rw [has_setOf _ _ _ (fun y hy => by obtain ⟨_, _, rfl⟩ := List.mem_map.1 hy; trivial), List.any_map]
 induction L with
 | nil => simp
 | cons a L ih =>
  have h1 := ih (fun y hy => hL y (List.mem_cons_of_mem _ hy))
  have h2 : ((fun y : Lit => y.sameKey (kl x)) ∘ kl) a = decide (x = a) := by
   by_cases e : x = a
   ·subst e
    simp [kl, Lit.sameKey]
   ·rw [decide_eq_false e]
    have : ¬ kl a = kl x := fun h => e (kl_inj (hL a (by simp)) hx h).symm
    simp [kl] at this
    simp [kl, Lit.sameKey, this]
  rw [List.any_cons, h1, h2, List.any_cons]
theorem D_snoc (L : List K2) (x : K2) : (D L).put (kl x) (.agg []) = D (L ++ [x]) := by
 unfold D
 rw [List.map_append]
 exact (setOf_snoc _ _ _).symm
theorem Is.new (w : World) : Is (w.alloc (.map #[] 0)) w.heap.size [] := World.ownsMap_made _ _ _ _
theorem Is.lt {W : World} {b : Nat} {L : List K2} (h : Is W b L) : b < W.heap.size := World.ownsMap.lt h
theorem Is.grown {W W1 : World} {b : Nat} {L : List K2} {row : Option Nat} (h : Is W b L) (hg : W.grownBy W1 row) (hne : some b ≠ row) : Is W1 b L := World.ownsMap.kept h hg hne
theorem Is.below {W W1 : World} {b : Nat} {L : List K2} (h : Is W b L) (hb : Below W.heap.size W W1) : Is W1 b L := h.grown (grown_of_below hb none) (by simp)
theorem Is.alloc {W : World} {b : Nat} {L : List K2} (h : Is W b L) (o : Obj) : Is (W.alloc o) b L := World.ownsMap.alloc h o
theorem Is.map {W : World} {b : Nat} {L : List K2} (h : Is W b L) : ∃ es c, W.heap[b]? = some (.map es c) := by
 obtain ⟨es, c, hb, _⟩ := h
 exact ⟨es, c, hb⟩
theorem Is.ne {W : World} {b : Nat} {L : List K2} (h : Is W b L) {k : Nat} {cs : Array Value} {t : TypeId} {fr : Nat × Nat} (hk : W.heap[k]? = some (.cells cs t fr)) : b ≠ k := by
 rintro rfl
 obtain ⟨es, c, hb⟩ := h.map
 rw [hb] at hk
 cases hk
theorem Is.far {W : World} {b : Nat} {L : List K2} (h : Is W b L) {p : Addr} (hp : b ≠ p.block) (u : Value) : Is (W.setCell p u) b L := World.ownsMap.setCell h hp u
theorem Is.move {W W1 : World} {b : Nat} {L : List K2} (h : Is W b L) (hm : W1.heap[b]? = W.heap[b]?) : Is W1 b L := by
 obtain ⟨es, c, hb, hr⟩ := h
 exact ⟨es, c, hm.trans hb, hr⟩
end Go.Proofs.YtchgpcgolgcfdaaGreat.SetS
end
section
namespace Go.Proofs.YtchgpcgolgcfdaaGreat.Hp
open Go Go.RowKit Go.Proofs.YtchgpcgolgcfdaaGreat.PNum Go.Proofs.YtchgpcgolgcfdaaGreat.BkW Go.Proofs.YtchgpcgolgcfdaaGreat.PuIkC Go.Proofs.YtchgpcgolgcfdaaGreatW.PrintWords Go.Proofs.YtchgpcgolgcfdaaGreatW.PrintLast Go.Proofs.YtchgpcgolgcfdaaGreatW.PrintMore Go.Proofs.YtchgpcgolgcfdaaGreatW.Pu Go.Proofs.YtchgpcgolgcfdaaGreatW.PuMrg Go.Proofs.YtchgpcgolgcfdaaGreatW.PuHeap
set_option linter.unusedVariables false
set_option linter.unusedSimpArgs false
section
variable {P : Program} {ops : Array Oper} {rest : List Oper} {o : Oper} {a : Act} {Q : Exit → Act → World → Prop}
theorem wp_append_raw {W : World} (hgd : o.guard = none) (s x : Operand) (t e : TypeId) (z : Value) (size bytes : Nat)
  (ho : o.op = .call { callee := .builtin .append, args := #[s, x], argTypes := #[t, t] })
  (ht : P.underlying t = some (.slice e)) (hinfo : (P.info? e).map (fun i => (i.zero, i.size, i.bytes)) = some (some z, size, bytes)) (hz : z.cells.size = size) (hs0 : 0 < size)
  (v : Value) (n : Nat) (xs : List Value) (ad : Addr) (m c : Nat) (news : List Value) (hs : a.eval s = v) (hx : a.eval x = .slice (some ad) m c) (HO : Rw W e size v n xs) (hln : news.length = m * size) (hnews : ∀ j u, news[j]? = some u → W.cell? (ad.add j) = some u) (h1 : ∀ u ∈ news, u.oneCell' = true) (hm : 0 < m)
  (hl : (n + m) * bytes ≤ 140737488355328) (hl2 : n + m ≤ maxLen)
  (h : ∀ v1 w1, Rw w1 e size v1 (n + m) (xs ++ news) → W.grownBy w1 v.ownBlock → ((∃ A' c', v = .slice A' n c' ∧ v1 = .slice A' (n + m) c') ∨ ∃ b, v1.ownBlock = some b ∧ W.heap.size ≤ b) → wpList P ops Q rest (a.put o.dst v1) w1) :
  wpList P ops Q (o :: rest) a W := by
 obtain ⟨i0, hi, hzz⟩ := Option.map_eq_some_iff.1 hinfo
 simp only [Prod.mk.injEq] at hzz
 obtain ⟨hz0, hz1, hz2⟩ := hzz
 obtain ⟨v1, w1, hr, h1', h2, h3, h4⟩ := Rw.append (P := P) W t o.type e i0 z size bytes ht hi hz0 hz1 hz2 hz hs0 v n xs HO ad m c news hln hnews h1 hm hl2 hl
 refine wpList_plain hgd fun K hK => ?_
 unfold Oper.wp execOp
 simp only [ho, resolve, invoke, builtin, Sem.run_bind, Sem.run_pure, Result.andThen_ok, List.map_toArray, List.map_cons, List.map_nil, hs, hx, hr]
 exact hK _ _ (h v1 w1 h1' h3 h4)
end
theorem Hm.push {w0 wb w w1 w2 : World} {g c : Nat} {A : Option Addr} {hs : List Fr} (h : Hm w0 wb w g A c hs) (hb : Below w.heap.size w w1) (x : Fr) (hx : Kd.C kE w0 x.A x.l.length x.l ∧ x.l.length ≤ x.c) {v1 : Value}
  (hr : Rw w2 188 2 v1 (hs.length + 1) (encL encH hs ++ encH x)) (hg : w1.grownBy w2 (Value.slice A hs.length c).ownBlock) (hat : (∃ A' c', (Value.slice A hs.length c) = .slice A' hs.length c' ∧ v1 = .slice A' (hs.length + 1) c') ∨ ∃ b, v1.ownBlock = some b ∧ w1.heap.size ≤ b) :
  ∃ A' c', v1 = .slice A' (hs.length + 1) c' ∧ w2.cell? ⟨g, 0, none⟩ = some (.slice A hs.length c) ∧ w2.frozen? ⟨g, 0, none⟩ = false ∧ Hm w0 (w2.setCell ⟨g, 0, none⟩ v1) (w2.setCell ⟨g, 0, none⟩ v1) g A' c' (hs ++ [x]) := by
 have h1 := h.below hb
 obtain ⟨A', c', rfl, hcc⟩ := hr.slice
 have hne : some g ≠ (Value.slice A hs.length c).ownBlock := fun e => by
  obtain ⟨cur, hc⟩ := h1.row.typed g e.symm
  have := h1.blk.symm.trans hc
  simp at this
 have hblk := blk_grown h1.blk hg hne
 have hB : Below w0.heap.size w0 w2 := h1.bel.grown hg h1.bel.size (fun k hk => h.rb k hk)
 have hen : encL encH hs ++ encH x = encL encH (hs ++ [x]) := by rw [encL_append]; rfl
 have hlen : (hs ++ [x]).length = hs.length + 1 := by simp
 refine ⟨A', c', rfl, (blk_cell hblk 0).trans rfl, blk_frozen hblk 0, ?_, ?_, ?_, h.gb, below_set hB h.gb, Kf.refl _ _ _, ?_⟩
 ·rw [hlen]
  exact blk_put hblk 0 _ rfl
 ·rw [hlen, ← hen]
  refine hr.move (fun k hk => Below.heap_setCell _ _ _ k (fun e => ?_))
  obtain ⟨cur, hc⟩ := hr.typed k hk
  rw [e] at hc
  have := hblk.symm.trans hc
  simp at this
 ·rw [hlen]
  intro k hk
  rcases hat with ⟨A2, c2, e1, e2⟩ | ⟨b, e1, e2⟩
  ·injection e1 with e1 _ _
   injection e2 with e2 _ _
   subst e1; subst e2
   exact h.rb k (by rw [← hk]; exact own_sl _ _ _ _ _)
  ·rw [e1] at hk
   injection hk with hk
   have := h1.bel.size
   omega
 ·intro y hy
  rcases List.mem_append.1 hy with q | q
  ·exact h.ls y q
  ·rw [List.mem_singleton.1 q]; exact hx
def hdsOf (ls : List (List E)) : List (Hd E) := ls.zipIdx.filter fun x => !x.1.isEmpty
theorem hdsOf_snoc (ls : List (List E)) (l : List E) : hdsOf (ls ++ [l]) = hdsOf ls ++ (if l = [] then [] else [(l, ls.length)]) := by
 unfold hdsOf
 rw [List.zipIdx_append, List.filter_append]
 congr 1
 cases l <;> simp
theorem hdsOf_start {ls : List (List E)} : Inv ce ls (hdsOf ls) [] := by
 refine Inv.start (fun h hh => ?_) (fun i l h1 h2 => ?_)
 ·obtain ⟨h1, h2⟩ := List.mem_filter.1 hh
  refine ⟨fun e => by rw [e] at h2; simp at h2, ?_⟩
  exact List.mem_zipIdx_iff_getElem?.1 h1
 ·refine List.mem_filter.2 ⟨List.mem_zipIdx_iff_getElem?.2 h1, ?_⟩
  cases l with
  | nil => exact absurd rfl h2
  | cons a l => rfl
theorem lcells {w : World} {A : Option Addr} {n : Nat} {ls : List (List E)} (hC : Kd.C (Kd.slice 32 kE) w A n ls) {i : Nat} (hi : i < ls.length) :
  ∃ ad A' c', A = some ad ∧ (∀ V, Below w.heap.size w V → V.cell? (ad.add i) = some (.slice A' ls[i].length c')) ∧ ls[i].length ≤ c' ∧ Kd.C kE w A' ls[i].length ls[i] := by
 have hn : ls.length = n := hC.1
 obtain ⟨ad, rfl, h1⟩ := hC.2.2 (by omega)
 obtain ⟨cs, hsz, ⟨A', c', e, hc, hC'⟩, hcell⟩ := h1 i ls[i] (List.getElem?_eq_getElem hi)
 refine ⟨ad, A', c', rfl, fun V hb => ?_, hc, hC'⟩
 have h2 := hcell 0 (.slice A' ls[i].length c') (by rw [e]; rfl)
 have h3 : (ad.add (i * (Kd.slice 32 kE).sz)).add 0 = ad.add i := by
  show (ad.add (i * 1)).add 0 = ad.add i
  rw [Nat.mul_one]
  simp [Addr.add]
 first | exact pw_cell_below hb (h3 ▸ h2) | exact pw_cell_below hb h2
end Go.Proofs.YtchgpcgolgcfdaaGreat.Hp
end
section
namespace Go.Proofs.YtchgpcgolgcfdaaGreat.Ra
open Go Go.RowKit Go.Proofs.YtchgpcgolgcfdaaGreat.PNum Go.Proofs.YtchgpcgolgcfdaaGreat.BkW Go.Proofs.YtchgpcgolgcfdaaGreat.PuIkC Go.Proofs.YtchgpcgolgcfdaaGreat.RefIns Go.Proofs.YtchgpcgolgcfdaaGreatW.PrintWords Go.Proofs.YtchgpcgolgcfdaaGreatW.PrintLast Go.Proofs.YtchgpcgolgcfdaaGreatW.PrintMore Go.Proofs.YtchgpcgolgcfdaaGreatW.Pu Go.Proofs.YtchgpcgolgcfdaaGreatW.PuMrg
set_option linter.unusedVariables false
set_option linter.unusedSimpArgs false
abbrev E := S32
theorem ins_eq (e : E) : ∀ l : List E, insL e l = ins ce e l
 | [] => rfl
 | x :: r => by rw [insL, ins, ins_eq e r]
theorem ins_no_eq (e : E) (l : List E) (h : insB e l = false) : insL e l = l := (ins_no e l h).1
def fold (out l : List E) : List E := l.foldl (fun a e => ins ce e a) out
theorem fold_snoc (out l : List E) (e : E) : fold out (l ++ [e]) = ins ce e (fold out l) := by unfold fold; rw [List.foldl_append]; rfl
theorem fold_len (out l : List E) : (fold out l).length ≤ out.length + l.length := foldl_len ce l out
theorem fold_mem : ∀ (l out : List E) (P : E → Prop), (∀ x ∈ out, P x) → (∀ x ∈ l, P x) → ∀ x ∈ fold out l, P x
 | [], out, P, h1, h2, x, hx => h1 x hx
 | e :: l, out, P, h1, h2, x, hx => by
  refine fold_mem l (ins ce e out) P (fun y hy => ?_) (fun y hy => h2 y (List.mem_cons_of_mem _ hy)) x hx
  have hm : ∀ (o : List E), (∀ x ∈ o, P x) → ∀ y ∈ ins ce e o, P y := by
   intro o
   induction o with
   | nil =>
    intro _ y hy
    rw [ins] at hy
    rw [List.mem_singleton.1 hy]
    exact h2 e (by simp)
   | cons a r ih =>
    intro ho y hy
    rw [ins] at hy
    split at hy
    ·rcases List.mem_cons.1 hy with rfl | hy
     ·exact ho _ (by simp)
     ·exact ih (fun z hz => ho z (List.mem_cons_of_mem _ hz)) y hy
    ·split at hy
     ·exact ho y hy
     ·rcases List.mem_cons.1 hy with rfl | hy
      ·exact h2 y (by simp)
      ·exact ho y hy
  exact hm out h1 y hy
def Ro (w0 w : World) (v : Value) (l : List E) : Prop := ∃ A c, v = .slice A l.length c ∧ l.length ≤ c ∧ Rw w 32 4 (.slice A l.length c) l.length (encL encE l) ∧ ∀ k, (Value.slice A l.length c).ownBlock = some k → w0.heap.size ≤ k
theorem Ro.below {w0 w w1 : World} {v : Value} {l : List E} (h : Ro w0 w v l) (hb : Below w.heap.size w w1) : Ro w0 w1 v l := by
 obtain ⟨A, c, e, hc, hr, hk⟩ := h
 exact ⟨A, c, e, hc, hr.below hb, hk⟩
theorem ins_ro {w0 w : World} {v : Value} {l : List E} {e : E} (h : Ro w0 w v l) (hb : Below w0.heap.size w0 w) (hl : l.length ≤ 1000000) (hs : ∀ x ∈ l, x.f0.size ≤ 140737488351232) (he : e.f0.size ≤ 140737488351232) :
  Calls Tryz.prog 13 #[v, .agg #[.string e.f0, .int .u64 e.f1, .int .i64 e.f2, .string e.f3]] w fun ee w' => ∃ v' b, ee = .returned (.tuple #[v', .bool b]) ∧ Ro w0 w' v' (ins ce e l) ∧ Below w.heap.size w w' := by
 obtain ⟨A, c, rfl, hc, hr, hk⟩ := h
 refine (insert_calls w A c l e (flatE.to_C hr rfl) hc hl hs he).mono ?_
 rintro ee w' ⟨hb2, ⟨hf, rfl⟩ | ⟨ht, A', c', rfl, hr', hk'⟩⟩
 ·refine ⟨_, _, rfl, ?_, hb2⟩
  rw [← ins_eq, ins_no_eq e l hf]
  exact ⟨A, c, rfl, hc, hr.below hb2, hk⟩
 ·refine ⟨_, _, rfl, ?_, hb2⟩
  rw [← ins_eq]
  obtain ⟨A2, c2, e2, hc2⟩ := hr'.slice
  injection e2 with _ _ e2
  exact ⟨A', c', rfl, by omega, hr', fun k hk2 => Nat.le_trans hb.size (hk' k hk2)⟩
set_option maxHeartbeats 8000000 in
set_option maxRecDepth 100000 in
theorem all12_calls (A0 : Option Addr) (c0 : Nat) (ls : List (List E)) (w : World) (hr0 : Kd.C (Kd.slice 32 k32) w A0 ls.length ls) (hc0 : ls.length ≤ c0) (hs : ∀ l ∈ ls, ∀ e ∈ l, e.f0.size ≤ 140737488351232) (hT : ls.flatten.length ≤ 1000000) (hn : ls.length ≤ 1000000) :
  Calls Tryz.prog 35 #[.slice A0 ls.length c0] w fun e w' => ∃ v, e = .returned v ∧ Ro w w' v (mrg ce ls) ∧ Below w.heap.size w w' := by
 have HR := Aside0.mk hr0
 have HS := Aside0.mk hs
 have HT := Aside0.mk hT
 clear hr0 hc0 hs hT
 have hnI : (ls.length : Int) ≤ 1000000 := by omega
 go_enter Tryz.func35, Tryz.ntmps35
 go_wp2
 go_loopw [3, 4] (fun v3 v4 w' => ∃ i : Nat, v4 = .int .i64 i ∧ i ≤ ls.length ∧ Aside0 (Ro w w' v3 (fold [] (ls.take i).flatten)) ∧ Aside0 (Below w.heap.size w w')) (fun _ v4 _ => ls.length - (intOf v4).toNat)
 case atStart => exact ⟨0, rfl, Nat.zero_le _, ⟨⟨none, 0, rfl, Nat.le_refl _, Rw.nil _ _ _, fun k hk => by simp [Value.ownBlock] at hk⟩⟩, ⟨Below.refl _ _⟩⟩
 case round =>
  obtain ⟨i, rfl, hi, HO, HB⟩ := hrel
  by_cases hlt : i < ls.length
  ·have p0 : (0 : Int) ≤ (i : Int) := Int.natCast_nonneg _
   have q0 : (i : Int) < (ls.length : Int) := Int.ofNat_lt.mpr hlt
   have t0 : decide ((i : Int) < (ls.length : Int)) = true := decide_eq_true q0
   obtain ⟨ad, A', c', e0, hY, hcc, hC⟩ := Hp.lcells HR.out hlt
   subst e0
   have HY := Aside0.mk hY
   have HC := Aside0.mk hC
   have HTK : Aside0 ((ls.take (i + 1)).flatten = (ls.take i).flatten ++ ls[i]) := ⟨by rw [List.take_succ_eq_append_getElem hlt, List.flatten_append]; simp⟩
   have HSL : Aside0 (∀ e ∈ ls[i], e.f0.size ≤ 140737488351232) := ⟨HS.out _ (List.getElem_mem hlt)⟩
   have HS0 : Aside0 (∀ x ∈ (ls.take i).flatten, x.f0.size ≤ 140737488351232) := ⟨fun x hx => by
    obtain ⟨l, hl, hxl⟩ := List.mem_flatten.1 hx
    exact HS.out l (List.mem_of_mem_take hl) x hxl⟩
   have HLN : Aside0 ((ls.take i).flatten.length + ls[i].length ≤ 1000000) := ⟨by
    have h1 : ls.flatten = (ls.take (i + 1)).flatten ++ (ls.drop (i + 1)).flatten := by rw [← List.flatten_append, List.take_append_drop]
    have h2 := congrArg List.length h1
    rw [List.length_append, HTK.out, List.length_append] at h2
    have := HT.out
    omega⟩
   generalize (ls.take i).flatten = fl at *
   generalize ls[i] = li at *
   have HLT := Aside0.mk hlt
   clear hY hC hlt
   have hli : (li.length : Int) ≤ 1000000 := by have := HLN.out; omega
   go_wp2
   go_loopw [3, 5] (fun v3 v5 w' => ∃ k : Nat, v5 = .int .i64 k ∧ k ≤ li.length ∧ Aside0 (Ro w w' v3 (fold [] (fl ++ li.take k))) ∧ Aside0 (Below w.heap.size w w')) (fun _ v5 _ => li.length - (intOf v5).toNat)
   case atStart => exact ⟨0, rfl, Nat.zero_le _, ⟨by rw [List.take_zero, List.append_nil]; exact HO.out⟩, HB⟩
   case round =>
    clear HO HB
    obtain ⟨k, rfl, hk, HO, HB⟩ := hrel
    have y0 := HY.out _ HB.out
    by_cases hlk : k < li.length
    ·have p5 : (0 : Int) ≤ (k : Int) := Int.natCast_nonneg _
     have q5 : (k : Int) < (li.length : Int) := Int.ofNat_lt.mpr hlk
     have t5 : decide ((k : Int) < (li.length : Int)) = true := decide_eq_true q5
     obtain ⟨ad1, e1, z0, z1, z2, z3⟩ := at_T32 (Kd.C_below HC.out HB.out) (k : Int) p5 q5
     obtain rfl : A' = some ad1 := e1
     have hx : rd_T32 li (k : Int) = li[k] := by simp [rd_T32, hlk]
     rw [hx] at z0 z1 z2 z3
     simp only [Int.toNat_natCast] at z0 z1 z2 z3
     have HTK2 : Aside0 (li.take (k + 1) = li.take k ++ [li[k]]) := ⟨List.take_succ_eq_append_getElem hlk⟩
     have HES : Aside0 (li[k].f0.size ≤ 140737488351232) := ⟨HSL.out _ (List.getElem_mem hlk)⟩
     generalize li[k] = e at *
     have HLK := Aside0.mk hlk
     clear hx hlk
     have HOL : Aside0 ((fold [] (fl ++ li.take k)).length ≤ 1000000) := ⟨by
      have h1 := fold_len [] (fl ++ li.take k)
      rw [List.length_append, List.length_take] at h1
      simp only [List.length_nil] at h1
      have := HLN.out
      omega⟩
     have HOS : Aside0 (∀ x ∈ fold [] (fl ++ li.take k), x.f0.size ≤ 140737488351232) := ⟨fold_mem _ [] (fun x => x.f0.size ≤ 140737488351232) (by simp) (fun x hx => by
      rcases List.mem_append.1 hx with hx | hx
      ·exact HS0.out x hx
      ·exact HSL.out x (List.mem_of_mem_take hx))⟩
     go_wp2_with (first | (go_at_call 13; refine (ins_ro HO.out HB.out HOL.out HOS.out HES.out).mono ?_; rintro ee w1 ⟨v', b', rfl, hro, hb⟩; have HO2 := Aside0.mk hro; have HB2 := Aside0.mk (below_step HB.out hb); clear hro hb))
     go_roundw
     case rel => exact ⟨k + 1, by go_num, by have := HLK.out; omega, ⟨by rw [HTK2.out, ← List.append_assoc, fold_snoc]; exact HO2.out⟩, HB2⟩
     case measure => simp [intOf]; have := HLK.out; omega
    ·obtain rfl : k = li.length := by omega
     have t5 : decide ((li.length : Int) < (li.length : Int)) = false := decide_eq_false (by omega)
     go_wp2
     go_roundw
     case rel => exact ⟨i + 1, by go_num, by have := HLT.out; omega, ⟨by rw [HTK.out]; have := HO.out; rw [List.take_length] at this; exact this⟩, HB⟩
     case measure => simp [intOf]; have := HLT.out; omega
  ·obtain rfl : i = ls.length := by omega
   have t0 : decide ((ls.length : Int) < (ls.length : Int)) = false := decide_eq_false (by omega)
   go_wp2
   go_ret
   exact ⟨_, rfl, by have := HO.out; rw [List.take_length] at this; exact this, HB.out⟩
end Go.Proofs.YtchgpcgolgcfdaaGreat.Ra
end
section
namespace Go.Proofs.YtchgpcgolgcfdaaGreat.Hp
open Go Go.RowKit Go.Proofs.YtchgpcgolgcfdaaGreat.PNum Go.Proofs.YtchgpcgolgcfdaaGreat.BkW Go.Proofs.YtchgpcgolgcfdaaGreat.PuIkC Go.Proofs.YtchgpcgolgcfdaaGreatW.PrintWords Go.Proofs.YtchgpcgolgcfdaaGreatW.PrintLast Go.Proofs.YtchgpcgolgcfdaaGreatW.PrintMore Go.Proofs.YtchgpcgolgcfdaaGreatW.Pu Go.Proofs.YtchgpcgolgcfdaaGreatW.PuMrg Go.Proofs.YtchgpcgolgcfdaaGreatW.PuHeap
set_option linter.unusedVariables false
set_option linter.unusedSimpArgs false
section
variable {w0 wb W W1 : World} {g c : Nat} {A : Option Addr} {hs : List Fr}
theorem Hm.own (h : Hm w0 wb W g A c hs) : ∀ k, (Value.slice A 0 0).ownBlock = some k → ∃ x, W.heap[k]? = some (.cells x 188 (0, 0)) := fun k hk => h.row.typed k (by rw [← hk]; exact own_sl _ _ _ _ _)
theorem Hm.keepR (h : Hm w0 wb W g A c hs) (hk : Kf W W1 g A) {base : Nat} {ok : Nat → Prop} {v : Value} {xs : List E} (hr : Kd.R kE 32 W base ok v xs) : Kd.R kE 32 W1 base ok v xs :=
 Kd.R_mono (Kd.R_move (Kd.R_bound hr) (fun k hk' => by
  obtain ⟨_, _, hlt, q, hq, cells, hc⟩ := hk'
  have hqe : q = 32 := by
   rcases List.mem_cons.1 hq with e | e
   ·exact e
   ·have he : kE.E = [] := rfl
    rw [he] at e
    simp at e
  subst hqe
  refine hk.2 k hlt (fun e => ?_) (fun e => ?_)
  ·subst e
   have := h.blk.symm.trans hc
   simp at this
  ·obtain ⟨x, hx⟩ := h.own k e
   have := hx.symm.trans hc
   simp at this)) (fun _ hk => hk.1)
theorem Hm.keepB (h : Hm w0 wb W g A c hs) (hk : Kf W W1 g A) {b : Nat} {cs : Array Value} {t : TypeId} (hb : W.heap[b]? = some (.cells cs t (0, 0))) (h1 : t ≠ 186) (h2 : t ≠ 188) : W1.heap[b]? = some (.cells cs t (0, 0)) := by
 rw [hk.2 b (blk_lt hb) (fun e => ?_) (fun e => ?_)]
 ·exact hb
 ·subst e
  have := h.blk.symm.trans hb
  simp at this
  exact h1 this.2.symm
 ·obtain ⟨x, hx⟩ := h.own b e
  have := hx.symm.trans hb
  simp at this
  exact h2 this.2.symm
theorem Hm.keepS (h : Hm w0 wb W g A c hs) (hk : Kf W W1 g A) {b : Nat} {L : List SetS.K2} (hb : SetS.Is W b L) : SetS.Is W1 b L := by
 refine hb.move (hk.2 b hb.lt (fun e => ?_) (fun e => ?_))
 ·exact hb.ne h.blk e
 ·obtain ⟨x, hx⟩ := h.own b e
  exact hb.ne hx rfl
def cutF (x : Fr) : Fr := ⟨if x.c = 1 then x.A else x.A.map (·.add (1 * 4)), x.c - 1, x.l.drop 1, x.p⟩
theorem Hm.cut (h : Hm w0 wb W g A c hs) (h0 : 0 < hs.length) (hb : Below W.heap.size W W1) {G o : Nat} (hA : A = some ⟨G, o, none⟩) (hl : (hs[0]'h0).l ≠ []) :
  Hm w0 (W1.setCell ⟨G, o, none⟩ (.slice (cutF (hs[0]'h0)).A (cutF (hs[0]'h0)).l.length (cutF (hs[0]'h0)).c)) (W1.setCell ⟨G, o, none⟩ (.slice (cutF (hs[0]'h0)).A (cutF (hs[0]'h0)).l.length (cutF (hs[0]'h0)).c)) g A c (hs.set 0 (cutF (hs[0]'h0))) := by
 subst hA
 have h1 := h.below hb
 obtain ⟨G', o', e, hne, hG⟩ := h1.some_ h0
 injection e with e
 injection e with e1 e2
 subst e1; subst e2
 obtain ⟨x, hx⟩ : ∃ x, x = hs[0]'h0 := ⟨_, rfl⟩
 rw [← hx] at hl ⊢
 have hlen : (hs.set 0 (cutF x)).length = hs.length := List.length_set
 have hput := h1.row.put (p := 0) (seg := [.slice (cutF x).A (cutF x).l.length (cutF x).c]) (by rw [encH_len]; simp; omega)
 have hset := encH_set (cutF x) hs 0 h0
 obtain ⟨r, hr⟩ : ∃ r, hs = x :: r := by
  cases hs with
  | nil => simp at h0
  | cons a r => exact ⟨r, by rw [hx]; rfl⟩
 have hen : (encL encH hs).take 0 ++ [.slice (cutF x).A (cutF x).l.length (cutF x).c] ++ (encL encH hs).drop (0 + [Value.slice (cutF x).A (cutF x).l.length (cutF x).c].length) = encL encH (hs.set 0 (cutF x)) := by
  rw [hr]
  rfl
 rw [hen] at hput
 refine ⟨?_, ?_, ?_, h.gb, below_set h1.bel hG, Kf.refl _ _ _, ?_⟩
 ·rw [hlen]
  exact blk_far h1.blk (fun e => hne e.symm) _
 ·rw [hlen]
  exact hput
 ·rw [hlen]
  exact h.rb
 ·intro y hy
  rcases List.mem_or_eq_of_mem_set hy with q | q
  ·exact h.ls y q
  ·subst q
   have hx2 := h.ls x (by rw [hx]; exact List.getElem_mem _)
   have hl0 : 0 < x.l.length := List.length_pos_iff.2 hl
   have hd := Kd.C_drop (m := 1) hx2.1 (by omega) hx2.2
   refine ⟨hd, ?_⟩
   show (x.l.drop 1).length ≤ x.c - 1
   rw [List.length_drop]
   have := hx2.2
   omega
end
end Go.Proofs.YtchgpcgolgcfdaaGreat.Hp
end
section
namespace Go.Proofs.YtchgpcgolgcfdaaGreat.Hp
open Go Go.RowKit Go.Proofs.YtchgpcgolgcfdaaGreat.PNum Go.Proofs.YtchgpcgolgcfdaaGreat.BkW Go.Proofs.YtchgpcgolgcfdaaGreat.PuIkC Go.Proofs.YtchgpcgolgcfdaaGreatW.PrintWords Go.Proofs.YtchgpcgolgcfdaaGreatW.PrintLast Go.Proofs.YtchgpcgolgcfdaaGreatW.PrintMore Go.Proofs.YtchgpcgolgcfdaaGreatW.Pu Go.Proofs.YtchgpcgolgcfdaaGreatW.PuMrg Go.Proofs.YtchgpcgolgcfdaaGreatW.PuHeap
set_option linter.unusedVariables false
set_option linter.unusedSimpArgs false
theorem enc_one (x : Fr) : ∀ u ∈ encH x, u.oneCell' = true := by
 intro u hu
 simp [encH] at hu
 rcases hu with rfl | rfl <;> rfl
theorem news_of (w : World) (x : Fr) {m : Nat} (h : m = x.l.length) : ∀ j u, (encH x)[j]? = some u → (w.alloc (.cells #[.slice x.A m x.c, .int .i64 (x.p : Int)] 188)).cell? ((⟨w.heap.size, 0, none⟩ : Addr).add j) = some u := by
 intro j u hu
 subst h
 have hb := blk_new w (.cells #[.slice x.A x.l.length x.c, .int .i64 (x.p : Int)] 188)
 rw [add_at, Nat.zero_add, blk_cell hb j]
 rw [← hu]
 cases j with
 | zero => rfl
 | succ j =>
  cases j with
  | zero => rfl
  | succ j => simp [encH]
theorem infoE : (Tryz.prog.info? 32).map (fun i => (i.zero, i.size, i.bytes)) = some (some (.agg #[.string ⟨#[]⟩, .int .u64 0, .int .i64 0, .string ⟨#[]⟩]), 4, 48) := by kernel_rfl
theorem cutF_run (x : Fr) (ae : Addr) (hae : x.A = some ae) (hl : x.l ≠ []) (hc : x.l.length ≤ x.c) : ∀ W : World, (Instr.slice 22 (.slice (some ae) x.l.length x.c) (some (.int .i64 1)) none none).run Tryz.prog W = .ok (.slice (cutF x).A (cutF x).l.length (cutF x).c) W := by
 intro W
 obtain ⟨ih, hih, _, hsz, _⟩ := info_parts infoE
 have hl0 : 0 < x.l.length := List.length_pos_iff.2 hl
 have h1 := cut_from (P := Tryz.prog) 22 32 .i64 Tryz.underlying22 hih 4 hsz (some ae) x.l.length x.c 1 (by omega) (by omega) W
 rw [h1]
 unfold cutF
 rw [hae, List.length_drop]
 rfl
def ek (e : E) : SetS.K2 := (e.f0, e.f1)
def wt (hs : List Fr) : Nat := (hs.map fun h => h.l.length).sum
theorem wt_perm {a b : List Fr} (h : a.Perm b) : wt a = wt b := (h.map _).sum_nat
theorem wt_start (ls : List (List E)) : ((hdsOf ls).map fun h => h.1.length).sum ≤ ls.flatten.length := by
 have : ∀ (xs : List (List E)) (k : Nat), (((xs.zipIdx k).filter fun x => !x.1.isEmpty).map fun h => h.1.length).sum ≤ xs.flatten.length := by
  intro xs
  induction xs with
  | nil => intro k; simp
  | cons a xs ih =>
   intro k
   rw [List.zipIdx_cons, List.filter_cons, List.flatten_cons, List.length_append]
   have := ih (k + 1)
   split
   ·simp only [List.map_cons, List.sum_cons]
    omega
   ·omega
 exact this ls 0
theorem SetS.row_ne {α : Type} {d : Kd α} {e : Nat} {W : World} {base : Nat} {ok : Nat → Prop} {v : Value} {xs : List α} {b : Nat} {L : List SetS.K2} (h : d.R e W base ok v xs) (hm : SetS.Is W b L) : some b ≠ v.ownBlock := by
 intro he
 obtain ⟨inner, ho⟩ := Kd.R_own h
 obtain ⟨cells, hc⟩ := own_typed ho b he.symm
 exact hm.ne hc rfl
theorem SetS.R_map {α : Type} {d : Kd α} {e : Nat} {W W1 : World} {base : Nat} {ok : Nat → Prop} {v : Value} {xs : List α} {b : Nat} {L : List SetS.K2} (h : d.R e W base ok v xs) (hm : SetS.Is W b L) (hg : W.grownBy W1 (some b)) : d.R e W1 base ok v xs :=
 Kd.R_mono (Kd.R_move (Kd.R_bound h) (fun k hk => by
  obtain ⟨_, _, hlt, _, _, cells, hc⟩ := hk
  refine hg.block k hlt ?_
  intro e
  injection e with e
  exact hm.ne hc e.symm)) (fun _ hk => hk.1)
theorem Hm.grownM {w0 wb w w1 : World} {g c : Nat} {A : Option Addr} {hs : List Fr} (h : Hm w0 wb w g A c hs) {b : Nat} {L : List SetS.K2} (hm : SetS.Is w b L) (hg : w.grownBy w1 (some b)) (hb : w0.heap.size ≤ b) : Hm w0 w1 w1 g A c hs :=
 ⟨blk_grown h.blk hg (fun e => SetS.Is.ne hm h.blk (Option.some.inj e).symm), h.row.move (fun k hk => hg.block k (h.row.lt k hk) (fun e => by
  obtain ⟨x, hx⟩ := h.row.typed k hk
  exact SetS.Is.ne hm hx (Option.some.inj e).symm)), h.rb, h.gb, h.bel.grown hg h.bel.size (fun k hk => by cases hk; exact hb), Kf.refl _ _ _, h.ls⟩
theorem Hm.grownR {w0 wb w w1 : World} {g c : Nat} {A : Option Addr} {hs : List Fr} (h : Hm w0 wb w g A c hs) {base : Nat} {ok : Nat → Prop} {v : Value} {xs : List E} (hr : Kd.R kE 32 w base ok v xs) (hg : w.grownBy w1 v.ownBlock) (hb : Below w0.heap.size w0 w1) : Hm w0 w1 w1 g A c hs := by
 have ht : ∀ k, v.ownBlock = some k → ∃ cells, w.heap[k]? = some (.cells cells 32 (0, 0)) := fun k hk => by
  obtain ⟨inner, ho⟩ := Kd.R_own hr
  exact own_typed ho k hk
 refine ⟨blk_grown h.blk hg (fun e => ?_), h.row.move (fun k hk => hg.block k (h.row.lt k hk) (fun e => ?_)), h.rb, h.gb, hb, Kf.refl _ _ _, h.ls⟩
 ·obtain ⟨x, hx⟩ := ht g e.symm
  have := h.blk.symm.trans hx
  simp at this
 ·obtain ⟨x, hx⟩ := ht k e.symm
  obtain ⟨y, hy⟩ := h.row.typed k hk
  have := hy.symm.trans hx
  simp at this
theorem any_ek (out : List E) (e : E) : (out.map ek).any (fun y => decide (ek e = y)) = true ↔ ∃ x ∈ out, ce x e = 0 := by
 rw [List.any_eq_true]
 constructor
 ·rintro ⟨y, hy, h⟩
  obtain ⟨x, hx, rfl⟩ := List.mem_map.1 hy
  have h := of_decide_eq_true h
  unfold ek at h
  injection h with h1 h2
  exact ⟨x, hx, (ce_zero x e).2 ⟨h1.symm, h2.symm⟩⟩
 ·rintro ⟨x, hx, h⟩
  obtain ⟨h1, h2⟩ := (ce_zero x e).1 h
  refine ⟨ek x, List.mem_map_of_mem hx, decide_eq_true ?_⟩
  unfold ek
  rw [h1, h2]
theorem Inv.round {lists : List (List E)} (hS : ∀ l ∈ lists, Srt ce l) {hs' : List Fr} {out : List E} (hI : Inv ce lists (hs'.map pr) out) {x : Fr} {r : List Fr} (hcons : hs' = x :: r) (hP : Hp leF (fv hs') hs'.length 0) {e : E} {t : List E} (het : x.l = e :: t) {hs2 : List Fr} (hq : hs2.Perm (if t = [] then r else cutF x :: r)) (bf : Bool) (hb : bf = true ↔ ∃ x ∈ out, ce x e = 0) :
  Inv ce lists (hs2.map pr) (if bf = true then out else out ++ [e]) := by
 have hpx : pr x = (e :: t, x.p) := by unfold pr; rw [het]
 have hpc : pr (cutF x) = (t, x.p) := by unfold pr cutF; simp [het]
 refine Inv.step (i := x.p) (rest := r.map pr) ordE zE hS hI (by rw [hcons, List.map_cons, hpx]) ?_ (hs2.map pr) ?_ bf hb
 ·intro y hy
  obtain ⟨z, hz, rfl⟩ := List.mem_map.1 hy
  obtain ⟨i, hi, hz2⟩ := List.mem_iff_getElem.1 hz
  have h1 := hP.min leF_pre i hi
  have h2 : fv hs' 0 = x := by rw [hcons]; rfl
  have h3 : fv hs' i = z := by unfold fv; rw [← hz2]; simp [List.getD_eq_getElem?_getD, hi]
  rw [h2, h3] at h1
  unfold leF at h1
  rw [hpx] at h1
  exact h1
 ·have := hq.map pr
  refine this.trans ?_
  split
  ·exact List.Perm.refl _
  ·rw [List.map_cons, hpc]
theorem wt_round {x : Fr} {r : List Fr} {e : E} {t : List E} (het : x.l = e :: t) {hs2 : List Fr} (hq : hs2.Perm (if t = [] then r else cutF x :: r)) : wt hs2 + 1 = wt (x :: r) := by
 rw [wt_perm hq]
 have h0 : (cutF x).l = t := by unfold cutF; rw [het]; rfl
 split
 ·rename_i h
  subst h
  simp [wt, het]
  omega
 ·simp [wt, h0, het]
  omega
theorem ok_of {lists : List (List E)} (hK : ∀ l ∈ lists, ∀ e ∈ l, SetS.ok (e.f0, e.f1)) {hs' : List Fr} {out : List E} (hI : Inv ce lists (hs'.map pr) out) {x : Fr} {r : List Fr} (hcons : hs' = x :: r) {e : E} {t : List E} (het : x.l = e :: t) : SetS.ok (ek e) ∧ ∀ y ∈ out.map ek, SetS.ok y := by
 constructor
 ·obtain ⟨l, t1, h1, h2⟩ := hI.at_ (pr x) (List.mem_map_of_mem (by rw [hcons]; simp))
  refine hK l (List.mem_iff_getElem?.2 ⟨_, h1⟩) e ?_
  rw [h2]
  show e ∈ t1 ++ x.l
  rw [het]
  simp
 ·intro y hy
  obtain ⟨z, hz, rfl⟩ := List.mem_map.1 hy
  obtain ⟨i, l, h1, h2, _⟩ := hI.sound z hz
  exact hK l (List.mem_iff_getElem?.2 ⟨_, h1⟩) z h2
set_option maxHeartbeats 16000000 in
set_option maxRecDepth 100000 in
theorem all_calls (A : Option Addr) (n c : Nat) (lists : List (List E)) (w : World) (hr : Kd.C (Kd.slice 32 kE) w A n lists) (hc : n ≤ c) (hn8 : n ≤ 800) (hS : ∀ l ∈ lists, Srt ce l) (hK : ∀ l ∈ lists, ∀ e ∈ l, SetS.ok (e.f0, e.f1)) (hT : lists.flatten.length ≤ 1000000) :
  Calls Tryz.prog 33 #[.slice A n c] w fun e w' => ∃ v, e = .returned v ∧ Kd.R kE 32 w' w.heap.size (fun _ => True) v (mrg ce lists) ∧ Below w.heap.size w w' := by
 have hln : lists.length = n := hr.1
 have HR := Aside0.mk hr
 have HSS := Aside0.mk hS
 have HKK := Aside0.mk hK
 have HTT := Aside0.mk hT
 clear hr hS hK hT
 have hn9 : (n : Int) ≤ 800 := by omega
 go_enter Tryz.func33, Tryz.ntmps33
 go_wp2
 have HM : Aside0 (Hm w (w.alloc (.cells #[.slice none 0 0] 186)) (w.alloc (.cells #[.slice none 0 0] 186)) w.heap.size none 0 []) := ⟨⟨blk_new w _, Rw.nil _ _ _, by simp [Value.ownBlock], Nat.le_refl _, below_alloc (Below.refl _ _) _, Kf.refl _ _ _, by simp⟩⟩
 obtain ⟨g, hg⟩ : ∃ g, g = w.heap.size := ⟨_, rfl⟩
 rw [← hg] at HM ⊢
 clear hg
 go_loopw [14] (fun v14 w' => ∃ (i : Nat) (hs : List Fr) (Ah : Option Addr) (ch : Nat), v14 = .int .i64 i ∧ i ≤ n ∧ hs.length ≤ i ∧ Aside0 (Hm w w' w' g Ah ch hs) ∧ Aside0 (hs.map pr = hdsOf (lists.take i))) (fun v14 _ => n - (intOf v14).toNat)
 case atStart => exact ⟨0, [], none, 0, rfl, Nat.zero_le _, Nat.le_refl _, HM, ⟨rfl⟩⟩
 case round =>
  clear HM
  obtain ⟨i, hs, Ah, ch, rfl, hi, hsi, HM, HD⟩ := hrel
  by_cases hlt : i < n
  ·have p0 : (0 : Int) ≤ (i : Int) := Int.natCast_nonneg _
   have q0 : (i : Int) < (n : Int) := Int.ofNat_lt.mpr hlt
   have hil : i < lists.length := by omega
   have t0 : decide ((i : Int) < (n : Int)) = true := decide_eq_true q0
   obtain ⟨ad, Ai, ci, e0, hcl, hcc, hcC⟩ := lcells HR.out hil
   subst e0
   have y0 := hcl _ HM.out.bel
   have HCC := Aside0.mk hcC
   have HCE := Aside0.mk hcc
   have HTK : Aside0 (hdsOf (lists.take (i + 1)) = hdsOf (lists.take i) ++ (if lists[i] = [] then [] else [(lists[i], i)])) := ⟨by
    rw [List.take_succ_eq_append_getElem hil, hdsOf_snoc, List.length_take, Nat.min_eq_left (by omega)]⟩
   clear hcl hcC hcc
   generalize lists[i] = li at *
   obtain ⟨lli, hlli⟩ : ∃ m, m = li.length := ⟨_, rfl⟩
   have HLL := Aside0.mk hlli
   rw [← hlli] at y0
   clear hlli
   by_cases hl0 : 0 < lli
   ·have hne : li ≠ [] := fun e => by have := HLL.out; rw [e] at this; simp at this; omega
    have t1 : decide ((0 : Int) < (lli : Int)) = true := decide_eq_true (by omega)
    have t1' : decide (0 < lli) = true := decide_eq_true hl0
    have HNE := Aside0.mk hne
    have z0 := HM.out.cell
    have zf := blk_frozen HM.out.blk 0
    clear hne
    have z1 : (wr.alloc (.cells #[.slice Ai lli ci, .int .i64 (i : Int)] 188)).cell? ⟨g, 0, none⟩ = some (.slice Ah hs.length ch) := (blk_cell (blk_alloc HM.out.blk _) 0).trans rfl
    go_wp2_with (first
     | ((with_reducible refine gate_builtin (b := .append) (xs := #[.tmp 22, .tmp 26]) rfl ?_); at_builtin; refine wp_append_raw rfl (.tmp 22) (.tmp 26) 186 188 (.agg #[.slice none 0 0, .int .i64 0]) 2 32 rfl Tryz.underlying186 infoH rfl (by decide) (.slice Ah hs.length ch) hs.length (encL encH hs) ⟨wr.heap.size, 0, none⟩ 1 1 (encH ⟨Ai, ci, li, i⟩) rfl rfl (HM.out.row.below (below_alloc (Below.refl _ _) _)) rfl (news_of wr ⟨Ai, ci, li, i⟩ HLL.out) (enc_one _) (by decide) (by omega) (by unfold maxLen; omega) ?_; intro v1 w1 hr1 hg1 hat1; obtain ⟨A2, c2, rfl, hc2, hf2, hm2⟩ := HM.out.push (below_alloc (Below.refl _ _) _) ⟨Ai, ci, li, i⟩ ⟨HCC.out, HCE.out⟩ hr1 hg1 hat1; have HM2 := Aside0.mk hm2; clear hr1 hg1 hat1 hm2))
    go_roundw
    case rel => exact ⟨i + 1, hs ++ [⟨Ai, ci, li, i⟩], A2, c2, by go_num, by omega, by simp; omega, HM2, ⟨by rw [List.map_append, HD.out, HTK.out, if_neg HNE.out]; rfl⟩⟩
    case measure => simp [intOf]; omega
   ·obtain rfl : lli = 0 := by omega
    have hne : li = [] := List.eq_nil_of_length_eq_zero HLL.out.symm
    have HNE := Aside0.mk hne
    clear hne
    have t1 : decide ((0 : Int) < ((0 : Nat) : Int)) = false := decide_eq_false (by simp)
    have t1' : decide ((0 : Int) < 0) = false := decide_eq_false (by simp)
    go_wp2
    go_roundw
    case rel => exact ⟨i + 1, hs, Ah, ch, by go_num, by omega, by omega, HM, ⟨by rw [HD.out, HTK.out, if_pos HNE.out, List.append_nil]⟩⟩
    case measure => simp [intOf]; omega
  ·obtain rfl : i = n := by omega
   have t0 : decide ((i : Int) < (i : Int)) = false := decide_eq_false (by omega)
   have hmm := @run_makeMap Tryz.prog
   have HD2 : Aside0 (hs.map pr = hdsOf lists) := ⟨by rw [HD.out, List.take_of_length_le (by omega)]⟩
   have HNE : Aside0 (∀ x ∈ hs, x.l ≠ []) := ⟨fun x hx e => by
    have h1 : pr x ∈ hdsOf lists := by rw [← HD2.out]; exact List.mem_map_of_mem hx
    have h2 := (List.mem_filter.1 h1).2
    simp [pr, e] at h2⟩
   go_wp2_with (first
    | (go_at_call 160; refine (init_calls (n := hs.length) HM.out rfl (by omega) HNE.out).mono ?_; rintro e w1 ⟨rfl, hs1, hm1, hp1, hq1⟩; have HM1 := Aside0.mk hm1; have HP1 := Aside0.mk hp1; have HQ1 := Aside0.mk hq1; clear hm1 hp1 hq1))
   obtain ⟨b, hbe⟩ : ∃ b, b = w1.heap.size := ⟨_, rfl⟩
   have HMS : Aside0 (SetS.Is (w1.alloc (.map #[] 0)) b []) := ⟨by rw [hbe]; exact SetS.Is.new w1⟩
   have HGB : Aside0 (w.heap.size ≤ b) := ⟨by rw [hbe]; exact HM1.out.bel.size⟩
   rw [← hbe]
   clear hbe
   have HM2 : Aside0 (Hm w (w1.alloc (.map #[] 0)) (w1.alloc (.map #[] 0)) g Ah ch hs1) := ⟨(HM1.out.below (below_alloc (Below.refl _ _) _)).reset⟩
   have HIV : Aside0 (Inv ce lists (hs1.map pr) []) := ⟨by
    refine Inv.perm ?_ (HQ1.out.map pr)
    rw [HD2.out]
    exact hdsOf_start⟩
   have HWT : Aside0 (wt hs1 ≤ lists.flatten.length) := ⟨by
    rw [wt_perm HQ1.out]
    have h1 := wt_start lists
    rw [← HD2.out, List.map_map] at h1
    exact h1⟩
   have HN1 : Aside0 (∀ x ∈ hs1, x.l ≠ []) := ⟨fun x hx => HNE.out x (HQ1.out.mem_iff.1 hx)⟩
   have hl1 : hs1.length ≤ 800 := by rw [HQ1.out.length_eq]; omega
   clear HM1 HD HM HD2 HNE
   go_loopg [7] (wt hs1) (fun k v7 w' => ∃ (hs' : List Fr) (out : List E), hs'.length ≤ 800 ∧ Aside0 (Hm w w' w' g Ah ch hs') ∧ Aside0 (Hp leF (fv hs') hs'.length 0) ∧ Aside0 (∀ x ∈ hs', x.l ≠ []) ∧ Aside0 (Inv ce lists (hs'.map pr) out) ∧ Aside0 (SetS.Is w' b (out.map ek)) ∧ Aside0 (Kd.R kE 32 w' w.heap.size (fun _ => True) v7 out) ∧ Aside0 (k = wt hs') ∧ Aside0 (out.length + k ≤ lists.flatten.length))
   case atStart => exact ⟨hs1, [], hl1, HM2, HP1, HN1, HIV, HMS, ⟨Kd.R_nil _ _ _ _ _⟩, ⟨rfl⟩, ⟨by simpa using HWT.out⟩⟩
   case round =>
    clear HM2 HP1 HN1 HIV HMS HWT HQ1 hl1
    obtain ⟨hs', out, hl', HM, HP, HN, HI, HS, HO, HK, HL⟩ := hrel
    by_cases h0 : 0 < hs'.length
    ·obtain ⟨G, o, hA, hGg, hGw⟩ := HM.out.some_ h0
     subst hA
     obtain ⟨x, hx⟩ : ∃ x, x = hs'[0]'h0 := ⟨_, rfl⟩
     have hxm : x ∈ hs' := by rw [hx]; exact List.getElem_mem _
     have hxl := HN.out x hxm
     obtain ⟨e, t, het⟩ : ∃ e t, x.l = e :: t := by
      cases h : x.l with
      | nil => exact absurd h hxl
      | cons e t => exact ⟨e, t, rfl⟩
     obtain ⟨hcx, hxc⟩ := HM.out.ls x hxm
     obtain ⟨ae, hae, y0, y1, y2, y3⟩ := ecell0 (Kd.C_below hcx HM.out.bel) hxl
     have hhd : x.l.headD zE = e := by rw [het]; rfl
     rw [hhd] at y0 y1 y2 y3
     have r0 := (cells_of HM.out.row h0).1
     rw [← hx, hae] at r0
     simp only [Nat.zero_mul, Nat.add_zero] at r0
     have rf := frozen_of HM.out.row h0 o
     have z0 := HM.out.cell
     have hcutf := cutF_run x ae hae hxl hxc
     have HCU := Aside0.mk (HM.out.cut h0 (below_alloc (Below.refl _ _) (.cells #[.string e.f0, .int .u64 e.f1, .int .i64 e.f2, .string e.f3] 32)) rfl (by rw [← hx]; exact hxl))
     have HM1 := Aside0.mk (HM.out.below (below_alloc (Below.refl _ _) (.cells #[.string e.f0, .int .u64 e.f1, .int .i64 e.f2, .string e.f3] 32)))
     have z1 := HM1.out.cell
     have r1 := pw_cell_below (below_alloc (Below.refl wr.heap.size wr) (.cells #[.string e.f0, .int .u64 e.f1, .int .i64 e.f2, .string e.f3] 32)) r0
     have rf1 := frozen_of HM1.out.row h0 o
     have HX := Aside0.mk hx
     have HET := Aside0.mk het
     have HXC := Aside0.mk hxc
     obtain ⟨m, hm⟩ : ∃ m, m = x.l.length := ⟨_, rfl⟩
     have HMX := Aside0.mk hm
     have hm0 : 0 < m := by rw [hm, het]; simp
     rw [← hm] at r0 r1 hcutf
     rw [← hx] at HCU
     have q1 : (0 : Int) < (hs'.length : Int) := by omega
     have t2 : decide ((0 : Int) < (hs'.length : Int)) = true := decide_eq_true q1
     have t2' : decide (0 < hs'.length) = true := decide_eq_true h0
     have q2 : (0 : Int) < (m : Int) := by omega
     have HLN : Aside0 (hs'.length ≤ 800) := ⟨hl'⟩
     obtain ⟨A1, hA1⟩ : ∃ a, a = (cutF x).A := ⟨_, rfl⟩
     obtain ⟨m1, hm1⟩ : ∃ a, a = (cutF x).l.length := ⟨_, rfl⟩
     obtain ⟨c1, hc1⟩ : ∃ a, a = (cutF x).c := ⟨_, rfl⟩
     rw [← hA1, ← hm1, ← hc1] at hcutf HCU
     have HA1 := Aside0.mk hA1
     have HM1L := Aside0.mk hm1
     have HC1 := Aside0.mk hc1
     obtain ⟨xc, hxcc⟩ : ∃ a, a = x.c := ⟨_, rfl⟩
     rw [← hxcc] at hcutf r0 r1
     clear hx hxl het hcx hxc hae hhd hm hA1 hm1 hc1 hxcc
     go_wp2_with (fail)
     obtain ⟨b8, hb8⟩ : ∃ b8, b8 = wr.heap.size := ⟨_, rfl⟩
     have HB8 : Aside0 ((wr.alloc (.cells #[.string e.f0, .int .u64 e.f1, .int .i64 e.f2, .string e.f3] 32)).heap[b8]? = some (.cells #[.string e.f0, .int .u64 e.f1, .int .i64 e.f2, .string e.f3] 32 (0, 0))) := ⟨by rw [hb8]; exact blk_new wr _⟩
     have HS1 := Aside0.mk (HS.out.alloc (.cells #[.string e.f0, .int .u64 e.f1, .int .i64 e.f2, .string e.f3] 32))
     have HO1 := Aside0.mk (Kd.R_alloc HO.out (.cells #[.string e.f0, .int .u64 e.f1, .int .i64 e.f2, .string e.f3] 32))
     rw [← hb8]
     clear hb8 HM HS HO y0 y1 y2 y3 r0 z0 rf t2 t2'
     generalize (wr.alloc (.cells #[.string e.f0, .int .u64 e.f1, .int .i64 e.f2, .string e.f3] 32)) = W1 at *
     have hd0 : W1.drew.cell? ⟨g, 0, none⟩ = some (.slice (some ⟨G, o, none⟩) hs'.length ch) := z1
     have hd1 : W1.drew.cell? ⟨G, o, none⟩ = some (.slice (some ae) m xc) := r1
     go_cut [7] (fun v7 wc => Aside0 (Hm w wc wc g (some ⟨G, o, none⟩) ch (hs'.set 0 (cutF x))) ∧ Aside0 (wc.heap[b8]? = some (.cells #[.string e.f0, .int .u64 e.f1, .int .i64 e.f2, .string e.f3] 32 (0, 0))) ∧ Aside0 (SetS.Is wc b (out.map ek)) ∧ Aside0 (Kd.R kE 32 wc w.heap.size (fun _ => True) v7 out))
     case first =>
      go_region
      all_goals
       (try go_wp2_with (fail))
       go_meet
       case rel =>
        have hkf : Kf W1 (W1.setCell ⟨G, o, none⟩ (.slice A1 m1 c1)) g (some ⟨G, o, none⟩) := ⟨by simp [World.setCell], fun k _ _ h2 => Below.heap_setCell _ _ _ k (fun e => h2 (by rw [e]; simp [Value.ownBlock]))⟩
        exact ⟨⟨(HCU.out.below (below_drew1 (Below.refl _ _))).reset⟩, ⟨HM1.out.keepB hkf HB8.out (by decide) (by decide)⟩, ⟨HM1.out.keepS hkf HS1.out⟩, ⟨HM1.out.keepR hkf HO1.out⟩⟩
     case rest =>
     clear HCU HM1 HB8 HS1 HO1 z1 r1 rf1 hd0 hd1 hcutf
     obtain ⟨HM, HB8, HS, HO⟩ := hcut
     obtain ⟨r, hr⟩ : ∃ r, r = hs'.drop 1 := ⟨_, rfl⟩
     have hcons : hs' = x :: r := by
      rw [hr, HX.out]
      have := List.drop_eq_getElem_cons h0
      simpa using this
     have hset : hs'.set 0 (cutF x) = cutF x :: r := by rw [hcons]; rfl
     have hsl : (hs'.set 0 (cutF x)).length = hs'.length := List.length_set
     have hct : (cutF x).l = t := by unfold cutF; rw [HET.out]; rfl
     have z0 := HM.out.cell
     rw [hsl] at z0
     have r0 := (cells_of HM.out.row (i := 0) (by omega)).1
     have hgz : (hs'.set 0 (cutF x))[0]'(by omega) = cutF x := by simp
     rw [hgz, ← HA1.out, ← HM1L.out, ← HC1.out] at r0
     simp only [Nat.zero_mul, Nat.add_zero] at r0
     have hm1t : m1 = t.length := by rw [HM1L.out, hct]
     have HXX : Aside0 (Hx leF (fv (hs'.set 0 (cutF x))) (hs'.set 0 (cutF x)).length 0 0) := ⟨by
      rw [hsl]
      refine HP.out.again (fun k hk hkn => ?_)
      unfold fv
      simp [List.getD_eq_getElem?_getD, List.getElem?_set, Ne.symm hk]⟩
     have HCONS := Aside0.mk hcons
     have HSET := Aside0.mk hset
     have HSL := Aside0.mk hsl
     have HCT := Aside0.mk hct
     have HMT := Aside0.mk hm1t
     have HRL : Aside0 (hs'.length = r.length + 1) := ⟨by rw [hcons]; simp⟩
     have HNR : Aside0 (∀ z ∈ r, z.l ≠ []) := ⟨fun z hz => HN.out z (by rw [hcons]; exact List.mem_cons_of_mem _ hz)⟩
     have HFV : Aside0 (∀ k, 0 < k → k < hs'.length → (fv (hs'.set 0 (cutF x)) k).l ≠ []) := ⟨fun k hk1 hk2 => by
      rw [hset]
      cases k with
      | zero => omega
      | succ k =>
       have hk3 : k < r.length := by have := HRL.out; omega
       have : fv (cutF x :: r) (k + 1) = r[k] := by unfold fv; simp [List.getD_eq_getElem?_getD, List.getElem?_eq_getElem hk3]
       rw [this]
       exact HNR.out _ (List.getElem_mem hk3)⟩
     clear hr hcons hset hsl hct hm1t hgz
     go_upto_if 54 with (fail)
     go_cut [7] (fun v7 wd => ∃ hs2 : List Fr, hs2.length ≤ 800 ∧ Aside0 (Hm w wd wd g (some ⟨G, o, none⟩) ch hs2) ∧ Aside0 (Hp leF (fv hs2) hs2.length 0) ∧ Aside0 (∀ z ∈ hs2, z.l ≠ []) ∧ Aside0 (hs2.Perm (if t = [] then r else cutF x :: r)) ∧ Aside0 (wd.heap[b8]? = some (.cells #[.string e.f0, .int .u64 e.f1, .int .i64 e.f2, .string e.f3] 32 (0, 0))) ∧ Aside0 (SetS.Is wd b (out.map ek)) ∧ Aside0 (Kd.R kE 32 wd w.heap.size (fun _ => True) v7 out))
     case first =>
      by_cases hm10 : 0 < m1
      ·have htn : t ≠ [] := fun e_ => by have := HMT.out; rw [e_] at this; simp at this; omega
       have HTN := Aside0.mk htn
       have t4 : decide ((0 : Int) < (m1 : Int)) = true := decide_eq_true (by omega)
       have t4' : decide (0 < m1) = true := decide_eq_true hm10
       clear htn
       go_wp2_with (first
        | (go_at_call 161; refine (fix_calls HM.out (by rw [HSL.out]; have := HLN.out; omega) HXX.out (fun k hk => ?_)).mono ?_; (next => (by_cases hk0 : k = 0; (rw [hk0, HSET.out]; show (cutF x).l ≠ []; rw [HCT.out]; exact HTN.out); exact HFV.out k (by omega) (by rw [HSL.out] at hk; exact hk))); rintro e_ wf ⟨rfl, hs2, hm2, hp2, hq2⟩; have HMF := Aside0.mk hm2; have HPF := Aside0.mk hp2; have HQF := Aside0.mk hq2; clear hm2 hp2 hq2))
       go_meet
       case rel =>
        refine ⟨hs2, by rw [HQF.out.length_eq, HSL.out]; exact HLN.out, ⟨HMF.out.reset⟩, HPF, ⟨fun z hz => ?_⟩, ⟨by rw [if_neg HTN.out, ← HSET.out]; exact HQF.out⟩, ⟨HM.out.keepB HMF.out.fr HB8.out (by decide) (by decide)⟩, ⟨HM.out.keepS HMF.out.fr HS.out⟩, ⟨HM.out.keepR HMF.out.fr HO.out⟩⟩
        have h1 := HQF.out.mem_iff.1 hz
        rw [HSET.out] at h1
        rcases List.mem_cons.1 h1 with q | q
        ·rw [q, HCT.out]; exact HTN.out
        ·exact HNR.out z q
      ·obtain rfl : m1 = 0 := by omega
       have htn : t = [] := List.eq_nil_of_length_eq_zero HMT.out.symm
       have HTN := Aside0.mk htn
       have t4 : decide ((0 : Int) < ((0 : Nat) : Int)) = false := decide_eq_false (by simp)
       have t4' : decide ((0 : Int) < 0) = false := decide_eq_false (by simp)
       clear htn
       go_wp2_with (first
        | (go_at_call 162; refine (pop_calls (n := r.length) HM.out (by rw [HSL.out]; exact HRL.out) (by have := HLN.out; have := HRL.out; omega) HXX.out (fun k hk1 hk2 => HFV.out k hk1 (by rw [HSL.out] at hk2; exact hk2))).mono ?_; rintro e_ wf ⟨⟨v_, rfl⟩, hs2, hm2, hp2, hq2⟩; have HMF := Aside0.mk hm2; have HPF := Aside0.mk hp2; have HQF := Aside0.mk hq2; clear hm2 hp2 hq2))
       go_meet
       case rel =>
        have hpr : hs2.Perm r := by
         have h1 := HQF.out
         rw [HSET.out] at h1
         have h2 : fv (cutF x :: r) 0 = cutF x := rfl
         rw [h2] at h1
         exact ((List.perm_append_singleton _ _).symm.trans h1).cons_inv
        refine ⟨hs2, by rw [hpr.length_eq]; have := HLN.out; have := HRL.out; omega, ⟨HMF.out.reset⟩, HPF, ⟨fun z hz => HNR.out z (hpr.mem_iff.1 hz)⟩, ⟨by rw [if_pos HTN.out]; exact hpr⟩, ⟨HM.out.keepB HMF.out.fr HB8.out (by decide) (by decide)⟩, ⟨HM.out.keepS HMF.out.fr HS.out⟩, ⟨HM.out.keepR HMF.out.fr HO.out⟩⟩
     case rest =>
     clear HM HB8 HS HO HXX HSET HSL HCT HMT HRL HNR HFV r0 z0
     obtain ⟨hs2, hl2, HM2, HP2, HN2, HQ2, HB2, HS2, HO2⟩ := hcut
     have y0 := blk_cell HB2.out 0
     have y1 := blk_cell HB2.out 1
     obtain ⟨hok, hoko⟩ := ok_of HKK.out HI.out HCONS.out HET.out
     have hh := SetS.has_D hoko hok
     have HKY : Aside0 (keyOf Tryz.prog 195 (.agg #[.string e.f0, .int .u64 e.f1]) = some (SetS.kl (ek e))) := ⟨SetS.key (x := ek e) hok.1 hok.2⟩
     have HINV := Inv.round HSS.out HI.out HCONS.out HP.out HET.out HQ2.out _ (any_ek out e)
     have HW2 : Aside0 (wt hs2 + 1 = gk) := ⟨by rw [HK.out, HCONS.out]; exact wt_round HET.out HQ2.out⟩
     have HLL : Aside0 (out.length + wt hs2 + 1 ≤ 1000000) := ⟨by have h1 := HL.out; have h2 := HTT.out; have h3 := HW2.out; omega⟩
     clear hok hoko HP HI HN HK
     generalize hbf : (out.map ek).any (fun y => decide (ek e = y)) = bf at hh HINV
     have HV := Aside0.mk HINV
     clear HINV hbf
     cases bf
     ·go_wp2_with (first | (at_lookup; refine wpList_lookup_own_unit _ rfl _ _ 191 rfl 195 196 SetS.law Tryz.underlying191 (SetS.unit0 _) b _ (SetS.D (out.map ek)) rfl (by first | exact HS2.out | exact SetS.Is.alloc HS2.out _ | exact SetS.Is.alloc (SetS.Is.alloc HS2.out _) _) _ _ rfl HKY.out ?_) | (at_mapUpdate; refine wpList_mapUpdate_own _ rfl _ _ _ 191 rfl 195 196 SetS.law Tryz.underlying191 (unitElem (H := Unit)) b _ (SetS.D (out.map ek)) rfl (SetS.Is.alloc (SetS.Is.alloc HS2.out _) _) (by have := HLL.out; unfold maxLen; simp; omega) _ _ _ rfl rfl HKY.out _ [] unitElem_mk ?_; intro w1 hown1 hgrow1; have hb8 := blk_grown (blk_alloc (blk_alloc HB2.out _) _) hgrow1 (fun e_ => SetS.Is.ne HS2.out HB2.out (Option.some.inj e_).symm); have v0 : w1.cell? ⟨b8, 0, none⟩ = some (.string e.f0) := (blk_cell hb8 0).trans rfl; have v1 : w1.cell? ⟨b8, 1, none⟩ = some (.int .u64 e.f1) := (blk_cell hb8 1).trans rfl; have v2 : w1.cell? ⟨b8, 2, none⟩ = some (.int .i64 e.f2) := (blk_cell hb8 2).trans rfl; have v3 : w1.cell? ⟨b8, 3, none⟩ = some (.string e.f3) := (blk_cell hb8 3).trans rfl; have HM3 := Aside0.mk (Hm.grownM ((HM2.out.below (below_alloc (Below.refl _ _) _)).below (below_alloc (Below.refl _ _) _)) ((HS2.out.alloc _).alloc _) hgrow1 HGB.out); have HO3 := Aside0.mk (SetS.R_map (Kd.R_alloc (Kd.R_alloc HO2.out _) _) ((HS2.out.alloc _).alloc _) hgrow1); have HS3 : Aside0 (SetS.Is w1 b ((out ++ [e]).map ek)) := ⟨by have := hown1; rw [SetS.D_snoc] at this; unfold SetS.Is; simpa using this⟩; clear hb8 hown1 hgrow1) | ((with_reducible refine gate_builtin (b := .append) (xs := #[.tmp 75, .tmp 77]) rfl ?_); at_builtin; refine Kd.R_append kE (w0 := w) w.heap.size rfl (.tmp 75) (.tmp 77) 22 32 (.agg #[(.string ⟨#[]⟩), (.int .u64 0), (.int .i64 0), (.string ⟨#[]⟩)]) 48 rfl Tryz.underlying22 infoE rfl (by decide) (by omega) u7 out e [.string e.f0, .int .u64 e.f1, .int .i64 e.f2, .string e.f3] (fun _ => True) (fun _ => False) rfl rfl ?aP (fun _ hk => hk.elim) ?aF ?aO ?aB ?aS ?aL ?_; (case aP => exact k32_mkM _ _ _ _); (case aB => exact HM3.out.bel); (case aF => exact (fun _ _ => trivial)); (case aO => exact HO3.out); (case aS => exact below_size HM3.out.bel); (case aL => have := HLL.out; omega); intro v7 w7 ho hb hg hat; have HG := Aside0.mk hg; have HO7 := Aside0.mk ho; have HB7 := Aside0.mk hb; clear ho hb hg hat))
      go_roundg (wt hs2)
      case rel => exact ⟨hs2, out ++ [e], hl2, ⟨Hm.grownR HM3.out HO3.out HG.out HB7.out⟩, HP2, HN2, HV, ⟨SetS.Is.grown HS3.out HG.out (SetS.row_ne HO3.out HS3.out)⟩, ⟨HO7.out⟩, ⟨rfl⟩, ⟨by have h1 := HL.out; have h2 := HW2.out; rw [List.length_append, List.length_singleton]; omega⟩⟩
      all_goals (have h2 := HW2.out; omega)
     ·go_wp2_with (first | (at_lookup; refine wpList_lookup_own_unit _ rfl _ _ 191 rfl 195 196 SetS.law Tryz.underlying191 (SetS.unit0 _) b _ (SetS.D (out.map ek)) rfl (by first | exact HS2.out | exact SetS.Is.alloc HS2.out _ | exact SetS.Is.alloc (SetS.Is.alloc HS2.out _) _) _ _ rfl HKY.out ?_))
      go_roundg (wt hs2)
      case rel => exact ⟨hs2, out, hl2, ⟨((HM2.out.below (below_alloc (Below.refl _ _) _)).below (below_alloc (Below.refl _ _) _)).reset⟩, HP2, HN2, HV, ⟨(HS2.out.alloc _).alloc _⟩, ⟨Kd.R_alloc (Kd.R_alloc HO2.out _) _⟩, ⟨rfl⟩, ⟨by have h1 := HL.out; have h2 := HW2.out; omega⟩⟩
      all_goals (have h2 := HW2.out; omega)
    ·have hnil : hs' = [] := List.eq_nil_of_length_eq_zero (by omega)
     subst hnil
     have z0 := HM.out.cell
     have t2 : decide ((0 : Int) < (([] : List Fr).length : Int)) = false := decide_eq_false (by simp)
     have t3 : decide ((0 : Int) < 0) = false := decide_eq_false (by simp)
     go_wp2
     go_ret
     have := HI.out.done ordE HSS.out
     exact ⟨_, rfl, by rw [← this]; exact HO.out, HM.out.bel⟩
end Go.Proofs.YtchgpcgolgcfdaaGreat.Hp
end
section
namespace Go.Proofs.YtchgpcgolgcfdaaGreat.PuLat
open Go Go.RowKit Go.Proofs.YtchgpcgolgcfdaaGreat.PNum Go.Proofs.YtchgpcgolgcfdaaGreat.PuIkC Go.Proofs.YtchgpcgolgcfdaaGreatW.PrintWords Go.Proofs.YtchgpcgolgcfdaaGreatW.PrintLast Go.Proofs.YtchgpcgolgcfdaaGreatW.PrintMore Go.Proofs.YtchgpcgolgcfdaaGreatW.Pu Go.Proofs.YtchgpcgolgcfdaaGreatW.PuMrg
abbrev E := S32
abbrev P := S184
def lat (s : Int) : List E → List ByteArray → List P
 | [], _ => []
 | e :: l, seen => if s < e.f1 then lat s l seen else if seen.any (fun y => decide (e.f0 = y)) = true then lat s l seen else if e.f2 = 2 then lat s l (seen ++ [e.f0]) else ⟨e.f0, e.f3⟩ :: lat s l (seen ++ [e.f0])
theorem any_mem (k : ByteArray) (seen : List ByteArray) : seen.any (fun y => decide (k = y)) = true ↔ k ∈ seen := by
 rw [List.any_eq_true]
 exact ⟨fun ⟨y, hy, h⟩ => (of_decide_eq_true h) ▸ hy, fun h => ⟨k, h, decide_eq_true rfl⟩⟩
theorem srt_seq {a b : E} (h : ce a b = -1) (k : a.f0 = b.f0) : b.f1 < a.f1 := by
 unfold ce at h
 rw [if_pos ((cb_zero _ _).2 k)] at h
 unfold cs at h
 split at h
 ·assumption
 ·split at h <;> cases h
theorem lat_len (s : Int) : ∀ (l : List E) (seen : List ByteArray), (lat s l seen).length ≤ l.length
 | [], seen => by simp [lat]
 | e :: l, seen => by
  rw [lat]
  have h1 := lat_len s l seen
  have h2 := lat_len s l (seen ++ [e.f0])
  split
  ·simp; omega
  ·split
   ·simp; omega
   ·split
    ·simp; omega
    ·simp; omega
end Go.Proofs.YtchgpcgolgcfdaaGreat.PuLat
end
section
namespace Go.Proofs.YtchgpcgolgcfdaaGreat.SetT
open Go Go.WideMaps Go.RowKit Go.Maps Go.Proofs.YtchgpcgolgcfdaaGreatW.PrintWords
theorem law : Keyed Tryz.prog 9 := string_keyed Tryz.underlying9
theorem unit0 (w : World) : (zeroValue 196).run Tryz.prog w = .ok (.agg #[]) w := by kernel_rfl
def kl (x : ByteArray) : Lit := .string x.data.toList
def lits (L : List ByteArray) : List Lit := L.map kl
def D (L : List ByteArray) : DataW Unit := setOf (.agg []) (lits L)
def Is (W : World) (b : Nat) (L : List ByteArray) : Prop := W.ownsMap Tryz.prog 9 (unitElem (H := Unit)) b L.length (D L)
theorem kl_inj {x a : ByteArray} (h : kl a = kl x) : a = x := by
 unfold kl at h
 injection h with h
 have h1 := Array.toList_inj.1 h
 cases a
 cases x
 simp at h1
 rw [h1]
theorem has_D (L : List ByteArray) (x : ByteArray) : Maps.has (D L) (kl x) = L.any (fun y => decide (x = y)) := by
 unfold D lits
 rw [has_setOf _ _ _ (fun y hy => by obtain ⟨_, _, rfl⟩ := List.mem_map.1 hy; trivial), List.any_map]
 induction L with
 | nil => simp
 | cons a L ih =>
  have h2 : ((fun y : Lit => y.sameKey (kl x)) ∘ kl) a = decide (x = a) := by
   by_cases e : x = a
   ·subst e
    simp [kl, Lit.sameKey]
   ·rw [decide_eq_false e]
    have : ¬ kl a = kl x := fun h => e (kl_inj h).symm
    simp [kl] at this
    simp [kl, Lit.sameKey, this]
  rw [List.any_cons, ih, h2, List.any_cons]
theorem D_snoc (L : List ByteArray) (x : ByteArray) : (D L).put (kl x) (.agg []) = D (L ++ [x]) := by
 unfold D lits
 rw [List.map_append]
 exact (setOf_snoc _ _ _).symm
theorem Is.new (w : World) : Is (w.alloc (.map #[] 0)) w.heap.size [] := World.ownsMap_made _ _ _ _
theorem Is.lt {W : World} {b : Nat} {L : List ByteArray} (h : Is W b L) : b < W.heap.size := World.ownsMap.lt h
theorem Is.grown {W W1 : World} {b : Nat} {L : List ByteArray} {row : Option Nat} (h : Is W b L) (hg : W.grownBy W1 row) (hne : some b ≠ row) : Is W1 b L := World.ownsMap.kept h hg hne
theorem Is.below {W W1 : World} {b : Nat} {L : List ByteArray} (h : Is W b L) (hb : Below W.heap.size W W1) : Is W1 b L := h.grown (grown_of_below hb none) (by simp)
theorem Is.alloc {W : World} {b : Nat} {L : List ByteArray} (h : Is W b L) (o : Obj) : Is (W.alloc o) b L := World.ownsMap.alloc h o
theorem Is.drewN {W : World} {b : Nat} {L : List ByteArray} (h : Is W b L) (m : Nat) : Is (W.drewN m) b L := h
theorem Is.map {W : World} {b : Nat} {L : List ByteArray} (h : Is W b L) : ∃ es c, W.heap[b]? = some (.map es c) := by
 obtain ⟨es, c, hb, _⟩ := h
 exact ⟨es, c, hb⟩
theorem Is.ne {W : World} {b : Nat} {L : List ByteArray} (h : Is W b L) {k : Nat} {cs : Array Value} {t : TypeId} {fr : Nat × Nat} (hk : W.heap[k]? = some (.cells cs t fr)) : b ≠ k := by
 rintro rfl
 obtain ⟨es, c, hb⟩ := h.map
 rw [hb] at hk
 cases hk
theorem Is.far {W : World} {b : Nat} {L : List ByteArray} (h : Is W b L) {p : Addr} (hp : b ≠ p.block) (u : Value) : Is (W.setCell p u) b L := World.ownsMap.setCell h hp u
theorem R_map {α : Type} {d : Kd α} {e : Nat} {W W1 : World} {base : Nat} {ok : Nat → Prop} {v : Value} {xs : List α} {b : Nat} {L : List ByteArray} (h : d.R e W base ok v xs) (hm : Is W b L) (hg : W.grownBy W1 (some b)) : d.R e W1 base ok v xs :=
 Kd.R_mono (Kd.R_move (Kd.R_bound h) (fun k hk => by
  obtain ⟨_, _, hlt, _, _, cells, hc⟩ := hk
  refine hg.block k hlt ?_
  intro e
  injection e with e
  exact hm.ne hc e.symm)) (fun _ hk => hk.1)
theorem row_ne {α : Type} {d : Kd α} {e : Nat} {W : World} {base : Nat} {ok : Nat → Prop} {v : Value} {xs : List α} {b : Nat} {L : List ByteArray} (h : d.R e W base ok v xs) (hm : Is W b L) : some b ≠ v.ownBlock := by
 intro he
 obtain ⟨inner, ho⟩ := Kd.R_own h
 obtain ⟨cells, hc⟩ := own_typed ho b he.symm
 exact hm.ne hc rfl
theorem key {x : ByteArray} (h : x.size ≤ maxLen) : keyOf Tryz.prog 9 (.string x) = some (kl x) := keyOf_string_mk Tryz.underlying9 h
end Go.Proofs.YtchgpcgolgcfdaaGreat.SetT
end
