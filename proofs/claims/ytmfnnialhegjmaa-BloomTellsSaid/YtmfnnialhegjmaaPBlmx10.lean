/- A walk, written by a program of this session out of the translation (a printed Lean function, and that the Go code comes to its answer). Lean checks it. -/
import Derived.Test.YtmfnnialhegjmaaPBlmx0
import Derived.Test.YtmfnnialhegjmaaPBlmx1
import Derived.Test.YtmfnnialhegjmaaPBlmx3
import Derived.Test.YtmfnnialhegjmaaPBlmx4
import Derived.Test.YtmfnnialhegjmaaPBlmx5
import Derived.Test.YtmfnnialhegjmaaPBlmx7
import Derived.Test.YtmfnnialhegjmaaPBlmx8
import Derived.Test.YtmfnnialhegjmaaPBlmx9
namespace Go.Proofs.Ytmfnnialhegjmaa.PBlm
open Go.RowKit Go.Proofs.YtmfnnialhegjmaaW.PrintWords Go.Proofs.YtmfnnialhegjmaaW.PrintLast Go.Proofs.YtmfnnialhegjmaaW.PrintMore
attribute [local go_sem] max2_int min2_int max_two min_two max_three min_three max_four min_four   -- for this text's walks alone
set_option linter.unusedVariables false
set_option linter.unusedSimpArgs false

/-! ### cornucopialaw9_BloomTells: function 3 -/
def cornucopialaw9_BloomTells.j0 : Nat → Int → Int → List ByteArray → ByteArray → ByteArray → Int → Bool → Option (Bool)
  | 0, _, _, _, _, _, _, _ => none
  | k + 1, x0, x1, x2, x3, x4, x5, x30 => if x30 = true then ((cornucopialaw9_alive.f k).bind fun t170 => (some t170)) else ((cornucopiabook_LentTexts.f x2).bind fun t171 => ((bloom_Make.f k x0 x1 t171).bind fun bt174 => ((cornucopiaref5_Make.f k x0 x1 x2).bind fun bt176 => ((cornucopialaw9_alive.f k).bind fun t178 => (if t178 = true then (if bt174.1.toList = bt176.1.toList then (if bt174.2 = bt176.2 then ((bloom_Hash.f k x4 x5).bind fun t179 => ((cornucopiaref5_Hash.f k x4 x5).bind fun t180 => (if t179 = t180 then ((bloom_May.f k x3 x4).bind fun t181 => ((cornucopiaref5_May.f k x3 x4).bind fun t182 => (if (t181 == t182) = true then ((bloom_Valid.f x3).bind fun t183 => ((cornucopiaref5_ValidFilter.f x3).bind fun t184 => (if (t183 == t184) = true then ((bloom_May.f k bt174.1 x4).bind fun t185 => ((cornucopiaref5_May.f k bt176.1 x4).bind fun t186 => (if (t185 == t186) = true then ((cornucopiabook_StaysTexts.f k t171 x2).bind fun t187 => (some t187)) else (none)))) else (none)))) else (none)))) else (none)))) else (none)) else (none)) else (none))))))
def cornucopialaw9_BloomTells.f (k : Nat) (a0 : Int) (a1 : Int) (l2 : List ByteArray) (a3 : ByteArray) (a4 : ByteArray) (a5 : Int) : Option (Bool) := (cornucopiabook_Short.f k 200 6000 l2).bind fun t169 => (if t169 = true then (if (a3.size : Int) > 3000 then (cornucopialaw9_BloomTells.j0 k a0 a1 l2 a3 a4 a5 true) else (cornucopialaw9_BloomTells.j0 k a0 a1 l2 a3 a4 a5 (decide ((a4.size : Int) > 3000)))) else (cornucopialaw9_BloomTells.j0 k a0 a1 l2 a3 a4 a5 true))
theorem cornucopialaw9_BloomTells.mono_l : ∀ k, (∀ y0 y1 y2 y3 y4 y5 y6, LeO (cornucopialaw9_BloomTells.j0 k y0 y1 y2 y3 y4 y5 y6) (cornucopialaw9_BloomTells.j0 (k + 1) y0 y1 y2 y3 y4 y5 y6))
  | 0 => fun _ _ _ _ _ _ _ r h => by simp [cornucopialaw9_BloomTells.j0] at h
  | k + 1 => by
    have ih0 := cornucopialaw9_BloomTells.mono_l k
    · intro y0 y1 y2 y3 y4 y5 y6
      unfold cornucopialaw9_BloomTells.j0
      repeat' first
      | (with_reducible exact ih0 _ _ _ _ _ _ _)
      | (with_reducible exact bloom_Hash.mono _ _ _)
      | (with_reducible exact bloom_Make.mono _ _ _ _)
      | (with_reducible exact bloom_May.mono _ _ _)
      | (with_reducible exact cornucopiabook_Short.mono _ _ _ _)
      | (with_reducible exact cornucopiabook_StaysTexts.mono _ _ _)
      | (with_reducible exact cornucopialaw9_alive.mono _)
      | (with_reducible exact cornucopiaref5_Hash.mono _ _ _)
      | (with_reducible exact cornucopiaref5_Make.mono _ _ _ _)
      | (with_reducible exact cornucopiaref5_May.mono _ _ _)
      | (with_reducible exact LeO.refl _)
      | (with_reducible exact LeO.none _)
      | (with_reducible refine LeO.ite ?_ ?_)
      | (with_reducible refine LeO.bind ?_ (fun _ => ?_))
      | exact ih0 _ _ _ _ _ _ _
      | exact bloom_Hash.mono _ _ _
      | exact bloom_Make.mono _ _ _ _
      | exact bloom_May.mono _ _ _
      | exact cornucopiabook_Short.mono _ _ _ _
      | exact cornucopiabook_StaysTexts.mono _ _ _
      | exact cornucopialaw9_alive.mono _
      | exact cornucopiaref5_Hash.mono _ _ _
      | exact cornucopiaref5_Make.mono _ _ _ _
      | exact cornucopiaref5_May.mono _ _ _
      | exact LeO.none _
      | refine LeO.ite ?_ ?_
      | refine LeO.bind ?_ (fun _ => ?_)
theorem cornucopialaw9_BloomTells.mono : ∀ a0 a1 a2 a3 a4 a5 k, LeO (cornucopialaw9_BloomTells.f k a0 a1 a2 a3 a4 a5) (cornucopialaw9_BloomTells.f (k + 1) a0 a1 a2 a3 a4 a5) := by
  intro a0 a1 a2 a3 a4 a5 k
  have ih0 := cornucopialaw9_BloomTells.mono_l k
  unfold cornucopialaw9_BloomTells.f
  repeat' first
      | (with_reducible exact ih0 _ _ _ _ _ _ _)
      | (with_reducible exact bloom_Hash.mono _ _ _)
      | (with_reducible exact bloom_Make.mono _ _ _ _)
      | (with_reducible exact bloom_May.mono _ _ _)
      | (with_reducible exact cornucopiabook_Short.mono _ _ _ _)
      | (with_reducible exact cornucopiabook_StaysTexts.mono _ _ _)
      | (with_reducible exact cornucopialaw9_alive.mono _)
      | (with_reducible exact cornucopiaref5_Hash.mono _ _ _)
      | (with_reducible exact cornucopiaref5_Make.mono _ _ _ _)
      | (with_reducible exact cornucopiaref5_May.mono _ _ _)
      | (with_reducible exact LeO.refl _)
      | (with_reducible exact LeO.none _)
      | (with_reducible refine LeO.ite ?_ ?_)
      | (with_reducible refine LeO.bind ?_ (fun _ => ?_))
      | exact ih0 _ _ _ _ _ _ _
      | exact bloom_Hash.mono _ _ _
      | exact bloom_Make.mono _ _ _ _
      | exact bloom_May.mono _ _ _
      | exact cornucopiabook_Short.mono _ _ _ _
      | exact cornucopiabook_StaysTexts.mono _ _ _
      | exact cornucopialaw9_alive.mono _
      | exact cornucopiaref5_Hash.mono _ _ _
      | exact cornucopiaref5_Make.mono _ _ _ _
      | exact cornucopiaref5_May.mono _ _ _
      | exact LeO.none _
      | refine LeO.ite ?_ ?_
      | refine LeO.bind ?_ (fun _ => ?_)
set_option maxHeartbeats 8000000 in
set_option maxRecDepth 100000 in
theorem cornucopialaw9_BloomTells.calls (k : Nat) (a0 : Int) (a1 : Int) (A2 : Option Addr) (c2 : Nat) (l2 : List ByteArray) (a3 : ByteArray) (a4 : ByteArray) (a5 : Int) (r : Bool) (w : World) (hr2 : Kd.C Kd.string w A2 l2.length l2) (hc2 : l2.length ≤ c2) (h : cornucopialaw9_BloomTells.f k a0 a1 l2 a3 a4 a5 = some r) :
    Calls Try.prog 3 #[.int .i64 a0, .int .i64 a1, .slice A2 l2.length c2, .string a3, .string a4, .int .u32 a5] w fun e w' => e = .returned (.bool r) ∧ Below w.heap.size w w' := by
  have HR2 := Aside0.mk hr2
  have HC2 := Aside0.mk hc2
  clear hr2 hc2
  have HB := Aside0.mk (Below.refl w.heap.size w)
  have H : ((cornucopiabook_Short.f k 200 6000 l2).bind fun t169 => (if t169 = true then (if (a3.size : Int) > 3000 then (cornucopialaw9_BloomTells.j0 k a0 a1 l2 a3 a4 a5 true) else (cornucopialaw9_BloomTells.j0 k a0 a1 l2 a3 a4 a5 (decide ((a4.size : Int) > 3000)))) else (cornucopialaw9_BloomTells.j0 k a0 a1 l2 a3 a4 a5 true))) = some r := h
  clear h
  have HC7 := Aside0.mk H
  clear H
  go_enter Try.func3, Try.ntmps3
  go_upto_region 1 with (fail)
  go_cut [30] (fun v30 wc => ∃ (kq : Nat) (x30_6 : Bool), v30 = .bool x30_6 ∧ Aside0 (cornucopialaw9_BloomTells.j0 kq a0 a1 l2 a3 a4 a5 x30_6 = some r) ∧ Aside0 (kq ≤ k) ∧ Aside0 (Below w.heap.size w wc))
  case first =>
    have H := HC7.out
    clear HC7
    replace H := Option.bind_eq_some_iff.mp H
    obtain ⟨t169, A80, H⟩ := H
    replace H : (if t169 = true then (if (a3.size : Int) > 3000 then (cornucopialaw9_BloomTells.j0 k a0 a1 l2 a3 a4 a5 true) else (cornucopialaw9_BloomTells.j0 k a0 a1 l2 a3 a4 a5 (decide ((a4.size : Int) > 3000)))) else (cornucopialaw9_BloomTells.j0 k a0 a1 l2 a3 a4 a5 true)) = some r := H
    have A8 := Aside0.mk A80
    clear A80
    by_cases c9 : t169 = true
    · subst c9
      have H1 : (if (a3.size : Int) > 3000 then (cornucopialaw9_BloomTells.j0 k a0 a1 l2 a3 a4 a5 true) else (cornucopialaw9_BloomTells.j0 k a0 a1 l2 a3 a4 a5 (decide ((a4.size : Int) > 3000)))) = some r := by rw [if_pos rfl] at H; exact H
      clear H
      have H := H1
      clear H1
      by_cases c10 : (a3.size : Int) > 3000
      · rw [if_pos c10] at H
        have c10b0 : decide (3000 < (a3.size : Int)) = true := decide_eq_true c10
        have c10b1 : decide (3000 < a3.size) = true := decide_eq_true (by omega)
        clear c10
        (first | rw [c10b0] | (simp only [i64_w, i32_w]; rw [c10b0]) | skip)
        have H' := Aside0.mk H
        clear H
        go_wp2_with (first | ((with_reducible refine gate_callee (f := 6) rfl ?_); refine goesL_ (some 19) rfl rfl Try.func6 (by kernel_rfl) rfl #[.int .i64 200, .int .i64 6000, .slice A2 l2.length c2] rfl (by (try simp only [List.map_toArray, List.map_cons, List.map_nil]); first | done | rfl | (simp only [List.length_drop, List.length_take]; rfl)) ?_; (with_reducible refine (cornucopiabook_Short.calls k 200 6000 _ _ l2 true _ ?side1 ?side2 A8.out).mono ?_); (case side1 => repeat (first | exact (Kd.C_below HR2.out HB.out) | (with_reducible refine Kd.C_alloc ?_ _) | (with_reducible refine Kd.C_drewN ?_ _) | (with_reducible refine Kd.C_drew ?_))); (case side2 => exact HC2.out); rintro e w11 ⟨rfl, hb⟩; refine ⟨_, rfl, ?_⟩; have n0_ := Aside0.mk (below_step (by repeat (first | (with_reducible first | exact HB.out | apply below_alloc | apply pw_below_drewN | apply below_drew1) | exact HB.out)) hb); clear HB; have HB := n0_; clear n0_; (try clear hb); (try clear hb2); (try clear hk); (try clear hi)))
        go_meet
        case rel => exact ⟨_, (true), (by first | rfl | (simp; done) | (simp [*]; done)), H', ⟨by first | omega | exact Nat.le_refl _⟩, ⟨by repeat (first | (with_reducible first | exact HB.out | apply below_alloc | apply pw_below_drewN | apply below_drew1) | exact HB.out)⟩⟩
      · rw [if_neg c10] at H
        have c10b0 : decide (3000 < (a3.size : Int)) = false := decide_eq_false c10
        have c10b1 : decide (3000 < a3.size) = false := decide_eq_false (by omega)
        clear c10
        (first | rw [c10b0] | (simp only [i64_w, i32_w]; rw [c10b0]) | skip)
        have H' := Aside0.mk H
        clear H
        go_wp2_with (first | ((with_reducible refine gate_callee (f := 6) rfl ?_); refine goesL_ (some 19) rfl rfl Try.func6 (by kernel_rfl) rfl #[.int .i64 200, .int .i64 6000, .slice A2 l2.length c2] rfl (by (try simp only [List.map_toArray, List.map_cons, List.map_nil]); first | done | rfl | (simp only [List.length_drop, List.length_take]; rfl)) ?_; (with_reducible refine (cornucopiabook_Short.calls k 200 6000 _ _ l2 true _ ?side1 ?side2 A8.out).mono ?_); (case side1 => repeat (first | exact (Kd.C_below HR2.out HB.out) | (with_reducible refine Kd.C_alloc ?_ _) | (with_reducible refine Kd.C_drewN ?_ _) | (with_reducible refine Kd.C_drew ?_))); (case side2 => exact HC2.out); rintro e w12 ⟨rfl, hb⟩; refine ⟨_, rfl, ?_⟩; have n0_ := Aside0.mk (below_step (by repeat (first | (with_reducible first | exact HB.out | apply below_alloc | apply pw_below_drewN | apply below_drew1) | exact HB.out)) hb); clear HB; have HB := n0_; clear n0_; (try clear hb); (try clear hb2); (try clear hk); (try clear hi)))
        go_meet
        case rel => exact ⟨_, (decide ((a4.size : Int) > 3000)), (by first | rfl | (simp; done) | (simp [*]; done)), H', ⟨by first | omega | exact Nat.le_refl _⟩, ⟨by repeat (first | (with_reducible first | exact HB.out | apply below_alloc | apply pw_below_drewN | apply below_drew1) | exact HB.out)⟩⟩
    · replace c9 := Bool.eq_false_iff.mpr c9
      subst c9
      have H1 : (cornucopialaw9_BloomTells.j0 k a0 a1 l2 a3 a4 a5 true) = some r := by rw [if_neg (show ¬ (false = true) by decide)] at H; exact H
      clear H
      have H := H1
      clear H1
      have H' := Aside0.mk H
      clear H
      go_wp2_with (first | ((with_reducible refine gate_callee (f := 6) rfl ?_); refine goesL_ (some 19) rfl rfl Try.func6 (by kernel_rfl) rfl #[.int .i64 200, .int .i64 6000, .slice A2 l2.length c2] rfl (by (try simp only [List.map_toArray, List.map_cons, List.map_nil]); first | done | rfl | (simp only [List.length_drop, List.length_take]; rfl)) ?_; (with_reducible refine (cornucopiabook_Short.calls k 200 6000 _ _ l2 false _ ?side1 ?side2 A8.out).mono ?_); (case side1 => repeat (first | exact (Kd.C_below HR2.out HB.out) | (with_reducible refine Kd.C_alloc ?_ _) | (with_reducible refine Kd.C_drewN ?_ _) | (with_reducible refine Kd.C_drew ?_))); (case side2 => exact HC2.out); rintro e w13 ⟨rfl, hb⟩; refine ⟨_, rfl, ?_⟩; have n0_ := Aside0.mk (below_step (by repeat (first | (with_reducible first | exact HB.out | apply below_alloc | apply pw_below_drewN | apply below_drew1) | exact HB.out)) hb); clear HB; have HB := n0_; clear n0_; (try clear hb); (try clear hb2); (try clear hk); (try clear hi)))
      go_meet
      case rel => exact ⟨_, (true), (by first | rfl | (simp; done) | (simp [*]; done)), H', ⟨by first | omega | exact Nat.le_refl _⟩, ⟨by repeat (first | (with_reducible first | exact HB.out | apply below_alloc | apply pw_below_drewN | apply below_drew1) | exact HB.out)⟩⟩
  case rest =>
    clear HC7
    try clear c1
    try clear c2
    try clear p2
    try clear c3
    try clear c6
    try clear c9
    try clear c10
    try clear c10b0
    try clear c10b1
    obtain ⟨kq, x30_6, rfl, HA, HJ6, HB⟩ := hcut
    cases kq with
    | zero => exact absurd HA.out (by simp [cornucopialaw9_BloomTells.j0])
    | succ kj6 =>
      have H := HA.out
      clear HA
      simp only [cornucopialaw9_BloomTells.j0] at H
      by_cases c14 : x30_6 = true
      · subst c14
        have H1 : ((cornucopialaw9_alive.f kj6).bind fun t170 => (some t170)) = some r := by rw [if_pos rfl] at H; exact H
        clear H
        have H := H1
        clear H1
        replace H := Option.bind_eq_some_iff.mp H
        obtain ⟨t170, A150, H⟩ := H
        replace H : (some t170) = some r := H
        have A15 := Aside0.mk A150
        clear A150
        obtain rfl := Option.some.inj H
        go_wp2_with (first | ((with_reducible refine gate_callee (f := 7) rfl ?_); refine goesL_ (some 31) rfl rfl Try.func7 (by kernel_rfl) rfl #[] rfl (by (try simp only [List.map_toArray, List.map_cons, List.map_nil]); first | done | rfl | (simp only [List.length_drop, List.length_take]; rfl)) ?_; (with_reducible refine (cornucopialaw9_alive.calls kj6  t170 _ A15.out).mono ?_); rintro e w16 ⟨rfl, hb⟩; refine ⟨_, rfl, ?_⟩; have n0_ := Aside0.mk (below_step (by repeat (first | (with_reducible first | exact HB.out | apply below_alloc | apply pw_below_drewN | apply below_drew1) | exact HB.out)) hb); clear HB; have HB := n0_; clear n0_; (try clear hb); (try clear hb2); (try clear hk); (try clear hi)))
        go_ret
        exact ⟨by first | rfl | (simp [errW_none, errW_some] <;> rfl) | (simp [*, errW_none, errW_some] <;> rfl), by repeat (first | (with_reducible first | exact HB.out | apply below_alloc | apply pw_below_drewN | apply below_drew1) | exact HB.out)⟩
      · replace c14 := Bool.eq_false_iff.mpr c14
        subst c14
        have H1 : ((cornucopiabook_LentTexts.f l2).bind fun t171 => ((bloom_Make.f kj6 a0 a1 t171).bind fun bt174 => ((cornucopiaref5_Make.f kj6 a0 a1 l2).bind fun bt176 => ((cornucopialaw9_alive.f kj6).bind fun t178 => (if t178 = true then (if bt174.1.toList = bt176.1.toList then (if bt174.2 = bt176.2 then ((bloom_Hash.f kj6 a4 a5).bind fun t179 => ((cornucopiaref5_Hash.f kj6 a4 a5).bind fun t180 => (if t179 = t180 then ((bloom_May.f kj6 a3 a4).bind fun t181 => ((cornucopiaref5_May.f kj6 a3 a4).bind fun t182 => (if (t181 == t182) = true then ((bloom_Valid.f a3).bind fun t183 => ((cornucopiaref5_ValidFilter.f a3).bind fun t184 => (if (t183 == t184) = true then ((bloom_May.f kj6 bt174.1 a4).bind fun t185 => ((cornucopiaref5_May.f kj6 bt176.1 a4).bind fun t186 => (if (t185 == t186) = true then ((cornucopiabook_StaysTexts.f kj6 t171 l2).bind fun t187 => (some t187)) else (none)))) else (none)))) else (none)))) else (none)))) else (none)) else (none)) else (none)))))) = some r := by rw [if_neg (show ¬ (false = true) by decide)] at H; exact H
        clear H
        have H := H1
        clear H1
        replace H := Option.bind_eq_some_iff.mp H
        obtain ⟨t171, A170, H⟩ := H
        replace H : ((bloom_Make.f kj6 a0 a1 t171).bind fun bt174 => ((cornucopiaref5_Make.f kj6 a0 a1 l2).bind fun bt176 => ((cornucopialaw9_alive.f kj6).bind fun t178 => (if t178 = true then (if bt174.1.toList = bt176.1.toList then (if bt174.2 = bt176.2 then ((bloom_Hash.f kj6 a4 a5).bind fun t179 => ((cornucopiaref5_Hash.f kj6 a4 a5).bind fun t180 => (if t179 = t180 then ((bloom_May.f kj6 a3 a4).bind fun t181 => ((cornucopiaref5_May.f kj6 a3 a4).bind fun t182 => (if (t181 == t182) = true then ((bloom_Valid.f a3).bind fun t183 => ((cornucopiaref5_ValidFilter.f a3).bind fun t184 => (if (t183 == t184) = true then ((bloom_May.f kj6 bt174.1 a4).bind fun t185 => ((cornucopiaref5_May.f kj6 bt176.1 a4).bind fun t186 => (if (t185 == t186) = true then ((cornucopiabook_StaysTexts.f kj6 t171 l2).bind fun t187 => (some t187)) else (none)))) else (none)))) else (none)))) else (none)))) else (none)) else (none)) else (none))))) = some r := H
        have A17 := Aside0.mk A170
        clear A170
        replace H := Option.bind_eq_some_iff.mp H
        obtain ⟨⟨t174, t175⟩, A180, H⟩ := H
        replace H : ((cornucopiaref5_Make.f kj6 a0 a1 l2).bind fun bt176 => ((cornucopialaw9_alive.f kj6).bind fun t178 => (if t178 = true then (if t174.toList = bt176.1.toList then (if t175 = bt176.2 then ((bloom_Hash.f kj6 a4 a5).bind fun t179 => ((cornucopiaref5_Hash.f kj6 a4 a5).bind fun t180 => (if t179 = t180 then ((bloom_May.f kj6 a3 a4).bind fun t181 => ((cornucopiaref5_May.f kj6 a3 a4).bind fun t182 => (if (t181 == t182) = true then ((bloom_Valid.f a3).bind fun t183 => ((cornucopiaref5_ValidFilter.f a3).bind fun t184 => (if (t183 == t184) = true then ((bloom_May.f kj6 t174 a4).bind fun t185 => ((cornucopiaref5_May.f kj6 bt176.1 a4).bind fun t186 => (if (t185 == t186) = true then ((cornucopiabook_StaysTexts.f kj6 t171 l2).bind fun t187 => (some t187)) else (none)))) else (none)))) else (none)))) else (none)))) else (none)) else (none)) else (none)))) = some r := H
        have A18 := Aside0.mk A180
        clear A180
        replace H := Option.bind_eq_some_iff.mp H
        obtain ⟨⟨t176, t177⟩, A190, H⟩ := H
        replace H : ((cornucopialaw9_alive.f kj6).bind fun t178 => (if t178 = true then (if t174.toList = t176.toList then (if t175 = t177 then ((bloom_Hash.f kj6 a4 a5).bind fun t179 => ((cornucopiaref5_Hash.f kj6 a4 a5).bind fun t180 => (if t179 = t180 then ((bloom_May.f kj6 a3 a4).bind fun t181 => ((cornucopiaref5_May.f kj6 a3 a4).bind fun t182 => (if (t181 == t182) = true then ((bloom_Valid.f a3).bind fun t183 => ((cornucopiaref5_ValidFilter.f a3).bind fun t184 => (if (t183 == t184) = true then ((bloom_May.f kj6 t174 a4).bind fun t185 => ((cornucopiaref5_May.f kj6 t176 a4).bind fun t186 => (if (t185 == t186) = true then ((cornucopiabook_StaysTexts.f kj6 t171 l2).bind fun t187 => (some t187)) else (none)))) else (none)))) else (none)))) else (none)))) else (none)) else (none)) else (none))) = some r := H
        have A19 := Aside0.mk A190
        clear A190
        replace H := Option.bind_eq_some_iff.mp H
        obtain ⟨t178, A200, H⟩ := H
        replace H : (if t178 = true then (if t174.toList = t176.toList then (if t175 = t177 then ((bloom_Hash.f kj6 a4 a5).bind fun t179 => ((cornucopiaref5_Hash.f kj6 a4 a5).bind fun t180 => (if t179 = t180 then ((bloom_May.f kj6 a3 a4).bind fun t181 => ((cornucopiaref5_May.f kj6 a3 a4).bind fun t182 => (if (t181 == t182) = true then ((bloom_Valid.f a3).bind fun t183 => ((cornucopiaref5_ValidFilter.f a3).bind fun t184 => (if (t183 == t184) = true then ((bloom_May.f kj6 t174 a4).bind fun t185 => ((cornucopiaref5_May.f kj6 t176 a4).bind fun t186 => (if (t185 == t186) = true then ((cornucopiabook_StaysTexts.f kj6 t171 l2).bind fun t187 => (some t187)) else (none)))) else (none)))) else (none)))) else (none)))) else (none)) else (none)) else (none)) = some r := H
        have A20 := Aside0.mk A200
        clear A200
        by_cases c21 : t178 = true
        · subst c21
          have H1 : (if t174.toList = t176.toList then (if t175 = t177 then ((bloom_Hash.f kj6 a4 a5).bind fun t179 => ((cornucopiaref5_Hash.f kj6 a4 a5).bind fun t180 => (if t179 = t180 then ((bloom_May.f kj6 a3 a4).bind fun t181 => ((cornucopiaref5_May.f kj6 a3 a4).bind fun t182 => (if (t181 == t182) = true then ((bloom_Valid.f a3).bind fun t183 => ((cornucopiaref5_ValidFilter.f a3).bind fun t184 => (if (t183 == t184) = true then ((bloom_May.f kj6 t174 a4).bind fun t185 => ((cornucopiaref5_May.f kj6 t176 a4).bind fun t186 => (if (t185 == t186) = true then ((cornucopiabook_StaysTexts.f kj6 t171 l2).bind fun t187 => (some t187)) else (none)))) else (none)))) else (none)))) else (none)))) else (none)) else (none)) = some r := by rw [if_pos rfl] at H; exact H
          clear H
          have H := H1
          clear H1
          by_cases c22 : t174.toList = t176.toList
          · rw [if_pos c22] at H
            have c22b0 : (t174.toList == t176.toList) = true := beq_iff_eq.mpr c22
            have c22b1 : (t174.toList != t176.toList) = false := bne_eq_false_iff_eq.mpr c22
            clear c22
            by_cases c23 : t175 = t177
            · rw [if_pos c23] at H
              have c23b0 : (t175 == t177) = true := beq_iff_eq.mpr c23
              have c23b1 : (t175 != t177) = false := bne_eq_false_iff_eq.mpr c23
              clear c23
              replace H := Option.bind_eq_some_iff.mp H
              obtain ⟨t179, A240, H⟩ := H
              replace H : ((cornucopiaref5_Hash.f kj6 a4 a5).bind fun t180 => (if t179 = t180 then ((bloom_May.f kj6 a3 a4).bind fun t181 => ((cornucopiaref5_May.f kj6 a3 a4).bind fun t182 => (if (t181 == t182) = true then ((bloom_Valid.f a3).bind fun t183 => ((cornucopiaref5_ValidFilter.f a3).bind fun t184 => (if (t183 == t184) = true then ((bloom_May.f kj6 t174 a4).bind fun t185 => ((cornucopiaref5_May.f kj6 t176 a4).bind fun t186 => (if (t185 == t186) = true then ((cornucopiabook_StaysTexts.f kj6 t171 l2).bind fun t187 => (some t187)) else (none)))) else (none)))) else (none)))) else (none))) = some r := H
              have A24 := Aside0.mk A240
              clear A240
              replace H := Option.bind_eq_some_iff.mp H
              obtain ⟨t180, A250, H⟩ := H
              replace H : (if t179 = t180 then ((bloom_May.f kj6 a3 a4).bind fun t181 => ((cornucopiaref5_May.f kj6 a3 a4).bind fun t182 => (if (t181 == t182) = true then ((bloom_Valid.f a3).bind fun t183 => ((cornucopiaref5_ValidFilter.f a3).bind fun t184 => (if (t183 == t184) = true then ((bloom_May.f kj6 t174 a4).bind fun t185 => ((cornucopiaref5_May.f kj6 t176 a4).bind fun t186 => (if (t185 == t186) = true then ((cornucopiabook_StaysTexts.f kj6 t171 l2).bind fun t187 => (some t187)) else (none)))) else (none)))) else (none)))) else (none)) = some r := H
              have A25 := Aside0.mk A250
              clear A250
              by_cases c26 : t179 = t180
              · rw [if_pos c26] at H
                have c26b0 : (t179 == t180) = true := beq_iff_eq.mpr c26
                have c26b1 : (t179 != t180) = false := bne_eq_false_iff_eq.mpr c26
                clear c26
                replace H := Option.bind_eq_some_iff.mp H
                obtain ⟨t181, A270, H⟩ := H
                replace H : ((cornucopiaref5_May.f kj6 a3 a4).bind fun t182 => (if (t181 == t182) = true then ((bloom_Valid.f a3).bind fun t183 => ((cornucopiaref5_ValidFilter.f a3).bind fun t184 => (if (t183 == t184) = true then ((bloom_May.f kj6 t174 a4).bind fun t185 => ((cornucopiaref5_May.f kj6 t176 a4).bind fun t186 => (if (t185 == t186) = true then ((cornucopiabook_StaysTexts.f kj6 t171 l2).bind fun t187 => (some t187)) else (none)))) else (none)))) else (none))) = some r := H
                have A27 := Aside0.mk A270
                clear A270
                replace H := Option.bind_eq_some_iff.mp H
                obtain ⟨t182, A280, H⟩ := H
                replace H : (if (t181 == t182) = true then ((bloom_Valid.f a3).bind fun t183 => ((cornucopiaref5_ValidFilter.f a3).bind fun t184 => (if (t183 == t184) = true then ((bloom_May.f kj6 t174 a4).bind fun t185 => ((cornucopiaref5_May.f kj6 t176 a4).bind fun t186 => (if (t185 == t186) = true then ((cornucopiabook_StaysTexts.f kj6 t171 l2).bind fun t187 => (some t187)) else (none)))) else (none)))) else (none)) = some r := H
                have A28 := Aside0.mk A280
                clear A280
                by_cases c29 : (t181 == t182) = true
                · rw [if_pos c29] at H
                  have c29b0 : (t181 == t182) = true := c29
                  (try (have c29b1 : decide (t181 = t182) = true := by simpa using c29))
                  (try (have c29b2 : (t181 == t182) = true := by simpa using c29))
                  clear c29
                  replace H := Option.bind_eq_some_iff.mp H
                  obtain ⟨t183, A300, H⟩ := H
                  replace H : ((cornucopiaref5_ValidFilter.f a3).bind fun t184 => (if (t183 == t184) = true then ((bloom_May.f kj6 t174 a4).bind fun t185 => ((cornucopiaref5_May.f kj6 t176 a4).bind fun t186 => (if (t185 == t186) = true then ((cornucopiabook_StaysTexts.f kj6 t171 l2).bind fun t187 => (some t187)) else (none)))) else (none))) = some r := H
                  have A30 := Aside0.mk A300
                  clear A300
                  replace H := Option.bind_eq_some_iff.mp H
                  obtain ⟨t184, A310, H⟩ := H
                  replace H : (if (t183 == t184) = true then ((bloom_May.f kj6 t174 a4).bind fun t185 => ((cornucopiaref5_May.f kj6 t176 a4).bind fun t186 => (if (t185 == t186) = true then ((cornucopiabook_StaysTexts.f kj6 t171 l2).bind fun t187 => (some t187)) else (none)))) else (none)) = some r := H
                  have A31 := Aside0.mk A310
                  clear A310
                  by_cases c32 : (t183 == t184) = true
                  · rw [if_pos c32] at H
                    have c32b0 : (t183 == t184) = true := c32
                    (try (have c32b1 : decide (t183 = t184) = true := by simpa using c32))
                    (try (have c32b2 : (t183 == t184) = true := by simpa using c32))
                    clear c32
                    replace H := Option.bind_eq_some_iff.mp H
                    obtain ⟨t185, A330, H⟩ := H
                    replace H : ((cornucopiaref5_May.f kj6 t176 a4).bind fun t186 => (if (t185 == t186) = true then ((cornucopiabook_StaysTexts.f kj6 t171 l2).bind fun t187 => (some t187)) else (none))) = some r := H
                    have A33 := Aside0.mk A330
                    clear A330
                    replace H := Option.bind_eq_some_iff.mp H
                    obtain ⟨t186, A340, H⟩ := H
                    replace H : (if (t185 == t186) = true then ((cornucopiabook_StaysTexts.f kj6 t171 l2).bind fun t187 => (some t187)) else (none)) = some r := H
                    have A34 := Aside0.mk A340
                    clear A340
                    by_cases c35 : (t185 == t186) = true
                    · rw [if_pos c35] at H
                      have c35b0 : (t185 == t186) = true := c35
                      (try (have c35b1 : decide (t185 = t186) = true := by simpa using c35))
                      (try (have c35b2 : (t185 == t186) = true := by simpa using c35))
                      clear c35
                      replace H := Option.bind_eq_some_iff.mp H
                      obtain ⟨t187, A360, H⟩ := H
                      replace H : (some t187) = some r := H
                      have A36 := Aside0.mk A360
                      clear A360
                      obtain rfl := Option.some.inj H
                      go_wp2_with (first | ((with_reducible refine gate_callee (f := 8) rfl ?_); refine goesL_ (some 33) rfl rfl Try.func8 (by kernel_rfl) rfl #[.slice A2 l2.length c2] rfl (by (try simp only [List.map_toArray, List.map_cons, List.map_nil]); first | done | rfl | (simp only [List.length_drop, List.length_take]; rfl)) ?_; (with_reducible refine (cornucopiabook_LentTexts.calls _ _ l2 t171 _ ?side1 ?side2 A17.out).mono ?_); (case side1 => repeat (first | exact (Kd.C_below HR2.out HB.out) | (with_reducible refine Kd.C_alloc ?_ _) | (with_reducible refine Kd.C_drewN ?_ _) | (with_reducible refine Kd.C_drew ?_))); (case side2 => exact HC2.out); rintro e w37 ⟨v172, rfl, ho0, hb⟩; refine ⟨_, rfl, ?_⟩; have n0_ := Aside0.mk (Lent.R_lower ho0 (below_size (by repeat (first | (with_reducible first | exact HB.out | apply below_alloc | apply pw_below_drewN | apply below_drew1) | exact HB.out)))); have n1_ := Aside0.mk (below_step (by repeat (first | (with_reducible first | exact HB.out | apply below_alloc | apply pw_below_drewN | apply below_drew1) | exact HB.out)) hb); clear HB; have HO173 := n0_; have HB := n1_; clear n0_ n1_; (try clear hb); (try clear hb2); (try clear hk); (try clear hi); (try clear ho0); obtain ⟨Ao38, co38, eo38⟩ := Lent.R_slice HO173.out; subst eo38) | ((with_reducible refine gate_callee (f := 9) rfl ?_); refine goesL_ (some 38) rfl rfl Try.func9 (by kernel_rfl) rfl #[.int .i64 a0, .int .i64 a1, .slice Ao38 t171.length co38] rfl (by (try simp only [List.map_toArray, List.map_cons, List.map_nil]); first | done | rfl | (simp only [List.length_drop, List.length_take]; rfl)) ?_; (with_reducible refine (bloom_Make.calls kj6 a0 a1 _ _ t171 t174 t175 _ ?side1 ?side2 A18.out).mono ?_); (case side1 => repeat (first | exact (Lent.R_reads' HO173.out).2.2 | (with_reducible refine Kd.C_alloc ?_ _) | (with_reducible refine Kd.C_drewN ?_ _) | (with_reducible refine Kd.C_drew ?_))); (case side2 => exact (Lent.R_reads' HO173.out).2.1); rintro e w39 ⟨rfl, hb⟩; refine ⟨_, rfl, ?_⟩; have n0_ := Aside0.mk (Lent.R_below (by (with_reducible repeat (first | apply Lent.R_alloc | apply Lent.R_drewN | apply Lent.R_drew)); exact HO173.out) hb); have n1_ := Aside0.mk (below_step (by repeat (first | (with_reducible first | exact HB.out | apply below_alloc | apply pw_below_drewN | apply below_drew1) | exact HB.out)) hb); clear HO173; clear HB; have HO173 := n0_; have HB := n1_; clear n0_ n1_; (try clear hb); (try clear hb2); (try clear hk); (try clear hi)) | ((with_reducible refine gate_callee (f := 10) rfl ?_); refine goesL_ (some 45) rfl rfl Try.func10 (by kernel_rfl) rfl #[.int .i64 a0, .int .i64 a1, .slice A2 l2.length c2] rfl (by (try simp only [List.map_toArray, List.map_cons, List.map_nil]); first | done | rfl | (simp only [List.length_drop, List.length_take]; rfl)) ?_; (with_reducible refine (cornucopiaref5_Make.calls kj6 a0 a1 _ _ l2 t176 t177 _ ?side1 ?side2 A19.out).mono ?_); (case side1 => repeat (first | exact (Kd.C_below HR2.out HB.out) | (with_reducible refine Kd.C_alloc ?_ _) | (with_reducible refine Kd.C_drewN ?_ _) | (with_reducible refine Kd.C_drew ?_))); (case side2 => exact HC2.out); rintro e w40 ⟨rfl, hb⟩; refine ⟨_, rfl, ?_⟩; have n0_ := Aside0.mk (Lent.R_below (by (with_reducible repeat (first | apply Lent.R_alloc | apply Lent.R_drewN | apply Lent.R_drew)); exact HO173.out) hb); have n1_ := Aside0.mk (below_step (by repeat (first | (with_reducible first | exact HB.out | apply below_alloc | apply pw_below_drewN | apply below_drew1) | exact HB.out)) hb); clear HO173; clear HB; have HO173 := n0_; have HB := n1_; clear n0_ n1_; (try clear hb); (try clear hb2); (try clear hk); (try clear hi)) | ((with_reducible refine gate_callee (f := 7) rfl ?_); refine goesL_ (some 48) rfl rfl Try.func7 (by kernel_rfl) rfl #[] rfl (by (try simp only [List.map_toArray, List.map_cons, List.map_nil]); first | done | rfl | (simp only [List.length_drop, List.length_take]; rfl)) ?_; (with_reducible refine (cornucopialaw9_alive.calls kj6  true _ A20.out).mono ?_); rintro e w41 ⟨rfl, hb⟩; refine ⟨_, rfl, ?_⟩; have n0_ := Aside0.mk (Lent.R_below (by (with_reducible repeat (first | apply Lent.R_alloc | apply Lent.R_drewN | apply Lent.R_drew)); exact HO173.out) hb); have n1_ := Aside0.mk (below_step (by repeat (first | (with_reducible first | exact HB.out | apply below_alloc | apply pw_below_drewN | apply below_drew1) | exact HB.out)) hb); clear HO173; clear HB; have HO173 := n0_; have HB := n1_; clear n0_ n1_; (try clear hb); (try clear hb2); (try clear hk); (try clear hi)) | (go_at_call 11; (with_reducible refine (bloom_Hash.calls kj6 a4 a5 t179 _ A24.out).mono ?_); rintro e w' ⟨rfl, ⟨nd, rfl⟩⟩) | (go_at_call 12; (with_reducible refine (cornucopiaref5_Hash.calls kj6 a4 a5 t180 _ A25.out).mono ?_); rintro e w' ⟨rfl, ⟨nd, rfl⟩⟩) | (go_at_call 13; (with_reducible refine (bloom_May.calls kj6 a3 a4 t181 _ A27.out).mono ?_); rintro e w42 ⟨rfl, hb⟩; have n0_ := Aside0.mk (Lent.R_below (by (with_reducible repeat (first | apply Lent.R_alloc | apply Lent.R_drewN | apply Lent.R_drew)); exact HO173.out) hb); have n1_ := Aside0.mk (below_step (by repeat (first | (with_reducible first | exact HB.out | apply below_alloc | apply pw_below_drewN | apply below_drew1) | exact HB.out)) hb); clear HO173; clear HB; have HO173 := n0_; have HB := n1_; clear n0_ n1_; (try clear hb); (try clear hb2); (try clear hk); (try clear hi)) | (go_at_call 14; (with_reducible refine (cornucopiaref5_May.calls kj6 a3 a4 t182 _ A28.out).mono ?_); rintro e w43 ⟨rfl, hb⟩; have n0_ := Aside0.mk (Lent.R_below (by (with_reducible repeat (first | apply Lent.R_alloc | apply Lent.R_drewN | apply Lent.R_drew)); exact HO173.out) hb); have n1_ := Aside0.mk (below_step (by repeat (first | (with_reducible first | exact HB.out | apply below_alloc | apply pw_below_drewN | apply below_drew1) | exact HB.out)) hb); clear HO173; clear HB; have HO173 := n0_; have HB := n1_; clear n0_ n1_; (try clear hb); (try clear hb2); (try clear hk); (try clear hi)) | (go_at_call 15; (with_reducible refine (bloom_Valid.calls a3 t183 _ A30.out).mono ?_); rintro e w' ⟨rfl, ⟨nd, rfl⟩⟩) | (go_at_call 16; (with_reducible refine (cornucopiaref5_ValidFilter.calls a3 t184 _ A31.out).mono ?_); rintro e w' ⟨rfl, ⟨nd, rfl⟩⟩) | (go_at_call 13; (with_reducible refine (bloom_May.calls kj6 t174 a4 t185 _ A33.out).mono ?_); rintro e w44 ⟨rfl, hb⟩; have n0_ := Aside0.mk (Lent.R_below (by (with_reducible repeat (first | apply Lent.R_alloc | apply Lent.R_drewN | apply Lent.R_drew)); exact HO173.out) hb); have n1_ := Aside0.mk (below_step (by repeat (first | (with_reducible first | exact HB.out | apply below_alloc | apply pw_below_drewN | apply below_drew1) | exact HB.out)) hb); clear HO173; clear HB; have HO173 := n0_; have HB := n1_; clear n0_ n1_; (try clear hb); (try clear hb2); (try clear hk); (try clear hi)) | (go_at_call 14; (with_reducible refine (cornucopiaref5_May.calls kj6 t176 a4 t186 _ A34.out).mono ?_); rintro e w45 ⟨rfl, hb⟩; have n0_ := Aside0.mk (Lent.R_below (by (with_reducible repeat (first | apply Lent.R_alloc | apply Lent.R_drewN | apply Lent.R_drew)); exact HO173.out) hb); have n1_ := Aside0.mk (below_step (by repeat (first | (with_reducible first | exact HB.out | apply below_alloc | apply pw_below_drewN | apply below_drew1) | exact HB.out)) hb); clear HO173; clear HB; have HO173 := n0_; have HB := n1_; clear n0_ n1_; (try clear hb); (try clear hb2); (try clear hk); (try clear hi)) | (go_at_call 17; (with_reducible refine (cornucopiabook_StaysTexts.calls kj6 _ _ t171 _ _ l2 t187 _ ?side1 ?side2 ?side3 ?side4 A36.out).mono ?_); (case side1 => repeat (first | exact (Lent.R_mark HO173.out).2 | (with_reducible refine Lent.C_alloc ?_ _) | (with_reducible refine Lent.C_drewN ?_ _) | (with_reducible refine Lent.C_drew ?_))); (case side2 => exact (Lent.R_mark HO173.out).1); (case side3 => repeat (first | exact (Kd.C_below HR2.out HB.out) | (with_reducible refine Kd.C_alloc ?_ _) | (with_reducible refine Kd.C_drewN ?_ _) | (with_reducible refine Kd.C_drew ?_))); (case side4 => exact HC2.out); rintro e w' ⟨rfl, ⟨nd, rfl⟩⟩))
                      go_ret
                      exact ⟨by first | rfl | (simp [errW_none, errW_some] <;> rfl) | (simp [*, errW_none, errW_some] <;> rfl), by repeat (first | (with_reducible first | exact HB.out | apply below_alloc | apply pw_below_drewN | apply below_drew1) | exact HB.out)⟩
                    · rw [if_neg c35] at H
                      exact absurd H (by simp)
                  · rw [if_neg c32] at H
                    exact absurd H (by simp)
                · rw [if_neg c29] at H
                  exact absurd H (by simp)
              · rw [if_neg c26] at H
                exact absurd H (by simp)
            · rw [if_neg c23] at H
              exact absurd H (by simp)
          · rw [if_neg c22] at H
            exact absurd H (by simp)
        · replace c21 := Bool.eq_false_iff.mpr c21
          subst c21
          have H1 : (none) = some r := by rw [if_neg (show ¬ (false = true) by decide)] at H; exact H
          clear H
          have H := H1
          clear H1
          exact absurd H (by simp)

/-- THE ONE PURE STATEMENT of cornucopialaw9_BloomTells. -/
def cornucopialaw9_BloomTells.Pure : Prop := ∀ (a0 : Int) (a1 : Int) (l2 : List ByteArray) (a3 : ByteArray) (a4 : ByteArray) (a5 : Int), (Lit.int .i64 a0).wf = true → (Lit.int .i64 a1).wf = true → l2.length * 16 ≤ 140737488351232 → (∀ x_ ∈ l2, x_.size ≤ 140737488351232) → a3.size ≤ 140737488351232 → a4.size ≤ 140737488351232 → (Lit.int .u32 a5).wf = true → ∃ k, cornucopialaw9_BloomTells.f k a0 a1 l2 a3 a4 a5 = some true
theorem cornucopialaw9_BloomTells.walk (P : cornucopialaw9_BloomTells.Pure) (a0 : Int) (a1 : Int) (A2 : Option Addr) (c2 : Nat) (l2 : List ByteArray) (a3 : ByteArray) (a4 : ByteArray) (a5 : Int) (w : World) (w0_0 : (Lit.int .i64 a0).wf = true) (w1_0 : (Lit.int .i64 a1).wf = true) (hr2 : Kd.C Kd.string w A2 l2.length l2) (hc2 : l2.length ≤ c2) (w2_0 : l2.length * 16 ≤ 140737488351232) (w2_1 : (∀ x_ ∈ l2, x_.size ≤ 140737488351232)) (w3_0 : a3.size ≤ 140737488351232) (w4_0 : a4.size ≤ 140737488351232) (w5_0 : (Lit.int .u32 a5).wf = true) :
    Calls Try.prog 3 #[.int .i64 a0, .int .i64 a1, .slice A2 l2.length c2, .string a3, .string a4, .int .u32 a5] w fun e w' => e = .returned (.bool true) ∧ Below w.heap.size w w' := by
  obtain ⟨k, h⟩ := P a0 a1 l2 a3 a4 a5 w0_0 w1_0 w2_0 w2_1 w3_0 w4_0 w5_0
  refine (cornucopialaw9_BloomTells.calls k a0 a1 _ _ l2 a3 a4 a5 true w hr2 hc2 h).mono ?_
  rintro e w' ⟨rfl, hd⟩
  exact ⟨rfl, hd⟩

end Go.Proofs.Ytmfnnialhegjmaa.PBlm
