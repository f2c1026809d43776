/- A walk, written by a program of this session out of the translation (a printed Lean function, and that the Go code comes to its answer). Lean checks it. -/
import Derived.Test.YtkpjipfjhniddaaPNumx0
import Derived.Test.YtkpjipfjhniddaaPNumx29
import Derived.Test.YtkpjipfjhniddaaPNumx31
namespace Go.Proofs.Ytkpjipfjhniddaa.PNum
open Go.RowKit Go.Proofs.YtkpjipfjhniddaaW.PrintWords Go.Proofs.YtkpjipfjhniddaaW.PrintLast Go.Proofs.YtkpjipfjhniddaaW.PrintMore
attribute [local go_sem] max2_int min2_int max_two min_two max_three min_three max_four min_four   -- for this text's walks alone
set_option linter.unusedVariables false
set_option linter.unusedSimpArgs false

/-! ### cornucopialaw5_IkeyOrder: function 4 -/
mutual
def cornucopialaw5_IkeyOrder.j0 : Nat → Bool → ByteArray → Int → Int → ByteArray → ByteArray → Int → Int → ByteArray → ByteArray → Int → Int → ByteArray → Option (Bool)
  | 0, _, _, _, _, _, _, _, _, _, _, _, _, _ => none
  | k + 1, x25, x478000, x478001, x478002, x478003, x479000, x479001, x479002, x479003, x480000, x480001, x480002, x480003 => if x25 = true then ((cornucopialaw5_alive.f k).bind fun t480 => (some t480)) else ((ikey_Compare.f k x478000 x478001 x478002 x478003 x479000 x479001 x479002 x479003).bind fun t481 => ((ikey_Compare.f k x479000 x479001 x479002 x479003 x480000 x480001 x480002 x480003).bind fun t482 => ((ikey_Compare.f k x478000 x478001 x478002 x478003 x480000 x480001 x480002 x480003).bind fun t483 => ((ikey_Compare.f k x479000 x479001 x479002 x479003 x478000 x478001 x478002 x478003).bind fun t484 => (if t481 = (wrap64 (-t484)) then ((ikey_Compare.f k x478000 x478001 x478002 x478003 x478000 x478001 x478002 x478003).bind fun t485 => (if t485 = 0 then (if x478000.toList = x479000.toList then (cornucopialaw5_IkeyOrder.j1 k t481 t482 t483 ((t481 == 0) != (x478001 == x479001)) x478000 x478001 x478002 x478003 x479000 x479001 x479002 x479003) else (cornucopialaw5_IkeyOrder.j1 k t481 t482 t483 ((t481 == 0) != false) x478000 x478001 x478002 x478003 x479000 x479001 x479002 x479003)) else (cornucopialaw5_IkeyOrder.j1 k t481 t482 t483 true x478000 x478001 x478002 x478003 x479000 x479001 x479002 x479003))) else (cornucopialaw5_IkeyOrder.j1 k t481 t482 t483 true x478000 x478001 x478002 x478003 x479000 x479001 x479002 x479003))))))
def cornucopialaw5_IkeyOrder.j1 : Nat → Int → Int → Int → Bool → ByteArray → Int → Int → ByteArray → ByteArray → Int → Int → ByteArray → Option (Bool)
  | 0, _, _, _, _, _, _, _, _, _, _, _, _ => none
  | k + 1, x7, x8, x9, x64, x478000, x478001, x478002, x478003, x479000, x479001, x479002, x479003 => if x64 = true then (none) else (if x7 < 0 then (if x8 < 0 then (if x9 ≥ 0 then (none) else (if x7 = 0 then (if x8 = x9 then ((cornucopialaw5_alive.f k).bind fun t486 => (if t486 = true then (if x478000.toList = x479000.toList then (some ((decide (x7 < 0)) == (decide (x478001 > x479001)))) else (some true)) else (none))) else (none)) else ((cornucopialaw5_alive.f k).bind fun t487 => (if t487 = true then (if x478000.toList = x479000.toList then (some ((decide (x7 < 0)) == (decide (x478001 > x479001)))) else (some true)) else (none))))) else (if x7 = 0 then (if x8 = x9 then ((cornucopialaw5_alive.f k).bind fun t488 => (if t488 = true then (if x478000.toList = x479000.toList then (some ((decide (x7 < 0)) == (decide (x478001 > x479001)))) else (some true)) else (none))) else (none)) else ((cornucopialaw5_alive.f k).bind fun t489 => (if t489 = true then (if x478000.toList = x479000.toList then (some ((decide (x7 < 0)) == (decide (x478001 > x479001)))) else (some true)) else (none))))) else (if x7 = 0 then (if x8 = x9 then ((cornucopialaw5_alive.f k).bind fun t490 => (if t490 = true then (if x478000.toList = x479000.toList then (some ((decide (x7 < 0)) == (decide (x478001 > x479001)))) else (some true)) else (none))) else (none)) else ((cornucopialaw5_alive.f k).bind fun t491 => (if t491 = true then (if x478000.toList = x479000.toList then (some ((decide (x7 < 0)) == (decide (x478001 > x479001)))) else (some true)) else (none)))))
end
def cornucopialaw5_IkeyOrder.f (k : Nat) (a0_0 : ByteArray) (a0_1 : Int) (a0_2 : Int) (a0_3 : ByteArray) (a1_0 : ByteArray) (a1_1 : Int) (a1_2 : Int) (a1_3 : ByteArray) (a2_0 : ByteArray) (a2_1 : Int) (a2_2 : Int) (a2_3 : ByteArray) : Option (Bool) := if (a0_0.size : Int) > 300 then (cornucopialaw5_IkeyOrder.j0 k true a0_0 a0_1 a0_2 a0_3 a1_0 a1_1 a1_2 a1_3 a2_0 a2_1 a2_2 a2_3) else (if (a1_0.size : Int) > 300 then (cornucopialaw5_IkeyOrder.j0 k true a0_0 a0_1 a0_2 a0_3 a1_0 a1_1 a1_2 a1_3 a2_0 a2_1 a2_2 a2_3) else (cornucopialaw5_IkeyOrder.j0 k (decide ((a2_0.size : Int) > 300)) a0_0 a0_1 a0_2 a0_3 a1_0 a1_1 a1_2 a1_3 a2_0 a2_1 a2_2 a2_3))
theorem cornucopialaw5_IkeyOrder.mono_l : ∀ k, (∀ y0 y1 y2 y3 y4 y5 y6 y7 y8 y9 y10 y11 y12, LeO (cornucopialaw5_IkeyOrder.j0 k y0 y1 y2 y3 y4 y5 y6 y7 y8 y9 y10 y11 y12) (cornucopialaw5_IkeyOrder.j0 (k + 1) y0 y1 y2 y3 y4 y5 y6 y7 y8 y9 y10 y11 y12)) ∧ (∀ y0 y1 y2 y3 y4 y5 y6 y7 y8 y9 y10 y11, LeO (cornucopialaw5_IkeyOrder.j1 k y0 y1 y2 y3 y4 y5 y6 y7 y8 y9 y10 y11) (cornucopialaw5_IkeyOrder.j1 (k + 1) y0 y1 y2 y3 y4 y5 y6 y7 y8 y9 y10 y11))
  | 0 => ⟨fun _ _ _ _ _ _ _ _ _ _ _ _ _ r h => by simp [cornucopialaw5_IkeyOrder.j0] at h, fun _ _ _ _ _ _ _ _ _ _ _ _ r h => by simp [cornucopialaw5_IkeyOrder.j1] at h⟩
  | k + 1 => by
    obtain ⟨ih0, ih1⟩ := cornucopialaw5_IkeyOrder.mono_l k
    refine ⟨?_, ?_⟩
    · intro y0 y1 y2 y3 y4 y5 y6 y7 y8 y9 y10 y11 y12
      unfold cornucopialaw5_IkeyOrder.j0
      repeat' first
      | (with_reducible exact ih0 _ _ _ _ _ _ _ _ _ _ _ _ _)
      | (with_reducible exact ih1 _ _ _ _ _ _ _ _ _ _ _ _)
      | (with_reducible exact cornucopialaw5_alive.mono _)
      | (with_reducible exact ikey_Compare.mono _ _ _ _ _ _ _ _ _)
      | (with_reducible exact LeO.refl _)
      | (with_reducible exact LeO.none _)
      | (with_reducible refine LeO.ite ?_ ?_)
      | (with_reducible refine LeO.bind ?_ (fun _ => ?_))
      | exact ih0 _ _ _ _ _ _ _ _ _ _ _ _ _
      | exact ih1 _ _ _ _ _ _ _ _ _ _ _ _
      | exact cornucopialaw5_alive.mono _
      | exact ikey_Compare.mono _ _ _ _ _ _ _ _ _
      | exact LeO.none _
      | refine LeO.ite ?_ ?_
      | refine LeO.bind ?_ (fun _ => ?_)
    · intro y0 y1 y2 y3 y4 y5 y6 y7 y8 y9 y10 y11
      unfold cornucopialaw5_IkeyOrder.j1
      repeat' first
      | (with_reducible exact ih0 _ _ _ _ _ _ _ _ _ _ _ _ _)
      | (with_reducible exact ih1 _ _ _ _ _ _ _ _ _ _ _ _)
      | (with_reducible exact cornucopialaw5_alive.mono _)
      | (with_reducible exact ikey_Compare.mono _ _ _ _ _ _ _ _ _)
      | (with_reducible exact LeO.refl _)
      | (with_reducible exact LeO.none _)
      | (with_reducible refine LeO.ite ?_ ?_)
      | (with_reducible refine LeO.bind ?_ (fun _ => ?_))
      | exact ih0 _ _ _ _ _ _ _ _ _ _ _ _ _
      | exact ih1 _ _ _ _ _ _ _ _ _ _ _ _
      | exact cornucopialaw5_alive.mono _
      | exact ikey_Compare.mono _ _ _ _ _ _ _ _ _
      | exact LeO.none _
      | refine LeO.ite ?_ ?_
      | refine LeO.bind ?_ (fun _ => ?_)
theorem cornucopialaw5_IkeyOrder.mono : ∀ a0 a1 a2 a3 a4 a5 a6 a7 a8 a9 a10 a11 k, LeO (cornucopialaw5_IkeyOrder.f k a0 a1 a2 a3 a4 a5 a6 a7 a8 a9 a10 a11) (cornucopialaw5_IkeyOrder.f (k + 1) a0 a1 a2 a3 a4 a5 a6 a7 a8 a9 a10 a11) := by
  intro a0 a1 a2 a3 a4 a5 a6 a7 a8 a9 a10 a11 k
  obtain ⟨ih0, ih1⟩ := cornucopialaw5_IkeyOrder.mono_l k
  unfold cornucopialaw5_IkeyOrder.f
  repeat' first
      | (with_reducible exact ih0 _ _ _ _ _ _ _ _ _ _ _ _ _)
      | (with_reducible exact ih1 _ _ _ _ _ _ _ _ _ _ _ _)
      | (with_reducible exact cornucopialaw5_alive.mono _)
      | (with_reducible exact ikey_Compare.mono _ _ _ _ _ _ _ _ _)
      | (with_reducible exact LeO.refl _)
      | (with_reducible exact LeO.none _)
      | (with_reducible refine LeO.ite ?_ ?_)
      | (with_reducible refine LeO.bind ?_ (fun _ => ?_))
      | exact ih0 _ _ _ _ _ _ _ _ _ _ _ _ _
      | exact ih1 _ _ _ _ _ _ _ _ _ _ _ _
      | exact cornucopialaw5_alive.mono _
      | exact ikey_Compare.mono _ _ _ _ _ _ _ _ _
      | exact LeO.none _
      | refine LeO.ite ?_ ?_
      | refine LeO.bind ?_ (fun _ => ?_)
def cornucopialaw5_IkeyOrder.T3 : Bool × List (List Nat × List Nat) := (true, [([], []), ([], []), ([0, 1], [0, 1]), ([], []), ([], []), ([3, 4, 2], [3, 4]), ([], []), ([], []), ([6, 7, 5], [6, 7]), ([2, 8, 0, 1, 2], [2]), ([5, 9, 0, 1, 2, 3, 4, 5, 9], [5]), ([8, 10, 0, 1, 2, 3, 4, 5, 6, 7, 8, 9, 10], [8])])
def cornucopialaw5_IkeyOrder.B3 : List Nat := [0, 0, 3, 0, 0, 31, 0, 0, 255, 511, 1023, 2047]
theorem cornucopialaw5_IkeyOrder.tab3 : rtab .any (opsOf Try.f4 3) = cornucopialaw5_IkeyOrder.T3 := by kernel_rfl
theorem cornucopialaw5_IkeyOrder.bits3 : waitsOk cornucopialaw5_IkeyOrder.T3.2 cornucopialaw5_IkeyOrder.B3 = true := by kernel_rfl
set_option maxHeartbeats 8000000 in
set_option maxRecDepth 100000 in
theorem cornucopialaw5_IkeyOrder.calls (k : Nat) (a0_0 : ByteArray) (a0_1 : Int) (a0_2 : Int) (a0_3 : ByteArray) (a1_0 : ByteArray) (a1_1 : Int) (a1_2 : Int) (a1_3 : ByteArray) (a2_0 : ByteArray) (a2_1 : Int) (a2_2 : Int) (a2_3 : ByteArray) (r : Bool) (w : World) (h : cornucopialaw5_IkeyOrder.f k a0_0 a0_1 a0_2 a0_3 a1_0 a1_1 a1_2 a1_3 a2_0 a2_1 a2_2 a2_3 = some r) :
    Calls Try.prog 4 #[.agg #[.string a0_0, .int .u64 a0_1, .int .i64 a0_2, .string a0_3], .agg #[.string a1_0, .int .u64 a1_1, .int .i64 a1_2, .string a1_3], .agg #[.string a2_0, .int .u64 a2_1, .int .i64 a2_2, .string a2_3]] w fun e w' => e = .returned (.bool r) ∧ Below w.heap.size w w' := by
  have hu29 := Try.underlying29
  have HB := Aside0.mk (Below.refl w.heap.size w)
  have H : (if (a0_0.size : Int) > 300 then (cornucopialaw5_IkeyOrder.j0 k true a0_0 a0_1 a0_2 a0_3 a1_0 a1_1 a1_2 a1_3 a2_0 a2_1 a2_2 a2_3) else (if (a1_0.size : Int) > 300 then (cornucopialaw5_IkeyOrder.j0 k true a0_0 a0_1 a0_2 a0_3 a1_0 a1_1 a1_2 a1_3 a2_0 a2_1 a2_2 a2_3) else (cornucopialaw5_IkeyOrder.j0 k (decide ((a2_0.size : Int) > 300)) a0_0 a0_1 a0_2 a0_3 a1_0 a1_1 a1_2 a1_3 a2_0 a2_1 a2_2 a2_3))) = some r := h
  clear h
  have HC4 := Aside0.mk H
  clear H
  go_enter Try.func4, Try.ntmps4
  go_upto_region 1 with (first | ((with_reducible refine gate_dst (N := 3) rfl ?_); (try (refine gate_guard (by rfl) ?_; dsimp only)); refine box_event ?hg (N := 3) ?hd (cs := #[.string a0_0, .int .u64 a0_1, .int .i64 a0_2, .string a0_3]) (t := 29) ?hr ?_; (case hd => rfl); (case hg => rfl); (case hr => first | (go_simp; done) | (go_simp; rfl)); intro gb477 hg w5 hbox hb; have n0_ := Aside0.mk (below_step (by repeat (first | (with_reducible first | exact HB.out | apply below_alloc | apply pw_below_drewN | apply below_drew1) | exact HB.out)) hb); have n1_ := Aside0.mk (hbox); have n2_ := Aside0.mk ((by rw [hg]; exact (below_size (by repeat (first | (with_reducible first | exact HB.out | apply below_alloc | apply pw_below_drewN | apply below_drew1) | exact HB.out))) : w.heap.size ≤ gb477)); have n3_ := Aside0.mk ((by rw [hg]; exact (below_size (by repeat (first | (with_reducible first | exact HB.out | apply below_alloc | apply pw_below_drewN | apply below_drew1) | exact HB.out))) : w.heap.size ≤ gb477)); clear HB; have HB := n0_; have BK477 := n1_; have GW477 := n2_; have GE477 := n3_; clear n0_ n1_ n2_ n3_; clear hb hbox hg) | ((with_reducible refine gate_dst (N := 4) rfl ?_); (try (refine gate_guard (by rfl) ?_; dsimp only)); refine box_event ?hg (N := 4) ?hd (cs := #[.string a1_0, .int .u64 a1_1, .int .i64 a1_2, .string a1_3]) (t := 29) ?hr ?_; (case hd => rfl); (case hg => rfl); (case hr => first | (go_simp; done) | (go_simp; rfl)); intro gb478 hg w6 hbox hb; have n0_ := Aside0.mk (blk_below (g := gb477) (o := .cells #[.string a0_0, .int .u64 a0_1, .int .i64 a0_2, .string a0_3] 29 (0, 0)) (by (with_reducible repeat (first | refine blk_drewN ?_ _ | refine blk_drew ?_ | refine blk_alloc ?_ _)); exact BK477.out) hb); have n1_ := Aside0.mk (below_step (by repeat (first | (with_reducible first | exact HB.out | apply below_alloc | apply pw_below_drewN | apply below_drew1 | refine below_set ?_ GE477.out) | exact HB.out)) hb); have n2_ := Aside0.mk (hbox); have n3_ := Aside0.mk ((by rw [hg]; exact (below_size (by repeat (first | (with_reducible first | exact HB.out | apply below_alloc | apply pw_below_drewN | apply below_drew1 | refine below_set ?_ GE477.out) | exact HB.out))) : w.heap.size ≤ gb478)); have n4_ := Aside0.mk ((by rw [hg]; exact (below_size (by repeat (first | (with_reducible first | exact HB.out | apply below_alloc | apply pw_below_drewN | apply below_drew1 | refine below_set ?_ GE477.out) | exact HB.out))) : w.heap.size ≤ gb478)); have n5_ := Aside0.mk ((by rw [hg]; exact Nat.ne_of_lt (blk_lt (g := gb477) (o := .cells #[.string a0_0, .int .u64 a0_1, .int .i64 a0_2, .string a0_3] 29 (0, 0)) (by (with_reducible repeat (first | refine blk_drewN ?_ _ | refine blk_drew ?_ | refine blk_alloc ?_ _)); exact BK477.out)) : gb477 ≠ gb478)); have n6_ := Aside0.mk ((by rw [hg]; exact Nat.ne_of_gt (blk_lt (g := gb477) (o := .cells #[.string a0_0, .int .u64 a0_1, .int .i64 a0_2, .string a0_3] 29 (0, 0)) (by (with_reducible repeat (first | refine blk_drewN ?_ _ | refine blk_drew ?_ | refine blk_alloc ?_ _)); exact BK477.out)) : gb478 ≠ gb477)); clear BK477; clear HB; have BK477 := n0_; have HB := n1_; have BK478 := n2_; have GW478 := n3_; have GE478 := n4_; have NB477_478 := n5_; have NB478_477 := n6_; clear n0_ n1_ n2_ n3_ n4_ n5_ n6_; clear hb hbox hg) | ((with_reducible refine gate_dst (N := 5) rfl ?_); (try (refine gate_guard (by rfl) ?_; dsimp only)); refine box_event ?hg (N := 5) ?hd (cs := #[.string a2_0, .int .u64 a2_1, .int .i64 a2_2, .string a2_3]) (t := 29) ?hr ?_; (case hd => rfl); (case hg => rfl); (case hr => first | (go_simp; done) | (go_simp; rfl)); intro gb479 hg w7 hbox hb; have n0_ := Aside0.mk (blk_below (g := gb477) (o := .cells #[.string a0_0, .int .u64 a0_1, .int .i64 a0_2, .string a0_3] 29 (0, 0)) (by (with_reducible repeat (first | refine blk_drewN ?_ _ | refine blk_drew ?_ | refine blk_alloc ?_ _)); exact BK477.out) hb); have n1_ := Aside0.mk (blk_below (g := gb478) (o := .cells #[.string a1_0, .int .u64 a1_1, .int .i64 a1_2, .string a1_3] 29 (0, 0)) (by (with_reducible repeat (first | refine blk_drewN ?_ _ | refine blk_drew ?_ | refine blk_alloc ?_ _)); exact BK478.out) hb); have n2_ := Aside0.mk (below_step (by repeat (first | (with_reducible first | exact HB.out | apply below_alloc | apply pw_below_drewN | apply below_drew1 | refine below_set ?_ GE477.out | refine below_set ?_ GE478.out) | exact HB.out)) hb); have n3_ := Aside0.mk (hbox); have n4_ := Aside0.mk ((by rw [hg]; exact (below_size (by repeat (first | (with_reducible first | exact HB.out | apply below_alloc | apply pw_below_drewN | apply below_drew1 | refine below_set ?_ GE477.out | refine below_set ?_ GE478.out) | exact HB.out))) : w.heap.size ≤ gb479)); have n5_ := Aside0.mk ((by rw [hg]; exact (below_size (by repeat (first | (with_reducible first | exact HB.out | apply below_alloc | apply pw_below_drewN | apply below_drew1 | refine below_set ?_ GE477.out | refine below_set ?_ GE478.out) | exact HB.out))) : w.heap.size ≤ gb479)); have n6_ := Aside0.mk ((by rw [hg]; exact Nat.ne_of_lt (blk_lt (g := gb477) (o := .cells #[.string a0_0, .int .u64 a0_1, .int .i64 a0_2, .string a0_3] 29 (0, 0)) (by (with_reducible repeat (first | refine blk_drewN ?_ _ | refine blk_drew ?_ | refine blk_alloc ?_ _)); exact BK477.out)) : gb477 ≠ gb479)); have n7_ := Aside0.mk ((by rw [hg]; exact Nat.ne_of_gt (blk_lt (g := gb477) (o := .cells #[.string a0_0, .int .u64 a0_1, .int .i64 a0_2, .string a0_3] 29 (0, 0)) (by (with_reducible repeat (first | refine blk_drewN ?_ _ | refine blk_drew ?_ | refine blk_alloc ?_ _)); exact BK477.out)) : gb479 ≠ gb477)); have n8_ := Aside0.mk ((by rw [hg]; exact Nat.ne_of_lt (blk_lt (g := gb478) (o := .cells #[.string a1_0, .int .u64 a1_1, .int .i64 a1_2, .string a1_3] 29 (0, 0)) (by (with_reducible repeat (first | refine blk_drewN ?_ _ | refine blk_drew ?_ | refine blk_alloc ?_ _)); exact BK478.out)) : gb478 ≠ gb479)); have n9_ := Aside0.mk ((by rw [hg]; exact Nat.ne_of_gt (blk_lt (g := gb478) (o := .cells #[.string a1_0, .int .u64 a1_1, .int .i64 a1_2, .string a1_3] 29 (0, 0)) (by (with_reducible repeat (first | refine blk_drewN ?_ _ | refine blk_drew ?_ | refine blk_alloc ?_ _)); exact BK478.out)) : gb479 ≠ gb478)); clear BK477; clear BK478; clear HB; have BK477 := n0_; have BK478 := n1_; have HB := n2_; have BK479 := n3_; have GW479 := n4_; have GE479 := n5_; have NB477_479 := n6_; have NB479_477 := n7_; have NB478_479 := n8_; have NB479_478 := n9_; clear n0_ n1_ n2_ n3_ n4_ n5_ n6_ n7_ n8_ n9_; clear hb hbox hg))
  (try simp only [Act.put, List.setIfInBounds_toArray, List.set_cons_zero, List.set_cons_succ])
  go_cut [25] (fun v25 wc => ∃ (kq : Nat) (x25_3 : Bool), v25 = .bool x25_3 ∧ Aside0 (cornucopialaw5_IkeyOrder.j0 kq x25_3 a0_0 a0_1 a0_2 a0_3 a1_0 a1_1 a1_2 a1_3 a2_0 a2_1 a2_2 a2_3 = some r) ∧ Aside0 (kq ≤ k) ∧ Aside0 (wc.heap[gb477]? = some (.cells #[.string a0_0, .int .u64 a0_1, .int .i64 a0_2, .string a0_3] 29 (0, 0))) ∧ Aside0 (wc.heap[gb478]? = some (.cells #[.string a1_0, .int .u64 a1_1, .int .i64 a1_2, .string a1_3] 29 (0, 0))) ∧ Aside0 (wc.heap[gb479]? = some (.cells #[.string a2_0, .int .u64 a2_1, .int .i64 a2_2, .string a2_3] 29 (0, 0))) ∧ Aside0 (Below w.heap.size w wc))
  case first =>
    have H := HC4.out
    clear HC4
    by_cases c8 : (a0_0.size : Int) > 300
    · rw [if_pos c8] at H
      have c8b0 : decide (300 < (a0_0.size : Int)) = true := decide_eq_true c8
      have c8b1 : decide (300 < a0_0.size) = true := decide_eq_true (by omega)
      clear c8
      (first | rw [c8b0] | (simp only [i64_w, i32_w]; rw [c8b0]) | skip)
      have H' := Aside0.mk H
      clear H
      have hnb9 := NB477_478.out
      have hnc9 := NB478_477.out
      have hnb10 := NB477_479.out
      have hnc10 := NB479_477.out
      have hcz11_0 : w7.cell? ⟨gb477, 0, none⟩ = some (.string a0_0) := (blk_cell BK477.out 0).trans rfl
      have hcz11_1 : w7.cell? ⟨gb477, 1, none⟩ = some (.int .u64 a0_1) := (blk_cell BK477.out 1).trans rfl
      have hcz11_2 : w7.cell? ⟨gb477, 2, none⟩ = some (.int .i64 a0_2) := (blk_cell BK477.out 2).trans rfl
      have hcz11_3 : w7.cell? ⟨gb477, 3, none⟩ = some (.string a0_3) := (blk_cell BK477.out 3).trans rfl
      have hfz11_0 := blk_frozen BK477.out 0
      have hfz11_1 := blk_frozen BK477.out 1
      have hfz11_2 := blk_frozen BK477.out 2
      have hfz11_3 := blk_frozen BK477.out 3
      go_wp2
      go_meet
      case rel => exact ⟨_, (true), (by first | rfl | (simp; done) | (simp [*]; done)), H', ⟨by first | omega | exact Nat.le_refl _⟩, ⟨by (with_reducible repeat (first | refine blk_drewN ?_ _ | refine blk_drew ?_ | refine blk_alloc ?_ _)); exact BK477.out⟩, ⟨by (with_reducible repeat (first | refine blk_drewN ?_ _ | refine blk_drew ?_ | refine blk_alloc ?_ _)); exact BK478.out⟩, ⟨by (with_reducible repeat (first | refine blk_drewN ?_ _ | refine blk_drew ?_ | refine blk_alloc ?_ _)); exact BK479.out⟩, ⟨by repeat (first | (with_reducible first | exact HB.out | apply below_alloc | apply pw_below_drewN | apply below_drew1 | refine below_set ?_ GE477.out | refine below_set ?_ GE478.out | refine below_set ?_ GE479.out) | exact HB.out)⟩⟩
    · rw [if_neg c8] at H
      have c8b0 : decide (300 < (a0_0.size : Int)) = false := decide_eq_false c8
      have c8b1 : decide (300 < a0_0.size) = false := decide_eq_false (by omega)
      clear c8
      (first | rw [c8b0] | (simp only [i64_w, i32_w]; rw [c8b0]) | skip)
      by_cases c12 : (a1_0.size : Int) > 300
      · rw [if_pos c12] at H
        have c12b0 : decide (300 < (a1_0.size : Int)) = true := decide_eq_true c12
        have c12b1 : decide (300 < a1_0.size) = true := decide_eq_true (by omega)
        clear c12
        have H' := Aside0.mk H
        clear H
        have hnb13 := NB477_478.out
        have hnc13 := NB478_477.out
        have hnb14 := NB477_479.out
        have hnc14 := NB479_477.out
        have hcz15_0 : w7.cell? ⟨gb477, 0, none⟩ = some (.string a0_0) := (blk_cell BK477.out 0).trans rfl
        have hcz15_1 : w7.cell? ⟨gb477, 1, none⟩ = some (.int .u64 a0_1) := (blk_cell BK477.out 1).trans rfl
        have hcz15_2 : w7.cell? ⟨gb477, 2, none⟩ = some (.int .i64 a0_2) := (blk_cell BK477.out 2).trans rfl
        have hcz15_3 : w7.cell? ⟨gb477, 3, none⟩ = some (.string a0_3) := (blk_cell BK477.out 3).trans rfl
        have hfz15_0 := blk_frozen BK477.out 0
        have hfz15_1 := blk_frozen BK477.out 1
        have hfz15_2 := blk_frozen BK477.out 2
        have hfz15_3 := blk_frozen BK477.out 3
        have hnb16 := NB478_479.out
        have hnc16 := NB479_478.out
        have hcz17_0 : w7.cell? ⟨gb478, 0, none⟩ = some (.string a1_0) := (blk_cell BK478.out 0).trans rfl
        have hcz17_1 : w7.cell? ⟨gb478, 1, none⟩ = some (.int .u64 a1_1) := (blk_cell BK478.out 1).trans rfl
        have hcz17_2 : w7.cell? ⟨gb478, 2, none⟩ = some (.int .i64 a1_2) := (blk_cell BK478.out 2).trans rfl
        have hcz17_3 : w7.cell? ⟨gb478, 3, none⟩ = some (.string a1_3) := (blk_cell BK478.out 3).trans rfl
        have hfz17_0 := blk_frozen BK478.out 0
        have hfz17_1 := blk_frozen BK478.out 1
        have hfz17_2 := blk_frozen BK478.out 2
        have hfz17_3 := blk_frozen BK478.out 3
        go_wp2
        go_meet
        case rel => exact ⟨_, (true), (by first | rfl | (simp; done) | (simp [*]; done)), H', ⟨by first | omega | exact Nat.le_refl _⟩, ⟨by (with_reducible repeat (first | refine blk_drewN ?_ _ | refine blk_drew ?_ | refine blk_alloc ?_ _)); exact BK477.out⟩, ⟨by (with_reducible repeat (first | refine blk_drewN ?_ _ | refine blk_drew ?_ | refine blk_alloc ?_ _)); exact BK478.out⟩, ⟨by (with_reducible repeat (first | refine blk_drewN ?_ _ | refine blk_drew ?_ | refine blk_alloc ?_ _)); exact BK479.out⟩, ⟨by repeat (first | (with_reducible first | exact HB.out | apply below_alloc | apply pw_below_drewN | apply below_drew1 | refine below_set ?_ GE477.out | refine below_set ?_ GE478.out | refine below_set ?_ GE479.out) | exact HB.out)⟩⟩
      · rw [if_neg c12] at H
        have c12b0 : decide (300 < (a1_0.size : Int)) = false := decide_eq_false c12
        have c12b1 : decide (300 < a1_0.size) = false := decide_eq_false (by omega)
        clear c12
        have H' := Aside0.mk H
        clear H
        have hnb18 := NB477_478.out
        have hnc18 := NB478_477.out
        have hnb19 := NB477_479.out
        have hnc19 := NB479_477.out
        have hcz20_0 : w7.cell? ⟨gb477, 0, none⟩ = some (.string a0_0) := (blk_cell BK477.out 0).trans rfl
        have hcz20_1 : w7.cell? ⟨gb477, 1, none⟩ = some (.int .u64 a0_1) := (blk_cell BK477.out 1).trans rfl
        have hcz20_2 : w7.cell? ⟨gb477, 2, none⟩ = some (.int .i64 a0_2) := (blk_cell BK477.out 2).trans rfl
        have hcz20_3 : w7.cell? ⟨gb477, 3, none⟩ = some (.string a0_3) := (blk_cell BK477.out 3).trans rfl
        have hfz20_0 := blk_frozen BK477.out 0
        have hfz20_1 := blk_frozen BK477.out 1
        have hfz20_2 := blk_frozen BK477.out 2
        have hfz20_3 := blk_frozen BK477.out 3
        have hnb21 := NB478_479.out
        have hnc21 := NB479_478.out
        have hcz22_0 : w7.cell? ⟨gb478, 0, none⟩ = some (.string a1_0) := (blk_cell BK478.out 0).trans rfl
        have hcz22_1 : w7.cell? ⟨gb478, 1, none⟩ = some (.int .u64 a1_1) := (blk_cell BK478.out 1).trans rfl
        have hcz22_2 : w7.cell? ⟨gb478, 2, none⟩ = some (.int .i64 a1_2) := (blk_cell BK478.out 2).trans rfl
        have hcz22_3 : w7.cell? ⟨gb478, 3, none⟩ = some (.string a1_3) := (blk_cell BK478.out 3).trans rfl
        have hfz22_0 := blk_frozen BK478.out 0
        have hfz22_1 := blk_frozen BK478.out 1
        have hfz22_2 := blk_frozen BK478.out 2
        have hfz22_3 := blk_frozen BK478.out 3
        have hcz23_0 : w7.cell? ⟨gb479, 0, none⟩ = some (.string a2_0) := (blk_cell BK479.out 0).trans rfl
        have hcz23_1 : w7.cell? ⟨gb479, 1, none⟩ = some (.int .u64 a2_1) := (blk_cell BK479.out 1).trans rfl
        have hcz23_2 : w7.cell? ⟨gb479, 2, none⟩ = some (.int .i64 a2_2) := (blk_cell BK479.out 2).trans rfl
        have hcz23_3 : w7.cell? ⟨gb479, 3, none⟩ = some (.string a2_3) := (blk_cell BK479.out 3).trans rfl
        have hfz23_0 := blk_frozen BK479.out 0
        have hfz23_1 := blk_frozen BK479.out 1
        have hfz23_2 := blk_frozen BK479.out 2
        have hfz23_3 := blk_frozen BK479.out 3
        go_wp2
        go_meet
        case rel => exact ⟨_, (decide ((a2_0.size : Int) > 300)), (by first | rfl | (simp; done) | (simp [*]; done)), H', ⟨by first | omega | exact Nat.le_refl _⟩, ⟨by (with_reducible repeat (first | refine blk_drewN ?_ _ | refine blk_drew ?_ | refine blk_alloc ?_ _)); exact BK477.out⟩, ⟨by (with_reducible repeat (first | refine blk_drewN ?_ _ | refine blk_drew ?_ | refine blk_alloc ?_ _)); exact BK478.out⟩, ⟨by (with_reducible repeat (first | refine blk_drewN ?_ _ | refine blk_drew ?_ | refine blk_alloc ?_ _)); exact BK479.out⟩, ⟨by repeat (first | (with_reducible first | exact HB.out | apply below_alloc | apply pw_below_drewN | apply below_drew1 | refine below_set ?_ GE477.out | refine below_set ?_ GE478.out | refine below_set ?_ GE479.out) | exact HB.out)⟩⟩
  case rest =>
    clear HC4
    try clear c1
    try clear c2
    try clear p2
    try clear c4
    try clear c8
    try clear c8b0
    try clear c8b1
    try clear c9
    try clear c10
    try clear c12
    try clear c12b0
    try clear c12b1
    try clear c13
    try clear c14
    try clear c16
    try clear c18
    try clear c19
    try clear c21
    try clear hcz11_0
    try clear hcz11_1
    try clear hcz11_2
    try clear hcz11_3
    try clear hcz15_0
    try clear hcz15_1
    try clear hcz15_2
    try clear hcz15_3
    try clear hcz17_0
    try clear hcz17_1
    try clear hcz17_2
    try clear hcz17_3
    try clear hcz20_0
    try clear hcz20_1
    try clear hcz20_2
    try clear hcz20_3
    try clear hcz22_0
    try clear hcz22_1
    try clear hcz22_2
    try clear hcz22_3
    try clear hcz23_0
    try clear hcz23_1
    try clear hcz23_2
    try clear hcz23_3
    try clear hfz11_0
    try clear hfz11_1
    try clear hfz11_2
    try clear hfz11_3
    try clear hfz15_0
    try clear hfz15_1
    try clear hfz15_2
    try clear hfz15_3
    try clear hfz17_0
    try clear hfz17_1
    try clear hfz17_2
    try clear hfz17_3
    try clear hfz20_0
    try clear hfz20_1
    try clear hfz20_2
    try clear hfz20_3
    try clear hfz22_0
    try clear hfz22_1
    try clear hfz22_2
    try clear hfz22_3
    try clear hfz23_0
    try clear hfz23_1
    try clear hfz23_2
    try clear hfz23_3
    obtain ⟨kq, x25_3, rfl, HA, HJ3, BK477, BK478, BK479, HB⟩ := hcut
    cases kq with
    | zero => exact absurd HA.out (by simp [cornucopialaw5_IkeyOrder.j0])
    | succ kj3 =>
      have H := HA.out
      clear HA
      simp only [cornucopialaw5_IkeyOrder.j0] at H
      by_cases c24 : x25_3 = true
      · subst c24
        have H1 : ((cornucopialaw5_alive.f kj3).bind fun t480 => (some t480)) = some r := by rw [if_pos rfl] at H; exact H
        clear H
        have H := H1
        clear H1
        replace H := Option.bind_eq_some_iff.mp H
        obtain ⟨t480, A250, H⟩ := H
        replace H : (some t480) = some r := H
        have A25 := Aside0.mk A250
        clear A250
        obtain rfl := Option.some.inj H
        go_wp2_with (first | ((with_reducible refine gate_callee (f := 15) rfl ?_); refine goesL_ (some 26) rfl rfl Try.func15 (by kernel_rfl) rfl #[] rfl (by (try simp only [List.map_toArray, List.map_cons, List.map_nil]); first | done | rfl | (simp only [List.length_drop, List.length_take]; rfl)) ?_; (with_reducible refine (cornucopialaw5_alive.calls kj3  t480 _ A25.out).mono ?_); rintro e w26 ⟨rfl, hb⟩; refine ⟨_, rfl, ?_⟩; have n0_ := Aside0.mk (blk_below (g := gb477) (o := .cells #[.string a0_0, .int .u64 a0_1, .int .i64 a0_2, .string a0_3] 29 (0, 0)) (by (with_reducible repeat (first | refine blk_drewN ?_ _ | refine blk_drew ?_ | refine blk_alloc ?_ _)); exact BK477.out) hb); have n1_ := Aside0.mk (blk_below (g := gb478) (o := .cells #[.string a1_0, .int .u64 a1_1, .int .i64 a1_2, .string a1_3] 29 (0, 0)) (by (with_reducible repeat (first | refine blk_drewN ?_ _ | refine blk_drew ?_ | refine blk_alloc ?_ _)); exact BK478.out) hb); have n2_ := Aside0.mk (blk_below (g := gb479) (o := .cells #[.string a2_0, .int .u64 a2_1, .int .i64 a2_2, .string a2_3] 29 (0, 0)) (by (with_reducible repeat (first | refine blk_drewN ?_ _ | refine blk_drew ?_ | refine blk_alloc ?_ _)); exact BK479.out) hb); have n3_ := Aside0.mk (below_step (by repeat (first | (with_reducible first | exact HB.out | apply below_alloc | apply pw_below_drewN | apply below_drew1 | refine below_set ?_ GE477.out | refine below_set ?_ GE478.out | refine below_set ?_ GE479.out) | exact HB.out)) hb); clear BK477; clear BK478; clear BK479; clear HB; have BK477 := n0_; have BK478 := n1_; have BK479 := n2_; have HB := n3_; clear n0_ n1_ n2_ n3_; (try clear hb); (try clear hb2); (try clear hk); (try clear hi)))
        go_ret
        exact ⟨by first | rfl | (simp [errW_none, errW_some] <;> rfl) | (simp [*, errW_none, errW_some] <;> rfl), by repeat (first | (with_reducible first | exact HB.out | apply below_alloc | apply pw_below_drewN | apply below_drew1 | refine below_set ?_ GE477.out | refine below_set ?_ GE478.out | refine below_set ?_ GE479.out) | exact HB.out)⟩
      · replace c24 := Bool.eq_false_iff.mpr c24
        subst c24
        have H1 : ((ikey_Compare.f kj3 a0_0 a0_1 a0_2 a0_3 a1_0 a1_1 a1_2 a1_3).bind fun t481 => ((ikey_Compare.f kj3 a1_0 a1_1 a1_2 a1_3 a2_0 a2_1 a2_2 a2_3).bind fun t482 => ((ikey_Compare.f kj3 a0_0 a0_1 a0_2 a0_3 a2_0 a2_1 a2_2 a2_3).bind fun t483 => ((ikey_Compare.f kj3 a1_0 a1_1 a1_2 a1_3 a0_0 a0_1 a0_2 a0_3).bind fun t484 => (if t481 = (wrap64 (-t484)) then ((ikey_Compare.f kj3 a0_0 a0_1 a0_2 a0_3 a0_0 a0_1 a0_2 a0_3).bind fun t485 => (if t485 = 0 then (if a0_0.toList = a1_0.toList then (cornucopialaw5_IkeyOrder.j1 kj3 t481 t482 t483 ((t481 == 0) != (a0_1 == a1_1)) a0_0 a0_1 a0_2 a0_3 a1_0 a1_1 a1_2 a1_3) else (cornucopialaw5_IkeyOrder.j1 kj3 t481 t482 t483 ((t481 == 0) != false) a0_0 a0_1 a0_2 a0_3 a1_0 a1_1 a1_2 a1_3)) else (cornucopialaw5_IkeyOrder.j1 kj3 t481 t482 t483 true a0_0 a0_1 a0_2 a0_3 a1_0 a1_1 a1_2 a1_3))) else (cornucopialaw5_IkeyOrder.j1 kj3 t481 t482 t483 true a0_0 a0_1 a0_2 a0_3 a1_0 a1_1 a1_2 a1_3)))))) = some r := by rw [if_neg (show ¬ (false = true) by decide)] at H; exact H
        clear H
        have H := H1
        clear H1
        replace H := Option.bind_eq_some_iff.mp H
        obtain ⟨t481, A270, H⟩ := H
        replace H : ((ikey_Compare.f kj3 a1_0 a1_1 a1_2 a1_3 a2_0 a2_1 a2_2 a2_3).bind fun t482 => ((ikey_Compare.f kj3 a0_0 a0_1 a0_2 a0_3 a2_0 a2_1 a2_2 a2_3).bind fun t483 => ((ikey_Compare.f kj3 a1_0 a1_1 a1_2 a1_3 a0_0 a0_1 a0_2 a0_3).bind fun t484 => (if t481 = (wrap64 (-t484)) then ((ikey_Compare.f kj3 a0_0 a0_1 a0_2 a0_3 a0_0 a0_1 a0_2 a0_3).bind fun t485 => (if t485 = 0 then (if a0_0.toList = a1_0.toList then (cornucopialaw5_IkeyOrder.j1 kj3 t481 t482 t483 ((t481 == 0) != (a0_1 == a1_1)) a0_0 a0_1 a0_2 a0_3 a1_0 a1_1 a1_2 a1_3) else (cornucopialaw5_IkeyOrder.j1 kj3 t481 t482 t483 ((t481 == 0) != false) a0_0 a0_1 a0_2 a0_3 a1_0 a1_1 a1_2 a1_3)) else (cornucopialaw5_IkeyOrder.j1 kj3 t481 t482 t483 true a0_0 a0_1 a0_2 a0_3 a1_0 a1_1 a1_2 a1_3))) else (cornucopialaw5_IkeyOrder.j1 kj3 t481 t482 t483 true a0_0 a0_1 a0_2 a0_3 a1_0 a1_1 a1_2 a1_3))))) = some r := H
        have A27 := Aside0.mk A270
        clear A270
        replace H := Option.bind_eq_some_iff.mp H
        obtain ⟨t482, A280, H⟩ := H
        replace H : ((ikey_Compare.f kj3 a0_0 a0_1 a0_2 a0_3 a2_0 a2_1 a2_2 a2_3).bind fun t483 => ((ikey_Compare.f kj3 a1_0 a1_1 a1_2 a1_3 a0_0 a0_1 a0_2 a0_3).bind fun t484 => (if t481 = (wrap64 (-t484)) then ((ikey_Compare.f kj3 a0_0 a0_1 a0_2 a0_3 a0_0 a0_1 a0_2 a0_3).bind fun t485 => (if t485 = 0 then (if a0_0.toList = a1_0.toList then (cornucopialaw5_IkeyOrder.j1 kj3 t481 t482 t483 ((t481 == 0) != (a0_1 == a1_1)) a0_0 a0_1 a0_2 a0_3 a1_0 a1_1 a1_2 a1_3) else (cornucopialaw5_IkeyOrder.j1 kj3 t481 t482 t483 ((t481 == 0) != false) a0_0 a0_1 a0_2 a0_3 a1_0 a1_1 a1_2 a1_3)) else (cornucopialaw5_IkeyOrder.j1 kj3 t481 t482 t483 true a0_0 a0_1 a0_2 a0_3 a1_0 a1_1 a1_2 a1_3))) else (cornucopialaw5_IkeyOrder.j1 kj3 t481 t482 t483 true a0_0 a0_1 a0_2 a0_3 a1_0 a1_1 a1_2 a1_3)))) = some r := H
        have A28 := Aside0.mk A280
        clear A280
        replace H := Option.bind_eq_some_iff.mp H
        obtain ⟨t483, A290, H⟩ := H
        replace H : ((ikey_Compare.f kj3 a1_0 a1_1 a1_2 a1_3 a0_0 a0_1 a0_2 a0_3).bind fun t484 => (if t481 = (wrap64 (-t484)) then ((ikey_Compare.f kj3 a0_0 a0_1 a0_2 a0_3 a0_0 a0_1 a0_2 a0_3).bind fun t485 => (if t485 = 0 then (if a0_0.toList = a1_0.toList then (cornucopialaw5_IkeyOrder.j1 kj3 t481 t482 t483 ((t481 == 0) != (a0_1 == a1_1)) a0_0 a0_1 a0_2 a0_3 a1_0 a1_1 a1_2 a1_3) else (cornucopialaw5_IkeyOrder.j1 kj3 t481 t482 t483 ((t481 == 0) != false) a0_0 a0_1 a0_2 a0_3 a1_0 a1_1 a1_2 a1_3)) else (cornucopialaw5_IkeyOrder.j1 kj3 t481 t482 t483 true a0_0 a0_1 a0_2 a0_3 a1_0 a1_1 a1_2 a1_3))) else (cornucopialaw5_IkeyOrder.j1 kj3 t481 t482 t483 true a0_0 a0_1 a0_2 a0_3 a1_0 a1_1 a1_2 a1_3))) = some r := H
        have A29 := Aside0.mk A290
        clear A290
        have HC30 := Aside0.mk H
        clear H
        try go_wp2
        have n0_ := Aside0.mk (blk_drew BK477.out)
        have n1_ := Aside0.mk (blk_drew BK478.out)
        have n2_ := Aside0.mk (blk_drew BK479.out)
        have n3_ := Aside0.mk (below_drew1 HB.out)
        clear BK477
        clear BK478
        clear BK479
        clear HB
        have BK477 := n0_
        have BK478 := n1_
        have BK479 := n2_
        have HB := n3_
        clear n0_ n1_ n2_ n3_
        refine start_ (n := 12) (S := fun w' => w'.cell? ⟨gb477, 0, none⟩ = some (.string a0_0) ∧ w'.cell? ⟨gb477, 1, none⟩ = some (.int .u64 a0_1) ∧ w'.cell? ⟨gb477, 2, none⟩ = some (.int .i64 a0_2) ∧ w'.cell? ⟨gb477, 3, none⟩ = some (.string a0_3) ∧ w'.cell? ⟨gb478, 0, none⟩ = some (.string a1_0) ∧ w'.cell? ⟨gb478, 1, none⟩ = some (.int .u64 a1_1) ∧ w'.cell? ⟨gb478, 2, none⟩ = some (.int .i64 a1_2) ∧ w'.cell? ⟨gb478, 3, none⟩ = some (.string a1_3) ∧ w'.cell? ⟨gb479, 0, none⟩ = some (.string a2_0) ∧ w'.cell? ⟨gb479, 1, none⟩ = some (.int .u64 a2_1) ∧ w'.cell? ⟨gb479, 2, none⟩ = some (.int .i64 a2_2) ∧ w'.cell? ⟨gb479, 3, none⟩ = some (.string a2_3)) (ds := []) #[false, false, false, false, false, false, false, false, false, false, false, false] (by kernel_rfl) rfl rfl ⟨(blk_cell BK477.out 0).trans rfl, (blk_cell BK477.out 1).trans rfl, (blk_cell BK477.out 2).trans rfl, (blk_cell BK477.out 3).trans rfl, (blk_cell BK478.out 0).trans rfl, (blk_cell BK478.out 1).trans rfl, (blk_cell BK478.out 2).trans rfl, (blk_cell BK478.out 3).trans rfl, (blk_cell BK479.out 0).trans rfl, (blk_cell BK479.out 1).trans rfl, (blk_cell BK479.out 2).trans rfl, (blk_cell BK479.out 3).trans rfl⟩ (fun hHeld => ?_); refine with_tabW cornucopialaw5_IkeyOrder.tab3 cornucopialaw5_IkeyOrder.bits3 (fun HT_ HW_ => ?_)
        generalize wc.drew = w31 at BK477 BK478 BK479 HB hHeld ⊢
        refine take_ (i := 0) (N := some 27) (v := ?_) (a' := ?_) #[true, false, false, false, false, false, false, false, false, false, false, false] rfl rfl (take_ofW HT_.out HW_.out (by kernel_rfl)) (fun _ _ _ h => h) (Or.inl ⟨by rfl, ?_⟩) hHeld ?_ ?_
        rotate_left
        · rintro w' ⟨s0, s1, s2, s3, s4, s5, s6, s7, s8, s9, s10, s11⟩
          go_simp
          with_reducible rfl
        rotate_left
        · simp only [Act.put, List.setIfInBounds_toArray, List.set_cons_zero, List.set_cons_succ, i64_w, i32_w]
          rfl
        refine take_ (i := 1) (N := some 28) (v := ?_) (a' := ?_) #[true, true, false, false, false, false, false, false, false, false, false, false] rfl rfl (take_ofW HT_.out HW_.out (by kernel_rfl)) (fun _ _ _ h => h) (Or.inl ⟨by rfl, ?_⟩) hHeld ?_ ?_
        rotate_left
        · rintro w' ⟨s0, s1, s2, s3, s4, s5, s6, s7, s8, s9, s10, s11⟩
          go_simp
          with_reducible rfl
        rotate_left
        · simp only [Act.put, List.setIfInBounds_toArray, List.set_cons_zero, List.set_cons_succ, i64_w, i32_w]
          rfl
        refine take_ (i := 3) (N := some 30) (v := ?_) (a' := ?_) #[true, true, false, true, false, false, false, false, false, false, false, false] rfl rfl (take_ofW HT_.out HW_.out (by kernel_rfl)) (fun _ _ _ h => h) (Or.inl ⟨by rfl, ?_⟩) hHeld ?_ ?_
        rotate_left
        · rintro w' ⟨s0, s1, s2, s3, s4, s5, s6, s7, s8, s9, s10, s11⟩
          go_simp
          with_reducible rfl
        rotate_left
        · simp only [Act.put, List.setIfInBounds_toArray, List.set_cons_zero, List.set_cons_succ, i64_w, i32_w]
          rfl
        refine take_ (i := 4) (N := some 31) (v := ?_) (a' := ?_) #[true, true, false, true, true, false, false, false, false, false, false, false] rfl rfl (take_ofW HT_.out HW_.out (by kernel_rfl)) (fun _ _ _ h => h) (Or.inl ⟨by rfl, ?_⟩) hHeld ?_ ?_
        rotate_left
        · rintro w' ⟨s0, s1, s2, s3, s4, s5, s6, s7, s8, s9, s10, s11⟩
          go_simp
          with_reducible rfl
        rotate_left
        · simp only [Act.put, List.setIfInBounds_toArray, List.set_cons_zero, List.set_cons_succ, i64_w, i32_w]
          rfl
        refine take_ (i := 6) (N := some 33) (v := ?_) (a' := ?_) #[true, true, false, true, true, false, true, false, false, false, false, false] rfl rfl (take_ofW HT_.out HW_.out (by kernel_rfl)) (fun _ _ _ h => h) (Or.inl ⟨by rfl, ?_⟩) hHeld ?_ ?_
        rotate_left
        · rintro w' ⟨s0, s1, s2, s3, s4, s5, s6, s7, s8, s9, s10, s11⟩
          go_simp
          with_reducible rfl
        rotate_left
        · simp only [Act.put, List.setIfInBounds_toArray, List.set_cons_zero, List.set_cons_succ, i64_w, i32_w]
          rfl
        refine take_ (i := 7) (N := some 34) (v := ?_) (a' := ?_) #[true, true, false, true, true, false, true, true, false, false, false, false] rfl rfl (take_ofW HT_.out HW_.out (by kernel_rfl)) (fun _ _ _ h => h) (Or.inl ⟨by rfl, ?_⟩) hHeld ?_ ?_
        rotate_left
        · rintro w' ⟨s0, s1, s2, s3, s4, s5, s6, s7, s8, s9, s10, s11⟩
          go_simp
          with_reducible rfl
        rotate_left
        · simp only [Act.put, List.setIfInBounds_toArray, List.set_cons_zero, List.set_cons_succ, i64_w, i32_w]
          rfl
        refine one_ (i := 2) (N := some 29) #[true, true, true, true, true, false, true, true, false, false, false, false] rfl rfl (one_of HT_.out (by kernel_rfl)) (by decide) (fun K hK => ?_)
        refine goes_ Try.func18 (by kernel_rfl) rfl #[.agg #[.string a0_0, .int .u64 a0_1, .int .i64 a0_2, .string a0_3], .agg #[.string a1_0, .int .u64 a1_1, .int .i64 a1_2, .string a1_3]] (by rfl) rfl rfl (by (try simp only [List.map_toArray, List.map_cons, List.map_nil]); first | done | rfl | (simp only [List.length_drop, List.length_take]; rfl)) ?_
        with_reducible refine (ikey_Compare.calls kj3 a0_0 a0_1 a0_2 a0_3 a1_0 a1_1 a1_2 a1_3 t481 _ A27.out).mono ?_
        rintro e w32 ⟨rfl, hb⟩
        refine ⟨_, rfl, ?_⟩
        have n0_ := Aside0.mk (blk_below (g := gb477) (o := .cells #[.string a0_0, .int .u64 a0_1, .int .i64 a0_2, .string a0_3] 29 (0, 0)) (by (with_reducible repeat (first | refine blk_drewN ?_ _ | refine blk_drew ?_ | refine blk_alloc ?_ _)); exact BK477.out) hb)
        have n1_ := Aside0.mk (blk_below (g := gb478) (o := .cells #[.string a1_0, .int .u64 a1_1, .int .i64 a1_2, .string a1_3] 29 (0, 0)) (by (with_reducible repeat (first | refine blk_drewN ?_ _ | refine blk_drew ?_ | refine blk_alloc ?_ _)); exact BK478.out) hb)
        have n2_ := Aside0.mk (blk_below (g := gb479) (o := .cells #[.string a2_0, .int .u64 a2_1, .int .i64 a2_2, .string a2_3] 29 (0, 0)) (by (with_reducible repeat (first | refine blk_drewN ?_ _ | refine blk_drew ?_ | refine blk_alloc ?_ _)); exact BK479.out) hb)
        have n3_ := Aside0.mk (below_step (by repeat (first | (with_reducible first | exact HB.out | apply below_alloc | apply pw_below_drewN | apply below_drew1 | refine below_set ?_ GE477.out | refine below_set ?_ GE478.out | refine below_set ?_ GE479.out) | exact HB.out)) hb)
        clear BK477
        clear BK478
        clear BK479
        clear HB
        have BK477 := n0_
        have BK478 := n1_
        have BK479 := n2_
        have HB := n3_
        clear n0_ n1_ n2_ n3_
        (try clear hb)
        (try clear hb2)
        (try clear hk)
        (try clear hi)
        refine hK.out _ _ ⟨(blk_cell BK477.out 0).trans rfl, (blk_cell BK477.out 1).trans rfl, (blk_cell BK477.out 2).trans rfl, (blk_cell BK477.out 3).trans rfl, (blk_cell BK478.out 0).trans rfl, (blk_cell BK478.out 1).trans rfl, (blk_cell BK478.out 2).trans rfl, (blk_cell BK478.out 3).trans rfl, (blk_cell BK479.out 0).trans rfl, (blk_cell BK479.out 1).trans rfl, (blk_cell BK479.out 2).trans rfl, (blk_cell BK479.out 3).trans rfl⟩ (fun hHeld => ?_)
        clear hK K
        refine norm_ (a' := ?_) ?_ ?_
        rotate_left
        · show Act.put _ (some 29) _ = _
          simp only [Act.put, List.setIfInBounds_toArray, List.set_cons_zero, List.set_cons_succ, i64_w, i32_w]
          rfl
        refine one_ (i := 5) (N := some 32) #[true, true, true, true, true, true, true, true, false, false, false, false] rfl rfl (one_of HT_.out (by kernel_rfl)) (by decide) (fun K hK => ?_)
        refine goes_ Try.func18 (by kernel_rfl) rfl #[.agg #[.string a1_0, .int .u64 a1_1, .int .i64 a1_2, .string a1_3], .agg #[.string a2_0, .int .u64 a2_1, .int .i64 a2_2, .string a2_3]] (by rfl) rfl rfl (by (try simp only [List.map_toArray, List.map_cons, List.map_nil]); first | done | rfl | (simp only [List.length_drop, List.length_take]; rfl)) ?_
        with_reducible refine (ikey_Compare.calls kj3 a1_0 a1_1 a1_2 a1_3 a2_0 a2_1 a2_2 a2_3 t482 _ A28.out).mono ?_
        rintro e w33 ⟨rfl, hb⟩
        refine ⟨_, rfl, ?_⟩
        have n0_ := Aside0.mk (blk_below (g := gb477) (o := .cells #[.string a0_0, .int .u64 a0_1, .int .i64 a0_2, .string a0_3] 29 (0, 0)) (by (with_reducible repeat (first | refine blk_drewN ?_ _ | refine blk_drew ?_ | refine blk_alloc ?_ _)); exact BK477.out) hb)
        have n1_ := Aside0.mk (blk_below (g := gb478) (o := .cells #[.string a1_0, .int .u64 a1_1, .int .i64 a1_2, .string a1_3] 29 (0, 0)) (by (with_reducible repeat (first | refine blk_drewN ?_ _ | refine blk_drew ?_ | refine blk_alloc ?_ _)); exact BK478.out) hb)
        have n2_ := Aside0.mk (blk_below (g := gb479) (o := .cells #[.string a2_0, .int .u64 a2_1, .int .i64 a2_2, .string a2_3] 29 (0, 0)) (by (with_reducible repeat (first | refine blk_drewN ?_ _ | refine blk_drew ?_ | refine blk_alloc ?_ _)); exact BK479.out) hb)
        have n3_ := Aside0.mk (below_step (by repeat (first | (with_reducible first | exact HB.out | apply below_alloc | apply pw_below_drewN | apply below_drew1 | refine below_set ?_ GE477.out | refine below_set ?_ GE478.out | refine below_set ?_ GE479.out) | exact HB.out)) hb)
        clear BK477
        clear BK478
        clear BK479
        clear HB
        have BK477 := n0_
        have BK478 := n1_
        have BK479 := n2_
        have HB := n3_
        clear n0_ n1_ n2_ n3_
        (try clear hb)
        (try clear hb2)
        (try clear hk)
        (try clear hi)
        refine hK.out _ _ ⟨(blk_cell BK477.out 0).trans rfl, (blk_cell BK477.out 1).trans rfl, (blk_cell BK477.out 2).trans rfl, (blk_cell BK477.out 3).trans rfl, (blk_cell BK478.out 0).trans rfl, (blk_cell BK478.out 1).trans rfl, (blk_cell BK478.out 2).trans rfl, (blk_cell BK478.out 3).trans rfl, (blk_cell BK479.out 0).trans rfl, (blk_cell BK479.out 1).trans rfl, (blk_cell BK479.out 2).trans rfl, (blk_cell BK479.out 3).trans rfl⟩ (fun hHeld => ?_)
        clear hK K
        refine norm_ (a' := ?_) ?_ ?_
        rotate_left
        · show Act.put _ (some 32) _ = _
          simp only [Act.put, List.setIfInBounds_toArray, List.set_cons_zero, List.set_cons_succ, i64_w, i32_w]
          rfl
        refine one_ (i := 8) (N := some 35) #[true, true, true, true, true, true, true, true, true, false, false, false] rfl rfl (one_of HT_.out (by kernel_rfl)) (by decide) (fun K hK => ?_)
        refine goes_ Try.func18 (by kernel_rfl) rfl #[.agg #[.string a0_0, .int .u64 a0_1, .int .i64 a0_2, .string a0_3], .agg #[.string a2_0, .int .u64 a2_1, .int .i64 a2_2, .string a2_3]] (by rfl) rfl rfl (by (try simp only [List.map_toArray, List.map_cons, List.map_nil]); first | done | rfl | (simp only [List.length_drop, List.length_take]; rfl)) ?_
        with_reducible refine (ikey_Compare.calls kj3 a0_0 a0_1 a0_2 a0_3 a2_0 a2_1 a2_2 a2_3 t483 _ A29.out).mono ?_
        rintro e w34 ⟨rfl, hb⟩
        refine ⟨_, rfl, ?_⟩
        have n0_ := Aside0.mk (blk_below (g := gb477) (o := .cells #[.string a0_0, .int .u64 a0_1, .int .i64 a0_2, .string a0_3] 29 (0, 0)) (by (with_reducible repeat (first | refine blk_drewN ?_ _ | refine blk_drew ?_ | refine blk_alloc ?_ _)); exact BK477.out) hb)
        have n1_ := Aside0.mk (blk_below (g := gb478) (o := .cells #[.string a1_0, .int .u64 a1_1, .int .i64 a1_2, .string a1_3] 29 (0, 0)) (by (with_reducible repeat (first | refine blk_drewN ?_ _ | refine blk_drew ?_ | refine blk_alloc ?_ _)); exact BK478.out) hb)
        have n2_ := Aside0.mk (blk_below (g := gb479) (o := .cells #[.string a2_0, .int .u64 a2_1, .int .i64 a2_2, .string a2_3] 29 (0, 0)) (by (with_reducible repeat (first | refine blk_drewN ?_ _ | refine blk_drew ?_ | refine blk_alloc ?_ _)); exact BK479.out) hb)
        have n3_ := Aside0.mk (below_step (by repeat (first | (with_reducible first | exact HB.out | apply below_alloc | apply pw_below_drewN | apply below_drew1 | refine below_set ?_ GE477.out | refine below_set ?_ GE478.out | refine below_set ?_ GE479.out) | exact HB.out)) hb)
        clear BK477
        clear BK478
        clear BK479
        clear HB
        have BK477 := n0_
        have BK478 := n1_
        have BK479 := n2_
        have HB := n3_
        clear n0_ n1_ n2_ n3_
        (try clear hb)
        (try clear hb2)
        (try clear hk)
        (try clear hi)
        refine hK.out _ _ ⟨(blk_cell BK477.out 0).trans rfl, (blk_cell BK477.out 1).trans rfl, (blk_cell BK477.out 2).trans rfl, (blk_cell BK477.out 3).trans rfl, (blk_cell BK478.out 0).trans rfl, (blk_cell BK478.out 1).trans rfl, (blk_cell BK478.out 2).trans rfl, (blk_cell BK478.out 3).trans rfl, (blk_cell BK479.out 0).trans rfl, (blk_cell BK479.out 1).trans rfl, (blk_cell BK479.out 2).trans rfl, (blk_cell BK479.out 3).trans rfl⟩ (fun hHeld => ?_)
        clear hK K
        refine norm_ (a' := ?_) ?_ ?_
        rotate_left
        · show Act.put _ (some 35) _ = _
          simp only [Act.put, List.setIfInBounds_toArray, List.set_cons_zero, List.set_cons_succ, i64_w, i32_w]
          rfl
        refine pure_ (i := 9) (N := some 7) (v := ?_) (a' := ?_) #[true, true, true, true, true, true, true, true, true, true, false, false] rfl rfl (any_of HT_.out (by kernel_rfl)) (fun _ _ _ h => h) (Or.inl ⟨by rfl, ?_⟩) ?_ ?_
        rotate_left
        · intro w'
          go_simp
          with_reducible rfl
        rotate_left
        · simp only [Act.put, List.setIfInBounds_toArray, List.set_cons_zero, List.set_cons_succ, i64_w, i32_w]
          rfl
        refine pure_ (i := 10) (N := some 8) (v := ?_) (a' := ?_) #[true, true, true, true, true, true, true, true, true, true, true, false] rfl rfl (any_of HT_.out (by kernel_rfl)) (fun _ _ _ h => h) (Or.inl ⟨by rfl, ?_⟩) ?_ ?_
        rotate_left
        · intro w'
          go_simp
          with_reducible rfl
        rotate_left
        · simp only [Act.put, List.setIfInBounds_toArray, List.set_cons_zero, List.set_cons_succ, i64_w, i32_w]
          rfl
        refine pure_ (i := 11) (N := some 9) (v := ?_) (a' := ?_) #[true, true, true, true, true, true, true, true, true, true, true, true] rfl rfl (any_of HT_.out (by kernel_rfl)) (fun _ _ _ h => h) (Or.inl ⟨by rfl, ?_⟩) ?_ ?_
        rotate_left
        · intro w'
          go_simp
          with_reducible rfl
        rotate_left
        · simp only [Act.put, List.setIfInBounds_toArray, List.set_cons_zero, List.set_cons_succ, i64_w, i32_w]
          rfl
        refine done_ (done_of HT_.out (by kernel_rfl)) ?_
        go_upto_region 4 with (fail)
        go_cut [64] (fun v64 wc => ∃ (kq : Nat) (x64_29 : Bool), v64 = .bool x64_29 ∧ Aside0 (cornucopialaw5_IkeyOrder.j1 kq t481 t482 t483 x64_29 a0_0 a0_1 a0_2 a0_3 a1_0 a1_1 a1_2 a1_3 = some r) ∧ Aside0 (kq ≤ kj3) ∧ Aside0 (wc.heap[gb477]? = some (.cells #[.string a0_0, .int .u64 a0_1, .int .i64 a0_2, .string a0_3] 29 (0, 0))) ∧ Aside0 (wc.heap[gb478]? = some (.cells #[.string a1_0, .int .u64 a1_1, .int .i64 a1_2, .string a1_3] 29 (0, 0))) ∧ Aside0 (wc.heap[gb479]? = some (.cells #[.string a2_0, .int .u64 a2_1, .int .i64 a2_2, .string a2_3] 29 (0, 0))) ∧ Aside0 (Below w.heap.size w wc))
        case first =>
          have H := HC30.out
          clear HC30
          replace H := Option.bind_eq_some_iff.mp H
          obtain ⟨t484, A350, H⟩ := H
          replace H : (if t481 = (wrap64 (-t484)) then ((ikey_Compare.f kj3 a0_0 a0_1 a0_2 a0_3 a0_0 a0_1 a0_2 a0_3).bind fun t485 => (if t485 = 0 then (if a0_0.toList = a1_0.toList then (cornucopialaw5_IkeyOrder.j1 kj3 t481 t482 t483 ((t481 == 0) != (a0_1 == a1_1)) a0_0 a0_1 a0_2 a0_3 a1_0 a1_1 a1_2 a1_3) else (cornucopialaw5_IkeyOrder.j1 kj3 t481 t482 t483 ((t481 == 0) != false) a0_0 a0_1 a0_2 a0_3 a1_0 a1_1 a1_2 a1_3)) else (cornucopialaw5_IkeyOrder.j1 kj3 t481 t482 t483 true a0_0 a0_1 a0_2 a0_3 a1_0 a1_1 a1_2 a1_3))) else (cornucopialaw5_IkeyOrder.j1 kj3 t481 t482 t483 true a0_0 a0_1 a0_2 a0_3 a1_0 a1_1 a1_2 a1_3)) = some r := H
          have A35 := Aside0.mk A350
          clear A350
          by_cases c36 : t481 = (wrap64 (-t484))
          · rw [if_pos c36] at H
            have c36b0 : (t481 == (wrap64 (-t484))) = true := beq_iff_eq.mpr c36
            have c36b1 : (t481 != (wrap64 (-t484))) = false := bne_eq_false_iff_eq.mpr c36
            clear c36
            (first | rw [c36b0] | (simp only [i64_w, i32_w]; rw [c36b0]) | skip)
            replace H := Option.bind_eq_some_iff.mp H
            obtain ⟨t485, A370, H⟩ := H
            replace H : (if t485 = 0 then (if a0_0.toList = a1_0.toList then (cornucopialaw5_IkeyOrder.j1 kj3 t481 t482 t483 ((t481 == 0) != (a0_1 == a1_1)) a0_0 a0_1 a0_2 a0_3 a1_0 a1_1 a1_2 a1_3) else (cornucopialaw5_IkeyOrder.j1 kj3 t481 t482 t483 ((t481 == 0) != false) a0_0 a0_1 a0_2 a0_3 a1_0 a1_1 a1_2 a1_3)) else (cornucopialaw5_IkeyOrder.j1 kj3 t481 t482 t483 true a0_0 a0_1 a0_2 a0_3 a1_0 a1_1 a1_2 a1_3)) = some r := H
            have A37 := Aside0.mk A370
            clear A370
            by_cases c38 : t485 = 0
            · rw [if_pos c38] at H
              have c38b0 : (t485 == 0) = true := beq_iff_eq.mpr c38
              have c38b1 : (t485 != 0) = false := bne_eq_false_iff_eq.mpr c38
              clear c38
              by_cases c39 : a0_0.toList = a1_0.toList
              · rw [if_pos c39] at H
                have c39b0 : (a0_0.toList == a1_0.toList) = true := beq_iff_eq.mpr c39
                have c39b1 : (a0_0.toList != a1_0.toList) = false := bne_eq_false_iff_eq.mpr c39
                clear c39
                have H' := Aside0.mk H
                clear H
                have hnb40 := NB478_477.out
                have hnc40 := NB477_478.out
                have hnb41 := NB478_479.out
                have hnc41 := NB479_478.out
                have hcz42_0 : w34.cell? ⟨gb478, 0, none⟩ = some (.string a1_0) := (blk_cell BK478.out 0).trans rfl
                have hcz42_1 : w34.cell? ⟨gb478, 1, none⟩ = some (.int .u64 a1_1) := (blk_cell BK478.out 1).trans rfl
                have hcz42_2 : w34.cell? ⟨gb478, 2, none⟩ = some (.int .i64 a1_2) := (blk_cell BK478.out 2).trans rfl
                have hcz42_3 : w34.cell? ⟨gb478, 3, none⟩ = some (.string a1_3) := (blk_cell BK478.out 3).trans rfl
                have hfz42_0 := blk_frozen BK478.out 0
                have hfz42_1 := blk_frozen BK478.out 1
                have hfz42_2 := blk_frozen BK478.out 2
                have hfz42_3 := blk_frozen BK478.out 3
                have hnb43 := NB477_479.out
                have hnc43 := NB479_477.out
                have hcz44_0 : w34.cell? ⟨gb477, 0, none⟩ = some (.string a0_0) := (blk_cell BK477.out 0).trans rfl
                have hcz44_1 : w34.cell? ⟨gb477, 1, none⟩ = some (.int .u64 a0_1) := (blk_cell BK477.out 1).trans rfl
                have hcz44_2 : w34.cell? ⟨gb477, 2, none⟩ = some (.int .i64 a0_2) := (blk_cell BK477.out 2).trans rfl
                have hcz44_3 : w34.cell? ⟨gb477, 3, none⟩ = some (.string a0_3) := (blk_cell BK477.out 3).trans rfl
                have hfz44_0 := blk_frozen BK477.out 0
                have hfz44_1 := blk_frozen BK477.out 1
                have hfz44_2 := blk_frozen BK477.out 2
                have hfz44_3 := blk_frozen BK477.out 3
                go_wp2_with (first | ((with_reducible refine gate_callee (f := 18) rfl ?_); refine goesL_ (some 39) rfl rfl Try.func18 (by kernel_rfl) rfl #[.agg #[.string a1_0, .int .u64 a1_1, .int .i64 a1_2, .string a1_3], .agg #[.string a0_0, .int .u64 a0_1, .int .i64 a0_2, .string a0_3]] rfl (by (try simp only [List.map_toArray, List.map_cons, List.map_nil]); first | done | rfl | (simp only [List.length_drop, List.length_take]; rfl)) ?_; (with_reducible refine (ikey_Compare.calls kj3 a1_0 a1_1 a1_2 a1_3 a0_0 a0_1 a0_2 a0_3 t484 _ A35.out).mono ?_); rintro e w45 ⟨rfl, hb⟩; refine ⟨_, rfl, ?_⟩; have n0_ := Aside0.mk (blk_below (g := gb477) (o := .cells #[.string a0_0, .int .u64 a0_1, .int .i64 a0_2, .string a0_3] 29 (0, 0)) (by (with_reducible repeat (first | refine blk_drewN ?_ _ | refine blk_drew ?_ | refine blk_alloc ?_ _)); exact BK477.out) hb); have n1_ := Aside0.mk (blk_below (g := gb478) (o := .cells #[.string a1_0, .int .u64 a1_1, .int .i64 a1_2, .string a1_3] 29 (0, 0)) (by (with_reducible repeat (first | refine blk_drewN ?_ _ | refine blk_drew ?_ | refine blk_alloc ?_ _)); exact BK478.out) hb); have n2_ := Aside0.mk (blk_below (g := gb479) (o := .cells #[.string a2_0, .int .u64 a2_1, .int .i64 a2_2, .string a2_3] 29 (0, 0)) (by (with_reducible repeat (first | refine blk_drewN ?_ _ | refine blk_drew ?_ | refine blk_alloc ?_ _)); exact BK479.out) hb); have n3_ := Aside0.mk (below_step (by repeat (first | (with_reducible first | exact HB.out | apply below_alloc | apply pw_below_drewN | apply below_drew1 | refine below_set ?_ GE477.out | refine below_set ?_ GE478.out | refine below_set ?_ GE479.out) | exact HB.out)) hb); clear BK477; clear BK478; clear BK479; clear HB; have BK477 := n0_; have BK478 := n1_; have BK479 := n2_; have HB := n3_; clear n0_ n1_ n2_ n3_; (try clear hb); (try clear hb2); (try clear hk); (try clear hi); have hcz46_0 : w45.cell? ⟨gb477, 0, none⟩ = some (.string a0_0) := (blk_cell BK477.out 0).trans rfl; have hcz46_1 : w45.cell? ⟨gb477, 1, none⟩ = some (.int .u64 a0_1) := (blk_cell BK477.out 1).trans rfl; have hcz46_2 : w45.cell? ⟨gb477, 2, none⟩ = some (.int .i64 a0_2) := (blk_cell BK477.out 2).trans rfl; have hcz46_3 : w45.cell? ⟨gb477, 3, none⟩ = some (.string a0_3) := (blk_cell BK477.out 3).trans rfl; have hfz46_0 := blk_frozen BK477.out 0; have hfz46_1 := blk_frozen BK477.out 1; have hfz46_2 := blk_frozen BK477.out 2; have hfz46_3 := blk_frozen BK477.out 3) | (go_at_call 18; (with_reducible refine (ikey_Compare.calls kj3 a0_0 a0_1 a0_2 a0_3 a0_0 a0_1 a0_2 a0_3 t485 _ A37.out).mono ?_); rintro e w47 ⟨rfl, hb⟩; have n0_ := Aside0.mk (blk_below (g := gb477) (o := .cells #[.string a0_0, .int .u64 a0_1, .int .i64 a0_2, .string a0_3] 29 (0, 0)) (by (with_reducible repeat (first | refine blk_drewN ?_ _ | refine blk_drew ?_ | refine blk_alloc ?_ _)); exact BK477.out) hb); have n1_ := Aside0.mk (blk_below (g := gb478) (o := .cells #[.string a1_0, .int .u64 a1_1, .int .i64 a1_2, .string a1_3] 29 (0, 0)) (by (with_reducible repeat (first | refine blk_drewN ?_ _ | refine blk_drew ?_ | refine blk_alloc ?_ _)); exact BK478.out) hb); have n2_ := Aside0.mk (blk_below (g := gb479) (o := .cells #[.string a2_0, .int .u64 a2_1, .int .i64 a2_2, .string a2_3] 29 (0, 0)) (by (with_reducible repeat (first | refine blk_drewN ?_ _ | refine blk_drew ?_ | refine blk_alloc ?_ _)); exact BK479.out) hb); have n3_ := Aside0.mk (below_step (by repeat (first | (with_reducible first | exact HB.out | apply below_alloc | apply pw_below_drewN | apply below_drew1 | refine below_set ?_ GE477.out | refine below_set ?_ GE478.out | refine below_set ?_ GE479.out) | exact HB.out)) hb); clear BK477; clear BK478; clear BK479; clear HB; have BK477 := n0_; have BK478 := n1_; have BK479 := n2_; have HB := n3_; clear n0_ n1_ n2_ n3_; (try clear hb); (try clear hb2); (try clear hk); (try clear hi); have hcz48_0 : w47.cell? ⟨gb477, 0, none⟩ = some (.string a0_0) := (blk_cell BK477.out 0).trans rfl; have hcz48_1 : w47.cell? ⟨gb477, 1, none⟩ = some (.int .u64 a0_1) := (blk_cell BK477.out 1).trans rfl; have hcz48_2 : w47.cell? ⟨gb477, 2, none⟩ = some (.int .i64 a0_2) := (blk_cell BK477.out 2).trans rfl; have hcz48_3 : w47.cell? ⟨gb477, 3, none⟩ = some (.string a0_3) := (blk_cell BK477.out 3).trans rfl; have hfz48_0 := blk_frozen BK477.out 0; have hfz48_1 := blk_frozen BK477.out 1; have hfz48_2 := blk_frozen BK477.out 2; have hfz48_3 := blk_frozen BK477.out 3; have hcz49_0 : w47.cell? ⟨gb478, 0, none⟩ = some (.string a1_0) := (blk_cell BK478.out 0).trans rfl; have hcz49_1 : w47.cell? ⟨gb478, 1, none⟩ = some (.int .u64 a1_1) := (blk_cell BK478.out 1).trans rfl; have hcz49_2 : w47.cell? ⟨gb478, 2, none⟩ = some (.int .i64 a1_2) := (blk_cell BK478.out 2).trans rfl; have hcz49_3 : w47.cell? ⟨gb478, 3, none⟩ = some (.string a1_3) := (blk_cell BK478.out 3).trans rfl; have hfz49_0 := blk_frozen BK478.out 0; have hfz49_1 := blk_frozen BK478.out 1; have hfz49_2 := blk_frozen BK478.out 2; have hfz49_3 := blk_frozen BK478.out 3))
                go_meet
                case rel => exact ⟨_, (((t481 == 0) != (a0_1 == a1_1))), (by first | rfl | (simp; done) | (simp [*]; done)), H', ⟨by have := HJ3.out; first | omega | exact Nat.le_refl _⟩, ⟨by (with_reducible repeat (first | refine blk_drewN ?_ _ | refine blk_drew ?_ | refine blk_alloc ?_ _)); exact BK477.out⟩, ⟨by (with_reducible repeat (first | refine blk_drewN ?_ _ | refine blk_drew ?_ | refine blk_alloc ?_ _)); exact BK478.out⟩, ⟨by (with_reducible repeat (first | refine blk_drewN ?_ _ | refine blk_drew ?_ | refine blk_alloc ?_ _)); exact BK479.out⟩, ⟨by repeat (first | (with_reducible first | exact HB.out | apply below_alloc | apply pw_below_drewN | apply below_drew1 | refine below_set ?_ GE477.out | refine below_set ?_ GE478.out | refine below_set ?_ GE479.out) | exact HB.out)⟩⟩
              · rw [if_neg c39] at H
                have c39b0 : (a0_0.toList == a1_0.toList) = false := beq_eq_false_iff_ne.mpr c39
                have c39b1 : (a0_0.toList != a1_0.toList) = true := bne_iff_ne.mpr c39
                have H' := Aside0.mk H
                clear H
                have hnb50 := NB478_477.out
                have hnc50 := NB477_478.out
                have hnb51 := NB478_479.out
                have hnc51 := NB479_478.out
                have hcz52_0 : w34.cell? ⟨gb478, 0, none⟩ = some (.string a1_0) := (blk_cell BK478.out 0).trans rfl
                have hcz52_1 : w34.cell? ⟨gb478, 1, none⟩ = some (.int .u64 a1_1) := (blk_cell BK478.out 1).trans rfl
                have hcz52_2 : w34.cell? ⟨gb478, 2, none⟩ = some (.int .i64 a1_2) := (blk_cell BK478.out 2).trans rfl
                have hcz52_3 : w34.cell? ⟨gb478, 3, none⟩ = some (.string a1_3) := (blk_cell BK478.out 3).trans rfl
                have hfz52_0 := blk_frozen BK478.out 0
                have hfz52_1 := blk_frozen BK478.out 1
                have hfz52_2 := blk_frozen BK478.out 2
                have hfz52_3 := blk_frozen BK478.out 3
                have hnb53 := NB477_479.out
                have hnc53 := NB479_477.out
                have hcz54_0 : w34.cell? ⟨gb477, 0, none⟩ = some (.string a0_0) := (blk_cell BK477.out 0).trans rfl
                have hcz54_1 : w34.cell? ⟨gb477, 1, none⟩ = some (.int .u64 a0_1) := (blk_cell BK477.out 1).trans rfl
                have hcz54_2 : w34.cell? ⟨gb477, 2, none⟩ = some (.int .i64 a0_2) := (blk_cell BK477.out 2).trans rfl
                have hcz54_3 : w34.cell? ⟨gb477, 3, none⟩ = some (.string a0_3) := (blk_cell BK477.out 3).trans rfl
                have hfz54_0 := blk_frozen BK477.out 0
                have hfz54_1 := blk_frozen BK477.out 1
                have hfz54_2 := blk_frozen BK477.out 2
                have hfz54_3 := blk_frozen BK477.out 3
                go_wp2_with (first | ((with_reducible refine gate_callee (f := 18) rfl ?_); refine goesL_ (some 39) rfl rfl Try.func18 (by kernel_rfl) rfl #[.agg #[.string a1_0, .int .u64 a1_1, .int .i64 a1_2, .string a1_3], .agg #[.string a0_0, .int .u64 a0_1, .int .i64 a0_2, .string a0_3]] rfl (by (try simp only [List.map_toArray, List.map_cons, List.map_nil]); first | done | rfl | (simp only [List.length_drop, List.length_take]; rfl)) ?_; (with_reducible refine (ikey_Compare.calls kj3 a1_0 a1_1 a1_2 a1_3 a0_0 a0_1 a0_2 a0_3 t484 _ A35.out).mono ?_); rintro e w55 ⟨rfl, hb⟩; refine ⟨_, rfl, ?_⟩; have n0_ := Aside0.mk (blk_below (g := gb477) (o := .cells #[.string a0_0, .int .u64 a0_1, .int .i64 a0_2, .string a0_3] 29 (0, 0)) (by (with_reducible repeat (first | refine blk_drewN ?_ _ | refine blk_drew ?_ | refine blk_alloc ?_ _)); exact BK477.out) hb); have n1_ := Aside0.mk (blk_below (g := gb478) (o := .cells #[.string a1_0, .int .u64 a1_1, .int .i64 a1_2, .string a1_3] 29 (0, 0)) (by (with_reducible repeat (first | refine blk_drewN ?_ _ | refine blk_drew ?_ | refine blk_alloc ?_ _)); exact BK478.out) hb); have n2_ := Aside0.mk (blk_below (g := gb479) (o := .cells #[.string a2_0, .int .u64 a2_1, .int .i64 a2_2, .string a2_3] 29 (0, 0)) (by (with_reducible repeat (first | refine blk_drewN ?_ _ | refine blk_drew ?_ | refine blk_alloc ?_ _)); exact BK479.out) hb); have n3_ := Aside0.mk (below_step (by repeat (first | (with_reducible first | exact HB.out | apply below_alloc | apply pw_below_drewN | apply below_drew1 | refine below_set ?_ GE477.out | refine below_set ?_ GE478.out | refine below_set ?_ GE479.out) | exact HB.out)) hb); clear BK477; clear BK478; clear BK479; clear HB; have BK477 := n0_; have BK478 := n1_; have BK479 := n2_; have HB := n3_; clear n0_ n1_ n2_ n3_; (try clear hb); (try clear hb2); (try clear hk); (try clear hi); have hcz56_0 : w55.cell? ⟨gb477, 0, none⟩ = some (.string a0_0) := (blk_cell BK477.out 0).trans rfl; have hcz56_1 : w55.cell? ⟨gb477, 1, none⟩ = some (.int .u64 a0_1) := (blk_cell BK477.out 1).trans rfl; have hcz56_2 : w55.cell? ⟨gb477, 2, none⟩ = some (.int .i64 a0_2) := (blk_cell BK477.out 2).trans rfl; have hcz56_3 : w55.cell? ⟨gb477, 3, none⟩ = some (.string a0_3) := (blk_cell BK477.out 3).trans rfl; have hfz56_0 := blk_frozen BK477.out 0; have hfz56_1 := blk_frozen BK477.out 1; have hfz56_2 := blk_frozen BK477.out 2; have hfz56_3 := blk_frozen BK477.out 3) | (go_at_call 18; (with_reducible refine (ikey_Compare.calls kj3 a0_0 a0_1 a0_2 a0_3 a0_0 a0_1 a0_2 a0_3 t485 _ A37.out).mono ?_); rintro e w57 ⟨rfl, hb⟩; have n0_ := Aside0.mk (blk_below (g := gb477) (o := .cells #[.string a0_0, .int .u64 a0_1, .int .i64 a0_2, .string a0_3] 29 (0, 0)) (by (with_reducible repeat (first | refine blk_drewN ?_ _ | refine blk_drew ?_ | refine blk_alloc ?_ _)); exact BK477.out) hb); have n1_ := Aside0.mk (blk_below (g := gb478) (o := .cells #[.string a1_0, .int .u64 a1_1, .int .i64 a1_2, .string a1_3] 29 (0, 0)) (by (with_reducible repeat (first | refine blk_drewN ?_ _ | refine blk_drew ?_ | refine blk_alloc ?_ _)); exact BK478.out) hb); have n2_ := Aside0.mk (blk_below (g := gb479) (o := .cells #[.string a2_0, .int .u64 a2_1, .int .i64 a2_2, .string a2_3] 29 (0, 0)) (by (with_reducible repeat (first | refine blk_drewN ?_ _ | refine blk_drew ?_ | refine blk_alloc ?_ _)); exact BK479.out) hb); have n3_ := Aside0.mk (below_step (by repeat (first | (with_reducible first | exact HB.out | apply below_alloc | apply pw_below_drewN | apply below_drew1 | refine below_set ?_ GE477.out | refine below_set ?_ GE478.out | refine below_set ?_ GE479.out) | exact HB.out)) hb); clear BK477; clear BK478; clear BK479; clear HB; have BK477 := n0_; have BK478 := n1_; have BK479 := n2_; have HB := n3_; clear n0_ n1_ n2_ n3_; (try clear hb); (try clear hb2); (try clear hk); (try clear hi); have hcz58_0 : w57.cell? ⟨gb477, 0, none⟩ = some (.string a0_0) := (blk_cell BK477.out 0).trans rfl; have hcz58_1 : w57.cell? ⟨gb477, 1, none⟩ = some (.int .u64 a0_1) := (blk_cell BK477.out 1).trans rfl; have hcz58_2 : w57.cell? ⟨gb477, 2, none⟩ = some (.int .i64 a0_2) := (blk_cell BK477.out 2).trans rfl; have hcz58_3 : w57.cell? ⟨gb477, 3, none⟩ = some (.string a0_3) := (blk_cell BK477.out 3).trans rfl; have hfz58_0 := blk_frozen BK477.out 0; have hfz58_1 := blk_frozen BK477.out 1; have hfz58_2 := blk_frozen BK477.out 2; have hfz58_3 := blk_frozen BK477.out 3; have hcz59_0 : w57.cell? ⟨gb478, 0, none⟩ = some (.string a1_0) := (blk_cell BK478.out 0).trans rfl; have hcz59_1 : w57.cell? ⟨gb478, 1, none⟩ = some (.int .u64 a1_1) := (blk_cell BK478.out 1).trans rfl; have hcz59_2 : w57.cell? ⟨gb478, 2, none⟩ = some (.int .i64 a1_2) := (blk_cell BK478.out 2).trans rfl; have hcz59_3 : w57.cell? ⟨gb478, 3, none⟩ = some (.string a1_3) := (blk_cell BK478.out 3).trans rfl; have hfz59_0 := blk_frozen BK478.out 0; have hfz59_1 := blk_frozen BK478.out 1; have hfz59_2 := blk_frozen BK478.out 2; have hfz59_3 := blk_frozen BK478.out 3))
                go_meet
                case rel => exact ⟨_, (((t481 == 0) != false)), (by first | rfl | (simp; done) | (simp [*]; done)), H', ⟨by have := HJ3.out; first | omega | exact Nat.le_refl _⟩, ⟨by (with_reducible repeat (first | refine blk_drewN ?_ _ | refine blk_drew ?_ | refine blk_alloc ?_ _)); exact BK477.out⟩, ⟨by (with_reducible repeat (first | refine blk_drewN ?_ _ | refine blk_drew ?_ | refine blk_alloc ?_ _)); exact BK478.out⟩, ⟨by (with_reducible repeat (first | refine blk_drewN ?_ _ | refine blk_drew ?_ | refine blk_alloc ?_ _)); exact BK479.out⟩, ⟨by repeat (first | (with_reducible first | exact HB.out | apply below_alloc | apply pw_below_drewN | apply below_drew1 | refine below_set ?_ GE477.out | refine below_set ?_ GE478.out | refine below_set ?_ GE479.out) | exact HB.out)⟩⟩
            · rw [if_neg c38] at H
              have c38b0 : (t485 == 0) = false := beq_eq_false_iff_ne.mpr c38
              have c38b1 : (t485 != 0) = true := bne_iff_ne.mpr c38
              have H' := Aside0.mk H
              clear H
              have hnb60 := NB478_477.out
              have hnc60 := NB477_478.out
              have hnb61 := NB478_479.out
              have hnc61 := NB479_478.out
              have hcz62_0 : w34.cell? ⟨gb478, 0, none⟩ = some (.string a1_0) := (blk_cell BK478.out 0).trans rfl
              have hcz62_1 : w34.cell? ⟨gb478, 1, none⟩ = some (.int .u64 a1_1) := (blk_cell BK478.out 1).trans rfl
              have hcz62_2 : w34.cell? ⟨gb478, 2, none⟩ = some (.int .i64 a1_2) := (blk_cell BK478.out 2).trans rfl
              have hcz62_3 : w34.cell? ⟨gb478, 3, none⟩ = some (.string a1_3) := (blk_cell BK478.out 3).trans rfl
              have hfz62_0 := blk_frozen BK478.out 0
              have hfz62_1 := blk_frozen BK478.out 1
              have hfz62_2 := blk_frozen BK478.out 2
              have hfz62_3 := blk_frozen BK478.out 3
              have hnb63 := NB477_479.out
              have hnc63 := NB479_477.out
              have hcz64_0 : w34.cell? ⟨gb477, 0, none⟩ = some (.string a0_0) := (blk_cell BK477.out 0).trans rfl
              have hcz64_1 : w34.cell? ⟨gb477, 1, none⟩ = some (.int .u64 a0_1) := (blk_cell BK477.out 1).trans rfl
              have hcz64_2 : w34.cell? ⟨gb477, 2, none⟩ = some (.int .i64 a0_2) := (blk_cell BK477.out 2).trans rfl
              have hcz64_3 : w34.cell? ⟨gb477, 3, none⟩ = some (.string a0_3) := (blk_cell BK477.out 3).trans rfl
              have hfz64_0 := blk_frozen BK477.out 0
              have hfz64_1 := blk_frozen BK477.out 1
              have hfz64_2 := blk_frozen BK477.out 2
              have hfz64_3 := blk_frozen BK477.out 3
              go_wp2_with (first | ((with_reducible refine gate_callee (f := 18) rfl ?_); refine goesL_ (some 39) rfl rfl Try.func18 (by kernel_rfl) rfl #[.agg #[.string a1_0, .int .u64 a1_1, .int .i64 a1_2, .string a1_3], .agg #[.string a0_0, .int .u64 a0_1, .int .i64 a0_2, .string a0_3]] rfl (by (try simp only [List.map_toArray, List.map_cons, List.map_nil]); first | done | rfl | (simp only [List.length_drop, List.length_take]; rfl)) ?_; (with_reducible refine (ikey_Compare.calls kj3 a1_0 a1_1 a1_2 a1_3 a0_0 a0_1 a0_2 a0_3 t484 _ A35.out).mono ?_); rintro e w65 ⟨rfl, hb⟩; refine ⟨_, rfl, ?_⟩; have n0_ := Aside0.mk (blk_below (g := gb477) (o := .cells #[.string a0_0, .int .u64 a0_1, .int .i64 a0_2, .string a0_3] 29 (0, 0)) (by (with_reducible repeat (first | refine blk_drewN ?_ _ | refine blk_drew ?_ | refine blk_alloc ?_ _)); exact BK477.out) hb); have n1_ := Aside0.mk (blk_below (g := gb478) (o := .cells #[.string a1_0, .int .u64 a1_1, .int .i64 a1_2, .string a1_3] 29 (0, 0)) (by (with_reducible repeat (first | refine blk_drewN ?_ _ | refine blk_drew ?_ | refine blk_alloc ?_ _)); exact BK478.out) hb); have n2_ := Aside0.mk (blk_below (g := gb479) (o := .cells #[.string a2_0, .int .u64 a2_1, .int .i64 a2_2, .string a2_3] 29 (0, 0)) (by (with_reducible repeat (first | refine blk_drewN ?_ _ | refine blk_drew ?_ | refine blk_alloc ?_ _)); exact BK479.out) hb); have n3_ := Aside0.mk (below_step (by repeat (first | (with_reducible first | exact HB.out | apply below_alloc | apply pw_below_drewN | apply below_drew1 | refine below_set ?_ GE477.out | refine below_set ?_ GE478.out | refine below_set ?_ GE479.out) | exact HB.out)) hb); clear BK477; clear BK478; clear BK479; clear HB; have BK477 := n0_; have BK478 := n1_; have BK479 := n2_; have HB := n3_; clear n0_ n1_ n2_ n3_; (try clear hb); (try clear hb2); (try clear hk); (try clear hi); have hcz66_0 : w65.cell? ⟨gb477, 0, none⟩ = some (.string a0_0) := (blk_cell BK477.out 0).trans rfl; have hcz66_1 : w65.cell? ⟨gb477, 1, none⟩ = some (.int .u64 a0_1) := (blk_cell BK477.out 1).trans rfl; have hcz66_2 : w65.cell? ⟨gb477, 2, none⟩ = some (.int .i64 a0_2) := (blk_cell BK477.out 2).trans rfl; have hcz66_3 : w65.cell? ⟨gb477, 3, none⟩ = some (.string a0_3) := (blk_cell BK477.out 3).trans rfl; have hfz66_0 := blk_frozen BK477.out 0; have hfz66_1 := blk_frozen BK477.out 1; have hfz66_2 := blk_frozen BK477.out 2; have hfz66_3 := blk_frozen BK477.out 3) | (go_at_call 18; (with_reducible refine (ikey_Compare.calls kj3 a0_0 a0_1 a0_2 a0_3 a0_0 a0_1 a0_2 a0_3 t485 _ A37.out).mono ?_); rintro e w67 ⟨rfl, hb⟩; have n0_ := Aside0.mk (blk_below (g := gb477) (o := .cells #[.string a0_0, .int .u64 a0_1, .int .i64 a0_2, .string a0_3] 29 (0, 0)) (by (with_reducible repeat (first | refine blk_drewN ?_ _ | refine blk_drew ?_ | refine blk_alloc ?_ _)); exact BK477.out) hb); have n1_ := Aside0.mk (blk_below (g := gb478) (o := .cells #[.string a1_0, .int .u64 a1_1, .int .i64 a1_2, .string a1_3] 29 (0, 0)) (by (with_reducible repeat (first | refine blk_drewN ?_ _ | refine blk_drew ?_ | refine blk_alloc ?_ _)); exact BK478.out) hb); have n2_ := Aside0.mk (blk_below (g := gb479) (o := .cells #[.string a2_0, .int .u64 a2_1, .int .i64 a2_2, .string a2_3] 29 (0, 0)) (by (with_reducible repeat (first | refine blk_drewN ?_ _ | refine blk_drew ?_ | refine blk_alloc ?_ _)); exact BK479.out) hb); have n3_ := Aside0.mk (below_step (by repeat (first | (with_reducible first | exact HB.out | apply below_alloc | apply pw_below_drewN | apply below_drew1 | refine below_set ?_ GE477.out | refine below_set ?_ GE478.out | refine below_set ?_ GE479.out) | exact HB.out)) hb); clear BK477; clear BK478; clear BK479; clear HB; have BK477 := n0_; have BK478 := n1_; have BK479 := n2_; have HB := n3_; clear n0_ n1_ n2_ n3_; (try clear hb); (try clear hb2); (try clear hk); (try clear hi)))
              go_meet
              case rel => exact ⟨_, (true), (by first | rfl | (simp; done) | (simp [*]; done)), H', ⟨by have := HJ3.out; first | omega | exact Nat.le_refl _⟩, ⟨by (with_reducible repeat (first | refine blk_drewN ?_ _ | refine blk_drew ?_ | refine blk_alloc ?_ _)); exact BK477.out⟩, ⟨by (with_reducible repeat (first | refine blk_drewN ?_ _ | refine blk_drew ?_ | refine blk_alloc ?_ _)); exact BK478.out⟩, ⟨by (with_reducible repeat (first | refine blk_drewN ?_ _ | refine blk_drew ?_ | refine blk_alloc ?_ _)); exact BK479.out⟩, ⟨by repeat (first | (with_reducible first | exact HB.out | apply below_alloc | apply pw_below_drewN | apply below_drew1 | refine below_set ?_ GE477.out | refine below_set ?_ GE478.out | refine below_set ?_ GE479.out) | exact HB.out)⟩⟩
          · rw [if_neg c36] at H
            have c36b0 : (t481 == (wrap64 (-t484))) = false := beq_eq_false_iff_ne.mpr c36
            have c36b1 : (t481 != (wrap64 (-t484))) = true := bne_iff_ne.mpr c36
            (first | rw [c36b0] | (simp only [i64_w, i32_w]; rw [c36b0]) | skip)
            have H' := Aside0.mk H
            clear H
            have hnb68 := NB478_477.out
            have hnc68 := NB477_478.out
            have hnb69 := NB478_479.out
            have hnc69 := NB479_478.out
            have hcz70_0 : w34.cell? ⟨gb478, 0, none⟩ = some (.string a1_0) := (blk_cell BK478.out 0).trans rfl
            have hcz70_1 : w34.cell? ⟨gb478, 1, none⟩ = some (.int .u64 a1_1) := (blk_cell BK478.out 1).trans rfl
            have hcz70_2 : w34.cell? ⟨gb478, 2, none⟩ = some (.int .i64 a1_2) := (blk_cell BK478.out 2).trans rfl
            have hcz70_3 : w34.cell? ⟨gb478, 3, none⟩ = some (.string a1_3) := (blk_cell BK478.out 3).trans rfl
            have hfz70_0 := blk_frozen BK478.out 0
            have hfz70_1 := blk_frozen BK478.out 1
            have hfz70_2 := blk_frozen BK478.out 2
            have hfz70_3 := blk_frozen BK478.out 3
            have hnb71 := NB477_479.out
            have hnc71 := NB479_477.out
            have hcz72_0 : w34.cell? ⟨gb477, 0, none⟩ = some (.string a0_0) := (blk_cell BK477.out 0).trans rfl
            have hcz72_1 : w34.cell? ⟨gb477, 1, none⟩ = some (.int .u64 a0_1) := (blk_cell BK477.out 1).trans rfl
            have hcz72_2 : w34.cell? ⟨gb477, 2, none⟩ = some (.int .i64 a0_2) := (blk_cell BK477.out 2).trans rfl
            have hcz72_3 : w34.cell? ⟨gb477, 3, none⟩ = some (.string a0_3) := (blk_cell BK477.out 3).trans rfl
            have hfz72_0 := blk_frozen BK477.out 0
            have hfz72_1 := blk_frozen BK477.out 1
            have hfz72_2 := blk_frozen BK477.out 2
            have hfz72_3 := blk_frozen BK477.out 3
            go_wp2_with (first | ((with_reducible refine gate_callee (f := 18) rfl ?_); refine goesL_ (some 39) rfl rfl Try.func18 (by kernel_rfl) rfl #[.agg #[.string a1_0, .int .u64 a1_1, .int .i64 a1_2, .string a1_3], .agg #[.string a0_0, .int .u64 a0_1, .int .i64 a0_2, .string a0_3]] rfl (by (try simp only [List.map_toArray, List.map_cons, List.map_nil]); first | done | rfl | (simp only [List.length_drop, List.length_take]; rfl)) ?_; (with_reducible refine (ikey_Compare.calls kj3 a1_0 a1_1 a1_2 a1_3 a0_0 a0_1 a0_2 a0_3 t484 _ A35.out).mono ?_); rintro e w73 ⟨rfl, hb⟩; refine ⟨_, rfl, ?_⟩; have n0_ := Aside0.mk (blk_below (g := gb477) (o := .cells #[.string a0_0, .int .u64 a0_1, .int .i64 a0_2, .string a0_3] 29 (0, 0)) (by (with_reducible repeat (first | refine blk_drewN ?_ _ | refine blk_drew ?_ | refine blk_alloc ?_ _)); exact BK477.out) hb); have n1_ := Aside0.mk (blk_below (g := gb478) (o := .cells #[.string a1_0, .int .u64 a1_1, .int .i64 a1_2, .string a1_3] 29 (0, 0)) (by (with_reducible repeat (first | refine blk_drewN ?_ _ | refine blk_drew ?_ | refine blk_alloc ?_ _)); exact BK478.out) hb); have n2_ := Aside0.mk (blk_below (g := gb479) (o := .cells #[.string a2_0, .int .u64 a2_1, .int .i64 a2_2, .string a2_3] 29 (0, 0)) (by (with_reducible repeat (first | refine blk_drewN ?_ _ | refine blk_drew ?_ | refine blk_alloc ?_ _)); exact BK479.out) hb); have n3_ := Aside0.mk (below_step (by repeat (first | (with_reducible first | exact HB.out | apply below_alloc | apply pw_below_drewN | apply below_drew1 | refine below_set ?_ GE477.out | refine below_set ?_ GE478.out | refine below_set ?_ GE479.out) | exact HB.out)) hb); clear BK477; clear BK478; clear BK479; clear HB; have BK477 := n0_; have BK478 := n1_; have BK479 := n2_; have HB := n3_; clear n0_ n1_ n2_ n3_; (try clear hb); (try clear hb2); (try clear hk); (try clear hi)))
            go_meet
            case rel => exact ⟨_, (true), (by first | rfl | (simp; done) | (simp [*]; done)), H', ⟨by have := HJ3.out; first | omega | exact Nat.le_refl _⟩, ⟨by (with_reducible repeat (first | refine blk_drewN ?_ _ | refine blk_drew ?_ | refine blk_alloc ?_ _)); exact BK477.out⟩, ⟨by (with_reducible repeat (first | refine blk_drewN ?_ _ | refine blk_drew ?_ | refine blk_alloc ?_ _)); exact BK478.out⟩, ⟨by (with_reducible repeat (first | refine blk_drewN ?_ _ | refine blk_drew ?_ | refine blk_alloc ?_ _)); exact BK479.out⟩, ⟨by repeat (first | (with_reducible first | exact HB.out | apply below_alloc | apply pw_below_drewN | apply below_drew1 | refine below_set ?_ GE477.out | refine below_set ?_ GE478.out | refine below_set ?_ GE479.out) | exact HB.out)⟩⟩
        case rest =>
          clear HC30
          try clear c1
          try clear c2
          try clear p2
          try clear c3
          try clear c4
          try clear c5
          try clear c6
          try clear p6
          try clear c7
          try clear c8
          try clear c8b0
          try clear c8b1
          try clear c9
          try clear c10
          try clear c12
          try clear c12b0
          try clear c12b1
          try clear c13
          try clear c14
          try clear c15
          try clear c16
          try clear c18
          try clear c19
          try clear c21
          try clear c24
          try clear c36
          try clear c36b0
          try clear c36b1
          try clear c38
          try clear c38b0
          try clear c38b1
          try clear c39
          try clear c39b0
          try clear c39b1
          try clear c40
          try clear c41
          try clear c43
          try clear c50
          try clear c51
          try clear c53
          try clear c60
          try clear c61
          try clear c63
          try clear p64
          try clear c68
          try clear c69
          try clear c71
          try clear hcz11_0
          try clear hcz11_1
          try clear hcz11_2
          try clear hcz11_3
          try clear hcz15_0
          try clear hcz15_1
          try clear hcz15_2
          try clear hcz15_3
          try clear hcz17_0
          try clear hcz17_1
          try clear hcz17_2
          try clear hcz17_3
          try clear hcz20_0
          try clear hcz20_1
          try clear hcz20_2
          try clear hcz20_3
          try clear hcz22_0
          try clear hcz22_1
          try clear hcz22_2
          try clear hcz22_3
          try clear hcz23_0
          try clear hcz23_1
          try clear hcz23_2
          try clear hcz23_3
          try clear hcz42_0
          try clear hcz42_1
          try clear hcz42_2
          try clear hcz42_3
          try clear hcz44_0
          try clear hcz44_1
          try clear hcz44_2
          try clear hcz44_3
          try clear hcz46_0
          try clear hcz46_1
          try clear hcz46_2
          try clear hcz46_3
          try clear hcz48_0
          try clear hcz48_1
          try clear hcz48_2
          try clear hcz48_3
          try clear hcz49_0
          try clear hcz49_1
          try clear hcz49_2
          try clear hcz49_3
          try clear hcz52_0
          try clear hcz52_1
          try clear hcz52_2
          try clear hcz52_3
          try clear hcz54_0
          try clear hcz54_1
          try clear hcz54_2
          try clear hcz54_3
          try clear hcz56_0
          try clear hcz56_1
          try clear hcz56_2
          try clear hcz56_3
          try clear hcz58_0
          try clear hcz58_1
          try clear hcz58_2
          try clear hcz58_3
          try clear hcz59_0
          try clear hcz59_1
          try clear hcz59_2
          try clear hcz59_3
          try clear hcz62_0
          try clear hcz62_1
          try clear hcz62_2
          try clear hcz62_3
          try clear hcz64_0
          try clear hcz64_1
          try clear hcz64_2
          try clear hcz64_3
          try clear hcz66_0
          try clear hcz66_1
          try clear hcz66_2
          try clear hcz66_3
          try clear hcz70_0
          try clear hcz70_1
          try clear hcz70_2
          try clear hcz70_3
          try clear hcz72_0
          try clear hcz72_1
          try clear hcz72_2
          try clear hcz72_3
          try clear hfz11_0
          try clear hfz11_1
          try clear hfz11_2
          try clear hfz11_3
          try clear hfz15_0
          try clear hfz15_1
          try clear hfz15_2
          try clear hfz15_3
          try clear hfz17_0
          try clear hfz17_1
          try clear hfz17_2
          try clear hfz17_3
          try clear hfz20_0
          try clear hfz20_1
          try clear hfz20_2
          try clear hfz20_3
          try clear hfz22_0
          try clear hfz22_1
          try clear hfz22_2
          try clear hfz22_3
          try clear hfz23_0
          try clear hfz23_1
          try clear hfz23_2
          try clear hfz23_3
          try clear hfz42_0
          try clear hfz42_1
          try clear hfz42_2
          try clear hfz42_3
          try clear hfz44_0
          try clear hfz44_1
          try clear hfz44_2
          try clear hfz44_3
          try clear hfz46_0
          try clear hfz46_1
          try clear hfz46_2
          try clear hfz46_3
          try clear hfz48_0
          try clear hfz48_1
          try clear hfz48_2
          try clear hfz48_3
          try clear hfz49_0
          try clear hfz49_1
          try clear hfz49_2
          try clear hfz49_3
          try clear hfz52_0
          try clear hfz52_1
          try clear hfz52_2
          try clear hfz52_3
          try clear hfz54_0
          try clear hfz54_1
          try clear hfz54_2
          try clear hfz54_3
          try clear hfz56_0
          try clear hfz56_1
          try clear hfz56_2
          try clear hfz56_3
          try clear hfz58_0
          try clear hfz58_1
          try clear hfz58_2
          try clear hfz58_3
          try clear hfz59_0
          try clear hfz59_1
          try clear hfz59_2
          try clear hfz59_3
          try clear hfz62_0
          try clear hfz62_1
          try clear hfz62_2
          try clear hfz62_3
          try clear hfz64_0
          try clear hfz64_1
          try clear hfz64_2
          try clear hfz64_3
          try clear hfz66_0
          try clear hfz66_1
          try clear hfz66_2
          try clear hfz66_3
          try clear hfz70_0
          try clear hfz70_1
          try clear hfz70_2
          try clear hfz70_3
          try clear hfz72_0
          try clear hfz72_1
          try clear hfz72_2
          try clear hfz72_3
          try clear p2
          obtain ⟨kq, x64_29, rfl, HA, HJ29, BK477, BK478, BK479, HB⟩ := hcut
          cases kq with
          | zero => exact absurd HA.out (by simp [cornucopialaw5_IkeyOrder.j1])
          | succ kj29 =>
            have H := HA.out
            clear HA
            simp only [cornucopialaw5_IkeyOrder.j1] at H
            by_cases c74 : x64_29 = true
            · subst c74
              have H1 : (none) = some r := by rw [if_pos rfl] at H; exact H
              clear H
              have H := H1
              clear H1
              exact absurd H (by simp)
            · replace c74 := Bool.eq_false_iff.mpr c74
              subst c74
              have H1 : (if t481 < 0 then (if t482 < 0 then (if t483 ≥ 0 then (none) else (if t481 = 0 then (if t482 = t483 then ((cornucopialaw5_alive.f kj29).bind fun t486 => (if t486 = true then (if a0_0.toList = a1_0.toList then (some ((decide (t481 < 0)) == (decide (a0_1 > a1_1)))) else (some true)) else (none))) else (none)) else ((cornucopialaw5_alive.f kj29).bind fun t487 => (if t487 = true then (if a0_0.toList = a1_0.toList then (some ((decide (t481 < 0)) == (decide (a0_1 > a1_1)))) else (some true)) else (none))))) else (if t481 = 0 then (if t482 = t483 then ((cornucopialaw5_alive.f kj29).bind fun t488 => (if t488 = true then (if a0_0.toList = a1_0.toList then (some ((decide (t481 < 0)) == (decide (a0_1 > a1_1)))) else (some true)) else (none))) else (none)) else ((cornucopialaw5_alive.f kj29).bind fun t489 => (if t489 = true then (if a0_0.toList = a1_0.toList then (some ((decide (t481 < 0)) == (decide (a0_1 > a1_1)))) else (some true)) else (none))))) else (if t481 = 0 then (if t482 = t483 then ((cornucopialaw5_alive.f kj29).bind fun t490 => (if t490 = true then (if a0_0.toList = a1_0.toList then (some ((decide (t481 < 0)) == (decide (a0_1 > a1_1)))) else (some true)) else (none))) else (none)) else ((cornucopialaw5_alive.f kj29).bind fun t491 => (if t491 = true then (if a0_0.toList = a1_0.toList then (some ((decide (t481 < 0)) == (decide (a0_1 > a1_1)))) else (some true)) else (none))))) = some r := by rw [if_neg (show ¬ (false = true) by decide)] at H; exact H
              clear H
              have H := H1
              clear H1
              by_cases c75 : t481 < 0
              · rw [if_pos c75] at H
                have c75b0 : decide (t481 < 0) = true := decide_eq_true c75
                clear c75
                by_cases c76 : t482 < 0
                · rw [if_pos c76] at H
                  have c76b0 : decide (t482 < 0) = true := decide_eq_true c76
                  clear c76
                  by_cases c77 : t483 ≥ 0
                  · rw [if_pos c77] at H
                    exact absurd H (by simp)
                  · rw [if_neg c77] at H
                    have c77b0 : decide (0 ≤ t483) = false := decide_eq_false c77
                    clear c77
                    by_cases c78 : t481 = 0
                    · rw [if_pos c78] at H
                      have c78b0 : (t481 == 0) = true := beq_iff_eq.mpr c78
                      have c78b1 : (t481 != 0) = false := bne_eq_false_iff_eq.mpr c78
                      clear c78
                      by_cases c79 : t482 = t483
                      · rw [if_pos c79] at H
                        have c79b0 : (t482 == t483) = true := beq_iff_eq.mpr c79
                        have c79b1 : (t482 != t483) = false := bne_eq_false_iff_eq.mpr c79
                        clear c79
                        replace H := Option.bind_eq_some_iff.mp H
                        obtain ⟨t486, A800, H⟩ := H
                        replace H : (if t486 = true then (if a0_0.toList = a1_0.toList then (some ((decide (t481 < 0)) == (decide (a0_1 > a1_1)))) else (some true)) else (none)) = some r := H
                        have A80 := Aside0.mk A800
                        clear A800
                        by_cases c81 : t486 = true
                        · subst c81
                          have H1 : (if a0_0.toList = a1_0.toList then (some ((decide (t481 < 0)) == (decide (a0_1 > a1_1)))) else (some true)) = some r := by rw [if_pos rfl] at H; exact H
                          clear H
                          have H := H1
                          clear H1
                          by_cases c82 : a0_0.toList = a1_0.toList
                          · rw [if_pos c82] at H
                            have c82b0 : (a0_0.toList == a1_0.toList) = true := beq_iff_eq.mpr c82
                            have c82b1 : (a0_0.toList != a1_0.toList) = false := bne_eq_false_iff_eq.mpr c82
                            clear c82
                            obtain rfl := Option.some.inj H
                            go_wp2_with (first | ((with_reducible refine gate_callee (f := 15) rfl ?_); refine goesL_ (some 84) rfl rfl Try.func15 (by kernel_rfl) rfl #[] rfl (by (try simp only [List.map_toArray, List.map_cons, List.map_nil]); first | done | rfl | (simp only [List.length_drop, List.length_take]; rfl)) ?_; (with_reducible refine (cornucopialaw5_alive.calls kj29  true _ A80.out).mono ?_); rintro e w83 ⟨rfl, hb⟩; refine ⟨_, rfl, ?_⟩; have n0_ := Aside0.mk (blk_below (g := gb477) (o := .cells #[.string a0_0, .int .u64 a0_1, .int .i64 a0_2, .string a0_3] 29 (0, 0)) (by (with_reducible repeat (first | refine blk_drewN ?_ _ | refine blk_drew ?_ | refine blk_alloc ?_ _)); exact BK477.out) hb); have n1_ := Aside0.mk (blk_below (g := gb478) (o := .cells #[.string a1_0, .int .u64 a1_1, .int .i64 a1_2, .string a1_3] 29 (0, 0)) (by (with_reducible repeat (first | refine blk_drewN ?_ _ | refine blk_drew ?_ | refine blk_alloc ?_ _)); exact BK478.out) hb); have n2_ := Aside0.mk (blk_below (g := gb479) (o := .cells #[.string a2_0, .int .u64 a2_1, .int .i64 a2_2, .string a2_3] 29 (0, 0)) (by (with_reducible repeat (first | refine blk_drewN ?_ _ | refine blk_drew ?_ | refine blk_alloc ?_ _)); exact BK479.out) hb); have n3_ := Aside0.mk (below_step (by repeat (first | (with_reducible first | exact HB.out | apply below_alloc | apply pw_below_drewN | apply below_drew1 | refine below_set ?_ GE477.out | refine below_set ?_ GE478.out | refine below_set ?_ GE479.out) | exact HB.out)) hb); clear BK477; clear BK478; clear BK479; clear HB; have BK477 := n0_; have BK478 := n1_; have BK479 := n2_; have HB := n3_; clear n0_ n1_ n2_ n3_; (try clear hb); (try clear hb2); (try clear hk); (try clear hi); have hnb84 := NB477_478.out; have hnc84 := NB478_477.out; have hnb85 := NB477_479.out; have hnc85 := NB479_477.out; have hcz86_0 : w83.cell? ⟨gb477, 0, none⟩ = some (.string a0_0) := (blk_cell BK477.out 0).trans rfl; have hcz86_1 : w83.cell? ⟨gb477, 1, none⟩ = some (.int .u64 a0_1) := (blk_cell BK477.out 1).trans rfl; have hcz86_2 : w83.cell? ⟨gb477, 2, none⟩ = some (.int .i64 a0_2) := (blk_cell BK477.out 2).trans rfl; have hcz86_3 : w83.cell? ⟨gb477, 3, none⟩ = some (.string a0_3) := (blk_cell BK477.out 3).trans rfl; have hfz86_0 := blk_frozen BK477.out 0; have hfz86_1 := blk_frozen BK477.out 1; have hfz86_2 := blk_frozen BK477.out 2; have hfz86_3 := blk_frozen BK477.out 3; have hnb87 := NB478_479.out; have hnc87 := NB479_478.out; have hcz88_0 : w83.cell? ⟨gb478, 0, none⟩ = some (.string a1_0) := (blk_cell BK478.out 0).trans rfl; have hcz88_1 : w83.cell? ⟨gb478, 1, none⟩ = some (.int .u64 a1_1) := (blk_cell BK478.out 1).trans rfl; have hcz88_2 : w83.cell? ⟨gb478, 2, none⟩ = some (.int .i64 a1_2) := (blk_cell BK478.out 2).trans rfl; have hcz88_3 : w83.cell? ⟨gb478, 3, none⟩ = some (.string a1_3) := (blk_cell BK478.out 3).trans rfl; have hfz88_0 := blk_frozen BK478.out 0; have hfz88_1 := blk_frozen BK478.out 1; have hfz88_2 := blk_frozen BK478.out 2; have hfz88_3 := blk_frozen BK478.out 3))
                            go_ret
                            exact ⟨by first | rfl | (simp [errW_none, errW_some] <;> rfl) | (simp [*, errW_none, errW_some] <;> rfl), by repeat (first | (with_reducible first | exact HB.out | apply below_alloc | apply pw_below_drewN | apply below_drew1 | refine below_set ?_ GE477.out | refine below_set ?_ GE478.out | refine below_set ?_ GE479.out) | exact HB.out)⟩
                          · rw [if_neg c82] at H
                            have c82b0 : (a0_0.toList == a1_0.toList) = false := beq_eq_false_iff_ne.mpr c82
                            have c82b1 : (a0_0.toList != a1_0.toList) = true := bne_iff_ne.mpr c82
                            obtain rfl := Option.some.inj H
                            go_wp2_with (first | ((with_reducible refine gate_callee (f := 15) rfl ?_); refine goesL_ (some 84) rfl rfl Try.func15 (by kernel_rfl) rfl #[] rfl (by (try simp only [List.map_toArray, List.map_cons, List.map_nil]); first | done | rfl | (simp only [List.length_drop, List.length_take]; rfl)) ?_; (with_reducible refine (cornucopialaw5_alive.calls kj29  true _ A80.out).mono ?_); rintro e w89 ⟨rfl, hb⟩; refine ⟨_, rfl, ?_⟩; have n0_ := Aside0.mk (blk_below (g := gb477) (o := .cells #[.string a0_0, .int .u64 a0_1, .int .i64 a0_2, .string a0_3] 29 (0, 0)) (by (with_reducible repeat (first | refine blk_drewN ?_ _ | refine blk_drew ?_ | refine blk_alloc ?_ _)); exact BK477.out) hb); have n1_ := Aside0.mk (blk_below (g := gb478) (o := .cells #[.string a1_0, .int .u64 a1_1, .int .i64 a1_2, .string a1_3] 29 (0, 0)) (by (with_reducible repeat (first | refine blk_drewN ?_ _ | refine blk_drew ?_ | refine blk_alloc ?_ _)); exact BK478.out) hb); have n2_ := Aside0.mk (blk_below (g := gb479) (o := .cells #[.string a2_0, .int .u64 a2_1, .int .i64 a2_2, .string a2_3] 29 (0, 0)) (by (with_reducible repeat (first | refine blk_drewN ?_ _ | refine blk_drew ?_ | refine blk_alloc ?_ _)); exact BK479.out) hb); have n3_ := Aside0.mk (below_step (by repeat (first | (with_reducible first | exact HB.out | apply below_alloc | apply pw_below_drewN | apply below_drew1 | refine below_set ?_ GE477.out | refine below_set ?_ GE478.out | refine below_set ?_ GE479.out) | exact HB.out)) hb); clear BK477; clear BK478; clear BK479; clear HB; have BK477 := n0_; have BK478 := n1_; have BK479 := n2_; have HB := n3_; clear n0_ n1_ n2_ n3_; (try clear hb); (try clear hb2); (try clear hk); (try clear hi); have hnb90 := NB477_478.out; have hnc90 := NB478_477.out; have hnb91 := NB477_479.out; have hnc91 := NB479_477.out; have hcz92_0 : w89.cell? ⟨gb477, 0, none⟩ = some (.string a0_0) := (blk_cell BK477.out 0).trans rfl; have hcz92_1 : w89.cell? ⟨gb477, 1, none⟩ = some (.int .u64 a0_1) := (blk_cell BK477.out 1).trans rfl; have hcz92_2 : w89.cell? ⟨gb477, 2, none⟩ = some (.int .i64 a0_2) := (blk_cell BK477.out 2).trans rfl; have hcz92_3 : w89.cell? ⟨gb477, 3, none⟩ = some (.string a0_3) := (blk_cell BK477.out 3).trans rfl; have hfz92_0 := blk_frozen BK477.out 0; have hfz92_1 := blk_frozen BK477.out 1; have hfz92_2 := blk_frozen BK477.out 2; have hfz92_3 := blk_frozen BK477.out 3; have hnb93 := NB478_479.out; have hnc93 := NB479_478.out; have hcz94_0 : w89.cell? ⟨gb478, 0, none⟩ = some (.string a1_0) := (blk_cell BK478.out 0).trans rfl; have hcz94_1 : w89.cell? ⟨gb478, 1, none⟩ = some (.int .u64 a1_1) := (blk_cell BK478.out 1).trans rfl; have hcz94_2 : w89.cell? ⟨gb478, 2, none⟩ = some (.int .i64 a1_2) := (blk_cell BK478.out 2).trans rfl; have hcz94_3 : w89.cell? ⟨gb478, 3, none⟩ = some (.string a1_3) := (blk_cell BK478.out 3).trans rfl; have hfz94_0 := blk_frozen BK478.out 0; have hfz94_1 := blk_frozen BK478.out 1; have hfz94_2 := blk_frozen BK478.out 2; have hfz94_3 := blk_frozen BK478.out 3))
                            go_ret
                            exact ⟨by first | rfl | (simp [errW_none, errW_some] <;> rfl) | (simp [*, errW_none, errW_some] <;> rfl), by repeat (first | (with_reducible first | exact HB.out | apply below_alloc | apply pw_below_drewN | apply below_drew1 | refine below_set ?_ GE477.out | refine below_set ?_ GE478.out | refine below_set ?_ GE479.out) | exact HB.out)⟩
                        · replace c81 := Bool.eq_false_iff.mpr c81
                          subst c81
                          have H1 : (none) = some r := by rw [if_neg (show ¬ (false = true) by decide)] at H; exact H
                          clear H
                          have H := H1
                          clear H1
                          exact absurd H (by simp)
                      · rw [if_neg c79] at H
                        exact absurd H (by simp)
                    · rw [if_neg c78] at H
                      have c78b0 : (t481 == 0) = false := beq_eq_false_iff_ne.mpr c78
                      have c78b1 : (t481 != 0) = true := bne_iff_ne.mpr c78
                      replace H := Option.bind_eq_some_iff.mp H
                      obtain ⟨t487, A950, H⟩ := H
                      replace H : (if t487 = true then (if a0_0.toList = a1_0.toList then (some ((decide (t481 < 0)) == (decide (a0_1 > a1_1)))) else (some true)) else (none)) = some r := H
                      have A95 := Aside0.mk A950
                      clear A950
                      by_cases c96 : t487 = true
                      · subst c96
                        have H1 : (if a0_0.toList = a1_0.toList then (some ((decide (t481 < 0)) == (decide (a0_1 > a1_1)))) else (some true)) = some r := by rw [if_pos rfl] at H; exact H
                        clear H
                        have H := H1
                        clear H1
                        by_cases c97 : a0_0.toList = a1_0.toList
                        · rw [if_pos c97] at H
                          have c97b0 : (a0_0.toList == a1_0.toList) = true := beq_iff_eq.mpr c97
                          have c97b1 : (a0_0.toList != a1_0.toList) = false := bne_eq_false_iff_eq.mpr c97
                          clear c97
                          obtain rfl := Option.some.inj H
                          go_wp2_with (first | ((with_reducible refine gate_callee (f := 15) rfl ?_); refine goesL_ (some 84) rfl rfl Try.func15 (by kernel_rfl) rfl #[] rfl (by (try simp only [List.map_toArray, List.map_cons, List.map_nil]); first | done | rfl | (simp only [List.length_drop, List.length_take]; rfl)) ?_; (with_reducible refine (cornucopialaw5_alive.calls kj29  true _ A95.out).mono ?_); rintro e w98 ⟨rfl, hb⟩; refine ⟨_, rfl, ?_⟩; have n0_ := Aside0.mk (blk_below (g := gb477) (o := .cells #[.string a0_0, .int .u64 a0_1, .int .i64 a0_2, .string a0_3] 29 (0, 0)) (by (with_reducible repeat (first | refine blk_drewN ?_ _ | refine blk_drew ?_ | refine blk_alloc ?_ _)); exact BK477.out) hb); have n1_ := Aside0.mk (blk_below (g := gb478) (o := .cells #[.string a1_0, .int .u64 a1_1, .int .i64 a1_2, .string a1_3] 29 (0, 0)) (by (with_reducible repeat (first | refine blk_drewN ?_ _ | refine blk_drew ?_ | refine blk_alloc ?_ _)); exact BK478.out) hb); have n2_ := Aside0.mk (blk_below (g := gb479) (o := .cells #[.string a2_0, .int .u64 a2_1, .int .i64 a2_2, .string a2_3] 29 (0, 0)) (by (with_reducible repeat (first | refine blk_drewN ?_ _ | refine blk_drew ?_ | refine blk_alloc ?_ _)); exact BK479.out) hb); have n3_ := Aside0.mk (below_step (by repeat (first | (with_reducible first | exact HB.out | apply below_alloc | apply pw_below_drewN | apply below_drew1 | refine below_set ?_ GE477.out | refine below_set ?_ GE478.out | refine below_set ?_ GE479.out) | exact HB.out)) hb); clear BK477; clear BK478; clear BK479; clear HB; have BK477 := n0_; have BK478 := n1_; have BK479 := n2_; have HB := n3_; clear n0_ n1_ n2_ n3_; (try clear hb); (try clear hb2); (try clear hk); (try clear hi); have hnb99 := NB477_478.out; have hnc99 := NB478_477.out; have hnb100 := NB477_479.out; have hnc100 := NB479_477.out; have hcz101_0 : w98.cell? ⟨gb477, 0, none⟩ = some (.string a0_0) := (blk_cell BK477.out 0).trans rfl; have hcz101_1 : w98.cell? ⟨gb477, 1, none⟩ = some (.int .u64 a0_1) := (blk_cell BK477.out 1).trans rfl; have hcz101_2 : w98.cell? ⟨gb477, 2, none⟩ = some (.int .i64 a0_2) := (blk_cell BK477.out 2).trans rfl; have hcz101_3 : w98.cell? ⟨gb477, 3, none⟩ = some (.string a0_3) := (blk_cell BK477.out 3).trans rfl; have hfz101_0 := blk_frozen BK477.out 0; have hfz101_1 := blk_frozen BK477.out 1; have hfz101_2 := blk_frozen BK477.out 2; have hfz101_3 := blk_frozen BK477.out 3; have hnb102 := NB478_479.out; have hnc102 := NB479_478.out; have hcz103_0 : w98.cell? ⟨gb478, 0, none⟩ = some (.string a1_0) := (blk_cell BK478.out 0).trans rfl; have hcz103_1 : w98.cell? ⟨gb478, 1, none⟩ = some (.int .u64 a1_1) := (blk_cell BK478.out 1).trans rfl; have hcz103_2 : w98.cell? ⟨gb478, 2, none⟩ = some (.int .i64 a1_2) := (blk_cell BK478.out 2).trans rfl; have hcz103_3 : w98.cell? ⟨gb478, 3, none⟩ = some (.string a1_3) := (blk_cell BK478.out 3).trans rfl; have hfz103_0 := blk_frozen BK478.out 0; have hfz103_1 := blk_frozen BK478.out 1; have hfz103_2 := blk_frozen BK478.out 2; have hfz103_3 := blk_frozen BK478.out 3))
                          go_ret
                          exact ⟨by first | rfl | (simp [errW_none, errW_some] <;> rfl) | (simp [*, errW_none, errW_some] <;> rfl), by repeat (first | (with_reducible first | exact HB.out | apply below_alloc | apply pw_below_drewN | apply below_drew1 | refine below_set ?_ GE477.out | refine below_set ?_ GE478.out | refine below_set ?_ GE479.out) | exact HB.out)⟩
                        · rw [if_neg c97] at H
                          have c97b0 : (a0_0.toList == a1_0.toList) = false := beq_eq_false_iff_ne.mpr c97
                          have c97b1 : (a0_0.toList != a1_0.toList) = true := bne_iff_ne.mpr c97
                          obtain rfl := Option.some.inj H
                          go_wp2_with (first | ((with_reducible refine gate_callee (f := 15) rfl ?_); refine goesL_ (some 84) rfl rfl Try.func15 (by kernel_rfl) rfl #[] rfl (by (try simp only [List.map_toArray, List.map_cons, List.map_nil]); first | done | rfl | (simp only [List.length_drop, List.length_take]; rfl)) ?_; (with_reducible refine (cornucopialaw5_alive.calls kj29  true _ A95.out).mono ?_); rintro e w104 ⟨rfl, hb⟩; refine ⟨_, rfl, ?_⟩; have n0_ := Aside0.mk (blk_below (g := gb477) (o := .cells #[.string a0_0, .int .u64 a0_1, .int .i64 a0_2, .string a0_3] 29 (0, 0)) (by (with_reducible repeat (first | refine blk_drewN ?_ _ | refine blk_drew ?_ | refine blk_alloc ?_ _)); exact BK477.out) hb); have n1_ := Aside0.mk (blk_below (g := gb478) (o := .cells #[.string a1_0, .int .u64 a1_1, .int .i64 a1_2, .string a1_3] 29 (0, 0)) (by (with_reducible repeat (first | refine blk_drewN ?_ _ | refine blk_drew ?_ | refine blk_alloc ?_ _)); exact BK478.out) hb); have n2_ := Aside0.mk (blk_below (g := gb479) (o := .cells #[.string a2_0, .int .u64 a2_1, .int .i64 a2_2, .string a2_3] 29 (0, 0)) (by (with_reducible repeat (first | refine blk_drewN ?_ _ | refine blk_drew ?_ | refine blk_alloc ?_ _)); exact BK479.out) hb); have n3_ := Aside0.mk (below_step (by repeat (first | (with_reducible first | exact HB.out | apply below_alloc | apply pw_below_drewN | apply below_drew1 | refine below_set ?_ GE477.out | refine below_set ?_ GE478.out | refine below_set ?_ GE479.out) | exact HB.out)) hb); clear BK477; clear BK478; clear BK479; clear HB; have BK477 := n0_; have BK478 := n1_; have BK479 := n2_; have HB := n3_; clear n0_ n1_ n2_ n3_; (try clear hb); (try clear hb2); (try clear hk); (try clear hi); have hnb105 := NB477_478.out; have hnc105 := NB478_477.out; have hnb106 := NB477_479.out; have hnc106 := NB479_477.out; have hcz107_0 : w104.cell? ⟨gb477, 0, none⟩ = some (.string a0_0) := (blk_cell BK477.out 0).trans rfl; have hcz107_1 : w104.cell? ⟨gb477, 1, none⟩ = some (.int .u64 a0_1) := (blk_cell BK477.out 1).trans rfl; have hcz107_2 : w104.cell? ⟨gb477, 2, none⟩ = some (.int .i64 a0_2) := (blk_cell BK477.out 2).trans rfl; have hcz107_3 : w104.cell? ⟨gb477, 3, none⟩ = some (.string a0_3) := (blk_cell BK477.out 3).trans rfl; have hfz107_0 := blk_frozen BK477.out 0; have hfz107_1 := blk_frozen BK477.out 1; have hfz107_2 := blk_frozen BK477.out 2; have hfz107_3 := blk_frozen BK477.out 3; have hnb108 := NB478_479.out; have hnc108 := NB479_478.out; have hcz109_0 : w104.cell? ⟨gb478, 0, none⟩ = some (.string a1_0) := (blk_cell BK478.out 0).trans rfl; have hcz109_1 : w104.cell? ⟨gb478, 1, none⟩ = some (.int .u64 a1_1) := (blk_cell BK478.out 1).trans rfl; have hcz109_2 : w104.cell? ⟨gb478, 2, none⟩ = some (.int .i64 a1_2) := (blk_cell BK478.out 2).trans rfl; have hcz109_3 : w104.cell? ⟨gb478, 3, none⟩ = some (.string a1_3) := (blk_cell BK478.out 3).trans rfl; have hfz109_0 := blk_frozen BK478.out 0; have hfz109_1 := blk_frozen BK478.out 1; have hfz109_2 := blk_frozen BK478.out 2; have hfz109_3 := blk_frozen BK478.out 3))
                          go_ret
                          exact ⟨by first | rfl | (simp [errW_none, errW_some] <;> rfl) | (simp [*, errW_none, errW_some] <;> rfl), by repeat (first | (with_reducible first | exact HB.out | apply below_alloc | apply pw_below_drewN | apply below_drew1 | refine below_set ?_ GE477.out | refine below_set ?_ GE478.out | refine below_set ?_ GE479.out) | exact HB.out)⟩
                      · replace c96 := Bool.eq_false_iff.mpr c96
                        subst c96
                        have H1 : (none) = some r := by rw [if_neg (show ¬ (false = true) by decide)] at H; exact H
                        clear H
                        have H := H1
                        clear H1
                        exact absurd H (by simp)
                · rw [if_neg c76] at H
                  have c76b0 : decide (t482 < 0) = false := decide_eq_false c76
                  clear c76
                  by_cases c110 : t481 = 0
                  · rw [if_pos c110] at H
                    have c110b0 : (t481 == 0) = true := beq_iff_eq.mpr c110
                    have c110b1 : (t481 != 0) = false := bne_eq_false_iff_eq.mpr c110
                    clear c110
                    by_cases c111 : t482 = t483
                    · rw [if_pos c111] at H
                      have c111b0 : (t482 == t483) = true := beq_iff_eq.mpr c111
                      have c111b1 : (t482 != t483) = false := bne_eq_false_iff_eq.mpr c111
                      clear c111
                      replace H := Option.bind_eq_some_iff.mp H
                      obtain ⟨t488, A1120, H⟩ := H
                      replace H : (if t488 = true then (if a0_0.toList = a1_0.toList then (some ((decide (t481 < 0)) == (decide (a0_1 > a1_1)))) else (some true)) else (none)) = some r := H
                      have A112 := Aside0.mk A1120
                      clear A1120
                      by_cases c113 : t488 = true
                      · subst c113
                        have H1 : (if a0_0.toList = a1_0.toList then (some ((decide (t481 < 0)) == (decide (a0_1 > a1_1)))) else (some true)) = some r := by rw [if_pos rfl] at H; exact H
                        clear H
                        have H := H1
                        clear H1
                        by_cases c114 : a0_0.toList = a1_0.toList
                        · rw [if_pos c114] at H
                          have c114b0 : (a0_0.toList == a1_0.toList) = true := beq_iff_eq.mpr c114
                          have c114b1 : (a0_0.toList != a1_0.toList) = false := bne_eq_false_iff_eq.mpr c114
                          clear c114
                          obtain rfl := Option.some.inj H
                          go_wp2_with (first | ((with_reducible refine gate_callee (f := 15) rfl ?_); refine goesL_ (some 84) rfl rfl Try.func15 (by kernel_rfl) rfl #[] rfl (by (try simp only [List.map_toArray, List.map_cons, List.map_nil]); first | done | rfl | (simp only [List.length_drop, List.length_take]; rfl)) ?_; (with_reducible refine (cornucopialaw5_alive.calls kj29  true _ A112.out).mono ?_); rintro e w115 ⟨rfl, hb⟩; refine ⟨_, rfl, ?_⟩; have n0_ := Aside0.mk (blk_below (g := gb477) (o := .cells #[.string a0_0, .int .u64 a0_1, .int .i64 a0_2, .string a0_3] 29 (0, 0)) (by (with_reducible repeat (first | refine blk_drewN ?_ _ | refine blk_drew ?_ | refine blk_alloc ?_ _)); exact BK477.out) hb); have n1_ := Aside0.mk (blk_below (g := gb478) (o := .cells #[.string a1_0, .int .u64 a1_1, .int .i64 a1_2, .string a1_3] 29 (0, 0)) (by (with_reducible repeat (first | refine blk_drewN ?_ _ | refine blk_drew ?_ | refine blk_alloc ?_ _)); exact BK478.out) hb); have n2_ := Aside0.mk (blk_below (g := gb479) (o := .cells #[.string a2_0, .int .u64 a2_1, .int .i64 a2_2, .string a2_3] 29 (0, 0)) (by (with_reducible repeat (first | refine blk_drewN ?_ _ | refine blk_drew ?_ | refine blk_alloc ?_ _)); exact BK479.out) hb); have n3_ := Aside0.mk (below_step (by repeat (first | (with_reducible first | exact HB.out | apply below_alloc | apply pw_below_drewN | apply below_drew1 | refine below_set ?_ GE477.out | refine below_set ?_ GE478.out | refine below_set ?_ GE479.out) | exact HB.out)) hb); clear BK477; clear BK478; clear BK479; clear HB; have BK477 := n0_; have BK478 := n1_; have BK479 := n2_; have HB := n3_; clear n0_ n1_ n2_ n3_; (try clear hb); (try clear hb2); (try clear hk); (try clear hi); have hnb116 := NB477_478.out; have hnc116 := NB478_477.out; have hnb117 := NB477_479.out; have hnc117 := NB479_477.out; have hcz118_0 : w115.cell? ⟨gb477, 0, none⟩ = some (.string a0_0) := (blk_cell BK477.out 0).trans rfl; have hcz118_1 : w115.cell? ⟨gb477, 1, none⟩ = some (.int .u64 a0_1) := (blk_cell BK477.out 1).trans rfl; have hcz118_2 : w115.cell? ⟨gb477, 2, none⟩ = some (.int .i64 a0_2) := (blk_cell BK477.out 2).trans rfl; have hcz118_3 : w115.cell? ⟨gb477, 3, none⟩ = some (.string a0_3) := (blk_cell BK477.out 3).trans rfl; have hfz118_0 := blk_frozen BK477.out 0; have hfz118_1 := blk_frozen BK477.out 1; have hfz118_2 := blk_frozen BK477.out 2; have hfz118_3 := blk_frozen BK477.out 3; have hnb119 := NB478_479.out; have hnc119 := NB479_478.out; have hcz120_0 : w115.cell? ⟨gb478, 0, none⟩ = some (.string a1_0) := (blk_cell BK478.out 0).trans rfl; have hcz120_1 : w115.cell? ⟨gb478, 1, none⟩ = some (.int .u64 a1_1) := (blk_cell BK478.out 1).trans rfl; have hcz120_2 : w115.cell? ⟨gb478, 2, none⟩ = some (.int .i64 a1_2) := (blk_cell BK478.out 2).trans rfl; have hcz120_3 : w115.cell? ⟨gb478, 3, none⟩ = some (.string a1_3) := (blk_cell BK478.out 3).trans rfl; have hfz120_0 := blk_frozen BK478.out 0; have hfz120_1 := blk_frozen BK478.out 1; have hfz120_2 := blk_frozen BK478.out 2; have hfz120_3 := blk_frozen BK478.out 3))
                          go_ret
                          exact ⟨by first | rfl | (simp [errW_none, errW_some] <;> rfl) | (simp [*, errW_none, errW_some] <;> rfl), by repeat (first | (with_reducible first | exact HB.out | apply below_alloc | apply pw_below_drewN | apply below_drew1 | refine below_set ?_ GE477.out | refine below_set ?_ GE478.out | refine below_set ?_ GE479.out) | exact HB.out)⟩
                        · rw [if_neg c114] at H
                          have c114b0 : (a0_0.toList == a1_0.toList) = false := beq_eq_false_iff_ne.mpr c114
                          have c114b1 : (a0_0.toList != a1_0.toList) = true := bne_iff_ne.mpr c114
                          obtain rfl := Option.some.inj H
                          go_wp2_with (first | ((with_reducible refine gate_callee (f := 15) rfl ?_); refine goesL_ (some 84) rfl rfl Try.func15 (by kernel_rfl) rfl #[] rfl (by (try simp only [List.map_toArray, List.map_cons, List.map_nil]); first | done | rfl | (simp only [List.length_drop, List.length_take]; rfl)) ?_; (with_reducible refine (cornucopialaw5_alive.calls kj29  true _ A112.out).mono ?_); rintro e w121 ⟨rfl, hb⟩; refine ⟨_, rfl, ?_⟩; have n0_ := Aside0.mk (blk_below (g := gb477) (o := .cells #[.string a0_0, .int .u64 a0_1, .int .i64 a0_2, .string a0_3] 29 (0, 0)) (by (with_reducible repeat (first | refine blk_drewN ?_ _ | refine blk_drew ?_ | refine blk_alloc ?_ _)); exact BK477.out) hb); have n1_ := Aside0.mk (blk_below (g := gb478) (o := .cells #[.string a1_0, .int .u64 a1_1, .int .i64 a1_2, .string a1_3] 29 (0, 0)) (by (with_reducible repeat (first | refine blk_drewN ?_ _ | refine blk_drew ?_ | refine blk_alloc ?_ _)); exact BK478.out) hb); have n2_ := Aside0.mk (blk_below (g := gb479) (o := .cells #[.string a2_0, .int .u64 a2_1, .int .i64 a2_2, .string a2_3] 29 (0, 0)) (by (with_reducible repeat (first | refine blk_drewN ?_ _ | refine blk_drew ?_ | refine blk_alloc ?_ _)); exact BK479.out) hb); have n3_ := Aside0.mk (below_step (by repeat (first | (with_reducible first | exact HB.out | apply below_alloc | apply pw_below_drewN | apply below_drew1 | refine below_set ?_ GE477.out | refine below_set ?_ GE478.out | refine below_set ?_ GE479.out) | exact HB.out)) hb); clear BK477; clear BK478; clear BK479; clear HB; have BK477 := n0_; have BK478 := n1_; have BK479 := n2_; have HB := n3_; clear n0_ n1_ n2_ n3_; (try clear hb); (try clear hb2); (try clear hk); (try clear hi); have hnb122 := NB477_478.out; have hnc122 := NB478_477.out; have hnb123 := NB477_479.out; have hnc123 := NB479_477.out; have hcz124_0 : w121.cell? ⟨gb477, 0, none⟩ = some (.string a0_0) := (blk_cell BK477.out 0).trans rfl; have hcz124_1 : w121.cell? ⟨gb477, 1, none⟩ = some (.int .u64 a0_1) := (blk_cell BK477.out 1).trans rfl; have hcz124_2 : w121.cell? ⟨gb477, 2, none⟩ = some (.int .i64 a0_2) := (blk_cell BK477.out 2).trans rfl; have hcz124_3 : w121.cell? ⟨gb477, 3, none⟩ = some (.string a0_3) := (blk_cell BK477.out 3).trans rfl; have hfz124_0 := blk_frozen BK477.out 0; have hfz124_1 := blk_frozen BK477.out 1; have hfz124_2 := blk_frozen BK477.out 2; have hfz124_3 := blk_frozen BK477.out 3; have hnb125 := NB478_479.out; have hnc125 := NB479_478.out; have hcz126_0 : w121.cell? ⟨gb478, 0, none⟩ = some (.string a1_0) := (blk_cell BK478.out 0).trans rfl; have hcz126_1 : w121.cell? ⟨gb478, 1, none⟩ = some (.int .u64 a1_1) := (blk_cell BK478.out 1).trans rfl; have hcz126_2 : w121.cell? ⟨gb478, 2, none⟩ = some (.int .i64 a1_2) := (blk_cell BK478.out 2).trans rfl; have hcz126_3 : w121.cell? ⟨gb478, 3, none⟩ = some (.string a1_3) := (blk_cell BK478.out 3).trans rfl; have hfz126_0 := blk_frozen BK478.out 0; have hfz126_1 := blk_frozen BK478.out 1; have hfz126_2 := blk_frozen BK478.out 2; have hfz126_3 := blk_frozen BK478.out 3))
                          go_ret
                          exact ⟨by first | rfl | (simp [errW_none, errW_some] <;> rfl) | (simp [*, errW_none, errW_some] <;> rfl), by repeat (first | (with_reducible first | exact HB.out | apply below_alloc | apply pw_below_drewN | apply below_drew1 | refine below_set ?_ GE477.out | refine below_set ?_ GE478.out | refine below_set ?_ GE479.out) | exact HB.out)⟩
                      · replace c113 := Bool.eq_false_iff.mpr c113
                        subst c113
                        have H1 : (none) = some r := by rw [if_neg (show ¬ (false = true) by decide)] at H; exact H
                        clear H
                        have H := H1
                        clear H1
                        exact absurd H (by simp)
                    · rw [if_neg c111] at H
                      exact absurd H (by simp)
                  · rw [if_neg c110] at H
                    have c110b0 : (t481 == 0) = false := beq_eq_false_iff_ne.mpr c110
                    have c110b1 : (t481 != 0) = true := bne_iff_ne.mpr c110
                    replace H := Option.bind_eq_some_iff.mp H
                    obtain ⟨t489, A1270, H⟩ := H
                    replace H : (if t489 = true then (if a0_0.toList = a1_0.toList then (some ((decide (t481 < 0)) == (decide (a0_1 > a1_1)))) else (some true)) else (none)) = some r := H
                    have A127 := Aside0.mk A1270
                    clear A1270
                    by_cases c128 : t489 = true
                    · subst c128
                      have H1 : (if a0_0.toList = a1_0.toList then (some ((decide (t481 < 0)) == (decide (a0_1 > a1_1)))) else (some true)) = some r := by rw [if_pos rfl] at H; exact H
                      clear H
                      have H := H1
                      clear H1
                      by_cases c129 : a0_0.toList = a1_0.toList
                      · rw [if_pos c129] at H
                        have c129b0 : (a0_0.toList == a1_0.toList) = true := beq_iff_eq.mpr c129
                        have c129b1 : (a0_0.toList != a1_0.toList) = false := bne_eq_false_iff_eq.mpr c129
                        clear c129
                        obtain rfl := Option.some.inj H
                        go_wp2_with (first | ((with_reducible refine gate_callee (f := 15) rfl ?_); refine goesL_ (some 84) rfl rfl Try.func15 (by kernel_rfl) rfl #[] rfl (by (try simp only [List.map_toArray, List.map_cons, List.map_nil]); first | done | rfl | (simp only [List.length_drop, List.length_take]; rfl)) ?_; (with_reducible refine (cornucopialaw5_alive.calls kj29  true _ A127.out).mono ?_); rintro e w130 ⟨rfl, hb⟩; refine ⟨_, rfl, ?_⟩; have n0_ := Aside0.mk (blk_below (g := gb477) (o := .cells #[.string a0_0, .int .u64 a0_1, .int .i64 a0_2, .string a0_3] 29 (0, 0)) (by (with_reducible repeat (first | refine blk_drewN ?_ _ | refine blk_drew ?_ | refine blk_alloc ?_ _)); exact BK477.out) hb); have n1_ := Aside0.mk (blk_below (g := gb478) (o := .cells #[.string a1_0, .int .u64 a1_1, .int .i64 a1_2, .string a1_3] 29 (0, 0)) (by (with_reducible repeat (first | refine blk_drewN ?_ _ | refine blk_drew ?_ | refine blk_alloc ?_ _)); exact BK478.out) hb); have n2_ := Aside0.mk (blk_below (g := gb479) (o := .cells #[.string a2_0, .int .u64 a2_1, .int .i64 a2_2, .string a2_3] 29 (0, 0)) (by (with_reducible repeat (first | refine blk_drewN ?_ _ | refine blk_drew ?_ | refine blk_alloc ?_ _)); exact BK479.out) hb); have n3_ := Aside0.mk (below_step (by repeat (first | (with_reducible first | exact HB.out | apply below_alloc | apply pw_below_drewN | apply below_drew1 | refine below_set ?_ GE477.out | refine below_set ?_ GE478.out | refine below_set ?_ GE479.out) | exact HB.out)) hb); clear BK477; clear BK478; clear BK479; clear HB; have BK477 := n0_; have BK478 := n1_; have BK479 := n2_; have HB := n3_; clear n0_ n1_ n2_ n3_; (try clear hb); (try clear hb2); (try clear hk); (try clear hi); have hnb131 := NB477_478.out; have hnc131 := NB478_477.out; have hnb132 := NB477_479.out; have hnc132 := NB479_477.out; have hcz133_0 : w130.cell? ⟨gb477, 0, none⟩ = some (.string a0_0) := (blk_cell BK477.out 0).trans rfl; have hcz133_1 : w130.cell? ⟨gb477, 1, none⟩ = some (.int .u64 a0_1) := (blk_cell BK477.out 1).trans rfl; have hcz133_2 : w130.cell? ⟨gb477, 2, none⟩ = some (.int .i64 a0_2) := (blk_cell BK477.out 2).trans rfl; have hcz133_3 : w130.cell? ⟨gb477, 3, none⟩ = some (.string a0_3) := (blk_cell BK477.out 3).trans rfl; have hfz133_0 := blk_frozen BK477.out 0; have hfz133_1 := blk_frozen BK477.out 1; have hfz133_2 := blk_frozen BK477.out 2; have hfz133_3 := blk_frozen BK477.out 3; have hnb134 := NB478_479.out; have hnc134 := NB479_478.out; have hcz135_0 : w130.cell? ⟨gb478, 0, none⟩ = some (.string a1_0) := (blk_cell BK478.out 0).trans rfl; have hcz135_1 : w130.cell? ⟨gb478, 1, none⟩ = some (.int .u64 a1_1) := (blk_cell BK478.out 1).trans rfl; have hcz135_2 : w130.cell? ⟨gb478, 2, none⟩ = some (.int .i64 a1_2) := (blk_cell BK478.out 2).trans rfl; have hcz135_3 : w130.cell? ⟨gb478, 3, none⟩ = some (.string a1_3) := (blk_cell BK478.out 3).trans rfl; have hfz135_0 := blk_frozen BK478.out 0; have hfz135_1 := blk_frozen BK478.out 1; have hfz135_2 := blk_frozen BK478.out 2; have hfz135_3 := blk_frozen BK478.out 3))
                        go_ret
                        exact ⟨by first | rfl | (simp [errW_none, errW_some] <;> rfl) | (simp [*, errW_none, errW_some] <;> rfl), by repeat (first | (with_reducible first | exact HB.out | apply below_alloc | apply pw_below_drewN | apply below_drew1 | refine below_set ?_ GE477.out | refine below_set ?_ GE478.out | refine below_set ?_ GE479.out) | exact HB.out)⟩
                      · rw [if_neg c129] at H
                        have c129b0 : (a0_0.toList == a1_0.toList) = false := beq_eq_false_iff_ne.mpr c129
                        have c129b1 : (a0_0.toList != a1_0.toList) = true := bne_iff_ne.mpr c129
                        obtain rfl := Option.some.inj H
                        go_wp2_with (first | ((with_reducible refine gate_callee (f := 15) rfl ?_); refine goesL_ (some 84) rfl rfl Try.func15 (by kernel_rfl) rfl #[] rfl (by (try simp only [List.map_toArray, List.map_cons, List.map_nil]); first | done | rfl | (simp only [List.length_drop, List.length_take]; rfl)) ?_; (with_reducible refine (cornucopialaw5_alive.calls kj29  true _ A127.out).mono ?_); rintro e w136 ⟨rfl, hb⟩; refine ⟨_, rfl, ?_⟩; have n0_ := Aside0.mk (blk_below (g := gb477) (o := .cells #[.string a0_0, .int .u64 a0_1, .int .i64 a0_2, .string a0_3] 29 (0, 0)) (by (with_reducible repeat (first | refine blk_drewN ?_ _ | refine blk_drew ?_ | refine blk_alloc ?_ _)); exact BK477.out) hb); have n1_ := Aside0.mk (blk_below (g := gb478) (o := .cells #[.string a1_0, .int .u64 a1_1, .int .i64 a1_2, .string a1_3] 29 (0, 0)) (by (with_reducible repeat (first | refine blk_drewN ?_ _ | refine blk_drew ?_ | refine blk_alloc ?_ _)); exact BK478.out) hb); have n2_ := Aside0.mk (blk_below (g := gb479) (o := .cells #[.string a2_0, .int .u64 a2_1, .int .i64 a2_2, .string a2_3] 29 (0, 0)) (by (with_reducible repeat (first | refine blk_drewN ?_ _ | refine blk_drew ?_ | refine blk_alloc ?_ _)); exact BK479.out) hb); have n3_ := Aside0.mk (below_step (by repeat (first | (with_reducible first | exact HB.out | apply below_alloc | apply pw_below_drewN | apply below_drew1 | refine below_set ?_ GE477.out | refine below_set ?_ GE478.out | refine below_set ?_ GE479.out) | exact HB.out)) hb); clear BK477; clear BK478; clear BK479; clear HB; have BK477 := n0_; have BK478 := n1_; have BK479 := n2_; have HB := n3_; clear n0_ n1_ n2_ n3_; (try clear hb); (try clear hb2); (try clear hk); (try clear hi); have hnb137 := NB477_478.out; have hnc137 := NB478_477.out; have hnb138 := NB477_479.out; have hnc138 := NB479_477.out; have hcz139_0 : w136.cell? ⟨gb477, 0, none⟩ = some (.string a0_0) := (blk_cell BK477.out 0).trans rfl; have hcz139_1 : w136.cell? ⟨gb477, 1, none⟩ = some (.int .u64 a0_1) := (blk_cell BK477.out 1).trans rfl; have hcz139_2 : w136.cell? ⟨gb477, 2, none⟩ = some (.int .i64 a0_2) := (blk_cell BK477.out 2).trans rfl; have hcz139_3 : w136.cell? ⟨gb477, 3, none⟩ = some (.string a0_3) := (blk_cell BK477.out 3).trans rfl; have hfz139_0 := blk_frozen BK477.out 0; have hfz139_1 := blk_frozen BK477.out 1; have hfz139_2 := blk_frozen BK477.out 2; have hfz139_3 := blk_frozen BK477.out 3; have hnb140 := NB478_479.out; have hnc140 := NB479_478.out; have hcz141_0 : w136.cell? ⟨gb478, 0, none⟩ = some (.string a1_0) := (blk_cell BK478.out 0).trans rfl; have hcz141_1 : w136.cell? ⟨gb478, 1, none⟩ = some (.int .u64 a1_1) := (blk_cell BK478.out 1).trans rfl; have hcz141_2 : w136.cell? ⟨gb478, 2, none⟩ = some (.int .i64 a1_2) := (blk_cell BK478.out 2).trans rfl; have hcz141_3 : w136.cell? ⟨gb478, 3, none⟩ = some (.string a1_3) := (blk_cell BK478.out 3).trans rfl; have hfz141_0 := blk_frozen BK478.out 0; have hfz141_1 := blk_frozen BK478.out 1; have hfz141_2 := blk_frozen BK478.out 2; have hfz141_3 := blk_frozen BK478.out 3))
                        go_ret
                        exact ⟨by first | rfl | (simp [errW_none, errW_some] <;> rfl) | (simp [*, errW_none, errW_some] <;> rfl), by repeat (first | (with_reducible first | exact HB.out | apply below_alloc | apply pw_below_drewN | apply below_drew1 | refine below_set ?_ GE477.out | refine below_set ?_ GE478.out | refine below_set ?_ GE479.out) | exact HB.out)⟩
                    · replace c128 := Bool.eq_false_iff.mpr c128
                      subst c128
                      have H1 : (none) = some r := by rw [if_neg (show ¬ (false = true) by decide)] at H; exact H
                      clear H
                      have H := H1
                      clear H1
                      exact absurd H (by simp)
              · rw [if_neg c75] at H
                have c75b0 : decide (t481 < 0) = false := decide_eq_false c75
                clear c75
                by_cases c142 : t481 = 0
                · rw [if_pos c142] at H
                  have c142b0 : (t481 == 0) = true := beq_iff_eq.mpr c142
                  have c142b1 : (t481 != 0) = false := bne_eq_false_iff_eq.mpr c142
                  clear c142
                  by_cases c143 : t482 = t483
                  · rw [if_pos c143] at H
                    have c143b0 : (t482 == t483) = true := beq_iff_eq.mpr c143
                    have c143b1 : (t482 != t483) = false := bne_eq_false_iff_eq.mpr c143
                    clear c143
                    replace H := Option.bind_eq_some_iff.mp H
                    obtain ⟨t490, A1440, H⟩ := H
                    replace H : (if t490 = true then (if a0_0.toList = a1_0.toList then (some ((decide (t481 < 0)) == (decide (a0_1 > a1_1)))) else (some true)) else (none)) = some r := H
                    have A144 := Aside0.mk A1440
                    clear A1440
                    by_cases c145 : t490 = true
                    · subst c145
                      have H1 : (if a0_0.toList = a1_0.toList then (some ((decide (t481 < 0)) == (decide (a0_1 > a1_1)))) else (some true)) = some r := by rw [if_pos rfl] at H; exact H
                      clear H
                      have H := H1
                      clear H1
                      by_cases c146 : a0_0.toList = a1_0.toList
                      · rw [if_pos c146] at H
                        have c146b0 : (a0_0.toList == a1_0.toList) = true := beq_iff_eq.mpr c146
                        have c146b1 : (a0_0.toList != a1_0.toList) = false := bne_eq_false_iff_eq.mpr c146
                        clear c146
                        obtain rfl := Option.some.inj H
                        go_wp2_with (first | ((with_reducible refine gate_callee (f := 15) rfl ?_); refine goesL_ (some 84) rfl rfl Try.func15 (by kernel_rfl) rfl #[] rfl (by (try simp only [List.map_toArray, List.map_cons, List.map_nil]); first | done | rfl | (simp only [List.length_drop, List.length_take]; rfl)) ?_; (with_reducible refine (cornucopialaw5_alive.calls kj29  true _ A144.out).mono ?_); rintro e w147 ⟨rfl, hb⟩; refine ⟨_, rfl, ?_⟩; have n0_ := Aside0.mk (blk_below (g := gb477) (o := .cells #[.string a0_0, .int .u64 a0_1, .int .i64 a0_2, .string a0_3] 29 (0, 0)) (by (with_reducible repeat (first | refine blk_drewN ?_ _ | refine blk_drew ?_ | refine blk_alloc ?_ _)); exact BK477.out) hb); have n1_ := Aside0.mk (blk_below (g := gb478) (o := .cells #[.string a1_0, .int .u64 a1_1, .int .i64 a1_2, .string a1_3] 29 (0, 0)) (by (with_reducible repeat (first | refine blk_drewN ?_ _ | refine blk_drew ?_ | refine blk_alloc ?_ _)); exact BK478.out) hb); have n2_ := Aside0.mk (blk_below (g := gb479) (o := .cells #[.string a2_0, .int .u64 a2_1, .int .i64 a2_2, .string a2_3] 29 (0, 0)) (by (with_reducible repeat (first | refine blk_drewN ?_ _ | refine blk_drew ?_ | refine blk_alloc ?_ _)); exact BK479.out) hb); have n3_ := Aside0.mk (below_step (by repeat (first | (with_reducible first | exact HB.out | apply below_alloc | apply pw_below_drewN | apply below_drew1 | refine below_set ?_ GE477.out | refine below_set ?_ GE478.out | refine below_set ?_ GE479.out) | exact HB.out)) hb); clear BK477; clear BK478; clear BK479; clear HB; have BK477 := n0_; have BK478 := n1_; have BK479 := n2_; have HB := n3_; clear n0_ n1_ n2_ n3_; (try clear hb); (try clear hb2); (try clear hk); (try clear hi); have hnb148 := NB477_478.out; have hnc148 := NB478_477.out; have hnb149 := NB477_479.out; have hnc149 := NB479_477.out; have hcz150_0 : w147.cell? ⟨gb477, 0, none⟩ = some (.string a0_0) := (blk_cell BK477.out 0).trans rfl; have hcz150_1 : w147.cell? ⟨gb477, 1, none⟩ = some (.int .u64 a0_1) := (blk_cell BK477.out 1).trans rfl; have hcz150_2 : w147.cell? ⟨gb477, 2, none⟩ = some (.int .i64 a0_2) := (blk_cell BK477.out 2).trans rfl; have hcz150_3 : w147.cell? ⟨gb477, 3, none⟩ = some (.string a0_3) := (blk_cell BK477.out 3).trans rfl; have hfz150_0 := blk_frozen BK477.out 0; have hfz150_1 := blk_frozen BK477.out 1; have hfz150_2 := blk_frozen BK477.out 2; have hfz150_3 := blk_frozen BK477.out 3; have hnb151 := NB478_479.out; have hnc151 := NB479_478.out; have hcz152_0 : w147.cell? ⟨gb478, 0, none⟩ = some (.string a1_0) := (blk_cell BK478.out 0).trans rfl; have hcz152_1 : w147.cell? ⟨gb478, 1, none⟩ = some (.int .u64 a1_1) := (blk_cell BK478.out 1).trans rfl; have hcz152_2 : w147.cell? ⟨gb478, 2, none⟩ = some (.int .i64 a1_2) := (blk_cell BK478.out 2).trans rfl; have hcz152_3 : w147.cell? ⟨gb478, 3, none⟩ = some (.string a1_3) := (blk_cell BK478.out 3).trans rfl; have hfz152_0 := blk_frozen BK478.out 0; have hfz152_1 := blk_frozen BK478.out 1; have hfz152_2 := blk_frozen BK478.out 2; have hfz152_3 := blk_frozen BK478.out 3))
                        go_ret
                        exact ⟨by first | rfl | (simp [errW_none, errW_some] <;> rfl) | (simp [*, errW_none, errW_some] <;> rfl), by repeat (first | (with_reducible first | exact HB.out | apply below_alloc | apply pw_below_drewN | apply below_drew1 | refine below_set ?_ GE477.out | refine below_set ?_ GE478.out | refine below_set ?_ GE479.out) | exact HB.out)⟩
                      · rw [if_neg c146] at H
                        have c146b0 : (a0_0.toList == a1_0.toList) = false := beq_eq_false_iff_ne.mpr c146
                        have c146b1 : (a0_0.toList != a1_0.toList) = true := bne_iff_ne.mpr c146
                        obtain rfl := Option.some.inj H
                        go_wp2_with (first | ((with_reducible refine gate_callee (f := 15) rfl ?_); refine goesL_ (some 84) rfl rfl Try.func15 (by kernel_rfl) rfl #[] rfl (by (try simp only [List.map_toArray, List.map_cons, List.map_nil]); first | done | rfl | (simp only [List.length_drop, List.length_take]; rfl)) ?_; (with_reducible refine (cornucopialaw5_alive.calls kj29  true _ A144.out).mono ?_); rintro e w153 ⟨rfl, hb⟩; refine ⟨_, rfl, ?_⟩; have n0_ := Aside0.mk (blk_below (g := gb477) (o := .cells #[.string a0_0, .int .u64 a0_1, .int .i64 a0_2, .string a0_3] 29 (0, 0)) (by (with_reducible repeat (first | refine blk_drewN ?_ _ | refine blk_drew ?_ | refine blk_alloc ?_ _)); exact BK477.out) hb); have n1_ := Aside0.mk (blk_below (g := gb478) (o := .cells #[.string a1_0, .int .u64 a1_1, .int .i64 a1_2, .string a1_3] 29 (0, 0)) (by (with_reducible repeat (first | refine blk_drewN ?_ _ | refine blk_drew ?_ | refine blk_alloc ?_ _)); exact BK478.out) hb); have n2_ := Aside0.mk (blk_below (g := gb479) (o := .cells #[.string a2_0, .int .u64 a2_1, .int .i64 a2_2, .string a2_3] 29 (0, 0)) (by (with_reducible repeat (first | refine blk_drewN ?_ _ | refine blk_drew ?_ | refine blk_alloc ?_ _)); exact BK479.out) hb); have n3_ := Aside0.mk (below_step (by repeat (first | (with_reducible first | exact HB.out | apply below_alloc | apply pw_below_drewN | apply below_drew1 | refine below_set ?_ GE477.out | refine below_set ?_ GE478.out | refine below_set ?_ GE479.out) | exact HB.out)) hb); clear BK477; clear BK478; clear BK479; clear HB; have BK477 := n0_; have BK478 := n1_; have BK479 := n2_; have HB := n3_; clear n0_ n1_ n2_ n3_; (try clear hb); (try clear hb2); (try clear hk); (try clear hi); have hnb154 := NB477_478.out; have hnc154 := NB478_477.out; have hnb155 := NB477_479.out; have hnc155 := NB479_477.out; have hcz156_0 : w153.cell? ⟨gb477, 0, none⟩ = some (.string a0_0) := (blk_cell BK477.out 0).trans rfl; have hcz156_1 : w153.cell? ⟨gb477, 1, none⟩ = some (.int .u64 a0_1) := (blk_cell BK477.out 1).trans rfl; have hcz156_2 : w153.cell? ⟨gb477, 2, none⟩ = some (.int .i64 a0_2) := (blk_cell BK477.out 2).trans rfl; have hcz156_3 : w153.cell? ⟨gb477, 3, none⟩ = some (.string a0_3) := (blk_cell BK477.out 3).trans rfl; have hfz156_0 := blk_frozen BK477.out 0; have hfz156_1 := blk_frozen BK477.out 1; have hfz156_2 := blk_frozen BK477.out 2; have hfz156_3 := blk_frozen BK477.out 3; have hnb157 := NB478_479.out; have hnc157 := NB479_478.out; have hcz158_0 : w153.cell? ⟨gb478, 0, none⟩ = some (.string a1_0) := (blk_cell BK478.out 0).trans rfl; have hcz158_1 : w153.cell? ⟨gb478, 1, none⟩ = some (.int .u64 a1_1) := (blk_cell BK478.out 1).trans rfl; have hcz158_2 : w153.cell? ⟨gb478, 2, none⟩ = some (.int .i64 a1_2) := (blk_cell BK478.out 2).trans rfl; have hcz158_3 : w153.cell? ⟨gb478, 3, none⟩ = some (.string a1_3) := (blk_cell BK478.out 3).trans rfl; have hfz158_0 := blk_frozen BK478.out 0; have hfz158_1 := blk_frozen BK478.out 1; have hfz158_2 := blk_frozen BK478.out 2; have hfz158_3 := blk_frozen BK478.out 3))
                        go_ret
                        exact ⟨by first | rfl | (simp [errW_none, errW_some] <;> rfl) | (simp [*, errW_none, errW_some] <;> rfl), by repeat (first | (with_reducible first | exact HB.out | apply below_alloc | apply pw_below_drewN | apply below_drew1 | refine below_set ?_ GE477.out | refine below_set ?_ GE478.out | refine below_set ?_ GE479.out) | exact HB.out)⟩
                    · replace c145 := Bool.eq_false_iff.mpr c145
                      subst c145
                      have H1 : (none) = some r := by rw [if_neg (show ¬ (false = true) by decide)] at H; exact H
                      clear H
                      have H := H1
                      clear H1
                      exact absurd H (by simp)
                  · rw [if_neg c143] at H
                    exact absurd H (by simp)
                · rw [if_neg c142] at H
                  have c142b0 : (t481 == 0) = false := beq_eq_false_iff_ne.mpr c142
                  have c142b1 : (t481 != 0) = true := bne_iff_ne.mpr c142
                  replace H := Option.bind_eq_some_iff.mp H
                  obtain ⟨t491, A1590, H⟩ := H
                  replace H : (if t491 = true then (if a0_0.toList = a1_0.toList then (some ((decide (t481 < 0)) == (decide (a0_1 > a1_1)))) else (some true)) else (none)) = some r := H
                  have A159 := Aside0.mk A1590
                  clear A1590
                  by_cases c160 : t491 = true
                  · subst c160
                    have H1 : (if a0_0.toList = a1_0.toList then (some ((decide (t481 < 0)) == (decide (a0_1 > a1_1)))) else (some true)) = some r := by rw [if_pos rfl] at H; exact H
                    clear H
                    have H := H1
                    clear H1
                    by_cases c161 : a0_0.toList = a1_0.toList
                    · rw [if_pos c161] at H
                      have c161b0 : (a0_0.toList == a1_0.toList) = true := beq_iff_eq.mpr c161
                      have c161b1 : (a0_0.toList != a1_0.toList) = false := bne_eq_false_iff_eq.mpr c161
                      clear c161
                      obtain rfl := Option.some.inj H
                      go_wp2_with (first | ((with_reducible refine gate_callee (f := 15) rfl ?_); refine goesL_ (some 84) rfl rfl Try.func15 (by kernel_rfl) rfl #[] rfl (by (try simp only [List.map_toArray, List.map_cons, List.map_nil]); first | done | rfl | (simp only [List.length_drop, List.length_take]; rfl)) ?_; (with_reducible refine (cornucopialaw5_alive.calls kj29  true _ A159.out).mono ?_); rintro e w162 ⟨rfl, hb⟩; refine ⟨_, rfl, ?_⟩; have n0_ := Aside0.mk (blk_below (g := gb477) (o := .cells #[.string a0_0, .int .u64 a0_1, .int .i64 a0_2, .string a0_3] 29 (0, 0)) (by (with_reducible repeat (first | refine blk_drewN ?_ _ | refine blk_drew ?_ | refine blk_alloc ?_ _)); exact BK477.out) hb); have n1_ := Aside0.mk (blk_below (g := gb478) (o := .cells #[.string a1_0, .int .u64 a1_1, .int .i64 a1_2, .string a1_3] 29 (0, 0)) (by (with_reducible repeat (first | refine blk_drewN ?_ _ | refine blk_drew ?_ | refine blk_alloc ?_ _)); exact BK478.out) hb); have n2_ := Aside0.mk (blk_below (g := gb479) (o := .cells #[.string a2_0, .int .u64 a2_1, .int .i64 a2_2, .string a2_3] 29 (0, 0)) (by (with_reducible repeat (first | refine blk_drewN ?_ _ | refine blk_drew ?_ | refine blk_alloc ?_ _)); exact BK479.out) hb); have n3_ := Aside0.mk (below_step (by repeat (first | (with_reducible first | exact HB.out | apply below_alloc | apply pw_below_drewN | apply below_drew1 | refine below_set ?_ GE477.out | refine below_set ?_ GE478.out | refine below_set ?_ GE479.out) | exact HB.out)) hb); clear BK477; clear BK478; clear BK479; clear HB; have BK477 := n0_; have BK478 := n1_; have BK479 := n2_; have HB := n3_; clear n0_ n1_ n2_ n3_; (try clear hb); (try clear hb2); (try clear hk); (try clear hi); have hnb163 := NB477_478.out; have hnc163 := NB478_477.out; have hnb164 := NB477_479.out; have hnc164 := NB479_477.out; have hcz165_0 : w162.cell? ⟨gb477, 0, none⟩ = some (.string a0_0) := (blk_cell BK477.out 0).trans rfl; have hcz165_1 : w162.cell? ⟨gb477, 1, none⟩ = some (.int .u64 a0_1) := (blk_cell BK477.out 1).trans rfl; have hcz165_2 : w162.cell? ⟨gb477, 2, none⟩ = some (.int .i64 a0_2) := (blk_cell BK477.out 2).trans rfl; have hcz165_3 : w162.cell? ⟨gb477, 3, none⟩ = some (.string a0_3) := (blk_cell BK477.out 3).trans rfl; have hfz165_0 := blk_frozen BK477.out 0; have hfz165_1 := blk_frozen BK477.out 1; have hfz165_2 := blk_frozen BK477.out 2; have hfz165_3 := blk_frozen BK477.out 3; have hnb166 := NB478_479.out; have hnc166 := NB479_478.out; have hcz167_0 : w162.cell? ⟨gb478, 0, none⟩ = some (.string a1_0) := (blk_cell BK478.out 0).trans rfl; have hcz167_1 : w162.cell? ⟨gb478, 1, none⟩ = some (.int .u64 a1_1) := (blk_cell BK478.out 1).trans rfl; have hcz167_2 : w162.cell? ⟨gb478, 2, none⟩ = some (.int .i64 a1_2) := (blk_cell BK478.out 2).trans rfl; have hcz167_3 : w162.cell? ⟨gb478, 3, none⟩ = some (.string a1_3) := (blk_cell BK478.out 3).trans rfl; have hfz167_0 := blk_frozen BK478.out 0; have hfz167_1 := blk_frozen BK478.out 1; have hfz167_2 := blk_frozen BK478.out 2; have hfz167_3 := blk_frozen BK478.out 3))
                      go_ret
                      exact ⟨by first | rfl | (simp [errW_none, errW_some] <;> rfl) | (simp [*, errW_none, errW_some] <;> rfl), by repeat (first | (with_reducible first | exact HB.out | apply below_alloc | apply pw_below_drewN | apply below_drew1 | refine below_set ?_ GE477.out | refine below_set ?_ GE478.out | refine below_set ?_ GE479.out) | exact HB.out)⟩
                    · rw [if_neg c161] at H
                      have c161b0 : (a0_0.toList == a1_0.toList) = false := beq_eq_false_iff_ne.mpr c161
                      have c161b1 : (a0_0.toList != a1_0.toList) = true := bne_iff_ne.mpr c161
                      obtain rfl := Option.some.inj H
                      go_wp2_with (first | ((with_reducible refine gate_callee (f := 15) rfl ?_); refine goesL_ (some 84) rfl rfl Try.func15 (by kernel_rfl) rfl #[] rfl (by (try simp only [List.map_toArray, List.map_cons, List.map_nil]); first | done | rfl | (simp only [List.length_drop, List.length_take]; rfl)) ?_; (with_reducible refine (cornucopialaw5_alive.calls kj29  true _ A159.out).mono ?_); rintro e w168 ⟨rfl, hb⟩; refine ⟨_, rfl, ?_⟩; have n0_ := Aside0.mk (blk_below (g := gb477) (o := .cells #[.string a0_0, .int .u64 a0_1, .int .i64 a0_2, .string a0_3] 29 (0, 0)) (by (with_reducible repeat (first | refine blk_drewN ?_ _ | refine blk_drew ?_ | refine blk_alloc ?_ _)); exact BK477.out) hb); have n1_ := Aside0.mk (blk_below (g := gb478) (o := .cells #[.string a1_0, .int .u64 a1_1, .int .i64 a1_2, .string a1_3] 29 (0, 0)) (by (with_reducible repeat (first | refine blk_drewN ?_ _ | refine blk_drew ?_ | refine blk_alloc ?_ _)); exact BK478.out) hb); have n2_ := Aside0.mk (blk_below (g := gb479) (o := .cells #[.string a2_0, .int .u64 a2_1, .int .i64 a2_2, .string a2_3] 29 (0, 0)) (by (with_reducible repeat (first | refine blk_drewN ?_ _ | refine blk_drew ?_ | refine blk_alloc ?_ _)); exact BK479.out) hb); have n3_ := Aside0.mk (below_step (by repeat (first | (with_reducible first | exact HB.out | apply below_alloc | apply pw_below_drewN | apply below_drew1 | refine below_set ?_ GE477.out | refine below_set ?_ GE478.out | refine below_set ?_ GE479.out) | exact HB.out)) hb); clear BK477; clear BK478; clear BK479; clear HB; have BK477 := n0_; have BK478 := n1_; have BK479 := n2_; have HB := n3_; clear n0_ n1_ n2_ n3_; (try clear hb); (try clear hb2); (try clear hk); (try clear hi); have hnb169 := NB477_478.out; have hnc169 := NB478_477.out; have hnb170 := NB477_479.out; have hnc170 := NB479_477.out; have hcz171_0 : w168.cell? ⟨gb477, 0, none⟩ = some (.string a0_0) := (blk_cell BK477.out 0).trans rfl; have hcz171_1 : w168.cell? ⟨gb477, 1, none⟩ = some (.int .u64 a0_1) := (blk_cell BK477.out 1).trans rfl; have hcz171_2 : w168.cell? ⟨gb477, 2, none⟩ = some (.int .i64 a0_2) := (blk_cell BK477.out 2).trans rfl; have hcz171_3 : w168.cell? ⟨gb477, 3, none⟩ = some (.string a0_3) := (blk_cell BK477.out 3).trans rfl; have hfz171_0 := blk_frozen BK477.out 0; have hfz171_1 := blk_frozen BK477.out 1; have hfz171_2 := blk_frozen BK477.out 2; have hfz171_3 := blk_frozen BK477.out 3; have hnb172 := NB478_479.out; have hnc172 := NB479_478.out; have hcz173_0 : w168.cell? ⟨gb478, 0, none⟩ = some (.string a1_0) := (blk_cell BK478.out 0).trans rfl; have hcz173_1 : w168.cell? ⟨gb478, 1, none⟩ = some (.int .u64 a1_1) := (blk_cell BK478.out 1).trans rfl; have hcz173_2 : w168.cell? ⟨gb478, 2, none⟩ = some (.int .i64 a1_2) := (blk_cell BK478.out 2).trans rfl; have hcz173_3 : w168.cell? ⟨gb478, 3, none⟩ = some (.string a1_3) := (blk_cell BK478.out 3).trans rfl; have hfz173_0 := blk_frozen BK478.out 0; have hfz173_1 := blk_frozen BK478.out 1; have hfz173_2 := blk_frozen BK478.out 2; have hfz173_3 := blk_frozen BK478.out 3))
                      go_ret
                      exact ⟨by first | rfl | (simp [errW_none, errW_some] <;> rfl) | (simp [*, errW_none, errW_some] <;> rfl), by repeat (first | (with_reducible first | exact HB.out | apply below_alloc | apply pw_below_drewN | apply below_drew1 | refine below_set ?_ GE477.out | refine below_set ?_ GE478.out | refine below_set ?_ GE479.out) | exact HB.out)⟩
                  · replace c160 := Bool.eq_false_iff.mpr c160
                    subst c160
                    have H1 : (none) = some r := by rw [if_neg (show ¬ (false = true) by decide)] at H; exact H
                    clear H
                    have H := H1
                    clear H1
                    exact absurd H (by simp)

/-- THE ONE PURE STATEMENT of cornucopialaw5_IkeyOrder. -/
def cornucopialaw5_IkeyOrder.Pure : Prop := ∀ (s0 : S29) (s1 : S29) (s2 : S29), wfS29 s0 → wfS29 s1 → wfS29 s2 → ∃ k, cornucopialaw5_IkeyOrder.f k s0.f0 s0.f1 s0.f2 s0.f3 s1.f0 s1.f1 s1.f2 s1.f3 s2.f0 s2.f1 s2.f2 s2.f3 = some true
theorem cornucopialaw5_IkeyOrder.walk (P : cornucopialaw5_IkeyOrder.Pure) (s0 : S29) (s1 : S29) (s2 : S29) (w : World) (w0_0 : wfS29 s0) (w1_0 : wfS29 s1) (w2_0 : wfS29 s2) :
    Calls Try.prog 4 #[.agg #[.string s0.f0, .int .u64 s0.f1, .int .i64 s0.f2, .string s0.f3], .agg #[.string s1.f0, .int .u64 s1.f1, .int .i64 s1.f2, .string s1.f3], .agg #[.string s2.f0, .int .u64 s2.f1, .int .i64 s2.f2, .string s2.f3]] w fun e w' => e = .returned (.bool true) ∧ Below w.heap.size w w' := by
  obtain ⟨k, h⟩ := P s0 s1 s2 w0_0 w1_0 w2_0
  refine (cornucopialaw5_IkeyOrder.calls k s0.f0 s0.f1 s0.f2 s0.f3 s1.f0 s1.f1 s1.f2 s1.f3 s2.f0 s2.f1 s2.f2 s2.f3 true w h).mono ?_
  rintro e w' ⟨rfl, hd⟩
  exact ⟨rfl, hd⟩

end Go.Proofs.Ytkpjipfjhniddaa.PNum
