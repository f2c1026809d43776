/- Texts of this claim, put together and cut down to what is used (BB4). -/
import Derived.Test.YtchgpcgolgcfdaaMgBB3
section
namespace Go.Proofs.Ytchgpcgolgcfdaa.PNum
open Go.RowKit Go.Proofs.YtchgpcgolgcfdaaW.PrintWords Go.Proofs.YtchgpcgolgcfdaaW.PrintLast Go.Proofs.YtchgpcgolgcfdaaW.PrintMore
attribute [local go_sem] max2_int min2_int max_two min_two max_three min_three max_four min_four   -- for this text's walks alone
set_option linter.unusedVariables false
set_option linter.unusedSimpArgs false
def block_Right.l0 : Nat → List (S29) → List (S29) → Int → Int → Option (Bool)
  | 0, _, _, _, _ => none
  | k + 1, x0, x5, x6, x7 => if x7 < x6 then (if 0 ≤ x7 then (if x7 < (x5.length : Int) then ((ikey_Valid.f k ((rd_T29 x5 x7).f0) ((rd_T29 x5 x7).f1) ((rd_T29 x5 x7).f2) ((rd_T29 x5 x7).f3)).bind fun t125 => (if t125 = true then (if x7 > 0 then (if 0 ≤ (wrap64 (x7 - 1)) then (if (wrap64 (x7 - 1)) < (x0.length : Int) then ((ikey_Compare.f k ((rd_T29 x0 (wrap64 (x7 - 1))).f0) ((rd_T29 x0 (wrap64 (x7 - 1))).f1) ((rd_T29 x0 (wrap64 (x7 - 1))).f2) ((rd_T29 x0 (wrap64 (x7 - 1))).f3) ((rd_T29 x5 x7).f0) ((rd_T29 x5 x7).f1) ((rd_T29 x5 x7).f2) ((rd_T29 x5 x7).f3)).bind fun t127 => (if t127 ≥ 0 then (some false) else (block_Right.l0 k x0 x5 x6 (wrap64 (x7 + 1))))) else (none)) else (none)) else (block_Right.l0 k x0 x5 x6 (wrap64 (x7 + 1)))) else (some false))) else (none)) else (none)) else (some true)
def block_Right.f (k : Nat) (l0 : List (S29)) : Option (Bool) := block_Right.l0 k l0 l0 (l0.length : Int) 0
theorem block_Right.mono_l : ∀ k, (∀ y0 y1 y2 y3, LeO (block_Right.l0 k y0 y1 y2 y3) (block_Right.l0 (k + 1) y0 y1 y2 y3))
  | 0 => fun _ _ _ _ r h => by simp [block_Right.l0] at h
  | k + 1 => by
    have ih0 := block_Right.mono_l k
    · intro y0 y1 y2 y3
      unfold block_Right.l0
      repeat' first
      | (with_reducible exact ih0 _ _ _ _)
      | (with_reducible exact ikey_Compare.mono _ _ _ _ _ _ _ _ _)
      | (with_reducible exact ikey_Valid.mono _ _ _ _ _)
      | (with_reducible exact LeO.refl _)
      | (with_reducible exact LeO.none _)
      | (with_reducible refine LeO.ite ?_ ?_)
      | (with_reducible refine LeO.bind ?_ (fun _ => ?_))
      | exact ih0 _ _ _ _
      | exact ikey_Compare.mono _ _ _ _ _ _ _ _ _
      | exact ikey_Valid.mono _ _ _ _ _
      | exact LeO.none _
      | refine LeO.ite ?_ ?_
      | refine LeO.bind ?_ (fun _ => ?_)
theorem block_Right.mono : ∀ a0 k, LeO (block_Right.f k a0) (block_Right.f (k + 1) a0) := by
  intro a0 k
  have ih0 := block_Right.mono_l k
  unfold block_Right.f
  repeat' first
      | (with_reducible exact ih0 _ _ _ _)
      | (with_reducible exact ikey_Compare.mono _ _ _ _ _ _ _ _ _)
      | (with_reducible exact ikey_Valid.mono _ _ _ _ _)
      | (with_reducible exact LeO.refl _)
      | (with_reducible exact LeO.none _)
      | (with_reducible refine LeO.ite ?_ ?_)
      | (with_reducible refine LeO.bind ?_ (fun _ => ?_))
      | exact ih0 _ _ _ _
      | exact ikey_Compare.mono _ _ _ _ _ _ _ _ _
      | exact ikey_Valid.mono _ _ _ _ _
      | exact LeO.none _
      | refine LeO.ite ?_ ?_
      | refine LeO.bind ?_ (fun _ => ?_)
def block_Right.T4 : Bool × List (List Nat × List Nat) := (true, [([], []), ([0], [0]), ([1], [1]), ([2, 1], [2]), ([3], [3]), ([4, 3], [3, 4]), ([5, 3, 3], [3, 5]), ([6], [6]), ([6], [6]), ([8, 6], [6, 8]), ([7, 9, 6], [6, 7, 9]), ([10, 6], [6, 10]), ([6], [6]), ([11, 12, 6, 6], [6, 11, 12]), ([13, 6], [6, 13]), ([6, 14, 3], [3, 6, 14]), ([3, 15], [3, 15])])
def block_Right.B4 : List Nat := [0, 1, 3, 7, 15, 31, 63, 127, 127, 383, 1023, 2047, 127, 8191, 16383, 32767, 65535]
theorem block_Right.tab4 : rtab .any (opsOf Try.f40 4) = block_Right.T4 := by kernel_rfl
theorem block_Right.bits4 : waitsOk block_Right.T4.2 block_Right.B4 = true := by kernel_rfl
set_option maxHeartbeats 8000000 in
set_option maxRecDepth 100000 in
theorem block_Right.calls (k : Nat) (A0 : Option Addr) (c0 : Nat) (l0 : List (S29)) (r : Bool) (w : World) (hr0 : Kd.C k29 w A0 l0.length l0) (hc0 : l0.length ≤ c0) (h : block_Right.f k l0 = some r) :
    Calls Try.prog 40 #[.slice A0 l0.length c0] w fun e w' => e = .returned (.bool r) ∧ Below w.heap.size w w' := by
  have hu29 := Try.underlying29
  have HR0 := Aside0.mk hr0
  have HC0 := Aside0.mk hc0
  clear hr0 hc0
  have HB := Aside0.mk (Below.refl w.heap.size w)
  have H : (block_Right.l0 k l0 l0 (l0.length : Int) 0) = some r := h
  clear h
  have H' := Aside0.mk H
  clear H
  go_enter Try.func40, Try.ntmps40
  go_wp2
  go_loopg [7] k (fun kq v7 w' => ∃ (x7_1 : Int), v7 = .int .i64 x7_1 ∧ Aside0 (block_Right.l0 kq l0 l0 (l0.length : Int) x7_1 = some r) ∧ Aside0 (kq ≤ k) ∧ Aside0 (Below w.heap.size w w'))
  case atStart => exact ⟨(0), (by first | rfl | (simp; done) | (simp [*]; done)), H', ⟨Nat.le_refl _⟩, ⟨by repeat (first | (with_reducible first | exact HB.out | apply below_alloc | apply pw_below_drewN | apply below_drew1) | exact HB.out)⟩⟩
  case round =>
    clear H'
    obtain ⟨x7_1, rfl, HA, HK1, HB⟩ := hrel
    cases gk with
    | zero => exact absurd HA.out (by simp [block_Right.l0])
    | succ k1 =>
      have H := HA.out
      clear HA
      simp only [block_Right.l0] at H
      by_cases c2 : x7_1 < (l0.length : Int)
      · rw [if_pos c2] at H
        have c2b0 : decide (x7_1 < (l0.length : Int)) = true := decide_eq_true c2
        clear c2
        by_cases c3 : 0 ≤ x7_1
        · rw [if_pos c3] at H
          have c3b0 : decide (0 ≤ x7_1) = true := decide_eq_true c3
          clear c3
          by_cases c4 : x7_1 < (l0.length : Int)
          · rw [if_pos c4] at H
            have c4b0 : decide (x7_1 < (l0.length : Int)) = true := decide_eq_true c4
            clear c4
            replace H := Option.bind_eq_some_iff.mp H
            obtain ⟨t125, A50, H⟩ := H
            replace H : (if t125 = true then (if x7_1 > 0 then (if 0 ≤ (wrap64 (x7_1 - 1)) then (if (wrap64 (x7_1 - 1)) < (l0.length : Int) then ((ikey_Compare.f k1 ((rd_T29 l0 (wrap64 (x7_1 - 1))).f0) ((rd_T29 l0 (wrap64 (x7_1 - 1))).f1) ((rd_T29 l0 (wrap64 (x7_1 - 1))).f2) ((rd_T29 l0 (wrap64 (x7_1 - 1))).f3) ((rd_T29 l0 x7_1).f0) ((rd_T29 l0 x7_1).f1) ((rd_T29 l0 x7_1).f2) ((rd_T29 l0 x7_1).f3)).bind fun t127 => (if t127 ≥ 0 then (some false) else (block_Right.l0 k1 l0 l0 (l0.length : Int) (wrap64 (x7_1 + 1))))) else (none)) else (none)) else (block_Right.l0 k1 l0 l0 (l0.length : Int) (wrap64 (x7_1 + 1)))) else (some false)) = some r := H
            have A5 := Aside0.mk A50
            clear A50
            by_cases c6 : t125 = true
            · subst c6
              have H1 : (if x7_1 > 0 then (if 0 ≤ (wrap64 (x7_1 - 1)) then (if (wrap64 (x7_1 - 1)) < (l0.length : Int) then ((ikey_Compare.f k1 ((rd_T29 l0 (wrap64 (x7_1 - 1))).f0) ((rd_T29 l0 (wrap64 (x7_1 - 1))).f1) ((rd_T29 l0 (wrap64 (x7_1 - 1))).f2) ((rd_T29 l0 (wrap64 (x7_1 - 1))).f3) ((rd_T29 l0 x7_1).f0) ((rd_T29 l0 x7_1).f1) ((rd_T29 l0 x7_1).f2) ((rd_T29 l0 x7_1).f3)).bind fun t127 => (if t127 ≥ 0 then (some false) else (block_Right.l0 k1 l0 l0 (l0.length : Int) (wrap64 (x7_1 + 1))))) else (none)) else (none)) else (block_Right.l0 k1 l0 l0 (l0.length : Int) (wrap64 (x7_1 + 1)))) = some r := by rw [if_pos rfl] at H; exact H
              clear H
              have H := H1
              clear H1
              by_cases c7 : x7_1 > 0
              · rw [if_pos c7] at H
                have c7b0 : decide (0 < x7_1) = true := decide_eq_true c7
                clear c7
                obtain ⟨ji8, hji8⟩ : ∃ j_ : Int, (wrap64 (x7_1 - 1)) = j_ := ⟨_, rfl⟩
                replace H : (if 0 ≤ (ji8) then (if (ji8) < (l0.length : Int) then ((ikey_Compare.f k1 ((rd_T29 l0 (ji8)).f0) ((rd_T29 l0 (ji8)).f1) ((rd_T29 l0 (ji8)).f2) ((rd_T29 l0 (ji8)).f3) ((rd_T29 l0 x7_1).f0) ((rd_T29 l0 x7_1).f1) ((rd_T29 l0 x7_1).f2) ((rd_T29 l0 x7_1).f3)).bind fun t127 => (if t127 ≥ 0 then (some false) else (block_Right.l0 k1 l0 l0 (l0.length : Int) (wrap64 (x7_1 + 1))))) else (none)) else (none)) = some r := by first | (rw [hji8] at H; exact H) | (simp only [hji8] at H ⊢; exact H)
                (try rw [hji8] at A5)
                have hji8w : (IntKind.i64.wrap (x7_1 - 1)) = ji8 := (i64_w _).trans hji8
                by_cases c9 : 0 ≤ (ji8)
                · rw [if_pos c9] at H
                  have c9b0 : decide (0 ≤ (ji8)) = true := decide_eq_true c9
                  clear c9
                  by_cases c10 : (ji8) < (l0.length : Int)
                  · rw [if_pos c10] at H
                    have c10b0 : decide ((ji8) < (l0.length : Int)) = true := decide_eq_true c10
                    clear c10
                    replace H := Option.bind_eq_some_iff.mp H
                    obtain ⟨t127, A110, H⟩ := H
                    replace H : (if t127 ≥ 0 then (some false) else (block_Right.l0 k1 l0 l0 (l0.length : Int) (wrap64 (x7_1 + 1)))) = some r := H
                    have A11 := Aside0.mk A110
                    clear A110
                    by_cases c12 : t127 ≥ 0
                    · rw [if_pos c12] at H
                      have c12b0 : decide (0 ≤ t127) = true := decide_eq_true c12
                      clear c12
                      obtain rfl := Option.some.inj H
                      have p123 : 0 ≤ (x7_1 : Int) := of_decide_eq_true (by first | (with_reducible assumption) | assumption)
                      have q123 : x7_1 < (l0.length : Int) := of_decide_eq_true (by first | (with_reducible assumption) | assumption)
                      obtain ⟨ad123, e123, hx123_0, hx123_1, hx123_2, hx123_3⟩ := at_T29 HR0.out x7_1 p123 q123
                      cases e123
                      replace hx123_0 := (HB.out.cell (World.block_lt_of_cell? w _ hx123_0)).trans hx123_0
                      replace hx123_1 := (HB.out.cell (World.block_lt_of_cell? w _ hx123_1)).trans hx123_1
                      replace hx123_2 := (HB.out.cell (World.block_lt_of_cell? w _ hx123_2)).trans hx123_2
                      replace hx123_3 := (HB.out.cell (World.block_lt_of_cell? w _ hx123_3)).trans hx123_3
                      replace p123 := eq_true p123
                      replace q123 := eq_true q123
                      try go_wp2_with (first | ((with_reducible refine gate_dst (N := 4) rfl ?_); refine box_event ?hg (N := 4) ?hd (cs := #[.string (⟨#[]⟩ : ByteArray), .int .u64 0, .int .i64 0, .string (⟨#[]⟩ : ByteArray)]) (t := 29) ?hr ?_; (case hd => rfl); (case hg => rfl); (case hr => first | (go_simp; done) | (go_simp; rfl)); intro gb124 hg w13 hbox hb; have n0_ := Aside0.mk (below_step (by repeat (first | (with_reducible first | exact HB.out | apply below_alloc | apply pw_below_drewN | apply below_drew1) | exact HB.out)) hb); have n1_ := Aside0.mk (hbox); have n2_ := Aside0.mk ((by rw [hg]; exact (below_size (by repeat (first | (with_reducible first | exact HB.out | apply below_alloc | apply pw_below_drewN | apply below_drew1) | exact HB.out))) : w.heap.size ≤ gb124)); have n3_ := Aside0.mk ((by rw [hg]; exact (below_size (by repeat (first | (with_reducible first | exact HB.out | apply below_alloc | apply pw_below_drewN | apply below_drew1) | exact HB.out))) : w.heap.size ≤ gb124)); clear HB; have HB := n0_; have BK124 := n1_; have GW124 := n2_; have GE124 := n3_; clear n0_ n1_ n2_ n3_; clear hb hbox hg; have hcz14_0 : w13.cell? ⟨gb124, 0, none⟩ = some (.string (⟨#[]⟩ : ByteArray)) := (blk_cell BK124.out 0).trans rfl; have hcz14_1 : w13.cell? ⟨gb124, 1, none⟩ = some (.int .u64 0) := (blk_cell BK124.out 1).trans rfl; have hcz14_2 : w13.cell? ⟨gb124, 2, none⟩ = some (.int .i64 0) := (blk_cell BK124.out 2).trans rfl; have hcz14_3 : w13.cell? ⟨gb124, 3, none⟩ = some (.string (⟨#[]⟩ : ByteArray)) := (blk_cell BK124.out 3).trans rfl; have hfz14_0 := blk_frozen BK124.out 0; have hfz14_1 := blk_frozen BK124.out 1; have hfz14_2 := blk_frozen BK124.out 2; have hfz14_3 := blk_frozen BK124.out 3))
                      have n0_ : Aside0 (((((w13.setCell ⟨gb124, 0, none⟩ (.string ((rd_T29 l0 x7_1).f0))).setCell ⟨gb124, 1, none⟩ (.int .u64 ((rd_T29 l0 x7_1).f1))).setCell ⟨gb124, 2, none⟩ (.int .i64 ((rd_T29 l0 x7_1).f2))).setCell ⟨gb124, 3, none⟩ (.string ((rd_T29 l0 x7_1).f3))).heap[gb124]? = some (.cells #[.string ((rd_T29 l0 x7_1).f0), .int .u64 ((rd_T29 l0 x7_1).f1), .int .i64 ((rd_T29 l0 x7_1).f2), .string ((rd_T29 l0 x7_1).f3)] 29 (0, 0))) := ⟨by (with_reducible repeat (first | refine blk_drewN ?_ _ | refine blk_drew ?_ | refine blk_alloc ?_ _)); refine blk_put (cs := #[.string ((rd_T29 l0 x7_1).f0), .int .u64 ((rd_T29 l0 x7_1).f1), .int .i64 ((rd_T29 l0 x7_1).f2), .string (⟨#[]⟩ : ByteArray)]) ?_ 3 _ rfl; (with_reducible repeat (first | refine blk_drewN ?_ _ | refine blk_drew ?_ | refine blk_alloc ?_ _)); refine blk_put (cs := #[.string ((rd_T29 l0 x7_1).f0), .int .u64 ((rd_T29 l0 x7_1).f1), .int .i64 0, .string (⟨#[]⟩ : ByteArray)]) ?_ 2 _ rfl; (with_reducible repeat (first | refine blk_drewN ?_ _ | refine blk_drew ?_ | refine blk_alloc ?_ _)); refine blk_put (cs := #[.string ((rd_T29 l0 x7_1).f0), .int .u64 0, .int .i64 0, .string (⟨#[]⟩ : ByteArray)]) ?_ 1 _ rfl; (with_reducible repeat (first | refine blk_drewN ?_ _ | refine blk_drew ?_ | refine blk_alloc ?_ _)); refine blk_put (cs := #[.string (⟨#[]⟩ : ByteArray), .int .u64 0, .int .i64 0, .string (⟨#[]⟩ : ByteArray)]) ?_ 0 _ rfl; (with_reducible repeat (first | refine blk_drewN ?_ _ | refine blk_drew ?_ | refine blk_alloc ?_ _)); exact BK124.out⟩
                      have n1_ : Aside0 (Below w.heap.size w ((((w13.setCell ⟨gb124, 0, none⟩ (.string ((rd_T29 l0 x7_1).f0))).setCell ⟨gb124, 1, none⟩ (.int .u64 ((rd_T29 l0 x7_1).f1))).setCell ⟨gb124, 2, none⟩ (.int .i64 ((rd_T29 l0 x7_1).f2))).setCell ⟨gb124, 3, none⟩ (.string ((rd_T29 l0 x7_1).f3)))) := ⟨by repeat (first | (with_reducible first | exact HB.out | apply below_alloc | apply pw_below_drewN | apply below_drew1 | refine below_set ?_ GE124.out) | exact HB.out)⟩
                      (try clear BK124)
                      (try clear HB)
                      generalize ((((w13.setCell ⟨gb124, 0, none⟩ (.string ((rd_T29 l0 x7_1).f0))).setCell ⟨gb124, 1, none⟩ (.int .u64 ((rd_T29 l0 x7_1).f1))).setCell ⟨gb124, 2, none⟩ (.int .i64 ((rd_T29 l0 x7_1).f2))).setCell ⟨gb124, 3, none⟩ (.string ((rd_T29 l0 x7_1).f3))) = w15 at n0_ n1_ ⊢
                      have BK124 := n0_
                      have HB := n1_
                      clear n0_ n1_
                      have n0_ := Aside0.mk (blk_drew BK124.out)
                      have n1_ := Aside0.mk (below_drew1 HB.out)
                      clear BK124
                      clear HB
                      have BK124 := n0_
                      have HB := n1_
                      clear n0_ n1_
                      have p126 : 0 ≤ ((ji8) : Int) := of_decide_eq_true (by first | (with_reducible assumption) | assumption)
                      have q126 : (ji8) < (l0.length : Int) := of_decide_eq_true (by first | (with_reducible assumption) | assumption)
                      obtain ⟨ad126, e126, hx126_0, hx126_1, hx126_2, hx126_3⟩ := at_T29 HR0.out (ji8) p126 q126
                      have hw126_3 := hx126_3
                      have hw126_2 := hx126_2
                      have hw126_1 := hx126_1
                      have hw126_0 := hx126_0
                      obtain rfl : ad123 = ad126 := (by injection e126)
                      replace hx126_0 := (HB.out.cell (World.block_lt_of_cell? w _ hx126_0)).trans hx126_0
                      replace hx126_1 := (HB.out.cell (World.block_lt_of_cell? w _ hx126_1)).trans hx126_1
                      replace hx126_2 := (HB.out.cell (World.block_lt_of_cell? w _ hx126_2)).trans hx126_2
                      replace hx126_3 := (HB.out.cell (World.block_lt_of_cell? w _ hx126_3)).trans hx126_3
                      replace p126 := eq_true p126
                      replace q126 := eq_true q126
                      refine start_ (n := 17) (S := fun w' => w'.cell? ⟨gb124, 0, none⟩ = some (.string ((rd_T29 l0 x7_1).f0)) ∧ w'.cell? ⟨gb124, 1, none⟩ = some (.int .u64 ((rd_T29 l0 x7_1).f1)) ∧ w'.cell? ⟨gb124, 2, none⟩ = some (.int .i64 ((rd_T29 l0 x7_1).f2)) ∧ w'.cell? ⟨gb124, 3, none⟩ = some (.string ((rd_T29 l0 x7_1).f3)) ∧ w'.cell? (ad123.add (((ji8)).toNat * 4)) = some (.string ((rd_T29 l0 (ji8)).f0)) ∧ w'.cell? ⟨(ad123.add (((ji8)).toNat * 4)).block, (ad123.add (((ji8)).toNat * 4)).off + 1, none⟩ = some (.int .u64 ((rd_T29 l0 (ji8)).f1)) ∧ w'.cell? ⟨(ad123.add (((ji8)).toNat * 4)).block, (ad123.add (((ji8)).toNat * 4)).off + 2, none⟩ = some (.int .i64 ((rd_T29 l0 (ji8)).f2)) ∧ w'.cell? ⟨(ad123.add (((ji8)).toNat * 4)).block, (ad123.add (((ji8)).toNat * 4)).off + 3, none⟩ = some (.string ((rd_T29 l0 (ji8)).f3))) (ds := []) #[false, false, false, false, false, false, false, false, false, false, false, false, false, false, false, false, false] (by kernel_rfl) rfl rfl ⟨(blk_cell BK124.out 0).trans rfl, (blk_cell BK124.out 1).trans rfl, (blk_cell BK124.out 2).trans rfl, (blk_cell BK124.out 3).trans rfl, ((HB.out.cell (World.block_lt_of_cell? w _ hw126_0)).trans hw126_0), ((HB.out.cell (World.block_lt_of_cell? w _ hw126_1)).trans hw126_1), ((HB.out.cell (World.block_lt_of_cell? w _ hw126_2)).trans hw126_2), ((HB.out.cell (World.block_lt_of_cell? w _ hw126_3)).trans hw126_3)⟩ (fun hHeld => ?_); refine with_tabW block_Right.tab4 block_Right.bits4 (fun HT_ HW_ => ?_)
                      generalize w15.drew = w16 at BK124 HB hx126_0 hx126_1 hx126_2 hx126_3 hHeld ⊢
                      refine take_ (i := 0) (N := some 12) (v := ?_) (a' := ?_) #[true, false, false, false, false, false, false, false, false, false, false, false, false, false, false, false, false] rfl rfl (take_ofW HT_.out HW_.out (by kernel_rfl)) (fun _ _ _ h => h) (Or.inl ⟨by rfl, ?_⟩) hHeld ?_ ?_
                      rotate_left
                      · rintro w' ⟨s0, s1, s2, s3, s4, s5, s6, s7⟩
                        go_simp
                        with_reducible rfl
                      rotate_left
                      · simp only [Act.put, List.setIfInBounds_toArray, List.set_cons_zero, List.set_cons_succ, i64_w, i32_w]
                        rfl
                      refine one_ (i := 1) (N := some 13) #[true, true, false, false, false, false, false, false, false, false, false, false, false, false, false, false, false] rfl rfl (one_of HT_.out (by kernel_rfl)) (by decide) (fun K hK => ?_)
                      refine goes_ Try.func61 (by kernel_rfl) rfl #[.agg #[.string ((rd_T29 l0 x7_1).f0), .int .u64 ((rd_T29 l0 x7_1).f1), .int .i64 ((rd_T29 l0 x7_1).f2), .string ((rd_T29 l0 x7_1).f3)]] (by rfl) rfl rfl (by (try simp only [List.map_toArray, List.map_cons, List.map_nil]); first | done | rfl | (simp only [List.length_drop, List.length_take]; rfl)) ?_
                      with_reducible refine (ikey_Valid.calls k1 ((rd_T29 l0 x7_1).f0) ((rd_T29 l0 x7_1).f1) ((rd_T29 l0 x7_1).f2) ((rd_T29 l0 x7_1).f3) true _ A5.out).mono ?_
                      rintro e w17 ⟨rfl, hb⟩
                      refine ⟨_, rfl, ?_⟩
                      have n0_ := Aside0.mk (blk_below (g := gb124) (o := .cells #[.string ((rd_T29 l0 x7_1).f0), .int .u64 ((rd_T29 l0 x7_1).f1), .int .i64 ((rd_T29 l0 x7_1).f2), .string ((rd_T29 l0 x7_1).f3)] 29 (0, 0)) (by (with_reducible repeat (first | refine blk_drewN ?_ _ | refine blk_drew ?_ | refine blk_alloc ?_ _)); exact BK124.out) hb)
                      have n1_ := Aside0.mk (below_step (by repeat (first | (with_reducible first | exact HB.out | apply below_alloc | apply pw_below_drewN | apply below_drew1 | refine below_set ?_ GE124.out) | exact HB.out)) hb)
                      clear BK124
                      clear HB
                      have BK124 := n0_
                      have HB := n1_
                      clear n0_ n1_
                      (try clear hb)
                      (try clear hb2)
                      (try clear hk)
                      (try clear hi)
                      refine hK.out _ _ ⟨(blk_cell BK124.out 0).trans rfl, (blk_cell BK124.out 1).trans rfl, (blk_cell BK124.out 2).trans rfl, (blk_cell BK124.out 3).trans rfl, ((HB.out.cell (World.block_lt_of_cell? w _ hw126_0)).trans hw126_0), ((HB.out.cell (World.block_lt_of_cell? w _ hw126_1)).trans hw126_1), ((HB.out.cell (World.block_lt_of_cell? w _ hw126_2)).trans hw126_2), ((HB.out.cell (World.block_lt_of_cell? w _ hw126_3)).trans hw126_3)⟩ (fun hHeld => ?_)
                      clear hK K
                      refine norm_ (a' := ?_) ?_ ?_
                      rotate_left
                      · show Act.put _ (some 13) _ = _
                        simp only [Act.put, List.setIfInBounds_toArray, List.set_cons_zero, List.set_cons_succ, i64_w, i32_w]
                        rfl
                      refine pure_ (i := 2) (N := some 14) (v := ?_) (a' := ?_) #[true, true, true, false, false, false, false, false, false, false, false, false, false, false, false, false, false] rfl rfl (any_of HT_.out (by kernel_rfl)) (fun _ _ _ h => h) (Or.inl ⟨by rfl, ?_⟩) ?_ ?_
                      rotate_left
                      · intro w'
                        go_simp
                        with_reducible rfl
                      rotate_left
                      · simp only [Act.put, List.setIfInBounds_toArray, List.set_cons_zero, List.set_cons_succ, i64_w, i32_w]
                        rfl
                      refine pure_ (i := 3) (N := some 15) (v := ?_) (a' := ?_) #[true, true, true, true, false, false, false, false, false, false, false, false, false, false, false, false, false] rfl rfl (any_of HT_.out (by kernel_rfl)) (fun _ _ _ h => h) (Or.inl ⟨by rfl, ?_⟩) ?_ ?_
                      rotate_left
                      · intro w'
                        go_simp
                        with_reducible rfl
                      rotate_left
                      · simp only [Act.put, List.setIfInBounds_toArray, List.set_cons_zero, List.set_cons_succ, i64_w, i32_w]
                        rfl
                      refine pure_ (i := 4) (N := some 16) (v := ?_) (a' := ?_) #[true, true, true, true, true, false, false, false, false, false, false, false, false, false, false, false, false] rfl rfl (any_of HT_.out (by kernel_rfl)) (fun _ _ _ h => h) (Or.inl ⟨by rfl, ?_⟩) ?_ ?_
                      rotate_left
                      · intro w'
                        go_simp
                        with_reducible rfl
                      rotate_left
                      · simp only [Act.put, List.setIfInBounds_toArray, List.set_cons_zero, List.set_cons_succ, i64_w, i32_w]
                        rfl
                      refine pure_ (i := 5) (N := some 17) (v := ?_) (a' := ?_) #[true, true, true, true, true, true, false, false, false, false, false, false, false, false, false, false, false] rfl rfl (any_of HT_.out (by kernel_rfl)) (fun _ _ _ h => h) (Or.inl ⟨by rfl, ?_⟩) ?_ ?_
                      rotate_left
                      · intro w'
                        go_simp
                        with_reducible rfl
                      rotate_left
                      · simp only [Act.put, List.setIfInBounds_toArray, List.set_cons_zero, List.set_cons_succ, i64_w, i32_w]
                        rfl
                      refine pure_ (i := 6) (N := some 18) (v := ?_) (a' := ?_) #[true, true, true, true, true, true, true, false, false, false, false, false, false, false, false, false, false] rfl rfl (any_of HT_.out (by kernel_rfl)) (fun _ _ _ h => h) (Or.inl ⟨by rfl, ?_⟩) ?_ ?_
                      rotate_left
                      · intro w'
                        go_simp
                        with_reducible rfl
                      rotate_left
                      · simp only [Act.put, List.setIfInBounds_toArray, List.set_cons_zero, List.set_cons_succ, i64_w, i32_w]
                        rfl
                      refine pure_ (i := 7) (N := some 19) (v := ?_) (a' := ?_) #[true, true, true, true, true, true, true, true, false, false, false, false, false, false, false, false, false] rfl rfl (any_of HT_.out (by kernel_rfl)) (fun _ _ _ h => h) (Or.inl ⟨by rfl, ?_⟩) ?_ ?_
                      rotate_left
                      · intro w'
                        go_simp
                        with_reducible rfl
                      rotate_left
                      · simp only [Act.put, List.setIfInBounds_toArray, List.set_cons_zero, List.set_cons_succ, i64_w, i32_w]
                        rfl
                      refine pure_ (i := 8) (N := some 20) (v := ?_) (a' := ?_) #[true, true, true, true, true, true, true, true, true, false, false, false, false, false, false, false, false] rfl rfl (any_of HT_.out (by kernel_rfl)) (fun _ _ _ h => h) (Or.inl ⟨by rfl, ?_⟩) ?_ ?_
                      rotate_left
                      · intro w'
                        go_simp
                        with_reducible rfl
                      rotate_left
                      · simp only [Act.put, List.setIfInBounds_toArray, List.set_cons_zero, List.set_cons_succ, i64_w, i32_w]
                        rfl
                      refine pure_ (i := 9) (N := some 21) (v := ?_) (a' := ?_) #[true, true, true, true, true, true, true, true, true, true, false, false, false, false, false, false, false] rfl rfl (any_of HT_.out (by kernel_rfl)) (fun _ _ _ h => h) (Or.inl ⟨by rfl, ?_⟩) ?_ ?_
                      rotate_left
                      · intro w'
                        go_simp
                        with_reducible rfl
                      rotate_left
                      · simp only [Act.put, List.setIfInBounds_toArray, List.set_cons_zero, List.set_cons_succ, i64_w, i32_w]
                        rfl
                      refine pure_ (i := 10) (N := some 22) (v := ?_) (a' := ?_) #[true, true, true, true, true, true, true, true, true, true, true, false, false, false, false, false, false] rfl rfl (any_of HT_.out (by kernel_rfl)) (fun _ _ _ h => h) (Or.inl ⟨by rfl, ?_⟩) ?_ ?_
                      rotate_left
                      · intro w'
                        go_simp
                        with_reducible rfl
                      rotate_left
                      · simp only [Act.put, List.setIfInBounds_toArray, List.set_cons_zero, List.set_cons_succ, i64_w, i32_w]
                        rfl
                      refine take_ (i := 11) (N := some 23) (v := ?_) (a' := ?_) #[true, true, true, true, true, true, true, true, true, true, true, true, false, false, false, false, false] rfl rfl (take_ofW HT_.out HW_.out (by kernel_rfl)) (fun _ _ _ h => h) (Or.inl ⟨by rfl, ?_⟩) hHeld ?_ ?_
                      rotate_left
                      · rintro w' ⟨s0, s1, s2, s3, s4, s5, s6, s7⟩
                        go_simp
                        with_reducible rfl
                      rotate_left
                      · simp only [Act.put, List.setIfInBounds_toArray, List.set_cons_zero, List.set_cons_succ, i64_w, i32_w]
                        rfl
                      refine take_ (i := 12) (N := some 24) (v := ?_) (a' := ?_) #[true, true, true, true, true, true, true, true, true, true, true, true, true, false, false, false, false] rfl rfl (take_ofW HT_.out HW_.out (by kernel_rfl)) (fun _ _ _ h => h) (Or.inl ⟨by rfl, ?_⟩) hHeld ?_ ?_
                      rotate_left
                      · rintro w' ⟨s0, s1, s2, s3, s4, s5, s6, s7⟩
                        go_simp
                        with_reducible rfl
                      rotate_left
                      · simp only [Act.put, List.setIfInBounds_toArray, List.set_cons_zero, List.set_cons_succ, i64_w, i32_w]
                        rfl
                      refine one_ (i := 13) (N := some 25) #[true, true, true, true, true, true, true, true, true, true, true, true, true, true, false, false, false] rfl rfl (one_of HT_.out (by kernel_rfl)) (by decide) (fun K hK => ?_)
                      refine goes_ Try.func64 (by kernel_rfl) rfl #[.agg #[.string ((rd_T29 l0 (ji8)).f0), .int .u64 ((rd_T29 l0 (ji8)).f1), .int .i64 ((rd_T29 l0 (ji8)).f2), .string ((rd_T29 l0 (ji8)).f3)], .agg #[.string ((rd_T29 l0 x7_1).f0), .int .u64 ((rd_T29 l0 x7_1).f1), .int .i64 ((rd_T29 l0 x7_1).f2), .string ((rd_T29 l0 x7_1).f3)]] (by rfl) rfl rfl (by (try simp only [List.map_toArray, List.map_cons, List.map_nil]); first | done | (simp only [hji8]; rfl) | rfl | (simp only [List.length_drop, List.length_take]; rfl)) ?_
                      with_reducible refine (ikey_Compare.calls k1 ((rd_T29 l0 (ji8)).f0) ((rd_T29 l0 (ji8)).f1) ((rd_T29 l0 (ji8)).f2) ((rd_T29 l0 (ji8)).f3) ((rd_T29 l0 x7_1).f0) ((rd_T29 l0 x7_1).f1) ((rd_T29 l0 x7_1).f2) ((rd_T29 l0 x7_1).f3) t127 _ A11.out).mono ?_
                      rintro e w18 ⟨rfl, hb⟩
                      refine ⟨_, rfl, ?_⟩
                      have n0_ := Aside0.mk (blk_below (g := gb124) (o := .cells #[.string ((rd_T29 l0 x7_1).f0), .int .u64 ((rd_T29 l0 x7_1).f1), .int .i64 ((rd_T29 l0 x7_1).f2), .string ((rd_T29 l0 x7_1).f3)] 29 (0, 0)) (by (with_reducible repeat (first | refine blk_drewN ?_ _ | refine blk_drew ?_ | refine blk_alloc ?_ _)); exact BK124.out) hb)
                      have n1_ := Aside0.mk (below_step (by repeat (first | (with_reducible first | exact HB.out | apply below_alloc | apply pw_below_drewN | apply below_drew1 | refine below_set ?_ GE124.out) | exact HB.out)) hb)
                      clear BK124
                      clear HB
                      have BK124 := n0_
                      have HB := n1_
                      clear n0_ n1_
                      (try clear hb)
                      (try clear hb2)
                      (try clear hk)
                      (try clear hi)
                      refine hK.out _ _ ⟨(blk_cell BK124.out 0).trans rfl, (blk_cell BK124.out 1).trans rfl, (blk_cell BK124.out 2).trans rfl, (blk_cell BK124.out 3).trans rfl, ((HB.out.cell (World.block_lt_of_cell? w _ hw126_0)).trans hw126_0), ((HB.out.cell (World.block_lt_of_cell? w _ hw126_1)).trans hw126_1), ((HB.out.cell (World.block_lt_of_cell? w _ hw126_2)).trans hw126_2), ((HB.out.cell (World.block_lt_of_cell? w _ hw126_3)).trans hw126_3)⟩ (fun hHeld => ?_)
                      clear hK K
                      refine norm_ (a' := ?_) ?_ ?_
                      rotate_left
                      · show Act.put _ (some 25) _ = _
                        simp only [Act.put, List.setIfInBounds_toArray, List.set_cons_zero, List.set_cons_succ, i64_w, i32_w]
                        rfl
                      refine pure_ (i := 14) (N := some 26) (v := ?_) (a' := ?_) #[true, true, true, true, true, true, true, true, true, true, true, true, true, true, true, false, false] rfl rfl (any_of HT_.out (by kernel_rfl)) (fun _ _ _ h => h) (Or.inl ⟨by rfl, ?_⟩) ?_ ?_
                      rotate_left
                      · intro w'
                        go_simp
                        with_reducible rfl
                      rotate_left
                      · simp only [Act.put, List.setIfInBounds_toArray, List.set_cons_zero, List.set_cons_succ, i64_w, i32_w]
                        rfl
                      refine pure_ (i := 15) (N := some 27) (v := ?_) (a' := ?_) #[true, true, true, true, true, true, true, true, true, true, true, true, true, true, true, true, false] rfl rfl (any_of HT_.out (by kernel_rfl)) (fun _ _ _ h => h) (Or.inl ⟨by rfl, ?_⟩) ?_ ?_
                      rotate_left
                      · intro w'
                        go_simp
                        with_reducible rfl
                      rotate_left
                      · simp only [Act.put, List.setIfInBounds_toArray, List.set_cons_zero, List.set_cons_succ, i64_w, i32_w]
                        rfl
                      refine pure_ (i := 16) (N := some 28) (v := ?_) (a' := ?_) #[true, true, true, true, true, true, true, true, true, true, true, true, true, true, true, true, true] rfl rfl (any_of HT_.out (by kernel_rfl)) (fun _ _ _ h => h) (Or.inl ⟨by rfl, ?_⟩) ?_ ?_
                      rotate_left
                      · intro w'
                        go_simp
                        with_reducible rfl
                      rotate_left
                      · simp only [Act.put, List.setIfInBounds_toArray, List.set_cons_zero, List.set_cons_succ, i64_w, i32_w]
                        rfl
                      refine done_ (done_of HT_.out (by kernel_rfl)) ?_
                      try go_wp2
                      go_ret
                      exact ⟨by first | rfl | (simp [errW_none, errW_some] <;> rfl) | (simp only [← hji8]; first | rfl | (simp [errW_none, errW_some] <;> rfl)) | (simp [*, errW_none, errW_some] <;> rfl), by repeat (first | (with_reducible first | exact HB.out | apply below_alloc | apply pw_below_drewN | apply below_drew1 | refine below_set ?_ GE124.out) | exact HB.out)⟩
                    · rw [if_neg c12] at H
                      have c12b0 : decide (0 ≤ t127) = false := decide_eq_false c12
                      clear c12
                      have H' := Aside0.mk H
                      clear H
                      have p123 : 0 ≤ (x7_1 : Int) := of_decide_eq_true (by first | (with_reducible assumption) | assumption)
                      have q123 : x7_1 < (l0.length : Int) := of_decide_eq_true (by first | (with_reducible assumption) | assumption)
                      obtain ⟨ad123, e123, hx123_0, hx123_1, hx123_2, hx123_3⟩ := at_T29 HR0.out x7_1 p123 q123
                      cases e123
                      replace hx123_0 := (HB.out.cell (World.block_lt_of_cell? w _ hx123_0)).trans hx123_0
                      replace hx123_1 := (HB.out.cell (World.block_lt_of_cell? w _ hx123_1)).trans hx123_1
                      replace hx123_2 := (HB.out.cell (World.block_lt_of_cell? w _ hx123_2)).trans hx123_2
                      replace hx123_3 := (HB.out.cell (World.block_lt_of_cell? w _ hx123_3)).trans hx123_3
                      replace p123 := eq_true p123
                      replace q123 := eq_true q123
                      try go_wp2_with (first | ((with_reducible refine gate_dst (N := 4) rfl ?_); refine box_event ?hg (N := 4) ?hd (cs := #[.string (⟨#[]⟩ : ByteArray), .int .u64 0, .int .i64 0, .string (⟨#[]⟩ : ByteArray)]) (t := 29) ?hr ?_; (case hd => rfl); (case hg => rfl); (case hr => first | (go_simp; done) | (go_simp; rfl)); intro gb124 hg w19 hbox hb; have n0_ := Aside0.mk (below_step (by repeat (first | (with_reducible first | exact HB.out | apply below_alloc | apply pw_below_drewN | apply below_drew1) | exact HB.out)) hb); have n1_ := Aside0.mk (hbox); have n2_ := Aside0.mk ((by rw [hg]; exact (below_size (by repeat (first | (with_reducible first | exact HB.out | apply below_alloc | apply pw_below_drewN | apply below_drew1) | exact HB.out))) : w.heap.size ≤ gb124)); have n3_ := Aside0.mk ((by rw [hg]; exact (below_size (by repeat (first | (with_reducible first | exact HB.out | apply below_alloc | apply pw_below_drewN | apply below_drew1) | exact HB.out))) : w.heap.size ≤ gb124)); clear HB; have HB := n0_; have BK124 := n1_; have GW124 := n2_; have GE124 := n3_; clear n0_ n1_ n2_ n3_; clear hb hbox hg; have hcz20_0 : w19.cell? ⟨gb124, 0, none⟩ = some (.string (⟨#[]⟩ : ByteArray)) := (blk_cell BK124.out 0).trans rfl; have hcz20_1 : w19.cell? ⟨gb124, 1, none⟩ = some (.int .u64 0) := (blk_cell BK124.out 1).trans rfl; have hcz20_2 : w19.cell? ⟨gb124, 2, none⟩ = some (.int .i64 0) := (blk_cell BK124.out 2).trans rfl; have hcz20_3 : w19.cell? ⟨gb124, 3, none⟩ = some (.string (⟨#[]⟩ : ByteArray)) := (blk_cell BK124.out 3).trans rfl; have hfz20_0 := blk_frozen BK124.out 0; have hfz20_1 := blk_frozen BK124.out 1; have hfz20_2 := blk_frozen BK124.out 2; have hfz20_3 := blk_frozen BK124.out 3))
                      have n0_ : Aside0 (((((w19.setCell ⟨gb124, 0, none⟩ (.string ((rd_T29 l0 x7_1).f0))).setCell ⟨gb124, 1, none⟩ (.int .u64 ((rd_T29 l0 x7_1).f1))).setCell ⟨gb124, 2, none⟩ (.int .i64 ((rd_T29 l0 x7_1).f2))).setCell ⟨gb124, 3, none⟩ (.string ((rd_T29 l0 x7_1).f3))).heap[gb124]? = some (.cells #[.string ((rd_T29 l0 x7_1).f0), .int .u64 ((rd_T29 l0 x7_1).f1), .int .i64 ((rd_T29 l0 x7_1).f2), .string ((rd_T29 l0 x7_1).f3)] 29 (0, 0))) := ⟨by (with_reducible repeat (first | refine blk_drewN ?_ _ | refine blk_drew ?_ | refine blk_alloc ?_ _)); refine blk_put (cs := #[.string ((rd_T29 l0 x7_1).f0), .int .u64 ((rd_T29 l0 x7_1).f1), .int .i64 ((rd_T29 l0 x7_1).f2), .string (⟨#[]⟩ : ByteArray)]) ?_ 3 _ rfl; (with_reducible repeat (first | refine blk_drewN ?_ _ | refine blk_drew ?_ | refine blk_alloc ?_ _)); refine blk_put (cs := #[.string ((rd_T29 l0 x7_1).f0), .int .u64 ((rd_T29 l0 x7_1).f1), .int .i64 0, .string (⟨#[]⟩ : ByteArray)]) ?_ 2 _ rfl; (with_reducible repeat (first | refine blk_drewN ?_ _ | refine blk_drew ?_ | refine blk_alloc ?_ _)); refine blk_put (cs := #[.string ((rd_T29 l0 x7_1).f0), .int .u64 0, .int .i64 0, .string (⟨#[]⟩ : ByteArray)]) ?_ 1 _ rfl; (with_reducible repeat (first | refine blk_drewN ?_ _ | refine blk_drew ?_ | refine blk_alloc ?_ _)); refine blk_put (cs := #[.string (⟨#[]⟩ : ByteArray), .int .u64 0, .int .i64 0, .string (⟨#[]⟩ : ByteArray)]) ?_ 0 _ rfl; (with_reducible repeat (first | refine blk_drewN ?_ _ | refine blk_drew ?_ | refine blk_alloc ?_ _)); exact BK124.out⟩
                      have n1_ : Aside0 (Below w.heap.size w ((((w19.setCell ⟨gb124, 0, none⟩ (.string ((rd_T29 l0 x7_1).f0))).setCell ⟨gb124, 1, none⟩ (.int .u64 ((rd_T29 l0 x7_1).f1))).setCell ⟨gb124, 2, none⟩ (.int .i64 ((rd_T29 l0 x7_1).f2))).setCell ⟨gb124, 3, none⟩ (.string ((rd_T29 l0 x7_1).f3)))) := ⟨by repeat (first | (with_reducible first | exact HB.out | apply below_alloc | apply pw_below_drewN | apply below_drew1 | refine below_set ?_ GE124.out) | exact HB.out)⟩
                      (try clear BK124)
                      (try clear HB)
                      generalize ((((w19.setCell ⟨gb124, 0, none⟩ (.string ((rd_T29 l0 x7_1).f0))).setCell ⟨gb124, 1, none⟩ (.int .u64 ((rd_T29 l0 x7_1).f1))).setCell ⟨gb124, 2, none⟩ (.int .i64 ((rd_T29 l0 x7_1).f2))).setCell ⟨gb124, 3, none⟩ (.string ((rd_T29 l0 x7_1).f3))) = w21 at n0_ n1_ ⊢
                      have BK124 := n0_
                      have HB := n1_
                      clear n0_ n1_
                      have n0_ := Aside0.mk (blk_drew BK124.out)
                      have n1_ := Aside0.mk (below_drew1 HB.out)
                      clear BK124
                      clear HB
                      have BK124 := n0_
                      have HB := n1_
                      clear n0_ n1_
                      have p126 : 0 ≤ ((ji8) : Int) := of_decide_eq_true (by first | (with_reducible assumption) | assumption)
                      have q126 : (ji8) < (l0.length : Int) := of_decide_eq_true (by first | (with_reducible assumption) | assumption)
                      obtain ⟨ad126, e126, hx126_0, hx126_1, hx126_2, hx126_3⟩ := at_T29 HR0.out (ji8) p126 q126
                      have hw126_3 := hx126_3
                      have hw126_2 := hx126_2
                      have hw126_1 := hx126_1
                      have hw126_0 := hx126_0
                      obtain rfl : ad123 = ad126 := (by injection e126)
                      replace hx126_0 := (HB.out.cell (World.block_lt_of_cell? w _ hx126_0)).trans hx126_0
                      replace hx126_1 := (HB.out.cell (World.block_lt_of_cell? w _ hx126_1)).trans hx126_1
                      replace hx126_2 := (HB.out.cell (World.block_lt_of_cell? w _ hx126_2)).trans hx126_2
                      replace hx126_3 := (HB.out.cell (World.block_lt_of_cell? w _ hx126_3)).trans hx126_3
                      replace p126 := eq_true p126
                      replace q126 := eq_true q126
                      refine start_ (n := 17) (S := fun w' => w'.cell? ⟨gb124, 0, none⟩ = some (.string ((rd_T29 l0 x7_1).f0)) ∧ w'.cell? ⟨gb124, 1, none⟩ = some (.int .u64 ((rd_T29 l0 x7_1).f1)) ∧ w'.cell? ⟨gb124, 2, none⟩ = some (.int .i64 ((rd_T29 l0 x7_1).f2)) ∧ w'.cell? ⟨gb124, 3, none⟩ = some (.string ((rd_T29 l0 x7_1).f3)) ∧ w'.cell? (ad123.add (((ji8)).toNat * 4)) = some (.string ((rd_T29 l0 (ji8)).f0)) ∧ w'.cell? ⟨(ad123.add (((ji8)).toNat * 4)).block, (ad123.add (((ji8)).toNat * 4)).off + 1, none⟩ = some (.int .u64 ((rd_T29 l0 (ji8)).f1)) ∧ w'.cell? ⟨(ad123.add (((ji8)).toNat * 4)).block, (ad123.add (((ji8)).toNat * 4)).off + 2, none⟩ = some (.int .i64 ((rd_T29 l0 (ji8)).f2)) ∧ w'.cell? ⟨(ad123.add (((ji8)).toNat * 4)).block, (ad123.add (((ji8)).toNat * 4)).off + 3, none⟩ = some (.string ((rd_T29 l0 (ji8)).f3))) (ds := []) #[false, false, false, false, false, false, false, false, false, false, false, false, false, false, false, false, false] (by kernel_rfl) rfl rfl ⟨(blk_cell BK124.out 0).trans rfl, (blk_cell BK124.out 1).trans rfl, (blk_cell BK124.out 2).trans rfl, (blk_cell BK124.out 3).trans rfl, ((HB.out.cell (World.block_lt_of_cell? w _ hw126_0)).trans hw126_0), ((HB.out.cell (World.block_lt_of_cell? w _ hw126_1)).trans hw126_1), ((HB.out.cell (World.block_lt_of_cell? w _ hw126_2)).trans hw126_2), ((HB.out.cell (World.block_lt_of_cell? w _ hw126_3)).trans hw126_3)⟩ (fun hHeld => ?_); refine with_tabW block_Right.tab4 block_Right.bits4 (fun HT_ HW_ => ?_)
                      generalize w21.drew = w22 at BK124 HB hx126_0 hx126_1 hx126_2 hx126_3 hHeld ⊢
                      refine take_ (i := 0) (N := some 12) (v := ?_) (a' := ?_) #[true, false, false, false, false, false, false, false, false, false, false, false, false, false, false, false, false] rfl rfl (take_ofW HT_.out HW_.out (by kernel_rfl)) (fun _ _ _ h => h) (Or.inl ⟨by rfl, ?_⟩) hHeld ?_ ?_
                      rotate_left
                      · rintro w' ⟨s0, s1, s2, s3, s4, s5, s6, s7⟩
                        go_simp
                        with_reducible rfl
                      rotate_left
                      · simp only [Act.put, List.setIfInBounds_toArray, List.set_cons_zero, List.set_cons_succ, i64_w, i32_w]
                        rfl
                      refine one_ (i := 1) (N := some 13) #[true, true, false, false, false, false, false, false, false, false, false, false, false, false, false, false, false] rfl rfl (one_of HT_.out (by kernel_rfl)) (by decide) (fun K hK => ?_)
                      refine goes_ Try.func61 (by kernel_rfl) rfl #[.agg #[.string ((rd_T29 l0 x7_1).f0), .int .u64 ((rd_T29 l0 x7_1).f1), .int .i64 ((rd_T29 l0 x7_1).f2), .string ((rd_T29 l0 x7_1).f3)]] (by rfl) rfl rfl (by (try simp only [List.map_toArray, List.map_cons, List.map_nil]); first | done | rfl | (simp only [List.length_drop, List.length_take]; rfl)) ?_
                      with_reducible refine (ikey_Valid.calls k1 ((rd_T29 l0 x7_1).f0) ((rd_T29 l0 x7_1).f1) ((rd_T29 l0 x7_1).f2) ((rd_T29 l0 x7_1).f3) true _ A5.out).mono ?_
                      rintro e w23 ⟨rfl, hb⟩
                      refine ⟨_, rfl, ?_⟩
                      have n0_ := Aside0.mk (blk_below (g := gb124) (o := .cells #[.string ((rd_T29 l0 x7_1).f0), .int .u64 ((rd_T29 l0 x7_1).f1), .int .i64 ((rd_T29 l0 x7_1).f2), .string ((rd_T29 l0 x7_1).f3)] 29 (0, 0)) (by (with_reducible repeat (first | refine blk_drewN ?_ _ | refine blk_drew ?_ | refine blk_alloc ?_ _)); exact BK124.out) hb)
                      have n1_ := Aside0.mk (below_step (by repeat (first | (with_reducible first | exact HB.out | apply below_alloc | apply pw_below_drewN | apply below_drew1 | refine below_set ?_ GE124.out) | exact HB.out)) hb)
                      clear BK124
                      clear HB
                      have BK124 := n0_
                      have HB := n1_
                      clear n0_ n1_
                      (try clear hb)
                      (try clear hb2)
                      (try clear hk)
                      (try clear hi)
                      refine hK.out _ _ ⟨(blk_cell BK124.out 0).trans rfl, (blk_cell BK124.out 1).trans rfl, (blk_cell BK124.out 2).trans rfl, (blk_cell BK124.out 3).trans rfl, ((HB.out.cell (World.block_lt_of_cell? w _ hw126_0)).trans hw126_0), ((HB.out.cell (World.block_lt_of_cell? w _ hw126_1)).trans hw126_1), ((HB.out.cell (World.block_lt_of_cell? w _ hw126_2)).trans hw126_2), ((HB.out.cell (World.block_lt_of_cell? w _ hw126_3)).trans hw126_3)⟩ (fun hHeld => ?_)
                      clear hK K
                      refine norm_ (a' := ?_) ?_ ?_
                      rotate_left
                      · show Act.put _ (some 13) _ = _
                        simp only [Act.put, List.setIfInBounds_toArray, List.set_cons_zero, List.set_cons_succ, i64_w, i32_w]
                        rfl
                      refine pure_ (i := 2) (N := some 14) (v := ?_) (a' := ?_) #[true, true, true, false, false, false, false, false, false, false, false, false, false, false, false, false, false] rfl rfl (any_of HT_.out (by kernel_rfl)) (fun _ _ _ h => h) (Or.inl ⟨by rfl, ?_⟩) ?_ ?_
                      rotate_left
                      · intro w'
                        go_simp
                        with_reducible rfl
                      rotate_left
                      · simp only [Act.put, List.setIfInBounds_toArray, List.set_cons_zero, List.set_cons_succ, i64_w, i32_w]
                        rfl
                      refine pure_ (i := 3) (N := some 15) (v := ?_) (a' := ?_) #[true, true, true, true, false, false, false, false, false, false, false, false, false, false, false, false, false] rfl rfl (any_of HT_.out (by kernel_rfl)) (fun _ _ _ h => h) (Or.inl ⟨by rfl, ?_⟩) ?_ ?_
                      rotate_left
                      · intro w'
                        go_simp
                        with_reducible rfl
                      rotate_left
                      · simp only [Act.put, List.setIfInBounds_toArray, List.set_cons_zero, List.set_cons_succ, i64_w, i32_w]
                        rfl
                      refine pure_ (i := 4) (N := some 16) (v := ?_) (a' := ?_) #[true, true, true, true, true, false, false, false, false, false, false, false, false, false, false, false, false] rfl rfl (any_of HT_.out (by kernel_rfl)) (fun _ _ _ h => h) (Or.inl ⟨by rfl, ?_⟩) ?_ ?_
                      rotate_left
                      · intro w'
                        go_simp
                        with_reducible rfl
                      rotate_left
                      · simp only [Act.put, List.setIfInBounds_toArray, List.set_cons_zero, List.set_cons_succ, i64_w, i32_w]
                        rfl
                      refine pure_ (i := 5) (N := some 17) (v := ?_) (a' := ?_) #[true, true, true, true, true, true, false, false, false, false, false, false, false, false, false, false, false] rfl rfl (any_of HT_.out (by kernel_rfl)) (fun _ _ _ h => h) (Or.inl ⟨by rfl, ?_⟩) ?_ ?_
                      rotate_left
                      · intro w'
                        go_simp
                        with_reducible rfl
                      rotate_left
                      · simp only [Act.put, List.setIfInBounds_toArray, List.set_cons_zero, List.set_cons_succ, i64_w, i32_w]
                        rfl
                      refine pure_ (i := 6) (N := some 18) (v := ?_) (a' := ?_) #[true, true, true, true, true, true, true, false, false, false, false, false, false, false, false, false, false] rfl rfl (any_of HT_.out (by kernel_rfl)) (fun _ _ _ h => h) (Or.inl ⟨by rfl, ?_⟩) ?_ ?_
                      rotate_left
                      · intro w'
                        go_simp
                        with_reducible rfl
                      rotate_left
                      · simp only [Act.put, List.setIfInBounds_toArray, List.set_cons_zero, List.set_cons_succ, i64_w, i32_w]
                        rfl
                      refine pure_ (i := 7) (N := some 19) (v := ?_) (a' := ?_) #[true, true, true, true, true, true, true, true, false, false, false, false, false, false, false, false, false] rfl rfl (any_of HT_.out (by kernel_rfl)) (fun _ _ _ h => h) (Or.inl ⟨by rfl, ?_⟩) ?_ ?_
                      rotate_left
                      · intro w'
                        go_simp
                        with_reducible rfl
                      rotate_left
                      · simp only [Act.put, List.setIfInBounds_toArray, List.set_cons_zero, List.set_cons_succ, i64_w, i32_w]
                        rfl
                      refine pure_ (i := 8) (N := some 20) (v := ?_) (a' := ?_) #[true, true, true, true, true, true, true, true, true, false, false, false, false, false, false, false, false] rfl rfl (any_of HT_.out (by kernel_rfl)) (fun _ _ _ h => h) (Or.inl ⟨by rfl, ?_⟩) ?_ ?_
                      rotate_left
                      · intro w'
                        go_simp
                        with_reducible rfl
                      rotate_left
                      · simp only [Act.put, List.setIfInBounds_toArray, List.set_cons_zero, List.set_cons_succ, i64_w, i32_w]
                        rfl
                      refine pure_ (i := 9) (N := some 21) (v := ?_) (a' := ?_) #[true, true, true, true, true, true, true, true, true, true, false, false, false, false, false, false, false] rfl rfl (any_of HT_.out (by kernel_rfl)) (fun _ _ _ h => h) (Or.inl ⟨by rfl, ?_⟩) ?_ ?_
                      rotate_left
                      · intro w'
                        go_simp
                        with_reducible rfl
                      rotate_left
                      · simp only [Act.put, List.setIfInBounds_toArray, List.set_cons_zero, List.set_cons_succ, i64_w, i32_w]
                        rfl
                      refine pure_ (i := 10) (N := some 22) (v := ?_) (a' := ?_) #[true, true, true, true, true, true, true, true, true, true, true, false, false, false, false, false, false] rfl rfl (any_of HT_.out (by kernel_rfl)) (fun _ _ _ h => h) (Or.inl ⟨by rfl, ?_⟩) ?_ ?_
                      rotate_left
                      · intro w'
                        go_simp
                        with_reducible rfl
                      rotate_left
                      · simp only [Act.put, List.setIfInBounds_toArray, List.set_cons_zero, List.set_cons_succ, i64_w, i32_w]
                        rfl
                      refine take_ (i := 11) (N := some 23) (v := ?_) (a' := ?_) #[true, true, true, true, true, true, true, true, true, true, true, true, false, false, false, false, false] rfl rfl (take_ofW HT_.out HW_.out (by kernel_rfl)) (fun _ _ _ h => h) (Or.inl ⟨by rfl, ?_⟩) hHeld ?_ ?_
                      rotate_left
                      · rintro w' ⟨s0, s1, s2, s3, s4, s5, s6, s7⟩
                        go_simp
                        with_reducible rfl
                      rotate_left
                      · simp only [Act.put, List.setIfInBounds_toArray, List.set_cons_zero, List.set_cons_succ, i64_w, i32_w]
                        rfl
                      refine take_ (i := 12) (N := some 24) (v := ?_) (a' := ?_) #[true, true, true, true, true, true, true, true, true, true, true, true, true, false, false, false, false] rfl rfl (take_ofW HT_.out HW_.out (by kernel_rfl)) (fun _ _ _ h => h) (Or.inl ⟨by rfl, ?_⟩) hHeld ?_ ?_
                      rotate_left
                      · rintro w' ⟨s0, s1, s2, s3, s4, s5, s6, s7⟩
                        go_simp
                        with_reducible rfl
                      rotate_left
                      · simp only [Act.put, List.setIfInBounds_toArray, List.set_cons_zero, List.set_cons_succ, i64_w, i32_w]
                        rfl
                      refine one_ (i := 13) (N := some 25) #[true, true, true, true, true, true, true, true, true, true, true, true, true, true, false, false, false] rfl rfl (one_of HT_.out (by kernel_rfl)) (by decide) (fun K hK => ?_)
                      refine goes_ Try.func64 (by kernel_rfl) rfl #[.agg #[.string ((rd_T29 l0 (ji8)).f0), .int .u64 ((rd_T29 l0 (ji8)).f1), .int .i64 ((rd_T29 l0 (ji8)).f2), .string ((rd_T29 l0 (ji8)).f3)], .agg #[.string ((rd_T29 l0 x7_1).f0), .int .u64 ((rd_T29 l0 x7_1).f1), .int .i64 ((rd_T29 l0 x7_1).f2), .string ((rd_T29 l0 x7_1).f3)]] (by rfl) rfl rfl (by (try simp only [List.map_toArray, List.map_cons, List.map_nil]); first | done | (simp only [hji8]; rfl) | rfl | (simp only [List.length_drop, List.length_take]; rfl)) ?_
                      with_reducible refine (ikey_Compare.calls k1 ((rd_T29 l0 (ji8)).f0) ((rd_T29 l0 (ji8)).f1) ((rd_T29 l0 (ji8)).f2) ((rd_T29 l0 (ji8)).f3) ((rd_T29 l0 x7_1).f0) ((rd_T29 l0 x7_1).f1) ((rd_T29 l0 x7_1).f2) ((rd_T29 l0 x7_1).f3) t127 _ A11.out).mono ?_
                      rintro e w24 ⟨rfl, hb⟩
                      refine ⟨_, rfl, ?_⟩
                      have n0_ := Aside0.mk (blk_below (g := gb124) (o := .cells #[.string ((rd_T29 l0 x7_1).f0), .int .u64 ((rd_T29 l0 x7_1).f1), .int .i64 ((rd_T29 l0 x7_1).f2), .string ((rd_T29 l0 x7_1).f3)] 29 (0, 0)) (by (with_reducible repeat (first | refine blk_drewN ?_ _ | refine blk_drew ?_ | refine blk_alloc ?_ _)); exact BK124.out) hb)
                      have n1_ := Aside0.mk (below_step (by repeat (first | (with_reducible first | exact HB.out | apply below_alloc | apply pw_below_drewN | apply below_drew1 | refine below_set ?_ GE124.out) | exact HB.out)) hb)
                      clear BK124
                      clear HB
                      have BK124 := n0_
                      have HB := n1_
                      clear n0_ n1_
                      (try clear hb)
                      (try clear hb2)
                      (try clear hk)
                      (try clear hi)
                      refine hK.out _ _ ⟨(blk_cell BK124.out 0).trans rfl, (blk_cell BK124.out 1).trans rfl, (blk_cell BK124.out 2).trans rfl, (blk_cell BK124.out 3).trans rfl, ((HB.out.cell (World.block_lt_of_cell? w _ hw126_0)).trans hw126_0), ((HB.out.cell (World.block_lt_of_cell? w _ hw126_1)).trans hw126_1), ((HB.out.cell (World.block_lt_of_cell? w _ hw126_2)).trans hw126_2), ((HB.out.cell (World.block_lt_of_cell? w _ hw126_3)).trans hw126_3)⟩ (fun hHeld => ?_)
                      clear hK K
                      refine norm_ (a' := ?_) ?_ ?_
                      rotate_left
                      · show Act.put _ (some 25) _ = _
                        simp only [Act.put, List.setIfInBounds_toArray, List.set_cons_zero, List.set_cons_succ, i64_w, i32_w]
                        rfl
                      refine pure_ (i := 14) (N := some 26) (v := ?_) (a' := ?_) #[true, true, true, true, true, true, true, true, true, true, true, true, true, true, true, false, false] rfl rfl (any_of HT_.out (by kernel_rfl)) (fun _ _ _ h => h) (Or.inl ⟨by rfl, ?_⟩) ?_ ?_
                      rotate_left
                      · intro w'
                        go_simp
                        with_reducible rfl
                      rotate_left
                      · simp only [Act.put, List.setIfInBounds_toArray, List.set_cons_zero, List.set_cons_succ, i64_w, i32_w]
                        rfl
                      refine pure_ (i := 15) (N := some 27) (v := ?_) (a' := ?_) #[true, true, true, true, true, true, true, true, true, true, true, true, true, true, true, true, false] rfl rfl (any_of HT_.out (by kernel_rfl)) (fun _ _ _ h => h) (Or.inl ⟨by rfl, ?_⟩) ?_ ?_
                      rotate_left
                      · intro w'
                        go_simp
                        with_reducible rfl
                      rotate_left
                      · simp only [Act.put, List.setIfInBounds_toArray, List.set_cons_zero, List.set_cons_succ, i64_w, i32_w]
                        rfl
                      refine pure_ (i := 16) (N := some 28) (v := ?_) (a' := ?_) #[true, true, true, true, true, true, true, true, true, true, true, true, true, true, true, true, true] rfl rfl (any_of HT_.out (by kernel_rfl)) (fun _ _ _ h => h) (Or.inl ⟨by rfl, ?_⟩) ?_ ?_
                      rotate_left
                      · intro w'
                        go_simp
                        with_reducible rfl
                      rotate_left
                      · simp only [Act.put, List.setIfInBounds_toArray, List.set_cons_zero, List.set_cons_succ, i64_w, i32_w]
                        rfl
                      refine done_ (done_of HT_.out (by kernel_rfl)) ?_
                      try go_wp2
                      go_roundg k1
                      case measure => have := HK1.out; omega
                      case rel => exact ⟨(wrap64 (x7_1 + 1)), (by first | rfl | (simp; done) | (simp [*]; done)), H', ⟨by have := HK1.out; omega⟩, ⟨by repeat (first | (with_reducible first | exact HB.out | apply below_alloc | apply pw_below_drewN | apply below_drew1 | refine below_set ?_ GE124.out) | exact HB.out)⟩⟩
                  · rw [if_neg c10] at H
                    exact absurd H (by simp)
                · rw [if_neg c9] at H
                  exact absurd H (by simp)
              · rw [if_neg c7] at H
                have c7b0 : decide (0 < x7_1) = false := decide_eq_false c7
                clear c7
                have H' := Aside0.mk H
                clear H
                have p123 : 0 ≤ (x7_1 : Int) := of_decide_eq_true (by first | (with_reducible assumption) | assumption)
                have q123 : x7_1 < (l0.length : Int) := of_decide_eq_true (by first | (with_reducible assumption) | assumption)
                obtain ⟨ad123, e123, hx123_0, hx123_1, hx123_2, hx123_3⟩ := at_T29 HR0.out x7_1 p123 q123
                cases e123
                replace hx123_0 := (HB.out.cell (World.block_lt_of_cell? w _ hx123_0)).trans hx123_0
                replace hx123_1 := (HB.out.cell (World.block_lt_of_cell? w _ hx123_1)).trans hx123_1
                replace hx123_2 := (HB.out.cell (World.block_lt_of_cell? w _ hx123_2)).trans hx123_2
                replace hx123_3 := (HB.out.cell (World.block_lt_of_cell? w _ hx123_3)).trans hx123_3
                replace p123 := eq_true p123
                replace q123 := eq_true q123
                try go_wp2_with (first | ((with_reducible refine gate_dst (N := 4) rfl ?_); refine box_event ?hg (N := 4) ?hd (cs := #[.string (⟨#[]⟩ : ByteArray), .int .u64 0, .int .i64 0, .string (⟨#[]⟩ : ByteArray)]) (t := 29) ?hr ?_; (case hd => rfl); (case hg => rfl); (case hr => first | (go_simp; done) | (go_simp; rfl)); intro gb124 hg w25 hbox hb; have n0_ := Aside0.mk (below_step (by repeat (first | (with_reducible first | exact HB.out | apply below_alloc | apply pw_below_drewN | apply below_drew1) | exact HB.out)) hb); have n1_ := Aside0.mk (hbox); have n2_ := Aside0.mk ((by rw [hg]; exact (below_size (by repeat (first | (with_reducible first | exact HB.out | apply below_alloc | apply pw_below_drewN | apply below_drew1) | exact HB.out))) : w.heap.size ≤ gb124)); have n3_ := Aside0.mk ((by rw [hg]; exact (below_size (by repeat (first | (with_reducible first | exact HB.out | apply below_alloc | apply pw_below_drewN | apply below_drew1) | exact HB.out))) : w.heap.size ≤ gb124)); clear HB; have HB := n0_; have BK124 := n1_; have GW124 := n2_; have GE124 := n3_; clear n0_ n1_ n2_ n3_; clear hb hbox hg; have hcz26_0 : w25.cell? ⟨gb124, 0, none⟩ = some (.string (⟨#[]⟩ : ByteArray)) := (blk_cell BK124.out 0).trans rfl; have hcz26_1 : w25.cell? ⟨gb124, 1, none⟩ = some (.int .u64 0) := (blk_cell BK124.out 1).trans rfl; have hcz26_2 : w25.cell? ⟨gb124, 2, none⟩ = some (.int .i64 0) := (blk_cell BK124.out 2).trans rfl; have hcz26_3 : w25.cell? ⟨gb124, 3, none⟩ = some (.string (⟨#[]⟩ : ByteArray)) := (blk_cell BK124.out 3).trans rfl; have hfz26_0 := blk_frozen BK124.out 0; have hfz26_1 := blk_frozen BK124.out 1; have hfz26_2 := blk_frozen BK124.out 2; have hfz26_3 := blk_frozen BK124.out 3))
                have n0_ : Aside0 (((((w25.setCell ⟨gb124, 0, none⟩ (.string ((rd_T29 l0 x7_1).f0))).setCell ⟨gb124, 1, none⟩ (.int .u64 ((rd_T29 l0 x7_1).f1))).setCell ⟨gb124, 2, none⟩ (.int .i64 ((rd_T29 l0 x7_1).f2))).setCell ⟨gb124, 3, none⟩ (.string ((rd_T29 l0 x7_1).f3))).heap[gb124]? = some (.cells #[.string ((rd_T29 l0 x7_1).f0), .int .u64 ((rd_T29 l0 x7_1).f1), .int .i64 ((rd_T29 l0 x7_1).f2), .string ((rd_T29 l0 x7_1).f3)] 29 (0, 0))) := ⟨by (with_reducible repeat (first | refine blk_drewN ?_ _ | refine blk_drew ?_ | refine blk_alloc ?_ _)); refine blk_put (cs := #[.string ((rd_T29 l0 x7_1).f0), .int .u64 ((rd_T29 l0 x7_1).f1), .int .i64 ((rd_T29 l0 x7_1).f2), .string (⟨#[]⟩ : ByteArray)]) ?_ 3 _ rfl; (with_reducible repeat (first | refine blk_drewN ?_ _ | refine blk_drew ?_ | refine blk_alloc ?_ _)); refine blk_put (cs := #[.string ((rd_T29 l0 x7_1).f0), .int .u64 ((rd_T29 l0 x7_1).f1), .int .i64 0, .string (⟨#[]⟩ : ByteArray)]) ?_ 2 _ rfl; (with_reducible repeat (first | refine blk_drewN ?_ _ | refine blk_drew ?_ | refine blk_alloc ?_ _)); refine blk_put (cs := #[.string ((rd_T29 l0 x7_1).f0), .int .u64 0, .int .i64 0, .string (⟨#[]⟩ : ByteArray)]) ?_ 1 _ rfl; (with_reducible repeat (first | refine blk_drewN ?_ _ | refine blk_drew ?_ | refine blk_alloc ?_ _)); refine blk_put (cs := #[.string (⟨#[]⟩ : ByteArray), .int .u64 0, .int .i64 0, .string (⟨#[]⟩ : ByteArray)]) ?_ 0 _ rfl; (with_reducible repeat (first | refine blk_drewN ?_ _ | refine blk_drew ?_ | refine blk_alloc ?_ _)); exact BK124.out⟩
                have n1_ : Aside0 (Below w.heap.size w ((((w25.setCell ⟨gb124, 0, none⟩ (.string ((rd_T29 l0 x7_1).f0))).setCell ⟨gb124, 1, none⟩ (.int .u64 ((rd_T29 l0 x7_1).f1))).setCell ⟨gb124, 2, none⟩ (.int .i64 ((rd_T29 l0 x7_1).f2))).setCell ⟨gb124, 3, none⟩ (.string ((rd_T29 l0 x7_1).f3)))) := ⟨by repeat (first | (with_reducible first | exact HB.out | apply below_alloc | apply pw_below_drewN | apply below_drew1 | refine below_set ?_ GE124.out) | exact HB.out)⟩
                (try clear BK124)
                (try clear HB)
                generalize ((((w25.setCell ⟨gb124, 0, none⟩ (.string ((rd_T29 l0 x7_1).f0))).setCell ⟨gb124, 1, none⟩ (.int .u64 ((rd_T29 l0 x7_1).f1))).setCell ⟨gb124, 2, none⟩ (.int .i64 ((rd_T29 l0 x7_1).f2))).setCell ⟨gb124, 3, none⟩ (.string ((rd_T29 l0 x7_1).f3))) = w27 at n0_ n1_ ⊢
                have BK124 := n0_
                have HB := n1_
                clear n0_ n1_
                have n0_ := Aside0.mk (blk_drew BK124.out)
                have n1_ := Aside0.mk (below_drew1 HB.out)
                clear BK124
                clear HB
                have BK124 := n0_
                have HB := n1_
                clear n0_ n1_
                refine start_ (n := 17) (S := fun w' => w'.cell? ⟨gb124, 0, none⟩ = some (.string ((rd_T29 l0 x7_1).f0)) ∧ w'.cell? ⟨gb124, 1, none⟩ = some (.int .u64 ((rd_T29 l0 x7_1).f1)) ∧ w'.cell? ⟨gb124, 2, none⟩ = some (.int .i64 ((rd_T29 l0 x7_1).f2)) ∧ w'.cell? ⟨gb124, 3, none⟩ = some (.string ((rd_T29 l0 x7_1).f3))) (ds := []) #[false, false, false, false, false, false, false, false, false, false, false, false, false, false, false, false, false] (by kernel_rfl) rfl rfl ⟨(blk_cell BK124.out 0).trans rfl, (blk_cell BK124.out 1).trans rfl, (blk_cell BK124.out 2).trans rfl, (blk_cell BK124.out 3).trans rfl⟩ (fun hHeld => ?_); refine with_tabW block_Right.tab4 block_Right.bits4 (fun HT_ HW_ => ?_)
                generalize w27.drew = w28 at BK124 HB hHeld ⊢
                refine take_ (i := 0) (N := some 12) (v := ?_) (a' := ?_) #[true, false, false, false, false, false, false, false, false, false, false, false, false, false, false, false, false] rfl rfl (take_ofW HT_.out HW_.out (by kernel_rfl)) (fun _ _ _ h => h) (Or.inl ⟨by rfl, ?_⟩) hHeld ?_ ?_
                rotate_left
                · rintro w' ⟨s0, s1, s2, s3⟩
                  go_simp
                  with_reducible rfl
                rotate_left
                · simp only [Act.put, List.setIfInBounds_toArray, List.set_cons_zero, List.set_cons_succ, i64_w, i32_w]
                  rfl
                refine one_ (i := 1) (N := some 13) #[true, true, false, false, false, false, false, false, false, false, false, false, false, false, false, false, false] rfl rfl (one_of HT_.out (by kernel_rfl)) (by decide) (fun K hK => ?_)
                refine goes_ Try.func61 (by kernel_rfl) rfl #[.agg #[.string ((rd_T29 l0 x7_1).f0), .int .u64 ((rd_T29 l0 x7_1).f1), .int .i64 ((rd_T29 l0 x7_1).f2), .string ((rd_T29 l0 x7_1).f3)]] (by rfl) rfl rfl (by (try simp only [List.map_toArray, List.map_cons, List.map_nil]); first | done | rfl | (simp only [List.length_drop, List.length_take]; rfl)) ?_
                with_reducible refine (ikey_Valid.calls k1 ((rd_T29 l0 x7_1).f0) ((rd_T29 l0 x7_1).f1) ((rd_T29 l0 x7_1).f2) ((rd_T29 l0 x7_1).f3) true _ A5.out).mono ?_
                rintro e w29 ⟨rfl, hb⟩
                refine ⟨_, rfl, ?_⟩
                have n0_ := Aside0.mk (blk_below (g := gb124) (o := .cells #[.string ((rd_T29 l0 x7_1).f0), .int .u64 ((rd_T29 l0 x7_1).f1), .int .i64 ((rd_T29 l0 x7_1).f2), .string ((rd_T29 l0 x7_1).f3)] 29 (0, 0)) (by (with_reducible repeat (first | refine blk_drewN ?_ _ | refine blk_drew ?_ | refine blk_alloc ?_ _)); exact BK124.out) hb)
                have n1_ := Aside0.mk (below_step (by repeat (first | (with_reducible first | exact HB.out | apply below_alloc | apply pw_below_drewN | apply below_drew1 | refine below_set ?_ GE124.out) | exact HB.out)) hb)
                clear BK124
                clear HB
                have BK124 := n0_
                have HB := n1_
                clear n0_ n1_
                (try clear hb)
                (try clear hb2)
                (try clear hk)
                (try clear hi)
                refine hK.out _ _ ⟨(blk_cell BK124.out 0).trans rfl, (blk_cell BK124.out 1).trans rfl, (blk_cell BK124.out 2).trans rfl, (blk_cell BK124.out 3).trans rfl⟩ (fun hHeld => ?_)
                clear hK K
                refine norm_ (a' := ?_) ?_ ?_
                rotate_left
                · show Act.put _ (some 13) _ = _
                  simp only [Act.put, List.setIfInBounds_toArray, List.set_cons_zero, List.set_cons_succ, i64_w, i32_w]
                  rfl
                refine pure_ (i := 2) (N := some 14) (v := ?_) (a' := ?_) #[true, true, true, false, false, false, false, false, false, false, false, false, false, false, false, false, false] rfl rfl (any_of HT_.out (by kernel_rfl)) (fun _ _ _ h => h) (Or.inl ⟨by rfl, ?_⟩) ?_ ?_
                rotate_left
                · intro w'
                  go_simp
                  with_reducible rfl
                rotate_left
                · simp only [Act.put, List.setIfInBounds_toArray, List.set_cons_zero, List.set_cons_succ, i64_w, i32_w]
                  rfl
                refine pure_ (i := 3) (N := some 15) (v := ?_) (a' := ?_) #[true, true, true, true, false, false, false, false, false, false, false, false, false, false, false, false, false] rfl rfl (any_of HT_.out (by kernel_rfl)) (fun _ _ _ h => h) (Or.inl ⟨by rfl, ?_⟩) ?_ ?_
                rotate_left
                · intro w'
                  go_simp
                  with_reducible rfl
                rotate_left
                · simp only [Act.put, List.setIfInBounds_toArray, List.set_cons_zero, List.set_cons_succ, i64_w, i32_w]
                  rfl
                refine pure_ (i := 4) (N := some 16) (v := ?_) (a' := ?_) #[true, true, true, true, true, false, false, false, false, false, false, false, false, false, false, false, false] rfl rfl (any_of HT_.out (by kernel_rfl)) (fun _ _ _ h => h) (Or.inl ⟨by rfl, ?_⟩) ?_ ?_
                rotate_left
                · intro w'
                  go_simp
                  with_reducible rfl
                rotate_left
                · simp only [Act.put, List.setIfInBounds_toArray, List.set_cons_zero, List.set_cons_succ, i64_w, i32_w]
                  rfl
                refine pure_ (i := 5) (N := some 17) (v := ?_) (a' := ?_) #[true, true, true, true, true, true, false, false, false, false, false, false, false, false, false, false, false] rfl rfl (any_of HT_.out (by kernel_rfl)) (fun _ _ _ h => h) (Or.inl ⟨by rfl, ?_⟩) ?_ ?_
                rotate_left
                · intro w'
                  go_simp
                  with_reducible rfl
                rotate_left
                · simp only [Act.put, List.setIfInBounds_toArray, List.set_cons_zero, List.set_cons_succ, i64_w, i32_w]
                  rfl
                refine pure_ (i := 6) (N := some 18) (v := ?_) (a' := ?_) #[true, true, true, true, true, true, true, false, false, false, false, false, false, false, false, false, false] rfl rfl (any_of HT_.out (by kernel_rfl)) (fun _ _ _ h => h) (Or.inl ⟨by rfl, ?_⟩) ?_ ?_
                rotate_left
                · intro w'
                  go_simp
                  with_reducible rfl
                rotate_left
                · simp only [Act.put, List.setIfInBounds_toArray, List.set_cons_zero, List.set_cons_succ, i64_w, i32_w]
                  rfl
                refine pure_ (i := 7) (N := some 19) (v := undef) (a' := ?_) #[true, true, true, true, true, true, true, true, false, false, false, false, false, false, false, false, false] rfl rfl (any_of HT_.out (by kernel_rfl)) (fun _ _ _ h => h) (Or.inr ⟨by rfl, rfl⟩) ?_ ?_
                rotate_left
                · simp only [Act.put, List.setIfInBounds_toArray, List.set_cons_zero, List.set_cons_succ, i64_w, i32_w]
                  rfl
                refine pure_ (i := 8) (N := some 20) (v := undef) (a' := ?_) #[true, true, true, true, true, true, true, true, true, false, false, false, false, false, false, false, false] rfl rfl (any_of HT_.out (by kernel_rfl)) (fun _ _ _ h => h) (Or.inr ⟨by rfl, rfl⟩) ?_ ?_
                rotate_left
                · simp only [Act.put, List.setIfInBounds_toArray, List.set_cons_zero, List.set_cons_succ, i64_w, i32_w]
                  rfl
                refine pure_ (i := 9) (N := some 21) (v := undef) (a' := ?_) #[true, true, true, true, true, true, true, true, true, true, false, false, false, false, false, false, false] rfl rfl (any_of HT_.out (by kernel_rfl)) (fun _ _ _ h => h) (Or.inr ⟨by rfl, rfl⟩) ?_ ?_
                rotate_left
                · simp only [Act.put, List.setIfInBounds_toArray, List.set_cons_zero, List.set_cons_succ, i64_w, i32_w]
                  rfl
                refine pure_ (i := 10) (N := some 22) (v := undef) (a' := ?_) #[true, true, true, true, true, true, true, true, true, true, true, false, false, false, false, false, false] rfl rfl (any_of HT_.out (by kernel_rfl)) (fun _ _ _ h => h) (Or.inr ⟨by rfl, rfl⟩) ?_ ?_
                rotate_left
                · simp only [Act.put, List.setIfInBounds_toArray, List.set_cons_zero, List.set_cons_succ, i64_w, i32_w]
                  rfl
                refine pure_ (i := 11) (N := some 23) (v := undef) (a' := ?_) #[true, true, true, true, true, true, true, true, true, true, true, true, false, false, false, false, false] rfl rfl (any_of HT_.out (by kernel_rfl)) (fun _ _ _ h => h) (Or.inr ⟨by rfl, rfl⟩) ?_ ?_
                rotate_left
                · simp only [Act.put, List.setIfInBounds_toArray, List.set_cons_zero, List.set_cons_succ, i64_w, i32_w]
                  rfl
                refine pure_ (i := 12) (N := some 24) (v := undef) (a' := ?_) #[true, true, true, true, true, true, true, true, true, true, true, true, true, false, false, false, false] rfl rfl (any_of HT_.out (by kernel_rfl)) (fun _ _ _ h => h) (Or.inr ⟨by rfl, rfl⟩) ?_ ?_
                rotate_left
                · simp only [Act.put, List.setIfInBounds_toArray, List.set_cons_zero, List.set_cons_succ, i64_w, i32_w]
                  rfl
                refine pure_ (i := 13) (N := some 25) (v := undef) (a' := ?_) #[true, true, true, true, true, true, true, true, true, true, true, true, true, true, false, false, false] rfl rfl (any_of HT_.out (by kernel_rfl)) (fun _ _ _ h => h) (Or.inr ⟨by rfl, rfl⟩) ?_ ?_
                rotate_left
                · simp only [Act.put, List.setIfInBounds_toArray, List.set_cons_zero, List.set_cons_succ, i64_w, i32_w]
                  rfl
                refine pure_ (i := 14) (N := some 26) (v := undef) (a' := ?_) #[true, true, true, true, true, true, true, true, true, true, true, true, true, true, true, false, false] rfl rfl (any_of HT_.out (by kernel_rfl)) (fun _ _ _ h => h) (Or.inr ⟨by rfl, rfl⟩) ?_ ?_
                rotate_left
                · simp only [Act.put, List.setIfInBounds_toArray, List.set_cons_zero, List.set_cons_succ, i64_w, i32_w]
                  rfl
                refine pure_ (i := 15) (N := some 27) (v := ?_) (a' := ?_) #[true, true, true, true, true, true, true, true, true, true, true, true, true, true, true, true, false] rfl rfl (any_of HT_.out (by kernel_rfl)) (fun _ _ _ h => h) (Or.inl ⟨by rfl, ?_⟩) ?_ ?_
                rotate_left
                · intro w'
                  go_simp
                  with_reducible rfl
                rotate_left
                · simp only [Act.put, List.setIfInBounds_toArray, List.set_cons_zero, List.set_cons_succ, i64_w, i32_w]
                  rfl
                refine pure_ (i := 16) (N := some 28) (v := ?_) (a' := ?_) #[true, true, true, true, true, true, true, true, true, true, true, true, true, true, true, true, true] rfl rfl (any_of HT_.out (by kernel_rfl)) (fun _ _ _ h => h) (Or.inl ⟨by rfl, ?_⟩) ?_ ?_
                rotate_left
                · intro w'
                  go_simp
                  with_reducible rfl
                rotate_left
                · simp only [Act.put, List.setIfInBounds_toArray, List.set_cons_zero, List.set_cons_succ, i64_w, i32_w]
                  rfl
                refine done_ (done_of HT_.out (by kernel_rfl)) ?_
                try go_wp2
                go_roundg k1
                case measure => have := HK1.out; omega
                case rel => exact ⟨(wrap64 (x7_1 + 1)), (by first | rfl | (simp; done) | (simp [*]; done)), H', ⟨by have := HK1.out; omega⟩, ⟨by repeat (first | (with_reducible first | exact HB.out | apply below_alloc | apply pw_below_drewN | apply below_drew1 | refine below_set ?_ GE124.out) | exact HB.out)⟩⟩
            · replace c6 := Bool.eq_false_iff.mpr c6
              subst c6
              have H1 : (some false) = some r := by rw [if_neg (show ¬ (false = true) by decide)] at H; exact H
              clear H
              have H := H1
              clear H1
              obtain rfl := Option.some.inj H
              have p123 : 0 ≤ (x7_1 : Int) := of_decide_eq_true (by first | (with_reducible assumption) | assumption)
              have q123 : x7_1 < (l0.length : Int) := of_decide_eq_true (by first | (with_reducible assumption) | assumption)
              obtain ⟨ad123, e123, hx123_0, hx123_1, hx123_2, hx123_3⟩ := at_T29 HR0.out x7_1 p123 q123
              cases e123
              replace hx123_0 := (HB.out.cell (World.block_lt_of_cell? w _ hx123_0)).trans hx123_0
              replace hx123_1 := (HB.out.cell (World.block_lt_of_cell? w _ hx123_1)).trans hx123_1
              replace hx123_2 := (HB.out.cell (World.block_lt_of_cell? w _ hx123_2)).trans hx123_2
              replace hx123_3 := (HB.out.cell (World.block_lt_of_cell? w _ hx123_3)).trans hx123_3
              replace p123 := eq_true p123
              replace q123 := eq_true q123
              try go_wp2_with (first | ((with_reducible refine gate_dst (N := 4) rfl ?_); refine box_event ?hg (N := 4) ?hd (cs := #[.string (⟨#[]⟩ : ByteArray), .int .u64 0, .int .i64 0, .string (⟨#[]⟩ : ByteArray)]) (t := 29) ?hr ?_; (case hd => rfl); (case hg => rfl); (case hr => first | (go_simp; done) | (go_simp; rfl)); intro gb124 hg w30 hbox hb; have n0_ := Aside0.mk (below_step (by repeat (first | (with_reducible first | exact HB.out | apply below_alloc | apply pw_below_drewN | apply below_drew1) | exact HB.out)) hb); have n1_ := Aside0.mk (hbox); have n2_ := Aside0.mk ((by rw [hg]; exact (below_size (by repeat (first | (with_reducible first | exact HB.out | apply below_alloc | apply pw_below_drewN | apply below_drew1) | exact HB.out))) : w.heap.size ≤ gb124)); have n3_ := Aside0.mk ((by rw [hg]; exact (below_size (by repeat (first | (with_reducible first | exact HB.out | apply below_alloc | apply pw_below_drewN | apply below_drew1) | exact HB.out))) : w.heap.size ≤ gb124)); clear HB; have HB := n0_; have BK124 := n1_; have GW124 := n2_; have GE124 := n3_; clear n0_ n1_ n2_ n3_; clear hb hbox hg; have hcz31_0 : w30.cell? ⟨gb124, 0, none⟩ = some (.string (⟨#[]⟩ : ByteArray)) := (blk_cell BK124.out 0).trans rfl; have hcz31_1 : w30.cell? ⟨gb124, 1, none⟩ = some (.int .u64 0) := (blk_cell BK124.out 1).trans rfl; have hcz31_2 : w30.cell? ⟨gb124, 2, none⟩ = some (.int .i64 0) := (blk_cell BK124.out 2).trans rfl; have hcz31_3 : w30.cell? ⟨gb124, 3, none⟩ = some (.string (⟨#[]⟩ : ByteArray)) := (blk_cell BK124.out 3).trans rfl; have hfz31_0 := blk_frozen BK124.out 0; have hfz31_1 := blk_frozen BK124.out 1; have hfz31_2 := blk_frozen BK124.out 2; have hfz31_3 := blk_frozen BK124.out 3))
              have n0_ : Aside0 (((((w30.setCell ⟨gb124, 0, none⟩ (.string ((rd_T29 l0 x7_1).f0))).setCell ⟨gb124, 1, none⟩ (.int .u64 ((rd_T29 l0 x7_1).f1))).setCell ⟨gb124, 2, none⟩ (.int .i64 ((rd_T29 l0 x7_1).f2))).setCell ⟨gb124, 3, none⟩ (.string ((rd_T29 l0 x7_1).f3))).heap[gb124]? = some (.cells #[.string ((rd_T29 l0 x7_1).f0), .int .u64 ((rd_T29 l0 x7_1).f1), .int .i64 ((rd_T29 l0 x7_1).f2), .string ((rd_T29 l0 x7_1).f3)] 29 (0, 0))) := ⟨by (with_reducible repeat (first | refine blk_drewN ?_ _ | refine blk_drew ?_ | refine blk_alloc ?_ _)); refine blk_put (cs := #[.string ((rd_T29 l0 x7_1).f0), .int .u64 ((rd_T29 l0 x7_1).f1), .int .i64 ((rd_T29 l0 x7_1).f2), .string (⟨#[]⟩ : ByteArray)]) ?_ 3 _ rfl; (with_reducible repeat (first | refine blk_drewN ?_ _ | refine blk_drew ?_ | refine blk_alloc ?_ _)); refine blk_put (cs := #[.string ((rd_T29 l0 x7_1).f0), .int .u64 ((rd_T29 l0 x7_1).f1), .int .i64 0, .string (⟨#[]⟩ : ByteArray)]) ?_ 2 _ rfl; (with_reducible repeat (first | refine blk_drewN ?_ _ | refine blk_drew ?_ | refine blk_alloc ?_ _)); refine blk_put (cs := #[.string ((rd_T29 l0 x7_1).f0), .int .u64 0, .int .i64 0, .string (⟨#[]⟩ : ByteArray)]) ?_ 1 _ rfl; (with_reducible repeat (first | refine blk_drewN ?_ _ | refine blk_drew ?_ | refine blk_alloc ?_ _)); refine blk_put (cs := #[.string (⟨#[]⟩ : ByteArray), .int .u64 0, .int .i64 0, .string (⟨#[]⟩ : ByteArray)]) ?_ 0 _ rfl; (with_reducible repeat (first | refine blk_drewN ?_ _ | refine blk_drew ?_ | refine blk_alloc ?_ _)); exact BK124.out⟩
              have n1_ : Aside0 (Below w.heap.size w ((((w30.setCell ⟨gb124, 0, none⟩ (.string ((rd_T29 l0 x7_1).f0))).setCell ⟨gb124, 1, none⟩ (.int .u64 ((rd_T29 l0 x7_1).f1))).setCell ⟨gb124, 2, none⟩ (.int .i64 ((rd_T29 l0 x7_1).f2))).setCell ⟨gb124, 3, none⟩ (.string ((rd_T29 l0 x7_1).f3)))) := ⟨by repeat (first | (with_reducible first | exact HB.out | apply below_alloc | apply pw_below_drewN | apply below_drew1 | refine below_set ?_ GE124.out) | exact HB.out)⟩
              (try clear BK124)
              (try clear HB)
              generalize ((((w30.setCell ⟨gb124, 0, none⟩ (.string ((rd_T29 l0 x7_1).f0))).setCell ⟨gb124, 1, none⟩ (.int .u64 ((rd_T29 l0 x7_1).f1))).setCell ⟨gb124, 2, none⟩ (.int .i64 ((rd_T29 l0 x7_1).f2))).setCell ⟨gb124, 3, none⟩ (.string ((rd_T29 l0 x7_1).f3))) = w32 at n0_ n1_ ⊢
              have BK124 := n0_
              have HB := n1_
              clear n0_ n1_
              have n0_ := Aside0.mk (blk_drew BK124.out)
              have n1_ := Aside0.mk (below_drew1 HB.out)
              clear BK124
              clear HB
              have BK124 := n0_
              have HB := n1_
              clear n0_ n1_
              refine start_ (n := 17) (S := fun w' => w'.cell? ⟨gb124, 0, none⟩ = some (.string ((rd_T29 l0 x7_1).f0)) ∧ w'.cell? ⟨gb124, 1, none⟩ = some (.int .u64 ((rd_T29 l0 x7_1).f1)) ∧ w'.cell? ⟨gb124, 2, none⟩ = some (.int .i64 ((rd_T29 l0 x7_1).f2)) ∧ w'.cell? ⟨gb124, 3, none⟩ = some (.string ((rd_T29 l0 x7_1).f3))) (ds := []) #[false, false, false, false, false, false, false, false, false, false, false, false, false, false, false, false, false] (by kernel_rfl) rfl rfl ⟨(blk_cell BK124.out 0).trans rfl, (blk_cell BK124.out 1).trans rfl, (blk_cell BK124.out 2).trans rfl, (blk_cell BK124.out 3).trans rfl⟩ (fun hHeld => ?_); refine with_tabW block_Right.tab4 block_Right.bits4 (fun HT_ HW_ => ?_)
              generalize w32.drew = w33 at BK124 HB hHeld ⊢
              refine take_ (i := 0) (N := some 12) (v := ?_) (a' := ?_) #[true, false, false, false, false, false, false, false, false, false, false, false, false, false, false, false, false] rfl rfl (take_ofW HT_.out HW_.out (by kernel_rfl)) (fun _ _ _ h => h) (Or.inl ⟨by rfl, ?_⟩) hHeld ?_ ?_
              rotate_left
              · rintro w' ⟨s0, s1, s2, s3⟩
                go_simp
                with_reducible rfl
              rotate_left
              · simp only [Act.put, List.setIfInBounds_toArray, List.set_cons_zero, List.set_cons_succ, i64_w, i32_w]
                rfl
              refine one_ (i := 1) (N := some 13) #[true, true, false, false, false, false, false, false, false, false, false, false, false, false, false, false, false] rfl rfl (one_of HT_.out (by kernel_rfl)) (by decide) (fun K hK => ?_)
              refine goes_ Try.func61 (by kernel_rfl) rfl #[.agg #[.string ((rd_T29 l0 x7_1).f0), .int .u64 ((rd_T29 l0 x7_1).f1), .int .i64 ((rd_T29 l0 x7_1).f2), .string ((rd_T29 l0 x7_1).f3)]] (by rfl) rfl rfl (by (try simp only [List.map_toArray, List.map_cons, List.map_nil]); first | done | rfl | (simp only [List.length_drop, List.length_take]; rfl)) ?_
              with_reducible refine (ikey_Valid.calls k1 ((rd_T29 l0 x7_1).f0) ((rd_T29 l0 x7_1).f1) ((rd_T29 l0 x7_1).f2) ((rd_T29 l0 x7_1).f3) false _ A5.out).mono ?_
              rintro e w34 ⟨rfl, hb⟩
              refine ⟨_, rfl, ?_⟩
              have n0_ := Aside0.mk (blk_below (g := gb124) (o := .cells #[.string ((rd_T29 l0 x7_1).f0), .int .u64 ((rd_T29 l0 x7_1).f1), .int .i64 ((rd_T29 l0 x7_1).f2), .string ((rd_T29 l0 x7_1).f3)] 29 (0, 0)) (by (with_reducible repeat (first | refine blk_drewN ?_ _ | refine blk_drew ?_ | refine blk_alloc ?_ _)); exact BK124.out) hb)
              have n1_ := Aside0.mk (below_step (by repeat (first | (with_reducible first | exact HB.out | apply below_alloc | apply pw_below_drewN | apply below_drew1 | refine below_set ?_ GE124.out) | exact HB.out)) hb)
              clear BK124
              clear HB
              have BK124 := n0_
              have HB := n1_
              clear n0_ n1_
              (try clear hb)
              (try clear hb2)
              (try clear hk)
              (try clear hi)
              refine hK.out _ _ ⟨(blk_cell BK124.out 0).trans rfl, (blk_cell BK124.out 1).trans rfl, (blk_cell BK124.out 2).trans rfl, (blk_cell BK124.out 3).trans rfl⟩ (fun hHeld => ?_)
              clear hK K
              refine norm_ (a' := ?_) ?_ ?_
              rotate_left
              · show Act.put _ (some 13) _ = _
                simp only [Act.put, List.setIfInBounds_toArray, List.set_cons_zero, List.set_cons_succ, i64_w, i32_w]
                rfl
              refine pure_ (i := 2) (N := some 14) (v := ?_) (a' := ?_) #[true, true, true, false, false, false, false, false, false, false, false, false, false, false, false, false, false] rfl rfl (any_of HT_.out (by kernel_rfl)) (fun _ _ _ h => h) (Or.inl ⟨by rfl, ?_⟩) ?_ ?_
              rotate_left
              · intro w'
                go_simp
                with_reducible rfl
              rotate_left
              · simp only [Act.put, List.setIfInBounds_toArray, List.set_cons_zero, List.set_cons_succ, i64_w, i32_w]
                rfl
              refine pure_ (i := 3) (N := some 15) (v := ?_) (a' := ?_) #[true, true, true, true, false, false, false, false, false, false, false, false, false, false, false, false, false] rfl rfl (any_of HT_.out (by kernel_rfl)) (fun _ _ _ h => h) (Or.inl ⟨by rfl, ?_⟩) ?_ ?_
              rotate_left
              · intro w'
                go_simp
                with_reducible rfl
              rotate_left
              · simp only [Act.put, List.setIfInBounds_toArray, List.set_cons_zero, List.set_cons_succ, i64_w, i32_w]
                rfl
              refine pure_ (i := 4) (N := some 16) (v := undef) (a' := ?_) #[true, true, true, true, true, false, false, false, false, false, false, false, false, false, false, false, false] rfl rfl (any_of HT_.out (by kernel_rfl)) (fun _ _ _ h => h) (Or.inr ⟨by rfl, rfl⟩) ?_ ?_
              rotate_left
              · simp only [Act.put, List.setIfInBounds_toArray, List.set_cons_zero, List.set_cons_succ, i64_w, i32_w]
                rfl
              refine pure_ (i := 5) (N := some 17) (v := undef) (a' := ?_) #[true, true, true, true, true, true, false, false, false, false, false, false, false, false, false, false, false] rfl rfl (any_of HT_.out (by kernel_rfl)) (fun _ _ _ h => h) (Or.inr ⟨by rfl, rfl⟩) ?_ ?_
              rotate_left
              · simp only [Act.put, List.setIfInBounds_toArray, List.set_cons_zero, List.set_cons_succ, i64_w, i32_w]
                rfl
              refine pure_ (i := 6) (N := some 18) (v := undef) (a' := ?_) #[true, true, true, true, true, true, true, false, false, false, false, false, false, false, false, false, false] rfl rfl (any_of HT_.out (by kernel_rfl)) (fun _ _ _ h => h) (Or.inr ⟨by rfl, rfl⟩) ?_ ?_
              rotate_left
              · simp only [Act.put, List.setIfInBounds_toArray, List.set_cons_zero, List.set_cons_succ, i64_w, i32_w]
                rfl
              refine pure_ (i := 7) (N := some 19) (v := undef) (a' := ?_) #[true, true, true, true, true, true, true, true, false, false, false, false, false, false, false, false, false] rfl rfl (any_of HT_.out (by kernel_rfl)) (fun _ _ _ h => h) (Or.inr ⟨by rfl, rfl⟩) ?_ ?_
              rotate_left
              · simp only [Act.put, List.setIfInBounds_toArray, List.set_cons_zero, List.set_cons_succ, i64_w, i32_w]
                rfl
              refine pure_ (i := 8) (N := some 20) (v := undef) (a' := ?_) #[true, true, true, true, true, true, true, true, true, false, false, false, false, false, false, false, false] rfl rfl (any_of HT_.out (by kernel_rfl)) (fun _ _ _ h => h) (Or.inr ⟨by rfl, rfl⟩) ?_ ?_
              rotate_left
              · simp only [Act.put, List.setIfInBounds_toArray, List.set_cons_zero, List.set_cons_succ, i64_w, i32_w]
                rfl
              refine pure_ (i := 9) (N := some 21) (v := undef) (a' := ?_) #[true, true, true, true, true, true, true, true, true, true, false, false, false, false, false, false, false] rfl rfl (any_of HT_.out (by kernel_rfl)) (fun _ _ _ h => h) (Or.inr ⟨by rfl, rfl⟩) ?_ ?_
              rotate_left
              · simp only [Act.put, List.setIfInBounds_toArray, List.set_cons_zero, List.set_cons_succ, i64_w, i32_w]
                rfl
              refine pure_ (i := 10) (N := some 22) (v := undef) (a' := ?_) #[true, true, true, true, true, true, true, true, true, true, true, false, false, false, false, false, false] rfl rfl (any_of HT_.out (by kernel_rfl)) (fun _ _ _ h => h) (Or.inr ⟨by rfl, rfl⟩) ?_ ?_
              rotate_left
              · simp only [Act.put, List.setIfInBounds_toArray, List.set_cons_zero, List.set_cons_succ, i64_w, i32_w]
                rfl
              refine pure_ (i := 11) (N := some 23) (v := undef) (a' := ?_) #[true, true, true, true, true, true, true, true, true, true, true, true, false, false, false, false, false] rfl rfl (any_of HT_.out (by kernel_rfl)) (fun _ _ _ h => h) (Or.inr ⟨by rfl, rfl⟩) ?_ ?_
              rotate_left
              · simp only [Act.put, List.setIfInBounds_toArray, List.set_cons_zero, List.set_cons_succ, i64_w, i32_w]
                rfl
              refine pure_ (i := 12) (N := some 24) (v := undef) (a' := ?_) #[true, true, true, true, true, true, true, true, true, true, true, true, true, false, false, false, false] rfl rfl (any_of HT_.out (by kernel_rfl)) (fun _ _ _ h => h) (Or.inr ⟨by rfl, rfl⟩) ?_ ?_
              rotate_left
              · simp only [Act.put, List.setIfInBounds_toArray, List.set_cons_zero, List.set_cons_succ, i64_w, i32_w]
                rfl
              refine pure_ (i := 13) (N := some 25) (v := undef) (a' := ?_) #[true, true, true, true, true, true, true, true, true, true, true, true, true, true, false, false, false] rfl rfl (any_of HT_.out (by kernel_rfl)) (fun _ _ _ h => h) (Or.inr ⟨by rfl, rfl⟩) ?_ ?_
              rotate_left
              · simp only [Act.put, List.setIfInBounds_toArray, List.set_cons_zero, List.set_cons_succ, i64_w, i32_w]
                rfl
              refine pure_ (i := 14) (N := some 26) (v := undef) (a' := ?_) #[true, true, true, true, true, true, true, true, true, true, true, true, true, true, true, false, false] rfl rfl (any_of HT_.out (by kernel_rfl)) (fun _ _ _ h => h) (Or.inr ⟨by rfl, rfl⟩) ?_ ?_
              rotate_left
              · simp only [Act.put, List.setIfInBounds_toArray, List.set_cons_zero, List.set_cons_succ, i64_w, i32_w]
                rfl
              refine pure_ (i := 15) (N := some 27) (v := undef) (a' := ?_) #[true, true, true, true, true, true, true, true, true, true, true, true, true, true, true, true, false] rfl rfl (any_of HT_.out (by kernel_rfl)) (fun _ _ _ h => h) (Or.inr ⟨by rfl, rfl⟩) ?_ ?_
              rotate_left
              · simp only [Act.put, List.setIfInBounds_toArray, List.set_cons_zero, List.set_cons_succ, i64_w, i32_w]
                rfl
              refine pure_ (i := 16) (N := some 28) (v := ?_) (a' := ?_) #[true, true, true, true, true, true, true, true, true, true, true, true, true, true, true, true, true] rfl rfl (any_of HT_.out (by kernel_rfl)) (fun _ _ _ h => h) (Or.inl ⟨by rfl, ?_⟩) ?_ ?_
              rotate_left
              · intro w'
                go_simp
                with_reducible rfl
              rotate_left
              · simp only [Act.put, List.setIfInBounds_toArray, List.set_cons_zero, List.set_cons_succ, i64_w, i32_w]
                rfl
              refine done_ (done_of HT_.out (by kernel_rfl)) ?_
              try go_wp2
              go_ret
              exact ⟨by first | rfl | (simp [errW_none, errW_some] <;> rfl) | (simp [*, errW_none, errW_some] <;> rfl), by repeat (first | (with_reducible first | exact HB.out | apply below_alloc | apply pw_below_drewN | apply below_drew1 | refine below_set ?_ GE124.out) | exact HB.out)⟩
          · rw [if_neg c4] at H
            exact absurd H (by simp)
        · rw [if_neg c3] at H
          exact absurd H (by simp)
      · rw [if_neg c2] at H
        have c2b0 : decide (x7_1 < (l0.length : Int)) = false := decide_eq_false c2
        clear c2
        obtain rfl := Option.some.inj H
        go_wp2
        go_ret
        exact ⟨by first | rfl | (simp [errW_none, errW_some] <;> rfl) | (simp [*, errW_none, errW_some] <;> rfl), by repeat (first | (with_reducible first | exact HB.out | apply below_alloc | apply pw_below_drewN | apply below_drew1) | exact HB.out)⟩
end Go.Proofs.Ytchgpcgolgcfdaa.PNum
end
section
namespace Go.Proofs.Ytchgpcgolgcfdaa.Bl2
open Go Go.RowKit Go.Proofs.Ytchgpcgolgcfdaa.PNum Go.Proofs.Ytchgpcgolgcfdaa.BkW Go.Proofs.YtchgpcgolgcfdaaW.PrintWords Go.Proofs.YtchgpcgolgcfdaaW.PrintLast Go.Proofs.YtchgpcgolgcfdaaW.PrintMore
set_option linter.unusedVariables false
set_option linter.unusedSimpArgs false
abbrev E := S29
abbrev rdE := rd_T29
def lim : Nat := 140737488355328
def ahead (k : Nat) (l : List E) (i : Nat) (b r : ByteArray) : Option (Int × ByteArray) :=
  if i % 4 = 0 then (block_four.f k (b.size : Int)).bind fun x => if r.size + x.size ≤ lim then some (0, r ++ x) else none
  else (block_Shared.f k (rdE l ((i : Int) - 1)).f0 (rdE l (i : Int)).f0).bind fun n => if (0 ≤ n ∧ n ≤ ((rdE l (i : Int)).f0.size : Int)) ∧ n ≤ (lim : Int) then some (n, r) else none
def piece (k : Nat) (e : E) (n : Int) : Option ByteArray :=
  (num_Var.f k [n]).bind fun a => (num_Text.f k [e.f0.extract n.toNat e.f0.size]).bind fun c => (num_Var.f k [e.f1, IntKind.u64.wrap e.f2]).bind fun d => (num_Text.f k [e.f3]).bind fun x => if a.size + c.size + d.size + x.size ≤ lim then some (((a ++ c) ++ d) ++ x) else none
def go (k : Nat) (l : List E) : Nat → Nat → ByteArray → ByteArray → Option (ByteArray × ByteArray)
  | 0, _, b, r => some (b, r)
  | n + 1, i, b, r => (ahead k l i b r).bind fun x => (piece k (rdE l (i : Int)) x.1).bind fun p => if b.size + p.size ≤ lim then go k l n (i + 1) (b ++ p) x.2 else none
def putF (k : Nat) (l : List E) : Option (ByteArray × Int) :=
  (block_Right.f k l).bind fun y => if y = true then (if l.length ≤ lim then (go k l l.length 0 ⟨#[]⟩ ⟨#[]⟩).bind fun x => (block_four.f k (((l.length + 3) / 4 : Nat) : Int)).bind fun z => if x.1.size + x.2.size + z.size ≤ lim then (sum_Seal.f k ((x.1 ++ x.2) ++ z)).bind fun s => some (s, 0) else none else none) else some (⟨#[]⟩, 1)
theorem ahead_mono (k : Nat) (l : List E) (i : Nat) (b r : ByteArray) : LeO (ahead k l i b r) (ahead (k + 1) l i b r) :=
  LeO.ite (LeO.bind (block_four.mono _ _) (fun _ => LeO.refl _)) (LeO.bind (block_Shared.mono _ _ _) (fun _ => LeO.refl _))
theorem piece_mono (k : Nat) (e : E) (n : Int) : LeO (piece k e n) (piece (k + 1) e n) :=
  LeO.bind (num_Var.mono _ _) (fun _ => LeO.bind (num_Text.mono _ _) (fun _ => LeO.bind (num_Var.mono _ _) (fun _ => LeO.bind (num_Text.mono _ _) (fun _ => LeO.refl _))))
theorem go_mono (k : Nat) (l : List E) : ∀ n i b r, LeO (go k l n i b r) (go (k + 1) l n i b r)
  | 0, _, _, _ => LeO.refl _
  | n + 1, i, b, r => LeO.bind (ahead_mono k l i b r) (fun x => LeO.bind (piece_mono k _ x.1) (fun p => LeO.ite (go_mono k l n (i + 1) _ _) (LeO.none _)))
theorem putF_mono : ∀ (l : List E) k, LeO (putF k l) (putF (k + 1) l) := fun l k =>
  LeO.bind (block_Right.mono _ _) (fun y => LeO.ite (LeO.ite (LeO.bind (go_mono k l _ _ _ _) (fun x => LeO.bind (block_four.mono _ _) (fun z => LeO.ite (LeO.bind (sum_Seal.mono _ _) (fun s => LeO.refl _)) (LeO.none _)))) (LeO.none _)) (LeO.refl _))
theorem Two.start {w0 w : World} (hb : Below w0.heap.size w0 w) : Two w0 ((w.alloc (.cells #[.pointer none, .slice none 0 0] TB)).alloc (.cells #[.pointer none, .slice none 0 0] TB)) w.heap.size (w.heap.size + 1) ⟨#[]⟩ ⟨#[]⟩ := by
  have h1 := (Bv.new w).lower hb.size
  have h2 := (Bv.new (w.alloc (.cells #[.pointer none, .slice none 0 0] TB))).lower (B' := w0.heap.size) (Nat.le_trans hb.size (Nat.le_of_lt h1.lt))
  have hsz : (w.alloc (.cells #[.pointer none, .slice none 0 0] TB)).heap.size = w.heap.size + 1 := Array.size_push ..
  rw [hsz] at h2
  exact ⟨⟨_, _, h1.below (below_alloc (Below.refl _ _) _), h2, fun k hk => by cases hk⟩, by omega, below_alloc (below_alloc hb _) _⟩
def pt11.T : Bool × List (List Nat × List Nat) := (true, [([], []), ([0], [0]), ([1], [1]), ([2], [2]), ([], []), ([4], [4]), ([], []), ([5, 6], [5, 6]), ([7], [7]), ([8, 3], [8]), ([3, 9], [3, 9]), ([], []), ([11], [11]), ([], []), ([13], [13]), ([14], [14]), ([12, 15], [12, 15]), ([16, 9], [16]), ([10, 17], [10, 17]), ([], []), ([19], [19]), ([20], [20]), ([21, 17], [21]), ([18, 22], [18, 22]), ([23, 22], [23])])
def pt11.B : List Nat := [0, 1, 3, 7, 0, 16, 0, 112, 240, 511, 1023, 0, 2048, 0, 8192, 24576, 63488, 130047, 262143, 0, 524288, 1572864, 3931135, 8388607, 16777215]
theorem pt11.tab : rtab .any (opsOf Try.f22 11) = pt11.T := by kernel_rfl
theorem pt11.bits : waitsOk pt11.T.2 pt11.B = true := by kernel_rfl
def pt10.T : Bool × List (List Nat × List Nat) := (true, [([], []), ([], []), ([1], [1]), ([0, 2], [0, 2]), ([3], [3]), ([4], [4]), ([], []), ([6], [6]), ([5, 7], [5, 7]), ([8, 8, 0, 1, 2, 3, 4, 5, 6, 7, 8], [8])])
def pt10.B : List Nat := [0, 0, 2, 7, 15, 31, 0, 64, 255, 511]
theorem pt10.tab : rtab .any (opsOf Try.f22 10) = pt10.T := by kernel_rfl
theorem pt10.bits : waitsOk pt10.T.2 pt10.B = true := by kernel_rfl
set_option maxHeartbeats 4000000 in
set_option maxRecDepth 100000 in
theorem put_calls (k : Nat) (A0 : Option Addr) (c0 : Nat) (l0 : List E) (r1 : ByteArray) (r2 : Int) (w : World) (hr0 : Kd.C k29 w A0 l0.length l0) (hc0 : l0.length ≤ c0) (h : putF k l0 = some (r1, r2)) :
    Calls Try.prog 22 #[.slice A0 l0.length c0] w fun e w' => e = .returned (.tuple #[.string r1, .int .i64 r2]) ∧ Below w.heap.size w w' := by
  have hlen : l0.length ≤ 9223372036854775807 := hr0.2.1
  have HR0 := Aside0.mk hr0
  have HC0 := Aside0.mk hc0
  unfold putF at h
  obtain ⟨y, hy, h⟩ := Option.bind_eq_some_iff.1 h
  have HY := Aside0.mk hy
  have HB0 := Aside0.mk (Below.refl w.heap.size w)
  clear hr0 hc0 hy
  cases y with
  | false =>
    rw [if_neg (by decide)] at h
    obtain ⟨rfl, rfl⟩ := Prod.mk.inj (Option.some.inj h)
    go_enter Try.func22, Try.ntmps22
    go_wp2_with (go_at_call 40; refine (block_Right.calls k _ _ l0 false _ HR0.out HC0.out HY.out).mono ?_; rintro e w1 ⟨rfl, hb⟩; have HB1 := Aside0.mk hb; clear hb)
    go_ret2
    exact ⟨rfl, HB1.out⟩
  | true =>
    rw [if_pos rfl] at h
    by_cases hL : l0.length ≤ lim
    · rw [if_pos hL] at h
      obtain ⟨⟨x1, x2⟩, hx, h⟩ := Option.bind_eq_some_iff.1 h
      have HX := Aside0.mk hx
      have H := Aside0.mk h
      clear h hx
      go_enter Try.func22, Try.ntmps22
      go_wp2_with (go_at_call 40; refine (block_Right.calls k _ _ l0 true _ HR0.out HC0.out HY.out).mono ?_; rintro e w1 ⟨rfl, hb⟩; have HB1 := Aside0.mk hb; clear hb)
      go_loopw [14] (fun v14 w' => ∃ (i n : Nat) (b r : ByteArray), v14 = .int .i64 i ∧ i + n = l0.length ∧ Aside0 (go k l0 n i b r = some (x1, x2)) ∧ Aside0 (Two w w' w1.heap.size (w1.heap.size + 1) b r)) (fun v14 _ => l0.length - (intOf v14).toNat)
      case atStart => exact ⟨0, l0.length, ⟨#[]⟩, ⟨#[]⟩, rfl, Nat.zero_add _, HX, ⟨Two.start HB1.out⟩⟩
      case round =>
        clear HX
        obtain ⟨i, n, b, r, rfl, hin, HG, HT⟩ := hrel
        cases n with
        | zero =>
          obtain rfl : i = l0.length := by omega
          have hG := HG.out
          simp only [go, Option.some.injEq, Prod.mk.injEq] at hG
          obtain ⟨rfl, rfl⟩ := hG
          clear HG
          have t0 : decide (((l0.length : Nat) : Int) < (l0.length : Int)) = false := decide_eq_false (by omega)
          have hh := H.out
          obtain ⟨z, hz, hh⟩ := Option.bind_eq_some_iff.1 hh
          by_cases hs : b.size + r.size + z.size ≤ lim
          · rw [if_pos hs] at hh
            obtain ⟨s, hs2, hh⟩ := Option.bind_eq_some_iff.1 hh
            obtain ⟨rfl, rfl⟩ := Prod.mk.inj (Option.some.inj hh)
            have HZ := Aside0.mk hz
            have HS := Aside0.mk hs
            have HSe := Aside0.mk hs2
            clear hh hz hs hs2 H
            have hz_ := HS.out
            unfold lim at hz_ hL
            have f1 := eq_true (show b.size + r.size ≤ 9223372036854775807 by omega)
            have f2 : (9223372036854775807 < b.size + r.size) = False := eq_false (by omega)
            have f3 := eq_true (show b.size + r.size + z.size ≤ 9223372036854775807 by omega)
            have f4 : (9223372036854775807 < b.size + r.size + z.size) = False := eq_false (by omega)
            have hw1 : IntKind.i64.wrap ((l0.length : Int) + 4) = (l0.length : Int) + 4 := by rw [IntKind.wrap_i64]; omega
            have hw2 : IntKind.i64.wrap ((l0.length : Int) + 4 - 1) = (l0.length : Int) + 3 := by rw [IntKind.wrap_i64]; omega
            have hq : Int.tdiv ((l0.length : Int) + 3) 4 = (((l0.length + 3) / 4 : Nat) : Int) := by rw [Int.tdiv_eq_ediv_of_nonneg (by omega)]; (try omega)
            (try clear h); (try clear hh); (try clear hz_)
            go_wp2_with (first
              | (go_at_call 47; refine (Two.string HT.out).mono ?_; rintro ee w2 ⟨rfl, ⟨v2, hv2⟩, hb2⟩; have HV2 := Aside0.mk hv2; have HB2 := Aside0.mk hb2; clear hv2 hb2 HT)
              | (go_at_call 47; refine (string_calls _ _ v2 r _ HV2.out).mono ?_; rintro ee w3 ⟨rfl, hb3, _, _⟩; have HB3 := Aside0.mk (Below.trans HB2.out hb3); clear hb3 HV2)
              | (go_at_call 42; refine (block_four.calls k _ z _ HZ.out).mono ?_; rintro ee w4 ⟨rfl, hb4⟩; have HB4 := Aside0.mk (below_step HB3.out hb4); clear hb4 HZ)
              | (go_at_call 46; refine (sum_Seal.calls k _ s _ HSe.out).mono ?_; rintro ee w5 ⟨rfl, hb5⟩; have HB5 := Aside0.mk (below_step HB4.out hb5); clear hb5 HSe))
            go_ret2
            exact ⟨rfl, HB5.out⟩
          · rw [if_neg hs] at hh
            cases hh
        | succ n =>
          have q0 : (i : Int) < (l0.length : Int) := Int.ofNat_lt.mpr (by omega)
          have t0 : decide ((i : Int) < (l0.length : Int)) = true := decide_eq_true q0
          have hG := HG.out
          simp only [go] at hG
          obtain ⟨⟨m, r'⟩, hah, hG⟩ := Option.bind_eq_some_iff.1 hG
          obtain ⟨p, hpc, hG⟩ := Option.bind_eq_some_iff.1 hG
          by_cases hpl : b.size + p.size ≤ lim
          · rw [if_pos hpl] at hG
            have HAH := Aside0.mk hah
            have HPC := Aside0.mk hpc
            have HPL := Aside0.mk hpl
            have HG2 := Aside0.mk hG
            clear HG hG hah hpc hpl
            obtain ⟨ad, e0, hx0, hx1, hx2, hx3⟩ := at_T29 HR0.out (i : Int) (Int.natCast_nonneg _) q0
            cases e0
            have HBr := Aside0.mk HT.out.bel
            replace hx0 := (HBr.out.cell (World.block_lt_of_cell? w _ hx0)).trans hx0
            replace hx1 := (HBr.out.cell (World.block_lt_of_cell? w _ hx1)).trans hx1
            replace hx2 := (HBr.out.cell (World.block_lt_of_cell? w _ hx2)).trans hx2
            replace hx3 := (HBr.out.cell (World.block_lt_of_cell? w _ hx3)).trans hx3
            have HE : Aside0 (rd_T29 l0 (i : Int) = rd_T29 l0 (i : Int)) := ⟨rfl⟩
            generalize hE : rd_T29 l0 (i : Int) = e at hx0 hx1 hx2 hx3 HPC
            replace hE := Aside0.mk hE
            simp only [Int.toNat_natCast] at hx0 hx1 hx2 hx3
            have p0 := eq_true (Int.natCast_nonneg i)
            replace q0 := eq_true q0
            have HBq := Aside0.mk (Below.refl wr.heap.size wr)
            by_cases h4 : i % 4 = 0
            · have t4 : (((i : Int) % 4) == 0) = true := by rw [beq_iff_eq]; omega
              clear HBr HE
              go_wp2_with (first | ((with_reducible refine gate_dst (N := 7) rfl ?_); refine box_event ?hg (N := 7) ?hd (cs := #[.string (⟨#[]⟩ : ByteArray), .int .u64 0, .int .i64 0, .string (⟨#[]⟩ : ByteArray)]) (t := 29) ?hr ?_; (case hd => rfl); (case hg => rfl); (case hr => first | (go_simp; done) | (go_simp; rfl)); intro gb hg w13 hbox hb; have n0_ := Aside0.mk (below_step (by repeat (first | (with_reducible first | exact HBq.out | apply below_alloc | apply pw_below_drewN | apply below_drew1) | exact HBq.out)) hb); have n1_ := Aside0.mk (hbox); have n2_ := Aside0.mk ((by rw [hg]; exact (below_size (by repeat (first | (with_reducible first | exact HBq.out | apply below_alloc | apply pw_below_drewN | apply below_drew1) | exact HBq.out))) : wr.heap.size ≤ gb)); have n3_ := Aside0.mk ((by rw [hg]; exact (below_size (by repeat (first | (with_reducible first | exact HBq.out | apply below_alloc | apply pw_below_drewN | apply below_drew1) | exact HBq.out))) : wr.heap.size ≤ gb)); clear HBq; have HBq := n0_; have BK := n1_; have GW := n2_; have GE := n3_; clear n0_ n1_ n2_ n3_; clear hb hbox hg; have hcz14_0 : w13.cell? ⟨gb, 0, none⟩ = some (.string (⟨#[]⟩ : ByteArray)) := (blk_cell BK.out 0).trans rfl; have hcz14_1 : w13.cell? ⟨gb, 1, none⟩ = some (.int .u64 0) := (blk_cell BK.out 1).trans rfl; have hcz14_2 : w13.cell? ⟨gb, 2, none⟩ = some (.int .i64 0) := (blk_cell BK.out 2).trans rfl; have hcz14_3 : w13.cell? ⟨gb, 3, none⟩ = some (.string (⟨#[]⟩ : ByteArray)) := (blk_cell BK.out 3).trans rfl; have hfz14_0 := blk_frozen BK.out 0; have hfz14_1 := blk_frozen BK.out 1; have hfz14_2 := blk_frozen BK.out 2; have hfz14_3 := blk_frozen BK.out 3))
              have n0_ : Aside0 (((((w13.setCell ⟨gb, 0, none⟩ (.string e.f0)).setCell ⟨gb, 1, none⟩ (.int .u64 e.f1)).setCell ⟨gb, 2, none⟩ (.int .i64 e.f2)).setCell ⟨gb, 3, none⟩ (.string e.f3)).heap[gb]? = some (.cells #[.string e.f0, .int .u64 e.f1, .int .i64 e.f2, .string e.f3] 29 (0, 0))) := ⟨by (with_reducible repeat (first | refine blk_drewN ?_ _ | refine blk_drew ?_ | refine blk_alloc ?_ _)); refine blk_put (cs := #[.string e.f0, .int .u64 e.f1, .int .i64 e.f2, .string (⟨#[]⟩ : ByteArray)]) ?_ 3 _ rfl; (with_reducible repeat (first | refine blk_drewN ?_ _ | refine blk_drew ?_ | refine blk_alloc ?_ _)); refine blk_put (cs := #[.string e.f0, .int .u64 e.f1, .int .i64 0, .string (⟨#[]⟩ : ByteArray)]) ?_ 2 _ rfl; (with_reducible repeat (first | refine blk_drewN ?_ _ | refine blk_drew ?_ | refine blk_alloc ?_ _)); refine blk_put (cs := #[.string e.f0, .int .u64 0, .int .i64 0, .string (⟨#[]⟩ : ByteArray)]) ?_ 1 _ rfl; (with_reducible repeat (first | refine blk_drewN ?_ _ | refine blk_drew ?_ | refine blk_alloc ?_ _)); refine blk_put (cs := #[.string (⟨#[]⟩ : ByteArray), .int .u64 0, .int .i64 0, .string (⟨#[]⟩ : ByteArray)]) ?_ 0 _ rfl; (with_reducible repeat (first | refine blk_drewN ?_ _ | refine blk_drew ?_ | refine blk_alloc ?_ _)); exact BK.out⟩
              have n1_ : Aside0 (Below wr.heap.size wr ((((w13.setCell ⟨gb, 0, none⟩ (.string e.f0)).setCell ⟨gb, 1, none⟩ (.int .u64 e.f1)).setCell ⟨gb, 2, none⟩ (.int .i64 e.f2)).setCell ⟨gb, 3, none⟩ (.string e.f3))) := ⟨by repeat (first | (with_reducible first | exact HBq.out | apply below_alloc | apply pw_below_drewN | apply below_drew1 | refine below_set ?_ GE.out) | exact HBq.out)⟩
              (try clear BK)
              (try clear HBq)
              generalize ((((w13.setCell ⟨gb, 0, none⟩ (.string e.f0)).setCell ⟨gb, 1, none⟩ (.int .u64 e.f1)).setCell ⟨gb, 2, none⟩ (.int .i64 e.f2)).setCell ⟨gb, 3, none⟩ (.string e.f3)) = w15 at n0_ n1_ ⊢
              have BK := n0_
              have HBq := n1_
              clear n0_ n1_
              have hah := HAH.out
              unfold ahead at hah
              rw [if_pos h4] at hah
              obtain ⟨x, hx, hah⟩ := Option.bind_eq_some_iff.1 hah
              by_cases hrl : r.size + x.size ≤ lim
              · rw [if_pos hrl] at hah
                obtain ⟨rfl, rfl⟩ := Prod.mk.inj (Option.some.inj hah)
                have HXF := Aside0.mk hx
                have HRL := Aside0.mk hrl
                have HT2 := Aside0.mk (HT.out.below HBq.out)
                (try clear HAH); (try clear hah); (try clear hx); (try clear hrl); (try clear hG); (try clear HT); (try clear HBq); (try clear hfz14_0); (try clear hfz14_1); (try clear hfz14_2); (try clear hfz14_3); (try clear hcz14_0); (try clear hcz14_1); (try clear hcz14_2); (try clear hcz14_3); (try clear hx0); (try clear hx1); (try clear hx2); (try clear hx3)
                go_wp2_with (first
                  | (go_at_call 43; refine (Two.len HT2.out).mono ?_; rintro ee w16 ⟨rfl, rfl⟩)
                  | (go_at_call 42; refine (block_four.calls k _ x _ HXF.out).mono ?_; rintro ee w17 ⟨rfl, hb17⟩; have HT3 := Aside0.mk (HT2.out.below hb17); have BK3 := Aside0.mk (blk_below BK.out hb17); clear hb17 HT2 BK)
                  | (go_at_call 41; refine (Two.write2 HT3.out.swap x HRL.out).mono ?_; rintro ee w18 ⟨rfl, ht, hfr⟩; have HT4 := Aside0.mk ht.swap; have BK4 := Aside0.mk (hfr _ _ _ _ BK3.out (by decide) (by decide)); clear ht hfr HT3 BK3))
                have hpc := HPC.out
                rw [show rdE l0 (i : Int) = e from hE.out] at hpc
                unfold piece at hpc
                obtain ⟨y1, a1, hpc⟩ := Option.bind_eq_some_iff.1 hpc
                obtain ⟨y2, a2, hpc⟩ := Option.bind_eq_some_iff.1 hpc
                obtain ⟨y3, a3, hpc⟩ := Option.bind_eq_some_iff.1 hpc
                obtain ⟨y4, a4, hpc⟩ := Option.bind_eq_some_iff.1 hpc
                have hsz : y1.size + y2.size + y3.size + y4.size ≤ lim := by
                  by_cases hq : y1.size + y2.size + y3.size + y4.size ≤ lim
                  · exact hq
                  · rw [if_neg hq] at hpc
                    cases hpc
                rw [if_pos hsz] at hpc
                obtain rfl := Option.some.inj hpc
                have A1 := Aside0.mk a1
                have A3 := Aside0.mk a3
                have A4 := Aside0.mk a4
                have HSZ := Aside0.mk hsz
                obtain ⟨kr, hkr⟩ : ∃ kr, e.f0.extract (0 : Int).toNat e.f0.size = kr := ⟨_, rfl⟩
                have A2 : Aside0 (num_Text.f k [kr] = some y2) := ⟨by rw [← hkr]; exact a2⟩
                have HKR := Aside0.mk hkr
                clear hpc a1 a2 a3 a4 hsz hkr HPC
                have HM0 : Aside0 ((0 : Int) ≤ 0) := ⟨by omega⟩
                have HM1 : Aside0 ((0 : Int) ≤ (e.f0.size : Int)) := ⟨Int.natCast_nonneg _⟩
                have HTX := Aside0.mk (HT4.out.below (below_drew (Below.refl _ w18)))
                have BKX := Aside0.mk (blk_drew BK4.out)
                clear HT4 BK4
                generalize hb0 : b = b0_ at *
                refine start_ (n := 25) (S := fun w' => True) (ds := []) #[false, false, false, false, false, false, false, false, false, false, false, false, false, false, false, false, false, false, false, false, false, false, false, false, false] (by kernel_rfl) rfl rfl trivial (fun hHeld => ?_); refine with_tabW pt11.tab pt11.bits (fun HT_ HW_ => ?_)
                generalize w18.drew = wS at *
                refine pure_ (i := 0) (N := some 34) (v := ?_) (a' := ?_) #[true, false, false, false, false, false, false, false, false, false, false, false, false, false, false, false, false, false, false, false, false, false, false, false, false] rfl rfl (any_of HT_.out (by kernel_rfl)) (fun _ _ _ h => h) (Or.inl ⟨by rfl, ?_⟩) ?_ ?_
                rotate_left
                · intro w'
                  go_simp
                  with_reducible rfl
                rotate_left
                · simp only [Act.put, List.setIfInBounds_toArray, List.set_cons_zero, List.set_cons_succ, i64_w, i32_w]
                  rfl
                refine pure_ (i := 1) (N := some 35) (v := ?_) (a' := ?_) #[true, true, false, false, false, false, false, false, false, false, false, false, false, false, false, false, false, false, false, false, false, false, false, false, false] rfl rfl (any_of HT_.out (by kernel_rfl)) (fun _ _ _ h => h) (Or.inl ⟨by rfl, ?_⟩) ?_ ?_
                rotate_left
                · intro w'
                  go_simp
                  with_reducible rfl
                rotate_left
                · simp only [Act.put, List.setIfInBounds_toArray, List.set_cons_zero, List.set_cons_succ, i64_w, i32_w]
                  rfl
                refine pure_ (i := 4) (N := some 38) (v := ?_) (a' := ?_) #[true, true, false, false, true, false, false, false, false, false, false, false, false, false, false, false, false, false, false, false, false, false, false, false, false] rfl rfl (any_of HT_.out (by kernel_rfl)) (fun _ _ _ h => h) (Or.inl ⟨by rfl, ?_⟩) ?_ ?_
                rotate_left
                · intro w'
                  go_simp
                  with_reducible rfl
                rotate_left
                · simp only [Act.put, List.setIfInBounds_toArray, List.set_cons_zero, List.set_cons_succ, i64_w, i32_w]
                  rfl
                refine pure_ (i := 6) (N := some 40) (v := ?_) (a' := ?_) #[true, true, false, false, true, false, true, false, false, false, false, false, false, false, false, false, false, false, false, false, false, false, false, false, false] rfl rfl (any_of HT_.out (by kernel_rfl)) (fun _ _ _ h => h) (Or.inl ⟨by rfl, ?_⟩) ?_ ?_
                rotate_left
                · intro w'
                  go_simp
                  with_reducible rfl
                rotate_left
                · simp only [Act.put, List.setIfInBounds_toArray, List.set_cons_zero, List.set_cons_succ, i64_w, i32_w]
                  rfl
                refine pure_ (i := 11) (N := some 45) (v := ?_) (a' := ?_) #[true, true, false, false, true, false, true, false, false, false, false, true, false, false, false, false, false, false, false, false, false, false, false, false, false] rfl rfl (any_of HT_.out (by kernel_rfl)) (fun _ _ _ h => h) (Or.inl ⟨by rfl, ?_⟩) ?_ ?_
                rotate_left
                · intro w'
                  go_simp
                  with_reducible rfl
                rotate_left
                · simp only [Act.put, List.setIfInBounds_toArray, List.set_cons_zero, List.set_cons_succ, i64_w, i32_w]
                  rfl
                refine pure_ (i := 13) (N := some 47) (v := ?_) (a' := ?_) #[true, true, false, false, true, false, true, false, false, false, false, true, false, true, false, false, false, false, false, false, false, false, false, false, false] rfl rfl (any_of HT_.out (by kernel_rfl)) (fun _ _ _ h => h) (Or.inl ⟨by rfl, ?_⟩) ?_ ?_
                rotate_left
                · intro w'
                  go_simp
                  with_reducible rfl
                rotate_left
                · simp only [Act.put, List.setIfInBounds_toArray, List.set_cons_zero, List.set_cons_succ, i64_w, i32_w]
                  rfl
                refine pure_ (i := 19) (N := some 53) (v := ?_) (a' := ?_) #[true, true, false, false, true, false, true, false, false, false, false, true, false, true, false, false, false, false, false, true, false, false, false, false, false] rfl rfl (any_of HT_.out (by kernel_rfl)) (fun _ _ _ h => h) (Or.inl ⟨by rfl, ?_⟩) ?_ ?_
                rotate_left
                · intro w'
                  go_simp
                  with_reducible rfl
                rotate_left
                · simp only [Act.put, List.setIfInBounds_toArray, List.set_cons_zero, List.set_cons_succ, i64_w, i32_w]
                  rfl
                refine inv_at [2, 3, 5, 7, 8, 9, 10, 12, 14, 15, 16, 17, 18, 20, 21, 22, 23, 24] (fun a0_ b a w' => ∃ (v36 : Value), ∃ (v42 : Value), ∃ (v50 : Value), ∃ (v55 : Value), a = putSel a0_ b [(2, 36, v36), (3, 37, .string y1), (5, 39, .string e.f0), (7, 41, .string kr), (8, 42, v42), (9, 43, .string y2), (10, 44, .string (y1 ++ y2)), (12, 46, .int .u64 e.f1), (14, 48, .int .i64 e.f2), (15, 49, .int .u64 (IntKind.u64.wrap e.f2)), (16, 50, v50), (17, 51, .string y3), (18, 52, .string ((y1 ++ y2) ++ y3)), (20, 54, .string e.f3), (21, 55, v55), (22, 56, .string y4), (23, 57, .string (((y1 ++ y2) ++ y3) ++ y4)), (24, 58, .tuple #[.int .i64 (((y1 ++ y2) ++ y3) ++ y4).size, .nilIface])] ∧ (b 24 = false → Two w w' w1.heap.size (w1.heap.size + 1) b0_ (r ++ x)) ∧ (b 24 = true → Two w w' w1.heap.size (w1.heap.size + 1) (b0_ ++ (((y1 ++ y2) ++ y3) ++ y4)) (r ++ x)) ∧ (w'.heap[gb]? = some (.cells #[.string e.f0, .int .u64 e.f1, .int .i64 e.f2, .string e.f3] 29 (0, 0))) ∧ (b 2 = true → b 24 = false → Kd.R (Kd.int .u64) 27 w' w.heap.size (fun _ => True) v36 ([0] : List Int)) ∧ (b 8 = true → b 24 = false → Kd.R Kd.string 9 w' w.heap.size (fun _ => True) v42 ([kr] : List ByteArray)) ∧ (b 16 = true → b 24 = false → Kd.R (Kd.int .u64) 27 w' w.heap.size (fun _ => True) v50 ([e.f1, (IntKind.u64.wrap e.f2)] : List Int)) ∧ (b 21 = true → b 24 = false → Kd.R Kd.string 9 w' w.heap.size (fun _ => True) v55 ([e.f3] : List ByteArray))) HT_.out HW_.out (by kernel_rfl) (by kernel_rfl) ?_ ?_ ?_
                · exact ⟨.bool false, .bool false, .bool false, .bool false, by simp only [putSel, Bool.false_eq_true, if_false], fun _ => HTX.out, fun h_ => absurd h_ (by decide), BKX.out, fun h_ => absurd h_ (by decide), fun h_ => absurd h_ (by decide), fun h_ => absurd h_ (by decide), fun h_ => absurd h_ (by decide)⟩
                · skip
                  refine steps_cons ?_ ?_
                  · rintro b a w' ⟨v36, v42, v50, v55, ha, Q_TW, Q_POST, Q_BK, Q_L36, Q_L42, Q_L50, Q_L55⟩ hb_ hon hoff
                    refine ⟨_, rfl, fun K hK => ?_⟩
                    have e35 : a.tmps[35]? = some (.int .u64 0) := by rw [ha]; exact (putSel_off rfl).trans rfl
                    replace ha := Aside0.mk ha
                    refine Kd.R_lit_step (Kd.int .u64) _ 27 ?hg (N := 36) ?hd (xs := ([0] : List Int)) (inner := [.int .u64 0]) (ok := fun _ => True) (okp := fun _ => True) ?hr ?hp (fun _ hk => hk) trivial (Below.refl _ _) (Nat.le_refl _) (by simp) ?_; (case hd => rfl); (case hg => rfl); (case hr => first | (go_simp; done) | (go_simp; rfl)); (case hp => exact (Reps.one (show Kd.M (Kd.int .u64) _ _ _ 0 [.int .u64 0] from rfl) (Reps.none _ _)))
                    intro v36n w1 ho1 hb1 hg_ hnew_
                    clear hg_ hnew_
                    refine hK.out _ _ ⟨v36n, v42, v50, v55, by rw [ha.out]; exact putSel_upk 0 hb_ rfl rfl rfl, fun h_ => (Q_TW h_).below hb1, fun h_ => absurd ((hoff 24 (by kernel_rfl)).symm.trans h_) (by decide), blk_below Q_BK hb1, fun _ _ => Kd.R_lower ho1 (Q_TW (hoff 24 (by kernel_rfl))).bel.size, fun h_ k_ => Kd.R_below (Q_L42 h_ k_) hb1, fun h_ k_ => Kd.R_below (Q_L50 h_ k_) hb1, fun h_ k_ => Kd.R_below (Q_L55 h_ k_) hb1⟩
                  refine steps_cons ?_ ?_
                  · rintro b a w' ⟨v36, v42, v50, v55, ha, Q_TW, Q_POST, Q_BK, Q_L36, Q_L42, Q_L50, Q_L55⟩ hb_ hon hoff
                    refine ⟨_, rfl, fun K hK => ?_⟩
                    have e36 : a.tmps[36]? = some (v36) := by rw [ha]; exact putSel_on (e := (2, 36, v36)) 0 rfl rfl (hon 2 (by kernel_rfl)) rfl
                    replace ha := Aside0.mk ha
                    have hS := Q_L36 (hon 2 (by kernel_rfl)) (hoff 24 (by kernel_rfl))
                    obtain ⟨As, cs, es⟩ := Kd.R_slice hS
                    subst es
                    refine goes_ Try.func44 (by kernel_rfl) rfl #[.slice As ([0] : List Int).length cs] (by rfl) rfl rfl (by first | (simp only [List.map_toArray, List.map_cons, List.map_nil, Act.eval, Array.getD_eq_getD_getElem?, Option.getD_some, e36]; done) | (simp only [List.map_toArray, List.map_cons, List.map_nil, Act.eval, Array.getD_eq_getD_getElem?, Option.getD_some, e36]; rfl)) ?_
                    refine (num_Var.calls k _ _ ([0] : List Int) y1 _ (Kd.R_reads' hS).2.2 (Kd.R_reads' hS).2.1 A1.out).mono ?_
                    rintro e w1 ⟨rfl, hb1⟩
                    refine ⟨_, rfl, ?_⟩
                    refine hK.out _ _ ⟨.slice As ([0] : List Int).length cs, v42, v50, v55, by rw [ha.out]; exact putSel_upk 1 hb_ rfl rfl rfl, fun h_ => (Q_TW h_).below hb1, fun h_ => absurd ((hoff 24 (by kernel_rfl)).symm.trans h_) (by decide), blk_below Q_BK hb1, fun h_ k_ => Kd.R_below (Q_L36 h_ k_) hb1, fun h_ k_ => Kd.R_below (Q_L42 h_ k_) hb1, fun h_ k_ => Kd.R_below (Q_L50 h_ k_) hb1, fun h_ k_ => Kd.R_below (Q_L55 h_ k_) hb1⟩
                  refine steps_cons ?_ ?_
                  · rintro b a w' ⟨v36, v42, v50, v55, ha, Q_TW, Q_POST, Q_BK, Q_L36, Q_L42, Q_L50, Q_L55⟩ hb_ hon hoff
                    refine ⟨_, rfl, fun K hK => ?_⟩
                    have e38 : a.tmps[38]? = some (.pointer (some ⟨gb, 0, none⟩)) := by rw [ha]; exact (putSel_off rfl).trans rfl
                    replace ha := Aside0.mk ha
                    have hc0_ : w'.cell? ⟨gb, 0, none⟩ = some (.string e.f0) := (blk_cell Q_BK 0).trans rfl
                    have hc1_ : w'.cell? ⟨gb, 1, none⟩ = some (.int .u64 e.f1) := (blk_cell Q_BK 1).trans rfl
                    have hc2_ : w'.cell? ⟨gb, 2, none⟩ = some (.int .i64 e.f2) := (blk_cell Q_BK 2).trans rfl
                    have hc3_ : w'.cell? ⟨gb, 3, none⟩ = some (.string e.f3) := (blk_cell Q_BK 3).trans rfl
                    refine value_ (w1 := w') (v := .string e.f0) (by rfl) rfl ?_ ?_
                    · go_simp
                      (try simp only [i64_w])
                      try rfl
                    refine hK.out _ _ ⟨v36, v42, v50, v55, by rw [ha.out]; exact putSel_upk 2 hb_ rfl rfl rfl, Q_TW, Q_POST, Q_BK, Q_L36, Q_L42, Q_L50, Q_L55⟩
                  refine steps_cons ?_ ?_
                  · rintro b a w' ⟨v36, v42, v50, v55, ha, Q_TW, Q_POST, Q_BK, Q_L36, Q_L42, Q_L50, Q_L55⟩ hb_ hon hoff
                    refine ⟨_, rfl, fun K hK => ?_⟩
                    have e39 : a.tmps[39]? = some (.string e.f0) := by rw [ha]; exact putSel_on (e := (5, 39, .string e.f0)) 2 rfl rfl (hon 5 (by kernel_rfl)) rfl
                    have e40 : a.tmps[40]? = some (.int .i64 0) := by rw [ha]; exact (putSel_off rfl).trans rfl
                    replace ha := Aside0.mk ha
                    have hm0 := HM0.out
                    have hm1 := HM1.out
                    have hkr := HKR.out
                    refine value_ (w1 := w') (v := .string kr) (by rfl) rfl ?_ ?_
                    · (go_simp; (try simp only [i64_w]); first | done | rfl | exact hkr | (rw [← hkr]; simp))
                    refine hK.out _ _ ⟨v36, v42, v50, v55, by rw [ha.out]; exact putSel_upk 3 hb_ rfl rfl rfl, Q_TW, Q_POST, Q_BK, Q_L36, Q_L42, Q_L50, Q_L55⟩
                  refine steps_cons ?_ ?_
                  · rintro b a w' ⟨v36, v42, v50, v55, ha, Q_TW, Q_POST, Q_BK, Q_L36, Q_L42, Q_L50, Q_L55⟩ hb_ hon hoff
                    refine ⟨_, rfl, fun K hK => ?_⟩
                    have e41 : a.tmps[41]? = some (.string kr) := by rw [ha]; exact putSel_on (e := (7, 41, .string kr)) 3 rfl rfl (hon 7 (by kernel_rfl)) rfl
                    replace ha := Aside0.mk ha
                    refine Kd.R_lit_step Kd.string _ 9 ?hg (N := 42) ?hd (xs := ([kr] : List ByteArray)) (inner := [.string kr]) (ok := fun _ => True) (okp := fun _ => True) ?hr ?hp (fun _ hk => hk) trivial (Below.refl _ _) (Nat.le_refl _) (by simp) ?_; (case hd => rfl); (case hg => rfl); (case hr => first | (go_simp; done) | (go_simp; rfl)); (case hp => exact (Reps.one (show Kd.M Kd.string _ _ _ kr [.string kr] from rfl) (Reps.none _ _)))
                    intro v42n w1 ho1 hb1 hg_ hnew_
                    clear hg_ hnew_
                    refine hK.out _ _ ⟨v36, v42n, v50, v55, by rw [ha.out]; exact putSel_upk 4 hb_ rfl rfl rfl, fun h_ => (Q_TW h_).below hb1, fun h_ => absurd ((hoff 24 (by kernel_rfl)).symm.trans h_) (by decide), blk_below Q_BK hb1, fun h_ k_ => Kd.R_below (Q_L36 h_ k_) hb1, fun _ _ => Kd.R_lower ho1 (Q_TW (hoff 24 (by kernel_rfl))).bel.size, fun h_ k_ => Kd.R_below (Q_L50 h_ k_) hb1, fun h_ k_ => Kd.R_below (Q_L55 h_ k_) hb1⟩
                  refine steps_cons ?_ ?_
                  · rintro b a w' ⟨v36, v42, v50, v55, ha, Q_TW, Q_POST, Q_BK, Q_L36, Q_L42, Q_L50, Q_L55⟩ hb_ hon hoff
                    refine ⟨_, rfl, fun K hK => ?_⟩
                    have e42 : a.tmps[42]? = some (v42) := by rw [ha]; exact putSel_on (e := (8, 42, v42)) 4 rfl rfl (hon 8 (by kernel_rfl)) rfl
                    replace ha := Aside0.mk ha
                    have hS := Q_L42 (hon 8 (by kernel_rfl)) (hoff 24 (by kernel_rfl))
                    obtain ⟨As, cs, es⟩ := Kd.R_slice hS
                    subst es
                    refine goes_ Try.func45 (by kernel_rfl) rfl #[.slice As ([kr] : List ByteArray).length cs] (by rfl) rfl rfl (by first | (simp only [List.map_toArray, List.map_cons, List.map_nil, Act.eval, Array.getD_eq_getD_getElem?, Option.getD_some, e42]; done) | (simp only [List.map_toArray, List.map_cons, List.map_nil, Act.eval, Array.getD_eq_getD_getElem?, Option.getD_some, e42]; rfl)) ?_
                    refine (num_Text.calls k _ _ ([kr] : List ByteArray) y2 _ (Kd.R_reads' hS).2.2 (Kd.R_reads' hS).2.1 A2.out).mono ?_
                    rintro e w1 ⟨rfl, hb1⟩
                    refine ⟨_, rfl, ?_⟩
                    refine hK.out _ _ ⟨v36, .slice As ([kr] : List ByteArray).length cs, v50, v55, by rw [ha.out]; exact putSel_upk 5 hb_ rfl rfl rfl, fun h_ => (Q_TW h_).below hb1, fun h_ => absurd ((hoff 24 (by kernel_rfl)).symm.trans h_) (by decide), blk_below Q_BK hb1, fun h_ k_ => Kd.R_below (Q_L36 h_ k_) hb1, fun h_ k_ => Kd.R_below (Q_L42 h_ k_) hb1, fun h_ k_ => Kd.R_below (Q_L50 h_ k_) hb1, fun h_ k_ => Kd.R_below (Q_L55 h_ k_) hb1⟩
                  refine steps_cons ?_ ?_
                  · rintro b a w' ⟨v36, v42, v50, v55, ha, Q_TW, Q_POST, Q_BK, Q_L36, Q_L42, Q_L50, Q_L55⟩ hb_ hon hoff
                    refine ⟨_, rfl, fun K hK => ?_⟩
                    have e37 : a.tmps[37]? = some (.string y1) := by rw [ha]; exact putSel_on (e := (3, 37, .string y1)) 1 rfl rfl (hon 3 (by kernel_rfl)) rfl
                    have e43 : a.tmps[43]? = some (.string y2) := by rw [ha]; exact putSel_on (e := (9, 43, .string y2)) 5 rfl rfl (hon 9 (by kernel_rfl)) rfl
                    replace ha := Aside0.mk ha
                    have hz_ := HSZ.out
                    have f1 := eq_true (show y1.size + y2.size ≤ 9223372036854775807 by unfold lim at hz_; (try simp only [ByteArray.size_append]); omega)
                    have f2 : (9223372036854775807 < y1.size + y2.size) = False := eq_false (by unfold lim at hz_; (try simp only [ByteArray.size_append]); omega)
                    try simp only [ByteArray.size_append] at f1 f2
                    refine value_ (w1 := w') (v := .string (y1 ++ y2)) (by rfl) rfl ?_ ?_
                    · go_simp
                      (try simp only [i64_w])
                      try rfl
                    refine hK.out _ _ ⟨v36, v42, v50, v55, by rw [ha.out]; exact putSel_upk 6 hb_ rfl rfl rfl, Q_TW, Q_POST, Q_BK, Q_L36, Q_L42, Q_L50, Q_L55⟩
                  refine steps_cons ?_ ?_
                  · rintro b a w' ⟨v36, v42, v50, v55, ha, Q_TW, Q_POST, Q_BK, Q_L36, Q_L42, Q_L50, Q_L55⟩ hb_ hon hoff
                    refine ⟨_, rfl, fun K hK => ?_⟩
                    have e45 : a.tmps[45]? = some (.pointer (some ⟨gb, 1, none⟩)) := by rw [ha]; exact (putSel_off rfl).trans rfl
                    replace ha := Aside0.mk ha
                    have hc0_ : w'.cell? ⟨gb, 0, none⟩ = some (.string e.f0) := (blk_cell Q_BK 0).trans rfl
                    have hc1_ : w'.cell? ⟨gb, 1, none⟩ = some (.int .u64 e.f1) := (blk_cell Q_BK 1).trans rfl
                    have hc2_ : w'.cell? ⟨gb, 2, none⟩ = some (.int .i64 e.f2) := (blk_cell Q_BK 2).trans rfl
                    have hc3_ : w'.cell? ⟨gb, 3, none⟩ = some (.string e.f3) := (blk_cell Q_BK 3).trans rfl
                    refine value_ (w1 := w') (v := .int .u64 e.f1) (by rfl) rfl ?_ ?_
                    · go_simp
                      (try simp only [i64_w])
                      try rfl
                    refine hK.out _ _ ⟨v36, v42, v50, v55, by rw [ha.out]; exact putSel_upk 7 hb_ rfl rfl rfl, Q_TW, Q_POST, Q_BK, Q_L36, Q_L42, Q_L50, Q_L55⟩
                  refine steps_cons ?_ ?_
                  · rintro b a w' ⟨v36, v42, v50, v55, ha, Q_TW, Q_POST, Q_BK, Q_L36, Q_L42, Q_L50, Q_L55⟩ hb_ hon hoff
                    refine ⟨_, rfl, fun K hK => ?_⟩
                    have e47 : a.tmps[47]? = some (.pointer (some ⟨gb, 2, none⟩)) := by rw [ha]; exact (putSel_off rfl).trans rfl
                    replace ha := Aside0.mk ha
                    have hc0_ : w'.cell? ⟨gb, 0, none⟩ = some (.string e.f0) := (blk_cell Q_BK 0).trans rfl
                    have hc1_ : w'.cell? ⟨gb, 1, none⟩ = some (.int .u64 e.f1) := (blk_cell Q_BK 1).trans rfl
                    have hc2_ : w'.cell? ⟨gb, 2, none⟩ = some (.int .i64 e.f2) := (blk_cell Q_BK 2).trans rfl
                    have hc3_ : w'.cell? ⟨gb, 3, none⟩ = some (.string e.f3) := (blk_cell Q_BK 3).trans rfl
                    refine value_ (w1 := w') (v := .int .i64 e.f2) (by rfl) rfl ?_ ?_
                    · go_simp
                      (try simp only [i64_w])
                      try rfl
                    refine hK.out _ _ ⟨v36, v42, v50, v55, by rw [ha.out]; exact putSel_upk 8 hb_ rfl rfl rfl, Q_TW, Q_POST, Q_BK, Q_L36, Q_L42, Q_L50, Q_L55⟩
                  refine steps_cons ?_ ?_
                  · rintro b a w' ⟨v36, v42, v50, v55, ha, Q_TW, Q_POST, Q_BK, Q_L36, Q_L42, Q_L50, Q_L55⟩ hb_ hon hoff
                    refine ⟨_, rfl, fun K hK => ?_⟩
                    have e48 : a.tmps[48]? = some (.int .i64 e.f2) := by rw [ha]; exact putSel_on (e := (14, 48, .int .i64 e.f2)) 8 rfl rfl (hon 14 (by kernel_rfl)) rfl
                    replace ha := Aside0.mk ha
                    refine value_ (w1 := w') (v := .int .u64 (IntKind.u64.wrap e.f2)) (by rfl) rfl ?_ ?_
                    · go_simp
                      (try simp only [i64_w])
                      try rfl
                    refine hK.out _ _ ⟨v36, v42, v50, v55, by rw [ha.out]; exact putSel_upk 9 hb_ rfl rfl rfl, Q_TW, Q_POST, Q_BK, Q_L36, Q_L42, Q_L50, Q_L55⟩
                  refine steps_cons ?_ ?_
                  · rintro b a w' ⟨v36, v42, v50, v55, ha, Q_TW, Q_POST, Q_BK, Q_L36, Q_L42, Q_L50, Q_L55⟩ hb_ hon hoff
                    refine ⟨_, rfl, fun K hK => ?_⟩
                    have e46 : a.tmps[46]? = some (.int .u64 e.f1) := by rw [ha]; exact putSel_on (e := (12, 46, .int .u64 e.f1)) 7 rfl rfl (hon 12 (by kernel_rfl)) rfl
                    have e49 : a.tmps[49]? = some (.int .u64 (IntKind.u64.wrap e.f2)) := by rw [ha]; exact putSel_on (e := (15, 49, .int .u64 (IntKind.u64.wrap e.f2))) 9 rfl rfl (hon 15 (by kernel_rfl)) rfl
                    replace ha := Aside0.mk ha
                    refine Kd.R_lit_step (Kd.int .u64) _ 27 ?hg (N := 50) ?hd (xs := ([e.f1, (IntKind.u64.wrap e.f2)] : List Int)) (inner := [.int .u64 e.f1, .int .u64 (IntKind.u64.wrap e.f2)]) (ok := fun _ => True) (okp := fun _ => True) ?hr ?hp (fun _ hk => hk) trivial (Below.refl _ _) (Nat.le_refl _) (by simp) ?_; (case hd => rfl); (case hg => rfl); (case hr => first | (go_simp; done) | (go_simp; rfl)); (case hp => exact (Reps.one (show Kd.M (Kd.int .u64) _ _ _ e.f1 [.int .u64 e.f1] from rfl) (Reps.one (show Kd.M (Kd.int .u64) _ _ _ (IntKind.u64.wrap e.f2) [.int .u64 (IntKind.u64.wrap e.f2)] from rfl) (Reps.none _ _))))
                    intro v50n w1 ho1 hb1 hg_ hnew_
                    clear hg_ hnew_
                    refine hK.out _ _ ⟨v36, v42, v50n, v55, by rw [ha.out]; exact putSel_upk 10 hb_ rfl rfl rfl, fun h_ => (Q_TW h_).below hb1, fun h_ => absurd ((hoff 24 (by kernel_rfl)).symm.trans h_) (by decide), blk_below Q_BK hb1, fun h_ k_ => Kd.R_below (Q_L36 h_ k_) hb1, fun h_ k_ => Kd.R_below (Q_L42 h_ k_) hb1, fun _ _ => Kd.R_lower ho1 (Q_TW (hoff 24 (by kernel_rfl))).bel.size, fun h_ k_ => Kd.R_below (Q_L55 h_ k_) hb1⟩
                  refine steps_cons ?_ ?_
                  · rintro b a w' ⟨v36, v42, v50, v55, ha, Q_TW, Q_POST, Q_BK, Q_L36, Q_L42, Q_L50, Q_L55⟩ hb_ hon hoff
                    refine ⟨_, rfl, fun K hK => ?_⟩
                    have e50 : a.tmps[50]? = some (v50) := by rw [ha]; exact putSel_on (e := (16, 50, v50)) 10 rfl rfl (hon 16 (by kernel_rfl)) rfl
                    replace ha := Aside0.mk ha
                    have hS := Q_L50 (hon 16 (by kernel_rfl)) (hoff 24 (by kernel_rfl))
                    obtain ⟨As, cs, es⟩ := Kd.R_slice hS
                    subst es
                    refine goes_ Try.func44 (by kernel_rfl) rfl #[.slice As ([e.f1, (IntKind.u64.wrap e.f2)] : List Int).length cs] (by rfl) rfl rfl (by first | (simp only [List.map_toArray, List.map_cons, List.map_nil, Act.eval, Array.getD_eq_getD_getElem?, Option.getD_some, e50]; done) | (simp only [List.map_toArray, List.map_cons, List.map_nil, Act.eval, Array.getD_eq_getD_getElem?, Option.getD_some, e50]; rfl)) ?_
                    refine (num_Var.calls k _ _ ([e.f1, (IntKind.u64.wrap e.f2)] : List Int) y3 _ (Kd.R_reads' hS).2.2 (Kd.R_reads' hS).2.1 A3.out).mono ?_
                    rintro e w1 ⟨rfl, hb1⟩
                    refine ⟨_, rfl, ?_⟩
                    refine hK.out _ _ ⟨v36, v42, .slice As ([e.f1, (IntKind.u64.wrap e.f2)] : List Int).length cs, v55, by rw [ha.out]; exact putSel_upk 11 hb_ rfl rfl rfl, fun h_ => (Q_TW h_).below hb1, fun h_ => absurd ((hoff 24 (by kernel_rfl)).symm.trans h_) (by decide), blk_below Q_BK hb1, fun h_ k_ => Kd.R_below (Q_L36 h_ k_) hb1, fun h_ k_ => Kd.R_below (Q_L42 h_ k_) hb1, fun h_ k_ => Kd.R_below (Q_L50 h_ k_) hb1, fun h_ k_ => Kd.R_below (Q_L55 h_ k_) hb1⟩
                  refine steps_cons ?_ ?_
                  · rintro b a w' ⟨v36, v42, v50, v55, ha, Q_TW, Q_POST, Q_BK, Q_L36, Q_L42, Q_L50, Q_L55⟩ hb_ hon hoff
                    refine ⟨_, rfl, fun K hK => ?_⟩
                    have e44 : a.tmps[44]? = some (.string (y1 ++ y2)) := by rw [ha]; exact putSel_on (e := (10, 44, .string (y1 ++ y2))) 6 rfl rfl (hon 10 (by kernel_rfl)) rfl
                    have e51 : a.tmps[51]? = some (.string y3) := by rw [ha]; exact putSel_on (e := (17, 51, .string y3)) 11 rfl rfl (hon 17 (by kernel_rfl)) rfl
                    replace ha := Aside0.mk ha
                    have hz_ := HSZ.out
                    have f1 := eq_true (show (y1 ++ y2).size + y3.size ≤ 9223372036854775807 by unfold lim at hz_; (try simp only [ByteArray.size_append]); omega)
                    have f2 : (9223372036854775807 < (y1 ++ y2).size + y3.size) = False := eq_false (by unfold lim at hz_; (try simp only [ByteArray.size_append]); omega)
                    try simp only [ByteArray.size_append] at f1 f2
                    refine value_ (w1 := w') (v := .string ((y1 ++ y2) ++ y3)) (by rfl) rfl ?_ ?_
                    · go_simp
                      (try simp only [i64_w])
                      try rfl
                    refine hK.out _ _ ⟨v36, v42, v50, v55, by rw [ha.out]; exact putSel_upk 12 hb_ rfl rfl rfl, Q_TW, Q_POST, Q_BK, Q_L36, Q_L42, Q_L50, Q_L55⟩
                  refine steps_cons ?_ ?_
                  · rintro b a w' ⟨v36, v42, v50, v55, ha, Q_TW, Q_POST, Q_BK, Q_L36, Q_L42, Q_L50, Q_L55⟩ hb_ hon hoff
                    refine ⟨_, rfl, fun K hK => ?_⟩
                    have e53 : a.tmps[53]? = some (.pointer (some ⟨gb, 3, none⟩)) := by rw [ha]; exact (putSel_off rfl).trans rfl
                    replace ha := Aside0.mk ha
                    have hc0_ : w'.cell? ⟨gb, 0, none⟩ = some (.string e.f0) := (blk_cell Q_BK 0).trans rfl
                    have hc1_ : w'.cell? ⟨gb, 1, none⟩ = some (.int .u64 e.f1) := (blk_cell Q_BK 1).trans rfl
                    have hc2_ : w'.cell? ⟨gb, 2, none⟩ = some (.int .i64 e.f2) := (blk_cell Q_BK 2).trans rfl
                    have hc3_ : w'.cell? ⟨gb, 3, none⟩ = some (.string e.f3) := (blk_cell Q_BK 3).trans rfl
                    refine value_ (w1 := w') (v := .string e.f3) (by rfl) rfl ?_ ?_
                    · go_simp
                      (try simp only [i64_w])
                      try rfl
                    refine hK.out _ _ ⟨v36, v42, v50, v55, by rw [ha.out]; exact putSel_upk 13 hb_ rfl rfl rfl, Q_TW, Q_POST, Q_BK, Q_L36, Q_L42, Q_L50, Q_L55⟩
                  refine steps_cons ?_ ?_
                  · rintro b a w' ⟨v36, v42, v50, v55, ha, Q_TW, Q_POST, Q_BK, Q_L36, Q_L42, Q_L50, Q_L55⟩ hb_ hon hoff
                    refine ⟨_, rfl, fun K hK => ?_⟩
                    have e54 : a.tmps[54]? = some (.string e.f3) := by rw [ha]; exact putSel_on (e := (20, 54, .string e.f3)) 13 rfl rfl (hon 20 (by kernel_rfl)) rfl
                    replace ha := Aside0.mk ha
                    refine Kd.R_lit_step Kd.string _ 9 ?hg (N := 55) ?hd (xs := ([e.f3] : List ByteArray)) (inner := [.string e.f3]) (ok := fun _ => True) (okp := fun _ => True) ?hr ?hp (fun _ hk => hk) trivial (Below.refl _ _) (Nat.le_refl _) (by simp) ?_; (case hd => rfl); (case hg => rfl); (case hr => first | (go_simp; done) | (go_simp; rfl)); (case hp => exact (Reps.one (show Kd.M Kd.string _ _ _ e.f3 [.string e.f3] from rfl) (Reps.none _ _)))
                    intro v55n w1 ho1 hb1 hg_ hnew_
                    clear hg_ hnew_
                    refine hK.out _ _ ⟨v36, v42, v50, v55n, by rw [ha.out]; exact putSel_upk 14 hb_ rfl rfl rfl, fun h_ => (Q_TW h_).below hb1, fun h_ => absurd ((hoff 24 (by kernel_rfl)).symm.trans h_) (by decide), blk_below Q_BK hb1, fun h_ k_ => Kd.R_below (Q_L36 h_ k_) hb1, fun h_ k_ => Kd.R_below (Q_L42 h_ k_) hb1, fun h_ k_ => Kd.R_below (Q_L50 h_ k_) hb1, fun _ _ => Kd.R_lower ho1 (Q_TW (hoff 24 (by kernel_rfl))).bel.size⟩
                  refine steps_cons ?_ ?_
                  · rintro b a w' ⟨v36, v42, v50, v55, ha, Q_TW, Q_POST, Q_BK, Q_L36, Q_L42, Q_L50, Q_L55⟩ hb_ hon hoff
                    refine ⟨_, rfl, fun K hK => ?_⟩
                    have e55 : a.tmps[55]? = some (v55) := by rw [ha]; exact putSel_on (e := (21, 55, v55)) 14 rfl rfl (hon 21 (by kernel_rfl)) rfl
                    replace ha := Aside0.mk ha
                    have hS := Q_L55 (hon 21 (by kernel_rfl)) (hoff 24 (by kernel_rfl))
                    obtain ⟨As, cs, es⟩ := Kd.R_slice hS
                    subst es
                    refine goes_ Try.func45 (by kernel_rfl) rfl #[.slice As ([e.f3] : List ByteArray).length cs] (by rfl) rfl rfl (by first | (simp only [List.map_toArray, List.map_cons, List.map_nil, Act.eval, Array.getD_eq_getD_getElem?, Option.getD_some, e55]; done) | (simp only [List.map_toArray, List.map_cons, List.map_nil, Act.eval, Array.getD_eq_getD_getElem?, Option.getD_some, e55]; rfl)) ?_
                    refine (num_Text.calls k _ _ ([e.f3] : List ByteArray) y4 _ (Kd.R_reads' hS).2.2 (Kd.R_reads' hS).2.1 A4.out).mono ?_
                    rintro e w1 ⟨rfl, hb1⟩
                    refine ⟨_, rfl, ?_⟩
                    refine hK.out _ _ ⟨v36, v42, v50, .slice As ([e.f3] : List ByteArray).length cs, by rw [ha.out]; exact putSel_upk 15 hb_ rfl rfl rfl, fun h_ => (Q_TW h_).below hb1, fun h_ => absurd ((hoff 24 (by kernel_rfl)).symm.trans h_) (by decide), blk_below Q_BK hb1, fun h_ k_ => Kd.R_below (Q_L36 h_ k_) hb1, fun h_ k_ => Kd.R_below (Q_L42 h_ k_) hb1, fun h_ k_ => Kd.R_below (Q_L50 h_ k_) hb1, fun h_ k_ => Kd.R_below (Q_L55 h_ k_) hb1⟩
                  refine steps_cons ?_ ?_
                  · rintro b a w' ⟨v36, v42, v50, v55, ha, Q_TW, Q_POST, Q_BK, Q_L36, Q_L42, Q_L50, Q_L55⟩ hb_ hon hoff
                    refine ⟨_, rfl, fun K hK => ?_⟩
                    have e52 : a.tmps[52]? = some (.string ((y1 ++ y2) ++ y3)) := by rw [ha]; exact putSel_on (e := (18, 52, .string ((y1 ++ y2) ++ y3))) 12 rfl rfl (hon 18 (by kernel_rfl)) rfl
                    have e56 : a.tmps[56]? = some (.string y4) := by rw [ha]; exact putSel_on (e := (22, 56, .string y4)) 15 rfl rfl (hon 22 (by kernel_rfl)) rfl
                    replace ha := Aside0.mk ha
                    have hz_ := HSZ.out
                    have f1 := eq_true (show ((y1 ++ y2) ++ y3).size + y4.size ≤ 9223372036854775807 by unfold lim at hz_; (try simp only [ByteArray.size_append]); omega)
                    have f2 : (9223372036854775807 < ((y1 ++ y2) ++ y3).size + y4.size) = False := eq_false (by unfold lim at hz_; (try simp only [ByteArray.size_append]); omega)
                    try simp only [ByteArray.size_append] at f1 f2
                    refine value_ (w1 := w') (v := .string (((y1 ++ y2) ++ y3) ++ y4)) (by rfl) rfl ?_ ?_
                    · go_simp
                      (try simp only [i64_w])
                      try rfl
                    refine hK.out _ _ ⟨v36, v42, v50, v55, by rw [ha.out]; exact putSel_upk 16 hb_ rfl rfl rfl, Q_TW, Q_POST, Q_BK, Q_L36, Q_L42, Q_L50, Q_L55⟩
                  refine steps_cons ?_ ?_
                  · rintro b a w' ⟨v36, v42, v50, v55, ha, Q_TW, Q_POST, Q_BK, Q_L36, Q_L42, Q_L50, Q_L55⟩ hb_ hon hoff
                    refine ⟨_, rfl, fun K hK => ?_⟩
                    have e4 : a.tmps[4]? = some (.pointer (some ⟨w1.heap.size, 0, none⟩)) := by rw [ha]; exact (putSel_off rfl).trans rfl
                    have e57 : a.tmps[57]? = some (.string (((y1 ++ y2) ++ y3) ++ y4)) := by rw [ha]; exact putSel_on (e := (23, 57, .string (((y1 ++ y2) ++ y3) ++ y4))) 16 rfl rfl (hon 23 (by kernel_rfl)) rfl
                    replace ha := Aside0.mk ha
                    refine goes_ Try.func41 (by kernel_rfl) rfl #[.pointer (some ⟨w1.heap.size, 0, none⟩), .string (((y1 ++ y2) ++ y3) ++ y4)] (by rfl) rfl rfl (by first | (simp only [List.map_toArray, List.map_cons, List.map_nil, Act.eval, Array.getD_eq_getD_getElem?, Option.getD_some, e4, e57]; done) | (simp only [List.map_toArray, List.map_cons, List.map_nil, Act.eval, Array.getD_eq_getD_getElem?, Option.getD_some, e4, e57]; rfl)) ?_
                    refine (Two.write2 (Q_TW hb_) (((y1 ++ y2) ++ y3) ++ y4) HPL.out).mono ?_
                    rintro e w1 ⟨rfl, ht, hfr⟩
                    refine ⟨_, rfl, ?_⟩
                    refine hK.out _ _ ⟨v36, v42, v50, v55, by rw [ha.out]; exact putSel_upk 17 hb_ rfl rfl rfl, fun h_ => absurd h_ (by simp [Go.Proofs.YtchgpcgolgcfdaaW.PrintLast.up]), fun _ => ht, hfr _ _ _ _ Q_BK (by decide) (by decide), fun _ h_ => absurd h_ (by simp [Go.Proofs.YtchgpcgolgcfdaaW.PrintLast.up]), fun _ h_ => absurd h_ (by simp [Go.Proofs.YtchgpcgolgcfdaaW.PrintLast.up]), fun _ h_ => absurd h_ (by simp [Go.Proofs.YtchgpcgolgcfdaaW.PrintLast.up]), fun _ h_ => absurd h_ (by simp [Go.Proofs.YtchgpcgolgcfdaaW.PrintLast.up])⟩
                  exact steps_nil
                rintro b a w25 hall ⟨v36, v42, v50, v55, ha, Q_TW, Q_POST, Q_BK, Q_L36, Q_L42, Q_L50, Q_L55⟩
                have hb2_ := hall 2 (by kernel_rfl)
                have hb3_ := hall 3 (by kernel_rfl)
                have hb5_ := hall 5 (by kernel_rfl)
                have hb7_ := hall 7 (by kernel_rfl)
                have hb8_ := hall 8 (by kernel_rfl)
                have hb9_ := hall 9 (by kernel_rfl)
                have hb10_ := hall 10 (by kernel_rfl)
                have hb12_ := hall 12 (by kernel_rfl)
                have hb14_ := hall 14 (by kernel_rfl)
                have hb15_ := hall 15 (by kernel_rfl)
                have hb16_ := hall 16 (by kernel_rfl)
                have hb17_ := hall 17 (by kernel_rfl)
                have hb18_ := hall 18 (by kernel_rfl)
                have hb20_ := hall 20 (by kernel_rfl)
                have hb21_ := hall 21 (by kernel_rfl)
                have hb22_ := hall 22 (by kernel_rfl)
                have hb23_ := hall 23 (by kernel_rfl)
                have hb24_ := hall 24 (by kernel_rfl)
                subst ha
                simp only [putSel, hb2_, hb3_, hb5_, hb7_, hb8_, hb9_, hb10_, hb12_, hb14_, hb15_, hb16_, hb17_, hb18_, hb20_, hb21_, hb22_, hb23_, hb24_, if_true, Act.put, List.setIfInBounds_toArray, List.set_cons_zero, List.set_cons_succ]
                have POST := Aside0.mk (Q_POST hb24_)
                have BK := Aside0.mk (Q_BK)
                have L36 := Aside0.mk (Q_L36 hb2_)
                have L42 := Aside0.mk (Q_L42 hb8_)
                have L50 := Aside0.mk (Q_L50 hb16_)
                have L55 := Aside0.mk (Q_L55 hb21_)
                clear hall hb2_ hb3_ hb5_ hb7_ hb8_ hb9_ hb10_ hb12_ hb14_ hb15_ hb16_ hb17_ hb18_ hb20_ hb21_ hb22_ hb23_ hb24_ Q_TW Q_POST Q_BK Q_L36 Q_L42 Q_L50 Q_L55
                go_wp2_with (fail)
                go_roundw
                case rel => exact ⟨i + 1, n, _, _, by go_num, by omega, HG2, ⟨POST.out⟩⟩
                case measure => simp [intOf]; omega
              · rw [if_neg hrl] at hah
                cases hah
            · have t4 : (((i : Int) % 4) == 0) = false := by rw [beq_eq_false_iff_ne]; omega
              clear HBr HE
              go_wp2_with (first | ((with_reducible refine gate_dst (N := 7) rfl ?_); refine box_event ?hg (N := 7) ?hd (cs := #[.string (⟨#[]⟩ : ByteArray), .int .u64 0, .int .i64 0, .string (⟨#[]⟩ : ByteArray)]) (t := 29) ?hr ?_; (case hd => rfl); (case hg => rfl); (case hr => first | (go_simp; done) | (go_simp; rfl)); intro gb hg w13 hbox hb; have n0_ := Aside0.mk (below_step (by repeat (first | (with_reducible first | exact HBq.out | apply below_alloc | apply pw_below_drewN | apply below_drew1) | exact HBq.out)) hb); have n1_ := Aside0.mk (hbox); have n2_ := Aside0.mk ((by rw [hg]; exact (below_size (by repeat (first | (with_reducible first | exact HBq.out | apply below_alloc | apply pw_below_drewN | apply below_drew1) | exact HBq.out))) : wr.heap.size ≤ gb)); have n3_ := Aside0.mk ((by rw [hg]; exact (below_size (by repeat (first | (with_reducible first | exact HBq.out | apply below_alloc | apply pw_below_drewN | apply below_drew1) | exact HBq.out))) : wr.heap.size ≤ gb)); clear HBq; have HBq := n0_; have BK := n1_; have GW := n2_; have GE := n3_; clear n0_ n1_ n2_ n3_; clear hb hbox hg; have hcz14_0 : w13.cell? ⟨gb, 0, none⟩ = some (.string (⟨#[]⟩ : ByteArray)) := (blk_cell BK.out 0).trans rfl; have hcz14_1 : w13.cell? ⟨gb, 1, none⟩ = some (.int .u64 0) := (blk_cell BK.out 1).trans rfl; have hcz14_2 : w13.cell? ⟨gb, 2, none⟩ = some (.int .i64 0) := (blk_cell BK.out 2).trans rfl; have hcz14_3 : w13.cell? ⟨gb, 3, none⟩ = some (.string (⟨#[]⟩ : ByteArray)) := (blk_cell BK.out 3).trans rfl; have hfz14_0 := blk_frozen BK.out 0; have hfz14_1 := blk_frozen BK.out 1; have hfz14_2 := blk_frozen BK.out 2; have hfz14_3 := blk_frozen BK.out 3))
              have n0_ : Aside0 (((((w13.setCell ⟨gb, 0, none⟩ (.string e.f0)).setCell ⟨gb, 1, none⟩ (.int .u64 e.f1)).setCell ⟨gb, 2, none⟩ (.int .i64 e.f2)).setCell ⟨gb, 3, none⟩ (.string e.f3)).heap[gb]? = some (.cells #[.string e.f0, .int .u64 e.f1, .int .i64 e.f2, .string e.f3] 29 (0, 0))) := ⟨by (with_reducible repeat (first | refine blk_drewN ?_ _ | refine blk_drew ?_ | refine blk_alloc ?_ _)); refine blk_put (cs := #[.string e.f0, .int .u64 e.f1, .int .i64 e.f2, .string (⟨#[]⟩ : ByteArray)]) ?_ 3 _ rfl; (with_reducible repeat (first | refine blk_drewN ?_ _ | refine blk_drew ?_ | refine blk_alloc ?_ _)); refine blk_put (cs := #[.string e.f0, .int .u64 e.f1, .int .i64 0, .string (⟨#[]⟩ : ByteArray)]) ?_ 2 _ rfl; (with_reducible repeat (first | refine blk_drewN ?_ _ | refine blk_drew ?_ | refine blk_alloc ?_ _)); refine blk_put (cs := #[.string e.f0, .int .u64 0, .int .i64 0, .string (⟨#[]⟩ : ByteArray)]) ?_ 1 _ rfl; (with_reducible repeat (first | refine blk_drewN ?_ _ | refine blk_drew ?_ | refine blk_alloc ?_ _)); refine blk_put (cs := #[.string (⟨#[]⟩ : ByteArray), .int .u64 0, .int .i64 0, .string (⟨#[]⟩ : ByteArray)]) ?_ 0 _ rfl; (with_reducible repeat (first | refine blk_drewN ?_ _ | refine blk_drew ?_ | refine blk_alloc ?_ _)); exact BK.out⟩
              have n1_ : Aside0 (Below wr.heap.size wr ((((w13.setCell ⟨gb, 0, none⟩ (.string e.f0)).setCell ⟨gb, 1, none⟩ (.int .u64 e.f1)).setCell ⟨gb, 2, none⟩ (.int .i64 e.f2)).setCell ⟨gb, 3, none⟩ (.string e.f3))) := ⟨by repeat (first | (with_reducible first | exact HBq.out | apply below_alloc | apply pw_below_drewN | apply below_drew1 | refine below_set ?_ GE.out) | exact HBq.out)⟩
              (try clear BK)
              (try clear HBq)
              generalize ((((w13.setCell ⟨gb, 0, none⟩ (.string e.f0)).setCell ⟨gb, 1, none⟩ (.int .u64 e.f1)).setCell ⟨gb, 2, none⟩ (.int .i64 e.f2)).setCell ⟨gb, 3, none⟩ (.string e.f3)) = w15 at n0_ n1_ ⊢
              have BK := n0_
              have HBq := n1_
              clear n0_ n1_
              have hah := HAH.out
              unfold ahead at hah
              rw [if_neg h4] at hah
              obtain ⟨j, hj⟩ : ∃ j : Int, (i : Int) - 1 = j := ⟨_, rfl⟩
              rw [hj, show rdE l0 (i : Int) = e from hE.out] at hah
              have hL_ := hL
              unfold lim at hL_
              have hi_ : i < l0.length := by omega
              have hjw : IntKind.i64.wrap ((i : Int) - 1) = j := by rw [IntKind.wrap_i64]; omega
              have hj0 : 0 ≤ j := by omega
              have hj1 : j < (l0.length : Int) := by omega
              have HT2 := Aside0.mk (HT.out.below HBq.out)
              obtain ⟨ad2, e2, hy0, hy1, hy2, hy3⟩ := at_T29 HR0.out j hj0 hj1
              obtain rfl : ad = ad2 := by injection e2
              replace hy0 := (HT2.out.bel.cell (World.block_lt_of_cell? w _ hy0)).trans hy0
              generalize hpk : (rd_T29 l0 j).f0 = pk at hy0
              rw [show (rdE l0 j).f0 = pk from hpk] at hah
              obtain ⟨mm, hsh, hah⟩ := Option.bind_eq_some_iff.1 hah
              by_cases hmb : (0 ≤ mm ∧ mm ≤ (e.f0.size : Int)) ∧ mm ≤ (lim : Int)
              · rw [if_pos hmb] at hah
                obtain ⟨rfl, rfl⟩ := Prod.mk.inj (Option.some.inj hah)
                have SH := Aside0.mk hsh
                have HM0 := Aside0.mk hmb.1.1
                have HM1 := Aside0.mk hmb.1.2
                have hwm : IntKind.u64.wrap mm = mm := by have h1 := hmb.1.1; have h2 := hmb.2; unfold lim at h2; rw [IntKind.wrap_u64]; omega
                have hjw2 : wrap64 j = j := by rw [← i64_w, IntKind.wrap_i64]; omega
                have p1 := eq_true hj0
                have q1 := eq_true hj1
                have HTX := Aside0.mk (HT2.out.below (below_drew (Below.refl _ w15)))
                have BKX := Aside0.mk (blk_drew BK.out)
                have C0X : Aside0 (w15.drew.cell? (ad.add (j.toNat * 4)) = some (.string pk)) := ⟨hy0⟩
                (try clear HAH); (try clear hah); (try clear hG); (try clear HT); (try clear HBq); (try clear hfz14_0); (try clear hfz14_1); (try clear hfz14_2); (try clear hfz14_3); (try clear hcz14_0); (try clear hcz14_1); (try clear hcz14_2); (try clear hcz14_3); (try clear hx0); (try clear hx1); (try clear hx2); (try clear hx3); (try clear p0); (try clear q0)
                clear HT2 BK hy0 hy1 hy2 hy3 e2 hmb hsh hpk hj0 hj1
                go_wp2_with (fail)
                generalize hb0 : b = b0_ at *
                refine start_ (n := 10) (S := fun w' => True) (ds := []) #[false, false, false, false, false, false, false, false, false, false] (by kernel_rfl) rfl rfl trivial (fun hHeld => ?_); refine with_tabW pt10.tab pt10.bits (fun HT_ HW_ => ?_)
                generalize w15.drew = wS at *
                refine pure_ (i := 0) (N := some 25) (v := ?_) (a' := ?_) #[true, false, false, false, false, false, false, false, false, false] rfl rfl (any_of HT_.out (by kernel_rfl)) (fun _ _ _ h => h) (Or.inl ⟨by rfl, ?_⟩) ?_ ?_
                rotate_left
                · intro w'
                  go_simp
                  with_reducible rfl
                rotate_left
                · simp only [Act.put, List.setIfInBounds_toArray, List.set_cons_zero, List.set_cons_succ, i64_w, i32_w]
                  rfl
                refine pure_ (i := 1) (N := some 26) (v := ?_) (a' := ?_) #[true, true, false, false, false, false, false, false, false, false] rfl rfl (any_of HT_.out (by kernel_rfl)) (fun _ _ _ h => h) (Or.inl ⟨by rfl, ?_⟩) ?_ ?_
                rotate_left
                · intro w'
                  go_simp
                  with_reducible rfl
                rotate_left
                · simp only [Act.put, List.setIfInBounds_toArray, List.set_cons_zero, List.set_cons_succ, i64_w, i32_w]
                  rfl
                refine pure_ (i := 2) (N := some 27) (v := ?_) (a' := ?_) #[true, true, true, false, false, false, false, false, false, false] rfl rfl (any_of HT_.out (by kernel_rfl)) (fun _ _ _ h => h) (Or.inl ⟨by rfl, ?_⟩) ?_ ?_
                rotate_left
                · intro w'
                  go_simp
                  with_reducible rfl
                rotate_left
                · simp only [Act.put, List.setIfInBounds_toArray, List.set_cons_zero, List.set_cons_succ, i64_w, i32_w]
                  rfl
                refine pure_ (i := 3) (N := some 28) (v := ?_) (a' := ?_) #[true, true, true, true, false, false, false, false, false, false] rfl rfl (any_of HT_.out (by kernel_rfl)) (fun _ _ _ h => h) (Or.inl ⟨by rfl, ?_⟩) ?_ ?_
                rotate_left
                · intro w'
                  go_simp
                  with_reducible rfl
                rotate_left
                · simp only [Act.put, List.setIfInBounds_toArray, List.set_cons_zero, List.set_cons_succ, i64_w, i32_w]
                  rfl
                refine pure_ (i := 4) (N := some 29) (v := ?_) (a' := ?_) #[true, true, true, true, true, false, false, false, false, false] rfl rfl (any_of HT_.out (by kernel_rfl)) (fun _ _ _ h => h) (Or.inl ⟨by rfl, ?_⟩) ?_ ?_
                rotate_left
                · intro w'
                  go_simp
                  with_reducible rfl
                rotate_left
                · simp only [Act.put, List.setIfInBounds_toArray, List.set_cons_zero, List.set_cons_succ, i64_w, i32_w]
                  rfl
                refine pure_ (i := 6) (N := some 31) (v := ?_) (a' := ?_) #[true, true, true, true, true, false, true, false, false, false] rfl rfl (any_of HT_.out (by kernel_rfl)) (fun _ _ _ h => h) (Or.inl ⟨by rfl, ?_⟩) ?_ ?_
                rotate_left
                · intro w'
                  go_simp
                  with_reducible rfl
                rotate_left
                · simp only [Act.put, List.setIfInBounds_toArray, List.set_cons_zero, List.set_cons_succ, i64_w, i32_w]
                  rfl
                refine inv_at [5, 7, 8, 9] (fun a0_ b a w' => a = putSel a0_ b [(5, 30, .string pk), (7, 32, .string e.f0), (8, 33, .int .i64 mm), (9, 8, .int .i64 mm)] ∧ (Two w w' w1.heap.size (w1.heap.size + 1) b0_ r) ∧ (w'.heap[gb]? = some (.cells #[.string e.f0, .int .u64 e.f1, .int .i64 e.f2, .string e.f3] 29 (0, 0))) ∧ (w'.cell? (ad.add (j.toNat * 4)) = some (.string pk))) HT_.out HW_.out (by kernel_rfl) (by kernel_rfl) ?_ ?_ ?_
                · exact ⟨by simp only [putSel, Bool.false_eq_true, if_false], HTX.out, BKX.out, C0X.out⟩
                · skip
                  refine steps_cons ?_ ?_
                  · rintro b a w' ⟨ha, Q_TW, Q_BK, Q_C0⟩ hb_ hon hoff
                    refine ⟨_, rfl, fun K hK => ?_⟩
                    have e29 : a.tmps[29]? = some (.pointer (some (ad.add (j.toNat * 4)))) := by rw [ha]; exact (putSel_off rfl).trans rfl
                    replace ha := Aside0.mk ha
                    have hC := Q_C0
                    refine value_ (w1 := w') (v := .string pk) (by rfl) rfl ?_ ?_
                    · go_simp
                      (try simp only [i64_w])
                      try rfl
                    refine hK.out _ _ ⟨by rw [ha.out]; exact putSel_upk 0 hb_ rfl rfl rfl, Q_TW, Q_BK, Q_C0⟩
                  refine steps_cons ?_ ?_
                  · rintro b a w' ⟨ha, Q_TW, Q_BK, Q_C0⟩ hb_ hon hoff
                    refine ⟨_, rfl, fun K hK => ?_⟩
                    have e31 : a.tmps[31]? = some (.pointer (some ⟨gb, 0, none⟩)) := by rw [ha]; exact (putSel_off rfl).trans rfl
                    replace ha := Aside0.mk ha
                    have hc0_ : w'.cell? ⟨gb, 0, none⟩ = some (.string e.f0) := (blk_cell Q_BK 0).trans rfl
                    have hc1_ : w'.cell? ⟨gb, 1, none⟩ = some (.int .u64 e.f1) := (blk_cell Q_BK 1).trans rfl
                    have hc2_ : w'.cell? ⟨gb, 2, none⟩ = some (.int .i64 e.f2) := (blk_cell Q_BK 2).trans rfl
                    have hc3_ : w'.cell? ⟨gb, 3, none⟩ = some (.string e.f3) := (blk_cell Q_BK 3).trans rfl
                    refine value_ (w1 := w') (v := .string e.f0) (by rfl) rfl ?_ ?_
                    · go_simp
                      (try simp only [i64_w])
                      try rfl
                    refine hK.out _ _ ⟨by rw [ha.out]; exact putSel_upk 1 hb_ rfl rfl rfl, Q_TW, Q_BK, Q_C0⟩
                  refine steps_cons ?_ ?_
                  · rintro b a w' ⟨ha, Q_TW, Q_BK, Q_C0⟩ hb_ hon hoff
                    refine ⟨_, rfl, fun K hK => ?_⟩
                    have e30 : a.tmps[30]? = some (.string pk) := by rw [ha]; exact putSel_on (e := (5, 30, .string pk)) 0 rfl rfl (hon 5 (by kernel_rfl)) rfl
                    have e32 : a.tmps[32]? = some (.string e.f0) := by rw [ha]; exact putSel_on (e := (7, 32, .string e.f0)) 1 rfl rfl (hon 7 (by kernel_rfl)) rfl
                    replace ha := Aside0.mk ha
                    refine goes_ Try.func26 (by kernel_rfl) rfl #[.string pk, .string e.f0] (by rfl) rfl rfl (by first | (simp only [List.map_toArray, List.map_cons, List.map_nil, Act.eval, Array.getD_eq_getD_getElem?, Option.getD_some, e30, e32]; done) | (simp only [List.map_toArray, List.map_cons, List.map_nil, Act.eval, Array.getD_eq_getD_getElem?, Option.getD_some, e30, e32]; rfl)) ?_
                    refine (block_Shared.calls k pk e.f0 mm _ SH.out).mono ?_
                    rintro e w1 ⟨rfl, ⟨nd, rfl⟩⟩
                    refine ⟨_, rfl, ?_⟩
                    have hb1 : Below w'.heap.size w' (w'.drewN nd) := pw_below_drewN (Below.refl _ _) nd
                    refine hK.out _ _ ⟨by rw [ha.out]; exact putSel_upk 2 hb_ rfl rfl rfl, Q_TW.below hb1, blk_below Q_BK hb1, pw_cell_below hb1 Q_C0⟩
                  refine steps_cons ?_ ?_
                  · rintro b a w' ⟨ha, Q_TW, Q_BK, Q_C0⟩ hb_ hon hoff
                    refine ⟨_, rfl, fun K hK => ?_⟩
                    have e33 : a.tmps[33]? = some (.int .i64 mm) := by rw [ha]; exact putSel_on (e := (8, 33, .int .i64 mm)) 2 rfl rfl (hon 8 (by kernel_rfl)) rfl
                    replace ha := Aside0.mk ha
                    refine value_ (w1 := w') (v := .int .i64 mm) (by rfl) rfl ?_ ?_
                    · go_simp
                      (try simp only [i64_w])
                      try rfl
                    refine hK.out _ _ ⟨by rw [ha.out]; exact putSel_upk 3 hb_ rfl rfl rfl, Q_TW, Q_BK, Q_C0⟩
                  exact steps_nil
                rintro b a w24 hall ⟨ha, Q_TW, Q_BK, Q_C0⟩
                have hb5_ := hall 5 (by kernel_rfl)
                have hb7_ := hall 7 (by kernel_rfl)
                have hb8_ := hall 8 (by kernel_rfl)
                have hb9_ := hall 9 (by kernel_rfl)
                subst ha
                simp only [putSel, hb5_, hb7_, hb8_, hb9_, if_true, Act.put, List.setIfInBounds_toArray, List.set_cons_zero, List.set_cons_succ]
                have TW := Aside0.mk (Q_TW)
                have BK := Aside0.mk (Q_BK)
                have C0 := Aside0.mk (Q_C0)
                clear hall hb5_ hb7_ hb8_ hb9_ Q_TW Q_BK Q_C0
                go_wp2_with (fail)
                have hpc := HPC.out
                rw [show rdE l0 (i : Int) = e from hE.out] at hpc
                unfold piece at hpc
                obtain ⟨y1, a1, hpc⟩ := Option.bind_eq_some_iff.1 hpc
                obtain ⟨y2, a2, hpc⟩ := Option.bind_eq_some_iff.1 hpc
                obtain ⟨y3, a3, hpc⟩ := Option.bind_eq_some_iff.1 hpc
                obtain ⟨y4, a4, hpc⟩ := Option.bind_eq_some_iff.1 hpc
                have hsz : y1.size + y2.size + y3.size + y4.size ≤ lim := by
                  by_cases hq : y1.size + y2.size + y3.size + y4.size ≤ lim
                  · exact hq
                  · rw [if_neg hq] at hpc
                    cases hpc
                rw [if_pos hsz] at hpc
                obtain rfl := Option.some.inj hpc
                have A1 := Aside0.mk a1
                have A3 := Aside0.mk a3
                have A4 := Aside0.mk a4
                have HSZ := Aside0.mk hsz
                obtain ⟨kr, hkr⟩ : ∃ kr, e.f0.extract (mm : Int).toNat e.f0.size = kr := ⟨_, rfl⟩
                have A2 : Aside0 (num_Text.f k [kr] = some y2) := ⟨by rw [← hkr]; exact a2⟩
                have HKR := Aside0.mk hkr
                clear hpc a1 a2 a3 a4 hsz hkr HPC
                have HTX := Aside0.mk (TW.out.below (below_drew (Below.refl _ w24)))
                have BKX := Aside0.mk (blk_drew BK.out)
                clear TW BK C0
                refine start_ (n := 25) (S := fun w' => True) (ds := []) #[false, false, false, false, false, false, false, false, false, false, false, false, false, false, false, false, false, false, false, false, false, false, false, false, false] (by kernel_rfl) rfl rfl trivial (fun hHeld => ?_); refine with_tabW pt11.tab pt11.bits (fun HT_ HW_ => ?_)
                generalize w24.drew = wS at *
                refine pure_ (i := 0) (N := some 34) (v := ?_) (a' := ?_) #[true, false, false, false, false, false, false, false, false, false, false, false, false, false, false, false, false, false, false, false, false, false, false, false, false] rfl rfl (any_of HT_.out (by kernel_rfl)) (fun _ _ _ h => h) (Or.inl ⟨by rfl, ?_⟩) ?_ ?_
                rotate_left
                · intro w'
                  go_simp
                  with_reducible rfl
                rotate_left
                · simp only [Act.put, List.setIfInBounds_toArray, List.set_cons_zero, List.set_cons_succ, i64_w, i32_w]
                  rfl
                refine pure_ (i := 1) (N := some 35) (v := ?_) (a' := ?_) #[true, true, false, false, false, false, false, false, false, false, false, false, false, false, false, false, false, false, false, false, false, false, false, false, false] rfl rfl (any_of HT_.out (by kernel_rfl)) (fun _ _ _ h => h) (Or.inl ⟨by rfl, ?_⟩) ?_ ?_
                rotate_left
                · intro w'
                  go_simp
                  with_reducible rfl
                rotate_left
                · simp only [Act.put, List.setIfInBounds_toArray, List.set_cons_zero, List.set_cons_succ, i64_w, i32_w]
                  rfl
                refine pure_ (i := 4) (N := some 38) (v := ?_) (a' := ?_) #[true, true, false, false, true, false, false, false, false, false, false, false, false, false, false, false, false, false, false, false, false, false, false, false, false] rfl rfl (any_of HT_.out (by kernel_rfl)) (fun _ _ _ h => h) (Or.inl ⟨by rfl, ?_⟩) ?_ ?_
                rotate_left
                · intro w'
                  go_simp
                  with_reducible rfl
                rotate_left
                · simp only [Act.put, List.setIfInBounds_toArray, List.set_cons_zero, List.set_cons_succ, i64_w, i32_w]
                  rfl
                refine pure_ (i := 6) (N := some 40) (v := ?_) (a' := ?_) #[true, true, false, false, true, false, true, false, false, false, false, false, false, false, false, false, false, false, false, false, false, false, false, false, false] rfl rfl (any_of HT_.out (by kernel_rfl)) (fun _ _ _ h => h) (Or.inl ⟨by rfl, ?_⟩) ?_ ?_
                rotate_left
                · intro w'
                  go_simp
                  with_reducible rfl
                rotate_left
                · simp only [Act.put, List.setIfInBounds_toArray, List.set_cons_zero, List.set_cons_succ, i64_w, i32_w]
                  rfl
                refine pure_ (i := 11) (N := some 45) (v := ?_) (a' := ?_) #[true, true, false, false, true, false, true, false, false, false, false, true, false, false, false, false, false, false, false, false, false, false, false, false, false] rfl rfl (any_of HT_.out (by kernel_rfl)) (fun _ _ _ h => h) (Or.inl ⟨by rfl, ?_⟩) ?_ ?_
                rotate_left
                · intro w'
                  go_simp
                  with_reducible rfl
                rotate_left
                · simp only [Act.put, List.setIfInBounds_toArray, List.set_cons_zero, List.set_cons_succ, i64_w, i32_w]
                  rfl
                refine pure_ (i := 13) (N := some 47) (v := ?_) (a' := ?_) #[true, true, false, false, true, false, true, false, false, false, false, true, false, true, false, false, false, false, false, false, false, false, false, false, false] rfl rfl (any_of HT_.out (by kernel_rfl)) (fun _ _ _ h => h) (Or.inl ⟨by rfl, ?_⟩) ?_ ?_
                rotate_left
                · intro w'
                  go_simp
                  with_reducible rfl
                rotate_left
                · simp only [Act.put, List.setIfInBounds_toArray, List.set_cons_zero, List.set_cons_succ, i64_w, i32_w]
                  rfl
                refine pure_ (i := 19) (N := some 53) (v := ?_) (a' := ?_) #[true, true, false, false, true, false, true, false, false, false, false, true, false, true, false, false, false, false, false, true, false, false, false, false, false] rfl rfl (any_of HT_.out (by kernel_rfl)) (fun _ _ _ h => h) (Or.inl ⟨by rfl, ?_⟩) ?_ ?_
                rotate_left
                · intro w'
                  go_simp
                  with_reducible rfl
                rotate_left
                · simp only [Act.put, List.setIfInBounds_toArray, List.set_cons_zero, List.set_cons_succ, i64_w, i32_w]
                  rfl
                refine inv_at [2, 3, 5, 7, 8, 9, 10, 12, 14, 15, 16, 17, 18, 20, 21, 22, 23, 24] (fun a0_ b a w' => ∃ (v36 : Value), ∃ (v42 : Value), ∃ (v50 : Value), ∃ (v55 : Value), a = putSel a0_ b [(2, 36, v36), (3, 37, .string y1), (5, 39, .string e.f0), (7, 41, .string kr), (8, 42, v42), (9, 43, .string y2), (10, 44, .string (y1 ++ y2)), (12, 46, .int .u64 e.f1), (14, 48, .int .i64 e.f2), (15, 49, .int .u64 (IntKind.u64.wrap e.f2)), (16, 50, v50), (17, 51, .string y3), (18, 52, .string ((y1 ++ y2) ++ y3)), (20, 54, .string e.f3), (21, 55, v55), (22, 56, .string y4), (23, 57, .string (((y1 ++ y2) ++ y3) ++ y4)), (24, 58, .tuple #[.int .i64 (((y1 ++ y2) ++ y3) ++ y4).size, .nilIface])] ∧ (b 24 = false → Two w w' w1.heap.size (w1.heap.size + 1) b0_ r) ∧ (b 24 = true → Two w w' w1.heap.size (w1.heap.size + 1) (b0_ ++ (((y1 ++ y2) ++ y3) ++ y4)) r) ∧ (w'.heap[gb]? = some (.cells #[.string e.f0, .int .u64 e.f1, .int .i64 e.f2, .string e.f3] 29 (0, 0))) ∧ (b 2 = true → b 24 = false → Kd.R (Kd.int .u64) 27 w' w.heap.size (fun _ => True) v36 ([mm] : List Int)) ∧ (b 8 = true → b 24 = false → Kd.R Kd.string 9 w' w.heap.size (fun _ => True) v42 ([kr] : List ByteArray)) ∧ (b 16 = true → b 24 = false → Kd.R (Kd.int .u64) 27 w' w.heap.size (fun _ => True) v50 ([e.f1, (IntKind.u64.wrap e.f2)] : List Int)) ∧ (b 21 = true → b 24 = false → Kd.R Kd.string 9 w' w.heap.size (fun _ => True) v55 ([e.f3] : List ByteArray))) HT_.out HW_.out (by kernel_rfl) (by kernel_rfl) ?_ ?_ ?_
                · exact ⟨.bool false, .bool false, .bool false, .bool false, by simp only [putSel, Bool.false_eq_true, if_false], fun _ => HTX.out, fun h_ => absurd h_ (by decide), BKX.out, fun h_ => absurd h_ (by decide), fun h_ => absurd h_ (by decide), fun h_ => absurd h_ (by decide), fun h_ => absurd h_ (by decide)⟩
                · skip
                  refine steps_cons ?_ ?_
                  · rintro b a w' ⟨v36, v42, v50, v55, ha, Q_TW, Q_POST, Q_BK, Q_L36, Q_L42, Q_L50, Q_L55⟩ hb_ hon hoff
                    refine ⟨_, rfl, fun K hK => ?_⟩
                    have e35 : a.tmps[35]? = some (.int .u64 mm) := by rw [ha]; exact (putSel_off rfl).trans rfl
                    replace ha := Aside0.mk ha
                    refine Kd.R_lit_step (Kd.int .u64) _ 27 ?hg (N := 36) ?hd (xs := ([mm] : List Int)) (inner := [.int .u64 mm]) (ok := fun _ => True) (okp := fun _ => True) ?hr ?hp (fun _ hk => hk) trivial (Below.refl _ _) (Nat.le_refl _) (by simp) ?_; (case hd => rfl); (case hg => rfl); (case hr => first | (go_simp; done) | (go_simp; rfl)); (case hp => exact (Reps.one (show Kd.M (Kd.int .u64) _ _ _ mm [.int .u64 mm] from rfl) (Reps.none _ _)))
                    intro v36n w1 ho1 hb1 hg_ hnew_
                    clear hg_ hnew_
                    refine hK.out _ _ ⟨v36n, v42, v50, v55, by rw [ha.out]; exact putSel_upk 0 hb_ rfl rfl rfl, fun h_ => (Q_TW h_).below hb1, fun h_ => absurd ((hoff 24 (by kernel_rfl)).symm.trans h_) (by decide), blk_below Q_BK hb1, fun _ _ => Kd.R_lower ho1 (Q_TW (hoff 24 (by kernel_rfl))).bel.size, fun h_ k_ => Kd.R_below (Q_L42 h_ k_) hb1, fun h_ k_ => Kd.R_below (Q_L50 h_ k_) hb1, fun h_ k_ => Kd.R_below (Q_L55 h_ k_) hb1⟩
                  refine steps_cons ?_ ?_
                  · rintro b a w' ⟨v36, v42, v50, v55, ha, Q_TW, Q_POST, Q_BK, Q_L36, Q_L42, Q_L50, Q_L55⟩ hb_ hon hoff
                    refine ⟨_, rfl, fun K hK => ?_⟩
                    have e36 : a.tmps[36]? = some (v36) := by rw [ha]; exact putSel_on (e := (2, 36, v36)) 0 rfl rfl (hon 2 (by kernel_rfl)) rfl
                    replace ha := Aside0.mk ha
                    have hS := Q_L36 (hon 2 (by kernel_rfl)) (hoff 24 (by kernel_rfl))
                    obtain ⟨As, cs, es⟩ := Kd.R_slice hS
                    subst es
                    refine goes_ Try.func44 (by kernel_rfl) rfl #[.slice As ([mm] : List Int).length cs] (by rfl) rfl rfl (by first | (simp only [List.map_toArray, List.map_cons, List.map_nil, Act.eval, Array.getD_eq_getD_getElem?, Option.getD_some, e36]; done) | (simp only [List.map_toArray, List.map_cons, List.map_nil, Act.eval, Array.getD_eq_getD_getElem?, Option.getD_some, e36]; rfl)) ?_
                    refine (num_Var.calls k _ _ ([mm] : List Int) y1 _ (Kd.R_reads' hS).2.2 (Kd.R_reads' hS).2.1 A1.out).mono ?_
                    rintro e w1 ⟨rfl, hb1⟩
                    refine ⟨_, rfl, ?_⟩
                    refine hK.out _ _ ⟨.slice As ([mm] : List Int).length cs, v42, v50, v55, by rw [ha.out]; exact putSel_upk 1 hb_ rfl rfl rfl, fun h_ => (Q_TW h_).below hb1, fun h_ => absurd ((hoff 24 (by kernel_rfl)).symm.trans h_) (by decide), blk_below Q_BK hb1, fun h_ k_ => Kd.R_below (Q_L36 h_ k_) hb1, fun h_ k_ => Kd.R_below (Q_L42 h_ k_) hb1, fun h_ k_ => Kd.R_below (Q_L50 h_ k_) hb1, fun h_ k_ => Kd.R_below (Q_L55 h_ k_) hb1⟩
                  refine steps_cons ?_ ?_
                  · rintro b a w' ⟨v36, v42, v50, v55, ha, Q_TW, Q_POST, Q_BK, Q_L36, Q_L42, Q_L50, Q_L55⟩ hb_ hon hoff
                    refine ⟨_, rfl, fun K hK => ?_⟩
                    have e38 : a.tmps[38]? = some (.pointer (some ⟨gb, 0, none⟩)) := by rw [ha]; exact (putSel_off rfl).trans rfl
                    replace ha := Aside0.mk ha
                    have hc0_ : w'.cell? ⟨gb, 0, none⟩ = some (.string e.f0) := (blk_cell Q_BK 0).trans rfl
                    have hc1_ : w'.cell? ⟨gb, 1, none⟩ = some (.int .u64 e.f1) := (blk_cell Q_BK 1).trans rfl
                    have hc2_ : w'.cell? ⟨gb, 2, none⟩ = some (.int .i64 e.f2) := (blk_cell Q_BK 2).trans rfl
                    have hc3_ : w'.cell? ⟨gb, 3, none⟩ = some (.string e.f3) := (blk_cell Q_BK 3).trans rfl
                    refine value_ (w1 := w') (v := .string e.f0) (by rfl) rfl ?_ ?_
                    · go_simp
                      (try simp only [i64_w])
                      try rfl
                    refine hK.out _ _ ⟨v36, v42, v50, v55, by rw [ha.out]; exact putSel_upk 2 hb_ rfl rfl rfl, Q_TW, Q_POST, Q_BK, Q_L36, Q_L42, Q_L50, Q_L55⟩
                  refine steps_cons ?_ ?_
                  · rintro b a w' ⟨v36, v42, v50, v55, ha, Q_TW, Q_POST, Q_BK, Q_L36, Q_L42, Q_L50, Q_L55⟩ hb_ hon hoff
                    refine ⟨_, rfl, fun K hK => ?_⟩
                    have e39 : a.tmps[39]? = some (.string e.f0) := by rw [ha]; exact putSel_on (e := (5, 39, .string e.f0)) 2 rfl rfl (hon 5 (by kernel_rfl)) rfl
                    have e40 : a.tmps[40]? = some (.int .i64 mm) := by rw [ha]; exact (putSel_off rfl).trans rfl
                    replace ha := Aside0.mk ha
                    have hm0 := HM0.out
                    have hm1 := HM1.out
                    have hkr := HKR.out
                    refine value_ (w1 := w') (v := .string kr) (by rfl) rfl ?_ ?_
                    · (go_simp; (try simp only [i64_w]); first | done | rfl | exact hkr | (rw [← hkr]; simp))
                    refine hK.out _ _ ⟨v36, v42, v50, v55, by rw [ha.out]; exact putSel_upk 3 hb_ rfl rfl rfl, Q_TW, Q_POST, Q_BK, Q_L36, Q_L42, Q_L50, Q_L55⟩
                  refine steps_cons ?_ ?_
                  · rintro b a w' ⟨v36, v42, v50, v55, ha, Q_TW, Q_POST, Q_BK, Q_L36, Q_L42, Q_L50, Q_L55⟩ hb_ hon hoff
                    refine ⟨_, rfl, fun K hK => ?_⟩
                    have e41 : a.tmps[41]? = some (.string kr) := by rw [ha]; exact putSel_on (e := (7, 41, .string kr)) 3 rfl rfl (hon 7 (by kernel_rfl)) rfl
                    replace ha := Aside0.mk ha
                    refine Kd.R_lit_step Kd.string _ 9 ?hg (N := 42) ?hd (xs := ([kr] : List ByteArray)) (inner := [.string kr]) (ok := fun _ => True) (okp := fun _ => True) ?hr ?hp (fun _ hk => hk) trivial (Below.refl _ _) (Nat.le_refl _) (by simp) ?_; (case hd => rfl); (case hg => rfl); (case hr => first | (go_simp; done) | (go_simp; rfl)); (case hp => exact (Reps.one (show Kd.M Kd.string _ _ _ kr [.string kr] from rfl) (Reps.none _ _)))
                    intro v42n w1 ho1 hb1 hg_ hnew_
                    clear hg_ hnew_
                    refine hK.out _ _ ⟨v36, v42n, v50, v55, by rw [ha.out]; exact putSel_upk 4 hb_ rfl rfl rfl, fun h_ => (Q_TW h_).below hb1, fun h_ => absurd ((hoff 24 (by kernel_rfl)).symm.trans h_) (by decide), blk_below Q_BK hb1, fun h_ k_ => Kd.R_below (Q_L36 h_ k_) hb1, fun _ _ => Kd.R_lower ho1 (Q_TW (hoff 24 (by kernel_rfl))).bel.size, fun h_ k_ => Kd.R_below (Q_L50 h_ k_) hb1, fun h_ k_ => Kd.R_below (Q_L55 h_ k_) hb1⟩
                  refine steps_cons ?_ ?_
                  · rintro b a w' ⟨v36, v42, v50, v55, ha, Q_TW, Q_POST, Q_BK, Q_L36, Q_L42, Q_L50, Q_L55⟩ hb_ hon hoff
                    refine ⟨_, rfl, fun K hK => ?_⟩
                    have e42 : a.tmps[42]? = some (v42) := by rw [ha]; exact putSel_on (e := (8, 42, v42)) 4 rfl rfl (hon 8 (by kernel_rfl)) rfl
                    replace ha := Aside0.mk ha
                    have hS := Q_L42 (hon 8 (by kernel_rfl)) (hoff 24 (by kernel_rfl))
                    obtain ⟨As, cs, es⟩ := Kd.R_slice hS
                    subst es
                    refine goes_ Try.func45 (by kernel_rfl) rfl #[.slice As ([kr] : List ByteArray).length cs] (by rfl) rfl rfl (by first | (simp only [List.map_toArray, List.map_cons, List.map_nil, Act.eval, Array.getD_eq_getD_getElem?, Option.getD_some, e42]; done) | (simp only [List.map_toArray, List.map_cons, List.map_nil, Act.eval, Array.getD_eq_getD_getElem?, Option.getD_some, e42]; rfl)) ?_
                    refine (num_Text.calls k _ _ ([kr] : List ByteArray) y2 _ (Kd.R_reads' hS).2.2 (Kd.R_reads' hS).2.1 A2.out).mono ?_
                    rintro e w1 ⟨rfl, hb1⟩
                    refine ⟨_, rfl, ?_⟩
                    refine hK.out _ _ ⟨v36, .slice As ([kr] : List ByteArray).length cs, v50, v55, by rw [ha.out]; exact putSel_upk 5 hb_ rfl rfl rfl, fun h_ => (Q_TW h_).below hb1, fun h_ => absurd ((hoff 24 (by kernel_rfl)).symm.trans h_) (by decide), blk_below Q_BK hb1, fun h_ k_ => Kd.R_below (Q_L36 h_ k_) hb1, fun h_ k_ => Kd.R_below (Q_L42 h_ k_) hb1, fun h_ k_ => Kd.R_below (Q_L50 h_ k_) hb1, fun h_ k_ => Kd.R_below (Q_L55 h_ k_) hb1⟩
                  refine steps_cons ?_ ?_
                  · rintro b a w' ⟨v36, v42, v50, v55, ha, Q_TW, Q_POST, Q_BK, Q_L36, Q_L42, Q_L50, Q_L55⟩ hb_ hon hoff
                    refine ⟨_, rfl, fun K hK => ?_⟩
                    have e37 : a.tmps[37]? = some (.string y1) := by rw [ha]; exact putSel_on (e := (3, 37, .string y1)) 1 rfl rfl (hon 3 (by kernel_rfl)) rfl
                    have e43 : a.tmps[43]? = some (.string y2) := by rw [ha]; exact putSel_on (e := (9, 43, .string y2)) 5 rfl rfl (hon 9 (by kernel_rfl)) rfl
                    replace ha := Aside0.mk ha
                    have hz_ := HSZ.out
                    have f1 := eq_true (show y1.size + y2.size ≤ 9223372036854775807 by unfold lim at hz_; (try simp only [ByteArray.size_append]); omega)
                    have f2 : (9223372036854775807 < y1.size + y2.size) = False := eq_false (by unfold lim at hz_; (try simp only [ByteArray.size_append]); omega)
                    try simp only [ByteArray.size_append] at f1 f2
                    refine value_ (w1 := w') (v := .string (y1 ++ y2)) (by rfl) rfl ?_ ?_
                    · go_simp
                      (try simp only [i64_w])
                      try rfl
                    refine hK.out _ _ ⟨v36, v42, v50, v55, by rw [ha.out]; exact putSel_upk 6 hb_ rfl rfl rfl, Q_TW, Q_POST, Q_BK, Q_L36, Q_L42, Q_L50, Q_L55⟩
                  refine steps_cons ?_ ?_
                  · rintro b a w' ⟨v36, v42, v50, v55, ha, Q_TW, Q_POST, Q_BK, Q_L36, Q_L42, Q_L50, Q_L55⟩ hb_ hon hoff
                    refine ⟨_, rfl, fun K hK => ?_⟩
                    have e45 : a.tmps[45]? = some (.pointer (some ⟨gb, 1, none⟩)) := by rw [ha]; exact (putSel_off rfl).trans rfl
                    replace ha := Aside0.mk ha
                    have hc0_ : w'.cell? ⟨gb, 0, none⟩ = some (.string e.f0) := (blk_cell Q_BK 0).trans rfl
                    have hc1_ : w'.cell? ⟨gb, 1, none⟩ = some (.int .u64 e.f1) := (blk_cell Q_BK 1).trans rfl
                    have hc2_ : w'.cell? ⟨gb, 2, none⟩ = some (.int .i64 e.f2) := (blk_cell Q_BK 2).trans rfl
                    have hc3_ : w'.cell? ⟨gb, 3, none⟩ = some (.string e.f3) := (blk_cell Q_BK 3).trans rfl
                    refine value_ (w1 := w') (v := .int .u64 e.f1) (by rfl) rfl ?_ ?_
                    · go_simp
                      (try simp only [i64_w])
                      try rfl
                    refine hK.out _ _ ⟨v36, v42, v50, v55, by rw [ha.out]; exact putSel_upk 7 hb_ rfl rfl rfl, Q_TW, Q_POST, Q_BK, Q_L36, Q_L42, Q_L50, Q_L55⟩
                  refine steps_cons ?_ ?_
                  · rintro b a w' ⟨v36, v42, v50, v55, ha, Q_TW, Q_POST, Q_BK, Q_L36, Q_L42, Q_L50, Q_L55⟩ hb_ hon hoff
                    refine ⟨_, rfl, fun K hK => ?_⟩
                    have e47 : a.tmps[47]? = some (.pointer (some ⟨gb, 2, none⟩)) := by rw [ha]; exact (putSel_off rfl).trans rfl
                    replace ha := Aside0.mk ha
                    have hc0_ : w'.cell? ⟨gb, 0, none⟩ = some (.string e.f0) := (blk_cell Q_BK 0).trans rfl
                    have hc1_ : w'.cell? ⟨gb, 1, none⟩ = some (.int .u64 e.f1) := (blk_cell Q_BK 1).trans rfl
                    have hc2_ : w'.cell? ⟨gb, 2, none⟩ = some (.int .i64 e.f2) := (blk_cell Q_BK 2).trans rfl
                    have hc3_ : w'.cell? ⟨gb, 3, none⟩ = some (.string e.f3) := (blk_cell Q_BK 3).trans rfl
                    refine value_ (w1 := w') (v := .int .i64 e.f2) (by rfl) rfl ?_ ?_
                    · go_simp
                      (try simp only [i64_w])
                      try rfl
                    refine hK.out _ _ ⟨v36, v42, v50, v55, by rw [ha.out]; exact putSel_upk 8 hb_ rfl rfl rfl, Q_TW, Q_POST, Q_BK, Q_L36, Q_L42, Q_L50, Q_L55⟩
                  refine steps_cons ?_ ?_
                  · rintro b a w' ⟨v36, v42, v50, v55, ha, Q_TW, Q_POST, Q_BK, Q_L36, Q_L42, Q_L50, Q_L55⟩ hb_ hon hoff
                    refine ⟨_, rfl, fun K hK => ?_⟩
                    have e48 : a.tmps[48]? = some (.int .i64 e.f2) := by rw [ha]; exact putSel_on (e := (14, 48, .int .i64 e.f2)) 8 rfl rfl (hon 14 (by kernel_rfl)) rfl
                    replace ha := Aside0.mk ha
                    refine value_ (w1 := w') (v := .int .u64 (IntKind.u64.wrap e.f2)) (by rfl) rfl ?_ ?_
                    · go_simp
                      (try simp only [i64_w])
                      try rfl
                    refine hK.out _ _ ⟨v36, v42, v50, v55, by rw [ha.out]; exact putSel_upk 9 hb_ rfl rfl rfl, Q_TW, Q_POST, Q_BK, Q_L36, Q_L42, Q_L50, Q_L55⟩
                  refine steps_cons ?_ ?_
                  · rintro b a w' ⟨v36, v42, v50, v55, ha, Q_TW, Q_POST, Q_BK, Q_L36, Q_L42, Q_L50, Q_L55⟩ hb_ hon hoff
                    refine ⟨_, rfl, fun K hK => ?_⟩
                    have e46 : a.tmps[46]? = some (.int .u64 e.f1) := by rw [ha]; exact putSel_on (e := (12, 46, .int .u64 e.f1)) 7 rfl rfl (hon 12 (by kernel_rfl)) rfl
                    have e49 : a.tmps[49]? = some (.int .u64 (IntKind.u64.wrap e.f2)) := by rw [ha]; exact putSel_on (e := (15, 49, .int .u64 (IntKind.u64.wrap e.f2))) 9 rfl rfl (hon 15 (by kernel_rfl)) rfl
                    replace ha := Aside0.mk ha
                    refine Kd.R_lit_step (Kd.int .u64) _ 27 ?hg (N := 50) ?hd (xs := ([e.f1, (IntKind.u64.wrap e.f2)] : List Int)) (inner := [.int .u64 e.f1, .int .u64 (IntKind.u64.wrap e.f2)]) (ok := fun _ => True) (okp := fun _ => True) ?hr ?hp (fun _ hk => hk) trivial (Below.refl _ _) (Nat.le_refl _) (by simp) ?_; (case hd => rfl); (case hg => rfl); (case hr => first | (go_simp; done) | (go_simp; rfl)); (case hp => exact (Reps.one (show Kd.M (Kd.int .u64) _ _ _ e.f1 [.int .u64 e.f1] from rfl) (Reps.one (show Kd.M (Kd.int .u64) _ _ _ (IntKind.u64.wrap e.f2) [.int .u64 (IntKind.u64.wrap e.f2)] from rfl) (Reps.none _ _))))
                    intro v50n w1 ho1 hb1 hg_ hnew_
                    clear hg_ hnew_
                    refine hK.out _ _ ⟨v36, v42, v50n, v55, by rw [ha.out]; exact putSel_upk 10 hb_ rfl rfl rfl, fun h_ => (Q_TW h_).below hb1, fun h_ => absurd ((hoff 24 (by kernel_rfl)).symm.trans h_) (by decide), blk_below Q_BK hb1, fun h_ k_ => Kd.R_below (Q_L36 h_ k_) hb1, fun h_ k_ => Kd.R_below (Q_L42 h_ k_) hb1, fun _ _ => Kd.R_lower ho1 (Q_TW (hoff 24 (by kernel_rfl))).bel.size, fun h_ k_ => Kd.R_below (Q_L55 h_ k_) hb1⟩
                  refine steps_cons ?_ ?_
                  · rintro b a w' ⟨v36, v42, v50, v55, ha, Q_TW, Q_POST, Q_BK, Q_L36, Q_L42, Q_L50, Q_L55⟩ hb_ hon hoff
                    refine ⟨_, rfl, fun K hK => ?_⟩
                    have e50 : a.tmps[50]? = some (v50) := by rw [ha]; exact putSel_on (e := (16, 50, v50)) 10 rfl rfl (hon 16 (by kernel_rfl)) rfl
                    replace ha := Aside0.mk ha
                    have hS := Q_L50 (hon 16 (by kernel_rfl)) (hoff 24 (by kernel_rfl))
                    obtain ⟨As, cs, es⟩ := Kd.R_slice hS
                    subst es
                    refine goes_ Try.func44 (by kernel_rfl) rfl #[.slice As ([e.f1, (IntKind.u64.wrap e.f2)] : List Int).length cs] (by rfl) rfl rfl (by first | (simp only [List.map_toArray, List.map_cons, List.map_nil, Act.eval, Array.getD_eq_getD_getElem?, Option.getD_some, e50]; done) | (simp only [List.map_toArray, List.map_cons, List.map_nil, Act.eval, Array.getD_eq_getD_getElem?, Option.getD_some, e50]; rfl)) ?_
                    refine (num_Var.calls k _ _ ([e.f1, (IntKind.u64.wrap e.f2)] : List Int) y3 _ (Kd.R_reads' hS).2.2 (Kd.R_reads' hS).2.1 A3.out).mono ?_
                    rintro e w1 ⟨rfl, hb1⟩
                    refine ⟨_, rfl, ?_⟩
                    refine hK.out _ _ ⟨v36, v42, .slice As ([e.f1, (IntKind.u64.wrap e.f2)] : List Int).length cs, v55, by rw [ha.out]; exact putSel_upk 11 hb_ rfl rfl rfl, fun h_ => (Q_TW h_).below hb1, fun h_ => absurd ((hoff 24 (by kernel_rfl)).symm.trans h_) (by decide), blk_below Q_BK hb1, fun h_ k_ => Kd.R_below (Q_L36 h_ k_) hb1, fun h_ k_ => Kd.R_below (Q_L42 h_ k_) hb1, fun h_ k_ => Kd.R_below (Q_L50 h_ k_) hb1, fun h_ k_ => Kd.R_below (Q_L55 h_ k_) hb1⟩
                  refine steps_cons ?_ ?_
                  · rintro b a w' ⟨v36, v42, v50, v55, ha, Q_TW, Q_POST, Q_BK, Q_L36, Q_L42, Q_L50, Q_L55⟩ hb_ hon hoff
                    refine ⟨_, rfl, fun K hK => ?_⟩
                    have e44 : a.tmps[44]? = some (.string (y1 ++ y2)) := by rw [ha]; exact putSel_on (e := (10, 44, .string (y1 ++ y2))) 6 rfl rfl (hon 10 (by kernel_rfl)) rfl
                    have e51 : a.tmps[51]? = some (.string y3) := by rw [ha]; exact putSel_on (e := (17, 51, .string y3)) 11 rfl rfl (hon 17 (by kernel_rfl)) rfl
                    replace ha := Aside0.mk ha
                    have hz_ := HSZ.out
                    have f1 := eq_true (show (y1 ++ y2).size + y3.size ≤ 9223372036854775807 by unfold lim at hz_; (try simp only [ByteArray.size_append]); omega)
                    have f2 : (9223372036854775807 < (y1 ++ y2).size + y3.size) = False := eq_false (by unfold lim at hz_; (try simp only [ByteArray.size_append]); omega)
                    try simp only [ByteArray.size_append] at f1 f2
                    refine value_ (w1 := w') (v := .string ((y1 ++ y2) ++ y3)) (by rfl) rfl ?_ ?_
                    · go_simp
                      (try simp only [i64_w])
                      try rfl
                    refine hK.out _ _ ⟨v36, v42, v50, v55, by rw [ha.out]; exact putSel_upk 12 hb_ rfl rfl rfl, Q_TW, Q_POST, Q_BK, Q_L36, Q_L42, Q_L50, Q_L55⟩
                  refine steps_cons ?_ ?_
                  · rintro b a w' ⟨v36, v42, v50, v55, ha, Q_TW, Q_POST, Q_BK, Q_L36, Q_L42, Q_L50, Q_L55⟩ hb_ hon hoff
                    refine ⟨_, rfl, fun K hK => ?_⟩
                    have e53 : a.tmps[53]? = some (.pointer (some ⟨gb, 3, none⟩)) := by rw [ha]; exact (putSel_off rfl).trans rfl
                    replace ha := Aside0.mk ha
                    have hc0_ : w'.cell? ⟨gb, 0, none⟩ = some (.string e.f0) := (blk_cell Q_BK 0).trans rfl
                    have hc1_ : w'.cell? ⟨gb, 1, none⟩ = some (.int .u64 e.f1) := (blk_cell Q_BK 1).trans rfl
                    have hc2_ : w'.cell? ⟨gb, 2, none⟩ = some (.int .i64 e.f2) := (blk_cell Q_BK 2).trans rfl
                    have hc3_ : w'.cell? ⟨gb, 3, none⟩ = some (.string e.f3) := (blk_cell Q_BK 3).trans rfl
                    refine value_ (w1 := w') (v := .string e.f3) (by rfl) rfl ?_ ?_
                    · go_simp
                      (try simp only [i64_w])
                      try rfl
                    refine hK.out _ _ ⟨v36, v42, v50, v55, by rw [ha.out]; exact putSel_upk 13 hb_ rfl rfl rfl, Q_TW, Q_POST, Q_BK, Q_L36, Q_L42, Q_L50, Q_L55⟩
                  refine steps_cons ?_ ?_
                  · rintro b a w' ⟨v36, v42, v50, v55, ha, Q_TW, Q_POST, Q_BK, Q_L36, Q_L42, Q_L50, Q_L55⟩ hb_ hon hoff
                    refine ⟨_, rfl, fun K hK => ?_⟩
                    have e54 : a.tmps[54]? = some (.string e.f3) := by rw [ha]; exact putSel_on (e := (20, 54, .string e.f3)) 13 rfl rfl (hon 20 (by kernel_rfl)) rfl
                    replace ha := Aside0.mk ha
                    refine Kd.R_lit_step Kd.string _ 9 ?hg (N := 55) ?hd (xs := ([e.f3] : List ByteArray)) (inner := [.string e.f3]) (ok := fun _ => True) (okp := fun _ => True) ?hr ?hp (fun _ hk => hk) trivial (Below.refl _ _) (Nat.le_refl _) (by simp) ?_; (case hd => rfl); (case hg => rfl); (case hr => first | (go_simp; done) | (go_simp; rfl)); (case hp => exact (Reps.one (show Kd.M Kd.string _ _ _ e.f3 [.string e.f3] from rfl) (Reps.none _ _)))
                    intro v55n w1 ho1 hb1 hg_ hnew_
                    clear hg_ hnew_
                    refine hK.out _ _ ⟨v36, v42, v50, v55n, by rw [ha.out]; exact putSel_upk 14 hb_ rfl rfl rfl, fun h_ => (Q_TW h_).below hb1, fun h_ => absurd ((hoff 24 (by kernel_rfl)).symm.trans h_) (by decide), blk_below Q_BK hb1, fun h_ k_ => Kd.R_below (Q_L36 h_ k_) hb1, fun h_ k_ => Kd.R_below (Q_L42 h_ k_) hb1, fun h_ k_ => Kd.R_below (Q_L50 h_ k_) hb1, fun _ _ => Kd.R_lower ho1 (Q_TW (hoff 24 (by kernel_rfl))).bel.size⟩
                  refine steps_cons ?_ ?_
                  · rintro b a w' ⟨v36, v42, v50, v55, ha, Q_TW, Q_POST, Q_BK, Q_L36, Q_L42, Q_L50, Q_L55⟩ hb_ hon hoff
                    refine ⟨_, rfl, fun K hK => ?_⟩
                    have e55 : a.tmps[55]? = some (v55) := by rw [ha]; exact putSel_on (e := (21, 55, v55)) 14 rfl rfl (hon 21 (by kernel_rfl)) rfl
                    replace ha := Aside0.mk ha
                    have hS := Q_L55 (hon 21 (by kernel_rfl)) (hoff 24 (by kernel_rfl))
                    obtain ⟨As, cs, es⟩ := Kd.R_slice hS
                    subst es
                    refine goes_ Try.func45 (by kernel_rfl) rfl #[.slice As ([e.f3] : List ByteArray).length cs] (by rfl) rfl rfl (by first | (simp only [List.map_toArray, List.map_cons, List.map_nil, Act.eval, Array.getD_eq_getD_getElem?, Option.getD_some, e55]; done) | (simp only [List.map_toArray, List.map_cons, List.map_nil, Act.eval, Array.getD_eq_getD_getElem?, Option.getD_some, e55]; rfl)) ?_
                    refine (num_Text.calls k _ _ ([e.f3] : List ByteArray) y4 _ (Kd.R_reads' hS).2.2 (Kd.R_reads' hS).2.1 A4.out).mono ?_
                    rintro e w1 ⟨rfl, hb1⟩
                    refine ⟨_, rfl, ?_⟩
                    refine hK.out _ _ ⟨v36, v42, v50, .slice As ([e.f3] : List ByteArray).length cs, by rw [ha.out]; exact putSel_upk 15 hb_ rfl rfl rfl, fun h_ => (Q_TW h_).below hb1, fun h_ => absurd ((hoff 24 (by kernel_rfl)).symm.trans h_) (by decide), blk_below Q_BK hb1, fun h_ k_ => Kd.R_below (Q_L36 h_ k_) hb1, fun h_ k_ => Kd.R_below (Q_L42 h_ k_) hb1, fun h_ k_ => Kd.R_below (Q_L50 h_ k_) hb1, fun h_ k_ => Kd.R_below (Q_L55 h_ k_) hb1⟩
                  refine steps_cons ?_ ?_
                  · rintro b a w' ⟨v36, v42, v50, v55, ha, Q_TW, Q_POST, Q_BK, Q_L36, Q_L42, Q_L50, Q_L55⟩ hb_ hon hoff
                    refine ⟨_, rfl, fun K hK => ?_⟩
                    have e52 : a.tmps[52]? = some (.string ((y1 ++ y2) ++ y3)) := by rw [ha]; exact putSel_on (e := (18, 52, .string ((y1 ++ y2) ++ y3))) 12 rfl rfl (hon 18 (by kernel_rfl)) rfl
                    have e56 : a.tmps[56]? = some (.string y4) := by rw [ha]; exact putSel_on (e := (22, 56, .string y4)) 15 rfl rfl (hon 22 (by kernel_rfl)) rfl
                    replace ha := Aside0.mk ha
                    have hz_ := HSZ.out
                    have f1 := eq_true (show ((y1 ++ y2) ++ y3).size + y4.size ≤ 9223372036854775807 by unfold lim at hz_; (try simp only [ByteArray.size_append]); omega)
                    have f2 : (9223372036854775807 < ((y1 ++ y2) ++ y3).size + y4.size) = False := eq_false (by unfold lim at hz_; (try simp only [ByteArray.size_append]); omega)
                    try simp only [ByteArray.size_append] at f1 f2
                    refine value_ (w1 := w') (v := .string (((y1 ++ y2) ++ y3) ++ y4)) (by rfl) rfl ?_ ?_
                    · go_simp
                      (try simp only [i64_w])
                      try rfl
                    refine hK.out _ _ ⟨v36, v42, v50, v55, by rw [ha.out]; exact putSel_upk 16 hb_ rfl rfl rfl, Q_TW, Q_POST, Q_BK, Q_L36, Q_L42, Q_L50, Q_L55⟩
                  refine steps_cons ?_ ?_
                  · rintro b a w' ⟨v36, v42, v50, v55, ha, Q_TW, Q_POST, Q_BK, Q_L36, Q_L42, Q_L50, Q_L55⟩ hb_ hon hoff
                    refine ⟨_, rfl, fun K hK => ?_⟩
                    have e4 : a.tmps[4]? = some (.pointer (some ⟨w1.heap.size, 0, none⟩)) := by rw [ha]; exact (putSel_off rfl).trans rfl
                    have e57 : a.tmps[57]? = some (.string (((y1 ++ y2) ++ y3) ++ y4)) := by rw [ha]; exact putSel_on (e := (23, 57, .string (((y1 ++ y2) ++ y3) ++ y4))) 16 rfl rfl (hon 23 (by kernel_rfl)) rfl
                    replace ha := Aside0.mk ha
                    refine goes_ Try.func41 (by kernel_rfl) rfl #[.pointer (some ⟨w1.heap.size, 0, none⟩), .string (((y1 ++ y2) ++ y3) ++ y4)] (by rfl) rfl rfl (by first | (simp only [List.map_toArray, List.map_cons, List.map_nil, Act.eval, Array.getD_eq_getD_getElem?, Option.getD_some, e4, e57]; done) | (simp only [List.map_toArray, List.map_cons, List.map_nil, Act.eval, Array.getD_eq_getD_getElem?, Option.getD_some, e4, e57]; rfl)) ?_
                    refine (Two.write2 (Q_TW hb_) (((y1 ++ y2) ++ y3) ++ y4) HPL.out).mono ?_
                    rintro e w1 ⟨rfl, ht, hfr⟩
                    refine ⟨_, rfl, ?_⟩
                    refine hK.out _ _ ⟨v36, v42, v50, v55, by rw [ha.out]; exact putSel_upk 17 hb_ rfl rfl rfl, fun h_ => absurd h_ (by simp [Go.Proofs.YtchgpcgolgcfdaaW.PrintLast.up]), fun _ => ht, hfr _ _ _ _ Q_BK (by decide) (by decide), fun _ h_ => absurd h_ (by simp [Go.Proofs.YtchgpcgolgcfdaaW.PrintLast.up]), fun _ h_ => absurd h_ (by simp [Go.Proofs.YtchgpcgolgcfdaaW.PrintLast.up]), fun _ h_ => absurd h_ (by simp [Go.Proofs.YtchgpcgolgcfdaaW.PrintLast.up]), fun _ h_ => absurd h_ (by simp [Go.Proofs.YtchgpcgolgcfdaaW.PrintLast.up])⟩
                  exact steps_nil
                rintro b a w25 hall ⟨v36, v42, v50, v55, ha, Q_TW, Q_POST, Q_BK, Q_L36, Q_L42, Q_L50, Q_L55⟩
                have hb2_ := hall 2 (by kernel_rfl)
                have hb3_ := hall 3 (by kernel_rfl)
                have hb5_ := hall 5 (by kernel_rfl)
                have hb7_ := hall 7 (by kernel_rfl)
                have hb8_ := hall 8 (by kernel_rfl)
                have hb9_ := hall 9 (by kernel_rfl)
                have hb10_ := hall 10 (by kernel_rfl)
                have hb12_ := hall 12 (by kernel_rfl)
                have hb14_ := hall 14 (by kernel_rfl)
                have hb15_ := hall 15 (by kernel_rfl)
                have hb16_ := hall 16 (by kernel_rfl)
                have hb17_ := hall 17 (by kernel_rfl)
                have hb18_ := hall 18 (by kernel_rfl)
                have hb20_ := hall 20 (by kernel_rfl)
                have hb21_ := hall 21 (by kernel_rfl)
                have hb22_ := hall 22 (by kernel_rfl)
                have hb23_ := hall 23 (by kernel_rfl)
                have hb24_ := hall 24 (by kernel_rfl)
                subst ha
                simp only [putSel, hb2_, hb3_, hb5_, hb7_, hb8_, hb9_, hb10_, hb12_, hb14_, hb15_, hb16_, hb17_, hb18_, hb20_, hb21_, hb22_, hb23_, hb24_, if_true, Act.put, List.setIfInBounds_toArray, List.set_cons_zero, List.set_cons_succ]
                have POST := Aside0.mk (Q_POST hb24_)
                have BK := Aside0.mk (Q_BK)
                have L36 := Aside0.mk (Q_L36 hb2_)
                have L42 := Aside0.mk (Q_L42 hb8_)
                have L50 := Aside0.mk (Q_L50 hb16_)
                have L55 := Aside0.mk (Q_L55 hb21_)
                clear hall hb2_ hb3_ hb5_ hb7_ hb8_ hb9_ hb10_ hb12_ hb14_ hb15_ hb16_ hb17_ hb18_ hb20_ hb21_ hb22_ hb23_ hb24_ Q_TW Q_POST Q_BK Q_L36 Q_L42 Q_L50 Q_L55
                go_wp2_with (fail)
                go_roundw
                case rel => exact ⟨i + 1, n, _, _, by go_num, by omega, HG2, ⟨POST.out⟩⟩
                case measure => simp [intOf]; omega
              · rw [if_neg hmb] at hah
                cases hah
          · rw [if_neg hpl] at hG
            cases hG
    · rw [if_neg hL] at h
      cases h
end Go.Proofs.Ytchgpcgolgcfdaa.Bl2
end
section
namespace Go.Proofs.Ytchgpcgolgcfdaa.PNum
open Go.RowKit Go.Proofs.YtchgpcgolgcfdaaW.PrintWords Go.Proofs.YtchgpcgolgcfdaaW.PrintLast Go.Proofs.YtchgpcgolgcfdaaW.PrintMore
attribute [local go_sem] max2_int min2_int max_two min_two max_three min_three max_four min_four   -- for this text's walks alone
set_option linter.unusedVariables false
set_option linter.unusedSimpArgs false
def block_Put.f (k : Nat) (l0 : List S29) : Option (ByteArray × Int) := Go.Proofs.Ytchgpcgolgcfdaa.Bl2.putF k l0
theorem block_Put.mono : ∀ a0 k, LeO (block_Put.f k a0) (block_Put.f (k + 1) a0) := Go.Proofs.Ytchgpcgolgcfdaa.Bl2.putF_mono
theorem block_Put.calls (k : Nat) (A0 : Option Addr) (c0 : Nat) (l0 : List S29) (r1 : ByteArray) (r2 : Int) (w : World) (hr0 : Kd.C k29 w A0 l0.length l0) (hc0 : l0.length ≤ c0) (h : block_Put.f k l0 = some (r1, r2)) :
    Calls Try.prog 22 #[.slice A0 l0.length c0] w fun e w' => e = .returned (.tuple #[.string r1, .int .i64 r2]) ∧ Below w.heap.size w w' := Go.Proofs.Ytchgpcgolgcfdaa.Bl2.put_calls k A0 c0 l0 r1 r2 w hr0 hc0 h
end Go.Proofs.Ytchgpcgolgcfdaa.PNum
end
section
namespace Go.Proofs.Ytchgpcgolgcfdaa.PNum
open Go.RowKit Go.Proofs.YtchgpcgolgcfdaaW.PrintWords Go.Proofs.YtchgpcgolgcfdaaW.PrintLast Go.Proofs.YtchgpcgolgcfdaaW.PrintMore
attribute [local go_sem] max2_int min2_int max_two min_two max_three min_three max_four min_four   -- for this text's walks alone
set_option linter.unusedVariables false
set_option linter.unusedSimpArgs false
def stringslite_Clone.f (a0 : ByteArray) : Option ByteArray := if a0.size ≤ 281474976710656 then some a0 else none
theorem stringslite_Clone.calls (a0 : ByteArray) (r : ByteArray) (w : World) (h : stringslite_Clone.f a0 = some r) :
    Calls Try.prog 82 #[.string a0] w fun e w' => e = .returned (.string r) ∧ Below w.heap.size w w' := by
  unfold stringslite_Clone.f at h
  split at h
  · obtain rfl := Option.some.inj h
    exact Try.stringslite_Clone a0 w (by assumption)
  · cases h
def strings_Clone.f (a0 : ByteArray) : Option (ByteArray) := (stringslite_Clone.f a0).bind fun t149 => (some t149)
set_option maxHeartbeats 8000000 in
set_option maxRecDepth 100000 in
theorem strings_Clone.calls (a0 : ByteArray) (r : ByteArray) (w : World) (h : strings_Clone.f a0 = some r) :
    Calls Try.prog 65 #[.string a0] w fun e w' => e = .returned (.string r) ∧ Below w.heap.size w w' := by
  have HB := Aside0.mk (Below.refl w.heap.size w)
  have H : ((stringslite_Clone.f a0).bind fun t149 => (some t149)) = some r := h
  clear h
  replace H := Option.bind_eq_some_iff.mp H
  obtain ⟨t149, A20, H⟩ := H
  replace H : (some t149) = some r := H
  have A2 := Aside0.mk A20
  clear A20
  obtain rfl := Option.some.inj H
  go_enter Try.func65, Try.ntmps65
  go_wp2_with (first | ((with_reducible refine gate_callee (f := 82) rfl ?_); refine goesL_ (some 4) rfl rfl Try.func82 (by kernel_rfl) rfl #[.string a0] rfl (by (try simp only [List.map_toArray, List.map_cons, List.map_nil]); first | done | rfl | (simp only [List.length_drop, List.length_take]; rfl)) ?_; (with_reducible refine (stringslite_Clone.calls a0 t149 _ A2.out).mono ?_); rintro e w3 ⟨rfl, hb⟩; refine ⟨_, rfl, ?_⟩; have n0_ := Aside0.mk (below_step (by repeat (first | (with_reducible first | exact HB.out | apply below_alloc | apply pw_below_drewN | apply below_drew1) | exact HB.out)) hb); clear HB; have HB := n0_; clear n0_; (try clear hb); (try clear hb2); (try clear hk); (try clear hi)))
  go_ret
  exact ⟨by first | rfl | (simp [errW_none, errW_some] <;> rfl) | (simp [*, errW_none, errW_some] <;> rfl), by repeat (first | (with_reducible first | exact HB.out | apply below_alloc | apply pw_below_drewN | apply below_drew1) | exact HB.out)⟩
mutual
def num_Unfix.j0 : Nat → ByteArray → Int → Int → Bool → Option (Int × Int)
  | 0, _, _, _, _ => none
  | k + 1, x0, x1, x2, x10 => if x10 = true then (some (0, 1)) else (if x1 > (x0.size : Int) then (some (0, 5)) else (if (wrap64 ((x0.size : Int) - x1)) < x2 then (some (0, 5)) else (num_Unfix.l0 k x0 x1 0 x2 0)))
def num_Unfix.l0 : Nat → ByteArray → Int → Int → Int → Int → Option (Int × Int)
  | 0, _, _, _, _, _ => none
  | k + 1, x0, x1, x8, x34, x35 => if x35 < x34 then (if 0 ≤ (wrap64 (x1 + x35)) then (if (wrap64 (x1 + x35)) < (x0.size : Int) then (num_Unfix.l0 k x0 x1 (Go.bits .or .u64 (IntKind.u64.wrap (x8 * 256)) (IntKind.u64.wrap (bt x0 (wrap64 (x1 + x35))))) x34 (wrap64 (x35 + 1))) else (none)) else (none)) else (some (x8, 0))
end
def num_Unfix.f (k : Nat) (a0 : ByteArray) (a1 : Int) (a2 : Int) : Option (Int × Int) := if a2 < 1 then (num_Unfix.j0 k a0 a1 a2 true) else (if a2 > 8 then (num_Unfix.j0 k a0 a1 a2 true) else (num_Unfix.j0 k a0 a1 a2 (decide (a1 < 0))))
theorem num_Unfix.mono_l : ∀ k, (∀ y0 y1 y2 y3, LeO (num_Unfix.j0 k y0 y1 y2 y3) (num_Unfix.j0 (k + 1) y0 y1 y2 y3)) ∧ (∀ y0 y1 y2 y3 y4, LeO (num_Unfix.l0 k y0 y1 y2 y3 y4) (num_Unfix.l0 (k + 1) y0 y1 y2 y3 y4))
  | 0 => ⟨fun _ _ _ _ r h => by simp [num_Unfix.j0] at h, fun _ _ _ _ _ r h => by simp [num_Unfix.l0] at h⟩
  | k + 1 => by
    obtain ⟨ih0, ih1⟩ := num_Unfix.mono_l k
    refine ⟨?_, ?_⟩
    · intro y0 y1 y2 y3
      unfold num_Unfix.j0
      repeat' first
      | (with_reducible exact ih0 _ _ _ _)
      | (with_reducible exact ih1 _ _ _ _ _)
      | (with_reducible exact LeO.refl _)
      | (with_reducible exact LeO.none _)
      | (with_reducible refine LeO.ite ?_ ?_)
      | (with_reducible refine LeO.bind ?_ (fun _ => ?_))
      | exact ih0 _ _ _ _
      | exact ih1 _ _ _ _ _
      | exact LeO.none _
      | refine LeO.ite ?_ ?_
      | refine LeO.bind ?_ (fun _ => ?_)
    · intro y0 y1 y2 y3 y4
      unfold num_Unfix.l0
      repeat' first
      | (with_reducible exact ih0 _ _ _ _)
      | (with_reducible exact ih1 _ _ _ _ _)
      | (with_reducible exact LeO.refl _)
      | (with_reducible exact LeO.none _)
      | (with_reducible refine LeO.ite ?_ ?_)
      | (with_reducible refine LeO.bind ?_ (fun _ => ?_))
      | exact ih0 _ _ _ _
      | exact ih1 _ _ _ _ _
      | exact LeO.none _
      | refine LeO.ite ?_ ?_
      | refine LeO.bind ?_ (fun _ => ?_)
theorem num_Unfix.mono : ∀ a0 a1 a2 k, LeO (num_Unfix.f k a0 a1 a2) (num_Unfix.f (k + 1) a0 a1 a2) := by
  intro a0 a1 a2 k
  obtain ⟨ih0, ih1⟩ := num_Unfix.mono_l k
  unfold num_Unfix.f
  repeat' first
      | (with_reducible exact ih0 _ _ _ _)
      | (with_reducible exact ih1 _ _ _ _ _)
      | (with_reducible exact LeO.refl _)
      | (with_reducible exact LeO.none _)
      | (with_reducible refine LeO.ite ?_ ?_)
      | (with_reducible refine LeO.bind ?_ (fun _ => ?_))
      | exact ih0 _ _ _ _
      | exact ih1 _ _ _ _ _
      | exact LeO.none _
      | refine LeO.ite ?_ ?_
      | refine LeO.bind ?_ (fun _ => ?_)
set_option maxHeartbeats 8000000 in
set_option maxRecDepth 100000 in
theorem num_Unfix.calls (k : Nat) (a0 : ByteArray) (a1 : Int) (a2 : Int) (r1 : Int) (r2 : Int) (w : World) (h : num_Unfix.f k a0 a1 a2 = some (r1, r2)) :
    Calls Try.prog 49 #[.string a0, .int .i64 a1, .int .i64 a2] w fun e w' => e = .returned (.tuple #[.int .u64 r1, .int .i64 r2]) ∧ Drawn0 w w' := by
  have H : (if a2 < 1 then (num_Unfix.j0 k a0 a1 a2 true) else (if a2 > 8 then (num_Unfix.j0 k a0 a1 a2 true) else (num_Unfix.j0 k a0 a1 a2 (decide (a1 < 0))))) = some (r1, r2) := h
  clear h
  have HC4 := Aside0.mk H
  clear H
  go_enter Try.func49, Try.ntmps49
  go_upto_region 1 with (fail)
  go_cut [10] (fun v10 wc => ∃ (kq : Nat) (x10_3 : Bool), v10 = .bool x10_3 ∧ Aside0 (num_Unfix.j0 kq a0 a1 a2 x10_3 = some (r1, r2)) ∧ Aside0 (kq ≤ k) ∧ Drawn0 w wc)
  case first =>
    have H := HC4.out
    clear HC4
    by_cases c5 : a2 < 1
    · rw [if_pos c5] at H
      have c5b0 : decide (a2 < 1) = true := decide_eq_true c5
      clear c5
      (first | rw [c5b0] | (simp only [i64_w, i32_w]; rw [c5b0]) | skip)
      have H' := Aside0.mk H
      clear H
      go_wp2
      go_meet
      case rel => exact ⟨_, (true), (by first | rfl | (simp; done) | (simp [*]; done)), H', ⟨by first | omega | exact Nat.le_refl _⟩, by repeat (first | exact Drawn0.refl _ | apply Drawn0.step)⟩
    · rw [if_neg c5] at H
      have c5b0 : decide (a2 < 1) = false := decide_eq_false c5
      clear c5
      (first | rw [c5b0] | (simp only [i64_w, i32_w]; rw [c5b0]) | skip)
      by_cases c6 : a2 > 8
      · rw [if_pos c6] at H
        have c6b0 : decide (8 < a2) = true := decide_eq_true c6
        clear c6
        have H' := Aside0.mk H
        clear H
        go_wp2
        go_meet
        case rel => exact ⟨_, (true), (by first | rfl | (simp; done) | (simp [*]; done)), H', ⟨by first | omega | exact Nat.le_refl _⟩, by repeat (first | exact Drawn0.refl _ | apply Drawn0.step)⟩
      · rw [if_neg c6] at H
        have c6b0 : decide (8 < a2) = false := decide_eq_false c6
        clear c6
        have H' := Aside0.mk H
        clear H
        go_wp2
        go_meet
        case rel => exact ⟨_, (decide (a1 < 0)), (by first | rfl | (simp; done) | (simp [*]; done)), H', ⟨by first | omega | exact Nat.le_refl _⟩, by repeat (first | exact Drawn0.refl _ | apply Drawn0.step)⟩
  case rest =>
    clear HC4
    try clear p2
    try clear c4
    try clear c5
    try clear c5b0
    try clear c6
    try clear c6b0
    obtain ⟨kq, x10_3, rfl, HA, HJ3, ⟨mc3, rfl⟩⟩ := hcut
    cases kq with
    | zero => exact absurd HA.out (by simp [num_Unfix.j0])
    | succ kj3 =>
      have H := HA.out
      clear HA
      simp only [num_Unfix.j0] at H
      by_cases c7 : x10_3 = true
      · subst c7
        have H1 : (some (0, 1)) = some (r1, r2) := by rw [if_pos rfl] at H; exact H
        clear H
        have H := H1
        clear H1
        simp only [Option.some.injEq, Prod.mk.injEq] at H
        obtain ⟨rfl, rfl⟩ := H
        go_wp2
        go_ret2
        exact ⟨by first | rfl | (simp; done) | (simp [*]; done), by repeat (first | exact Drawn0.refl _ | apply Drawn0.step)⟩
      · replace c7 := Bool.eq_false_iff.mpr c7
        subst c7
        have H1 : (if a1 > (a0.size : Int) then (some (0, 5)) else (if (wrap64 ((a0.size : Int) - a1)) < a2 then (some (0, 5)) else (num_Unfix.l0 kj3 a0 a1 0 a2 0))) = some (r1, r2) := by rw [if_neg (show ¬ (false = true) by decide)] at H; exact H
        clear H
        have H := H1
        clear H1
        by_cases c8 : a1 > (a0.size : Int)
        · rw [if_pos c8] at H
          have c8b0 : decide ((a0.size : Int) < a1) = true := decide_eq_true c8
          clear c8
          simp only [Option.some.injEq, Prod.mk.injEq] at H
          obtain ⟨rfl, rfl⟩ := H
          go_wp2
          go_ret2
          exact ⟨by first | rfl | (simp; done) | (simp [*]; done), by repeat (first | exact Drawn0.refl _ | apply Drawn0.step)⟩
        · rw [if_neg c8] at H
          have c8b0 : decide ((a0.size : Int) < a1) = false := decide_eq_false c8
          clear c8
          by_cases c9 : (wrap64 ((a0.size : Int) - a1)) < a2
          · rw [if_pos c9] at H
            have c9b0 : decide ((wrap64 ((a0.size : Int) - a1)) < a2) = true := decide_eq_true c9
            clear c9
            simp only [Option.some.injEq, Prod.mk.injEq] at H
            obtain ⟨rfl, rfl⟩ := H
            go_wp2
            go_ret2
            exact ⟨by first | rfl | (simp; done) | (simp [*]; done), by repeat (first | exact Drawn0.refl _ | apply Drawn0.step)⟩
          · rw [if_neg c9] at H
            have c9b0 : decide ((wrap64 ((a0.size : Int) - a1)) < a2) = false := decide_eq_false c9
            clear c9
            have H' := Aside0.mk H
            clear H
            go_wp2
            go_loopg [8, 35] kj3 (fun kq v8 v35 w' => ∃ (x8_2 : Int) (x35_2 : Int), v8 = .int .u64 x8_2 ∧ v35 = .int .i64 x35_2 ∧ Aside0 (num_Unfix.l0 kq a0 a1 x8_2 a2 x35_2 = some (r1, r2)) ∧ Aside0 (kq ≤ kj3) ∧ Drawn0 w w')
            case atStart => exact ⟨(0), (0), (by first | rfl | (simp; done) | (simp [*]; done)), (by first | rfl | (simp; done) | (simp [*]; done)), H', ⟨Nat.le_refl _⟩, by repeat (first | exact Drawn0.refl _ | apply Drawn0.step)⟩
            case round =>
              clear H'
              try clear p2
              try clear c3
              try clear c4
              try clear c5
              try clear c5b0
              try clear c6
              try clear c6b0
              try clear p6
              try clear c7
              try clear c8
              try clear c8b0
              try clear c9
              try clear c9b0
              try clear p2
              obtain ⟨x8_2, x35_2, rfl, rfl, HA, HK2, ⟨m2, rfl⟩⟩ := hrel
              cases gk with
              | zero => exact absurd HA.out (by simp [num_Unfix.l0])
              | succ k2 =>
                have H := HA.out
                clear HA
                simp only [num_Unfix.l0] at H
                by_cases c10 : x35_2 < a2
                · rw [if_pos c10] at H
                  have c10b0 : decide (x35_2 < a2) = true := decide_eq_true c10
                  clear c10
                  obtain ⟨ji11, hji11⟩ : ∃ j_ : Int, (wrap64 (a1 + x35_2)) = j_ := ⟨_, rfl⟩
                  replace H : (if 0 ≤ (ji11) then (if (ji11) < (a0.size : Int) then (num_Unfix.l0 k2 a0 a1 (Go.bits .or .u64 (IntKind.u64.wrap (x8_2 * 256)) (IntKind.u64.wrap (bt a0 (ji11)))) a2 (wrap64 (x35_2 + 1))) else (none)) else (none)) = some (r1, r2) := by first | (rw [hji11] at H; exact H) | (simp only [hji11] at H ⊢; exact H)
                  have hji11w : (IntKind.i64.wrap (a1 + x35_2)) = ji11 := (i64_w _).trans hji11
                  by_cases c12 : 0 ≤ (ji11)
                  · rw [if_pos c12] at H
                    have c12b0 : decide (0 ≤ (ji11)) = true := decide_eq_true c12
                    clear c12
                    by_cases c13 : (ji11) < (a0.size : Int)
                    · rw [if_pos c13] at H
                      have c13b0 : decide ((ji11) < (a0.size : Int)) = true := decide_eq_true c13
                      clear c13
                      have H' := Aside0.mk H
                      clear H
                      have p14 : 0 ≤ ((ji11) : Int) := of_decide_eq_true (by first | (with_reducible assumption) | assumption)
                      have q14 : (ji11) < (a0.size : Int) := of_decide_eq_true (by first | (with_reducible assumption) | assumption)
                      have hx14 := bt_at a0 (ji11)
                      replace p14 := eq_true p14
                      replace q14 := eq_true q14
                      go_wp2
                      go_roundg k2
                      case measure => have := HJ3.out; have := HK2.out; omega
                      case rel => exact ⟨(Go.bits .or .u64 (IntKind.u64.wrap (x8_2 * 256)) (IntKind.u64.wrap (bt a0 (ji11)))), (wrap64 (x35_2 + 1)), (by first | rfl | (simp; done) | (simp only [← hji11] <;> (first | rfl | simp)) | (simp [*]; done)), (by first | rfl | (simp; done) | (simp [*]; done)), H', ⟨by have := HJ3.out; have := HK2.out; omega⟩, by repeat (first | exact Drawn0.refl _ | apply Drawn0.step)⟩
                    · rw [if_neg c13] at H
                      exact absurd H (by simp)
                  · rw [if_neg c12] at H
                    exact absurd H (by simp)
                · rw [if_neg c10] at H
                  have c10b0 : decide (x35_2 < a2) = false := decide_eq_false c10
                  clear c10
                  simp only [Option.some.injEq, Prod.mk.injEq] at H
                  obtain ⟨rfl, rfl⟩ := H
                  go_wp2
                  go_ret2
                  exact ⟨by first | rfl | (simp; done) | (simp [*]; done), by repeat (first | exact Drawn0.refl _ | apply Drawn0.step)⟩
def sum_get.f (k : Nat) (a0 : ByteArray) (a1 : Int) : Option (Int) := (num_Unfix.f k a0 a1 4).bind fun bt150 => (some ((bt150.1) % 4294967296))
theorem sum_get.mono : ∀ a0 a1 k, LeO (sum_get.f k a0 a1) (sum_get.f (k + 1) a0 a1) := by
  intro a0 a1 k
  unfold sum_get.f
  repeat' first
      | (with_reducible exact num_Unfix.mono _ _ _ _)
      | (with_reducible exact LeO.refl _)
      | (with_reducible exact LeO.none _)
      | (with_reducible refine LeO.ite ?_ ?_)
      | (with_reducible refine LeO.bind ?_ (fun _ => ?_))
      | exact num_Unfix.mono _ _ _ _
      | exact LeO.none _
      | refine LeO.ite ?_ ?_
      | refine LeO.bind ?_ (fun _ => ?_)
set_option maxHeartbeats 8000000 in
set_option maxRecDepth 100000 in
theorem sum_get.calls (k : Nat) (a0 : ByteArray) (a1 : Int) (r : Int) (w : World) (h : sum_get.f k a0 a1 = some r) :
    Calls Try.prog 71 #[.string a0, .int .i64 a1] w fun e w' => e = .returned (.int .u32 r) ∧ Drawn0 w w' := by
  have H : ((num_Unfix.f k a0 a1 4).bind fun bt150 => (some ((bt150.1) % 4294967296))) = some r := h
  clear h
  replace H := Option.bind_eq_some_iff.mp H
  obtain ⟨⟨t150, t151⟩, A30, H⟩ := H
  replace H : (some ((t150) % 4294967296)) = some r := H
  have A3 := Aside0.mk A30
  clear A30
  obtain rfl := Option.some.inj H
  go_enter Try.func71, Try.ntmps71
  go_wp2_with (first | ((with_reducible refine gate_callee (f := 49) rfl ?_); refine goesL_ (some 10) rfl rfl Try.func49 (by kernel_rfl) rfl #[.string a0, .int .i64 a1, .int .i64 4] rfl (by (try simp only [List.map_toArray, List.map_cons, List.map_nil]); first | done | rfl | (simp only [List.length_drop, List.length_take]; rfl)) ?_; (with_reducible refine (num_Unfix.calls k a0 a1 4 t150 t151 _ A3.out).mono ?_); rintro e w' ⟨rfl, ⟨nd, rfl⟩⟩; refine ⟨_, rfl, ?_⟩))
  go_ret
  exact ⟨by first | rfl | (simp; done) | (simp [*]; done), by repeat (first | exact Drawn0.refl _ | apply Drawn0.step)⟩
end Go.Proofs.Ytchgpcgolgcfdaa.PNum
end
section
namespace Go.Proofs.Ytchgpcgolgcfdaa.PNum
open Go.RowKit Go.Proofs.YtchgpcgolgcfdaaW.PrintWords Go.Proofs.YtchgpcgolgcfdaaW.PrintLast Go.Proofs.YtchgpcgolgcfdaaW.PrintMore
attribute [local go_sem] max2_int min2_int max_two min_two max_three min_three max_four min_four   -- for this text's walks alone
set_option linter.unusedVariables false
set_option linter.unusedSimpArgs false
def sum_Open.f (k : Nat) (a0 : ByteArray) : Option (ByteArray × Int) := if (wrap64 ((a0.size : Int) - 4)) < 0 then (some ((⟨#[]⟩ : ByteArray), 5)) else ((sum_get.f k a0 (wrap64 ((a0.size : Int) - 4))).bind fun t152 => (if 0 ≤ (wrap64 ((a0.size : Int) - 4)) then (if (wrap64 ((a0.size : Int) - 4)) ≤ (a0.size : Int) then ((sum_Crc.f k (([a0.extract 0 ((wrap64 ((a0.size : Int) - 4)) : Int).toNat] : List ByteArray))).bind fun t156 => (if t152 = t156 then ((strings_Clone.f (a0.extract 0 ((wrap64 ((a0.size : Int) - 4)) : Int).toNat)).bind fun t157 => (some (t157, 0))) else (some ((⟨#[]⟩ : ByteArray), 6)))) else (none)) else (none)))
theorem sum_Open.mono : ∀ a0 k, LeO (sum_Open.f k a0) (sum_Open.f (k + 1) a0) := by
  intro a0 k
  unfold sum_Open.f
  repeat' first
      | (with_reducible exact sum_Crc.mono _ _)
      | (with_reducible exact sum_get.mono _ _ _)
      | (with_reducible exact LeO.refl _)
      | (with_reducible exact LeO.none _)
      | (with_reducible refine LeO.ite ?_ ?_)
      | (with_reducible refine LeO.bind ?_ (fun _ => ?_))
      | exact sum_Crc.mono _ _
      | exact sum_get.mono _ _ _
      | exact LeO.none _
      | refine LeO.ite ?_ ?_
      | refine LeO.bind ?_ (fun _ => ?_)
def sum_Open.T4 : Bool × List (List Nat × List Nat) := (true, [([], []), ([], []), ([0, 1], [0, 1]), ([], []), ([], []), ([3, 4], [3, 4]), ([5], [5]), ([6, 2], [6]), ([2, 7], [2, 7]), ([8, 7], [8])])
def sum_Open.B4 : List Nat := [0, 0, 3, 0, 0, 24, 56, 127, 255, 511]
theorem sum_Open.tab4 : rtab .any (opsOf Try.f48 4) = sum_Open.T4 := by kernel_rfl
theorem sum_Open.bits4 : waitsOk sum_Open.T4.2 sum_Open.B4 = true := by kernel_rfl
set_option maxHeartbeats 8000000 in
set_option maxRecDepth 100000 in
theorem sum_Open.calls (k : Nat) (a0 : ByteArray) (r1 : ByteArray) (r2 : Int) (w : World) (h : sum_Open.f k a0 = some (r1, r2)) :
    Calls Try.prog 48 #[.string a0] w fun e w' => e = .returned (.tuple #[.string r1, .int .i64 r2]) ∧ Below w.heap.size w w' := by
  have HB := Aside0.mk (Below.refl w.heap.size w)
  have H : (if (wrap64 ((a0.size : Int) - 4)) < 0 then (some ((⟨#[]⟩ : ByteArray), 5)) else ((sum_get.f k a0 (wrap64 ((a0.size : Int) - 4))).bind fun t152 => (if 0 ≤ (wrap64 ((a0.size : Int) - 4)) then (if (wrap64 ((a0.size : Int) - 4)) ≤ (a0.size : Int) then ((sum_Crc.f k (([a0.extract 0 ((wrap64 ((a0.size : Int) - 4)) : Int).toNat] : List ByteArray))).bind fun t156 => (if t152 = t156 then ((strings_Clone.f (a0.extract 0 ((wrap64 ((a0.size : Int) - 4)) : Int).toNat)).bind fun t157 => (some (t157, 0))) else (some ((⟨#[]⟩ : ByteArray), 6)))) else (none)) else (none)))) = some (r1, r2) := h
  clear h
  by_cases c2 : (wrap64 ((a0.size : Int) - 4)) < 0
  · rw [if_pos c2] at H
    have c2b0 : decide ((wrap64 ((a0.size : Int) - 4)) < 0) = true := decide_eq_true c2
    clear c2
    simp only [Option.some.injEq, Prod.mk.injEq] at H
    obtain ⟨rfl, rfl⟩ := H
    go_enter Try.func48, Try.ntmps48
    go_wp2
    go_ret2
    exact ⟨by first | rfl | (simp [errW_none, errW_some] <;> rfl) | (simp [*, errW_none, errW_some] <;> rfl), by repeat (first | (with_reducible first | exact HB.out | apply below_alloc | apply pw_below_drewN | apply below_drew1) | exact HB.out)⟩
  · rw [if_neg c2] at H
    have c2b0 : decide ((wrap64 ((a0.size : Int) - 4)) < 0) = false := decide_eq_false c2
    clear c2
    replace H := Option.bind_eq_some_iff.mp H
    obtain ⟨t152, A30, H⟩ := H
    replace H : (if 0 ≤ (wrap64 ((a0.size : Int) - 4)) then (if (wrap64 ((a0.size : Int) - 4)) ≤ (a0.size : Int) then ((sum_Crc.f k (([a0.extract 0 ((wrap64 ((a0.size : Int) - 4)) : Int).toNat] : List ByteArray))).bind fun t156 => (if t152 = t156 then ((strings_Clone.f (a0.extract 0 ((wrap64 ((a0.size : Int) - 4)) : Int).toNat)).bind fun t157 => (some (t157, 0))) else (some ((⟨#[]⟩ : ByteArray), 6)))) else (none)) else (none)) = some (r1, r2) := H
    have A3 := Aside0.mk A30
    clear A30
    obtain ⟨ji4, hji4⟩ : ∃ j_ : Int, (wrap64 ((a0.size : Int) - 4)) = j_ := ⟨_, rfl⟩
    replace H : (if 0 ≤ (ji4) then (if (ji4) ≤ (a0.size : Int) then ((sum_Crc.f k (([a0.extract 0 ((ji4) : Int).toNat] : List ByteArray))).bind fun t156 => (if t152 = t156 then ((strings_Clone.f (a0.extract 0 ((ji4) : Int).toNat)).bind fun t157 => (some (t157, 0))) else (some ((⟨#[]⟩ : ByteArray), 6)))) else (none)) else (none)) = some (r1, r2) := by first | (rw [hji4] at H; exact H) | (simp only [hji4] at H ⊢; exact H)
    (try rw [hji4] at c2b0)
    (try rw [hji4] at A3)
    have hji4w : (IntKind.i64.wrap ((a0.size : Int) - 4)) = ji4 := (i64_w _).trans hji4
    by_cases c5 : 0 ≤ (ji4)
    · rw [if_pos c5] at H
      have c5b0 := eq_true c5
      have c5b1 : decide (0 ≤ (ji4)) = true := decide_eq_true c5
      clear c5
      by_cases c6 : (ji4) ≤ (a0.size : Int)
      · rw [if_pos c6] at H
        have c6b0 := eq_true c6
        have c6b1 : decide ((ji4) ≤ (a0.size : Int)) = true := decide_eq_true c6
        clear c6
        obtain ⟨y153, hy153⟩ : ∃ y_ : List ByteArray, y_ = (([a0.extract 0 ((ji4) : Int).toNat] : List ByteArray)) := ⟨_, rfl⟩
        replace H : ((sum_Crc.f k y153).bind fun t156 => (if t152 = t156 then ((strings_Clone.f (a0.extract 0 ((ji4) : Int).toNat)).bind fun t157 => (some (t157, 0))) else (some ((⟨#[]⟩ : ByteArray), 6)))) = some (r1, r2) := by first | (rw [hy153]; with_reducible exact H) | (have H2_ := (Option.bind_some _ _).symm.trans H; rw [hy153]; with_reducible exact H2_) | (have H2_ := (Option.bind_some _ _).symm.trans H; with_reducible exact H2_) | with_reducible exact H | (rw [hy153]; exact H) | exact H
        have Ny153 := Aside0.mk hy153
        clear hy153
        replace H := Option.bind_eq_some_iff.mp H
        obtain ⟨t156, A70, H⟩ := H
        replace H : (if t152 = t156 then ((strings_Clone.f (a0.extract 0 ((ji4) : Int).toNat)).bind fun t157 => (some (t157, 0))) else (some ((⟨#[]⟩ : ByteArray), 6))) = some (r1, r2) := H
        have A7 := Aside0.mk A70
        clear A70
        by_cases c8 : t152 = t156
        · rw [if_pos c8] at H
          have c8b0 : (t152 == t156) = true := beq_iff_eq.mpr c8
          have c8b1 : (t152 != t156) = false := bne_eq_false_iff_eq.mpr c8
          clear c8
          have c9b0 := eq_true (of_decide_eq_true (by first | (with_reducible assumption) | assumption) : 0 ≤ (ji4))
          have c10b0 := eq_true (of_decide_eq_true (by first | (with_reducible assumption) | assumption) : (ji4) ≤ (a0.size : Int))
          replace H := Option.bind_eq_some_iff.mp H
          obtain ⟨t157, A110, H⟩ := H
          replace H : (some (t157, 0)) = some (r1, r2) := H
          have A11 := Aside0.mk A110
          clear A110
          simp only [Option.some.injEq, Prod.mk.injEq] at H
          obtain ⟨rfl, rfl⟩ := H
          go_enter Try.func48, Try.ntmps48
          try go_wp2
          have n0_ := Aside0.mk (below_drew1 HB.out)
          clear HB
          have HB := n0_
          clear n0_
          refine start_ (n := 10) (S := fun w' => True) (ds := []) #[false, false, false, false, false, false, false, false, false, false] (by kernel_rfl) rfl rfl trivial (fun hHeld => ?_); refine with_tabW sum_Open.tab4 sum_Open.bits4 (fun HT_ HW_ => ?_)
          generalize w.drew = w12 at HB hHeld ⊢
          refine pure_ (i := 0) (N := some 12) (v := ?_) (a' := ?_) #[true, false, false, false, false, false, false, false, false, false] rfl rfl (any_of HT_.out (by kernel_rfl)) (fun _ _ _ h => h) (Or.inl ⟨by rfl, ?_⟩) ?_ ?_
          rotate_left
          · intro w'
            go_simp
            with_reducible rfl
          rotate_left
          · simp only [Act.put, List.setIfInBounds_toArray, List.set_cons_zero, List.set_cons_succ, i64_w, i32_w]
            rfl
          refine pure_ (i := 1) (N := some 13) (v := ?_) (a' := ?_) #[true, true, false, false, false, false, false, false, false, false] rfl rfl (any_of HT_.out (by kernel_rfl)) (fun _ _ _ h => h) (Or.inl ⟨by rfl, ?_⟩) ?_ ?_
          rotate_left
          · intro w'
            go_simp
            with_reducible rfl
          rotate_left
          · simp only [Act.put, List.setIfInBounds_toArray, List.set_cons_zero, List.set_cons_succ, i64_w, i32_w]
            rfl
          refine pure_ (i := 3) (N := some 15) (v := ?_) (a' := ?_) #[true, true, false, true, false, false, false, false, false, false] rfl rfl (any_of HT_.out (by kernel_rfl)) (fun _ _ _ h => h) (Or.inl ⟨by rfl, ?_⟩) ?_ ?_
          rotate_left
          · intro w'
            go_simp
            with_reducible rfl
          rotate_left
          · simp only [Act.put, List.setIfInBounds_toArray, List.set_cons_zero, List.set_cons_succ, i64_w, i32_w]
            rfl
          refine pure_ (i := 4) (N := some 16) (v := ?_) (a' := ?_) #[true, true, false, true, true, false, false, false, false, false] rfl rfl (any_of HT_.out (by kernel_rfl)) (fun _ _ _ h => h) (Or.inl ⟨by rfl, ?_⟩) ?_ ?_
          rotate_left
          · intro w'
            go_simp
            with_reducible rfl
          rotate_left
          · simp only [Act.put, List.setIfInBounds_toArray, List.set_cons_zero, List.set_cons_succ, i64_w, i32_w]
            rfl
          refine pure_ (i := 5) (N := some 17) (v := ?_) (a' := ?_) #[true, true, false, true, true, true, false, false, false, false] rfl rfl (any_of HT_.out (by kernel_rfl)) (fun _ _ _ h => h) (Or.inl ⟨by rfl, ?_⟩) ?_ ?_
          rotate_left
          · intro w'
            go_simp
            with_reducible rfl
          rotate_left
          · simp only [Act.put, List.setIfInBounds_toArray, List.set_cons_zero, List.set_cons_succ, i64_w, i32_w]
            rfl
          refine join_ (σ := Value) 3 #[true, true, true, true, true, true, true, false, false, false] (fun s_ => [(14, .int .u32 t152), (18, s_)]) (fun s_ w' => (Kd.R Kd.string 9 w' w.heap.size (fun _ => True) s_ y153) ∧ (Below w.heap.size w w')) ?_ ?_
          rotate_left
          · intro hCont
            refine two_ (i := 2) (j := 6) (Ni := some 14) (Nj := some 18) #[true, true, true, true, true, true, false, false, false, false] #[true, true, false, true, true, true, true, false, false, false] rfl rfl rfl rfl (two_of HT_.out (by kernel_rfl)) (by decide) (by decide) (fun K hK => ?_) (fun K hK => ?_)
            · skip
              refine goes_ Try.func71 (by kernel_rfl) rfl #[.string a0, .int .i64 ji4] (by rfl) rfl rfl (by (try simp only [List.map_toArray, List.map_cons, List.map_nil]); first | done | (simp only [hji4]; rfl) | rfl | (simp only [List.length_drop, List.length_take]; rfl)) ?_
              with_reducible refine (sum_get.calls k a0 ji4 t152 _ A3.out).mono ?_
              rintro e w' ⟨rfl, ⟨nd, rfl⟩⟩
              refine ⟨_, rfl, ?_⟩
              refine hK.out _ _ trivial (fun hHeld => ?_)
              clear hK K
              refine norm_ (a' := ?_) ?_ ?_
              rotate_left
              · show Act.put _ (some 14) _ = _
                simp only [Act.put, List.setIfInBounds_toArray, List.set_cons_zero, List.set_cons_succ, i64_w, i32_w]
                rfl
              refine one_ (i := 6) (N := some 18) #[true, true, true, true, true, true, true, false, false, false] rfl rfl (one_of HT_.out (by kernel_rfl)) (by decide) (fun K hK => ?_)
              refine Kd.R_lit_step Kd.string _ 9 ?hg (N := 18) ?hd (xs := ([a0.extract 0 ((ji4) : Int).toNat] : List ByteArray)) (inner := [.string (a0.extract 0 ((ji4) : Int).toNat)]) (ok := fun _ => True) (okp := fun _ => True) ?hr ?hp (fun _ hk => hk) trivial (Below.refl _ _) (Nat.le_refl _) (by simp) ?_; (case hd => rfl); (case hg => rfl); (case hr => first | (go_simp; done) | (go_simp; rfl)); (case hp => exact (Reps.one (show Kd.M Kd.string _ _ _ (a0.extract 0 ((ji4) : Int).toNat) [.string (a0.extract 0 ((ji4) : Int).toNat)] from rfl) (Reps.none _ _)))
              intro v154 w13 ho14 hb hg_ hnew_
              clear hg_ hnew_
              (first | rw [← Ny153.out] at ho14 | (simp only [Int.reduceToNat] at ho14; rw [← Ny153.out] at ho14))
              have n0_ := Aside0.mk (Kd.R_lower ho14 (below_size (by repeat (first | (with_reducible first | exact HB.out | apply below_alloc | apply pw_below_drewN | apply below_drew1) | exact HB.out))))
              have n1_ := Aside0.mk (below_step (by repeat (first | (with_reducible first | exact HB.out | apply below_alloc | apply pw_below_drewN | apply below_drew1) | exact HB.out)) hb)
              clear HB
              have HO155 := n0_
              have HB := n1_
              clear n0_ n1_
              clear hb ho14
              refine hK.out _ _ trivial (fun hHeld => ?_)
              clear hK K
              refine norm_ (a' := ?_) ?_ ?_
              rotate_left
              · show Act.put _ (some 18) _ = _
                simp only [Act.put, List.setIfInBounds_toArray, List.set_cons_zero, List.set_cons_succ, i64_w, i32_w]
                rfl
              exact norm_ (by simp only [putAll, Act.put, List.setIfInBounds_toArray, List.set_cons_zero, List.set_cons_succ]) (hCont (v154) _ ⟨(by (with_reducible repeat (first | apply Kd.R_alloc | apply Kd.R_drewN | apply Kd.R_drew)); exact HO155.out), (by repeat (first | (with_reducible first | exact HB.out | apply below_alloc | apply pw_below_drewN | apply below_drew1) | exact HB.out))⟩)
            · skip
              refine Kd.R_lit_step Kd.string _ 9 ?hg (N := 18) ?hd (xs := ([a0.extract 0 ((ji4) : Int).toNat] : List ByteArray)) (inner := [.string (a0.extract 0 ((ji4) : Int).toNat)]) (ok := fun _ => True) (okp := fun _ => True) ?hr ?hp (fun _ hk => hk) trivial (Below.refl _ _) (Nat.le_refl _) (by simp) ?_; (case hd => rfl); (case hg => rfl); (case hr => first | (go_simp; done) | (go_simp; rfl)); (case hp => exact (Reps.one (show Kd.M Kd.string _ _ _ (a0.extract 0 ((ji4) : Int).toNat) [.string (a0.extract 0 ((ji4) : Int).toNat)] from rfl) (Reps.none _ _)))
              intro v154 w13 ho14 hb hg_ hnew_
              clear hg_ hnew_
              (first | rw [← Ny153.out] at ho14 | (simp only [Int.reduceToNat] at ho14; rw [← Ny153.out] at ho14))
              have n0_ := Aside0.mk (Kd.R_lower ho14 (below_size (by repeat (first | (with_reducible first | exact HB.out | apply below_alloc | apply pw_below_drewN | apply below_drew1) | exact HB.out))))
              have n1_ := Aside0.mk (below_step (by repeat (first | (with_reducible first | exact HB.out | apply below_alloc | apply pw_below_drewN | apply below_drew1) | exact HB.out)) hb)
              clear HB
              have HO155 := n0_
              have HB := n1_
              clear n0_ n1_
              clear hb ho14
              refine hK.out _ _ trivial (fun hHeld => ?_)
              clear hK K
              refine norm_ (a' := ?_) ?_ ?_
              rotate_left
              · show Act.put _ (some 18) _ = _
                simp only [Act.put, List.setIfInBounds_toArray, List.set_cons_zero, List.set_cons_succ, i64_w, i32_w]
                rfl
              refine one_ (i := 2) (N := some 14) #[true, true, true, true, true, true, true, false, false, false] rfl rfl (one_of HT_.out (by kernel_rfl)) (by decide) (fun K hK => ?_)
              refine goes_ Try.func71 (by kernel_rfl) rfl #[.string a0, .int .i64 ji4] (by rfl) rfl rfl (by (try simp only [List.map_toArray, List.map_cons, List.map_nil]); first | done | (simp only [hji4]; rfl) | rfl | (simp only [List.length_drop, List.length_take]; rfl)) ?_
              with_reducible refine (sum_get.calls k a0 ji4 t152 _ A3.out).mono ?_
              rintro e w' ⟨rfl, ⟨nd, rfl⟩⟩
              refine ⟨_, rfl, ?_⟩
              refine hK.out _ _ trivial (fun hHeld => ?_)
              clear hK K
              refine norm_ (a' := ?_) ?_ ?_
              rotate_left
              · show Act.put _ (some 14) _ = _
                simp only [Act.put, List.setIfInBounds_toArray, List.set_cons_zero, List.set_cons_succ, i64_w, i32_w]
                rfl
              exact norm_ (by simp only [putAll, Act.put, List.setIfInBounds_toArray, List.set_cons_zero, List.set_cons_succ]) (hCont (v154) _ ⟨(by (with_reducible repeat (first | apply Kd.R_alloc | apply Kd.R_drewN | apply Kd.R_drew)); exact HO155.out), (by repeat (first | (with_reducible first | exact HB.out | apply below_alloc | apply pw_below_drewN | apply below_drew1) | exact HB.out))⟩)
          rintro v154 w15 ⟨h0_, h1_⟩
          have n0_ : Aside0 (Kd.R Kd.string 9 w15 w.heap.size (fun _ => True) v154 y153) := ⟨h0_⟩
          have n1_ : Aside0 (Below w.heap.size w w15) := ⟨h1_⟩
          clear HB
          clear h0_ h1_
          have HO155 := n0_
          have HB := n1_
          clear n0_ n1_
          have hHeld := trivial
          obtain ⟨Ao16, co16, eo16⟩ := Kd.R_slice HO155.out
          (first | subst eo16 | (injection eo16 with f1_ f2_ f3_; have f4_ := f1_.symm; have f5_ := f3_.symm; clear f1_ f2_ f3_; subst f4_; subst f5_))
          refine norm_ (a' := ?_) ?_ ?_
          rotate_left
          · simp only [putAll, Act.put, List.setIfInBounds_toArray, List.set_cons_zero, List.set_cons_succ]
            rfl
          refine one_ (i := 7) (N := some 19) #[true, true, true, true, true, true, true, true, false, false] rfl rfl (one_of HT_.out (by kernel_rfl)) (by decide) (fun K hK => ?_)
          refine goes_ Try.func70 (by kernel_rfl) rfl #[.slice Ao16 y153.length co16] (by rfl) rfl rfl (by (try simp only [List.map_toArray, List.map_cons, List.map_nil]); first | done | rfl | (simp only [List.length_drop, List.length_take]; rfl)) ?_
          with_reducible refine (sum_Crc.calls k _ _ y153 t156 _ ?side1 ?side2 A7.out).mono ?_
          (case side1 => repeat (first | exact (Kd.R_reads' HO155.out).2.2 | (with_reducible refine Kd.C_alloc ?_ _) | (with_reducible refine Kd.C_drewN ?_ _) | (with_reducible refine Kd.C_drew ?_)))
          (case side2 => exact (Kd.R_reads' HO155.out).2.1)
          rintro e w' ⟨rfl, ⟨nd, rfl⟩⟩
          refine ⟨_, rfl, ?_⟩
          refine hK.out _ _ trivial (fun hHeld => ?_)
          clear hK K
          refine norm_ (a' := ?_) ?_ ?_
          rotate_left
          · show Act.put _ (some 19) _ = _
            simp only [Act.put, List.setIfInBounds_toArray, List.set_cons_zero, List.set_cons_succ, i64_w, i32_w]
            rfl
          refine pure_ (i := 8) (N := some 20) (v := ?_) (a' := ?_) #[true, true, true, true, true, true, true, true, true, false] rfl rfl (any_of HT_.out (by kernel_rfl)) (fun _ _ _ h => h) (Or.inl ⟨by rfl, ?_⟩) ?_ ?_
          rotate_left
          · intro w'
            go_simp
            with_reducible rfl
          rotate_left
          · simp only [Act.put, List.setIfInBounds_toArray, List.set_cons_zero, List.set_cons_succ, i64_w, i32_w]
            rfl
          refine pure_ (i := 9) (N := some 11) (v := ?_) (a' := ?_) #[true, true, true, true, true, true, true, true, true, true] rfl rfl (any_of HT_.out (by kernel_rfl)) (fun _ _ _ h => h) (Or.inl ⟨by rfl, ?_⟩) ?_ ?_
          rotate_left
          · intro w'
            go_simp
            with_reducible rfl
          rotate_left
          · simp only [Act.put, List.setIfInBounds_toArray, List.set_cons_zero, List.set_cons_succ, i64_w, i32_w]
            rfl
          refine done_ (done_of HT_.out (by kernel_rfl)) ?_
          try go_wp2_with (first | ((with_reducible refine gate_callee (f := 65) rfl ?_); refine goesL_ (some 24) rfl rfl Try.func65 (by kernel_rfl) rfl #[.string (a0.extract 0 ((ji4) : Int).toNat)] rfl (by (try simp only [List.map_toArray, List.map_cons, List.map_nil]); first | done | (simp only [hji4]; rfl) | rfl | (simp only [List.length_drop, List.length_take]; rfl)) ?_; (with_reducible refine (strings_Clone.calls (a0.extract 0 ((ji4) : Int).toNat) t157 _ A11.out).mono ?_); rintro e w17 ⟨rfl, hb⟩; refine ⟨_, rfl, ?_⟩; have n0_ := Aside0.mk (Kd.R_below (by (with_reducible repeat (first | apply Kd.R_alloc | apply Kd.R_drewN | apply Kd.R_drew)); exact HO155.out) hb); have n1_ := Aside0.mk (below_step (by repeat (first | (with_reducible first | exact HB.out | apply below_alloc | apply pw_below_drewN | apply below_drew1) | exact HB.out)) hb); clear HO155; clear HB; have HO155 := n0_; have HB := n1_; clear n0_ n1_; (try clear hb); (try clear hb2); (try clear hk); (try clear hi)))
          go_ret2
          exact ⟨by first | rfl | (simp [errW_none, errW_some] <;> rfl) | (simp only [← hji4]; first | rfl | (simp [errW_none, errW_some] <;> rfl)) | (simp [*, errW_none, errW_some] <;> rfl), by repeat (first | (with_reducible first | exact HB.out | apply below_alloc | apply pw_below_drewN | apply below_drew1) | exact HB.out)⟩
        · rw [if_neg c8] at H
          have c8b0 : (t152 == t156) = false := beq_eq_false_iff_ne.mpr c8
          have c8b1 : (t152 != t156) = true := bne_iff_ne.mpr c8
          simp only [Option.some.injEq, Prod.mk.injEq] at H
          obtain ⟨rfl, rfl⟩ := H
          go_enter Try.func48, Try.ntmps48
          try go_wp2
          have n0_ := Aside0.mk (below_drew1 HB.out)
          clear HB
          have HB := n0_
          clear n0_
          refine start_ (n := 10) (S := fun w' => True) (ds := []) #[false, false, false, false, false, false, false, false, false, false] (by kernel_rfl) rfl rfl trivial (fun hHeld => ?_); refine with_tabW sum_Open.tab4 sum_Open.bits4 (fun HT_ HW_ => ?_)
          generalize w.drew = w18 at HB hHeld ⊢
          refine pure_ (i := 0) (N := some 12) (v := ?_) (a' := ?_) #[true, false, false, false, false, false, false, false, false, false] rfl rfl (any_of HT_.out (by kernel_rfl)) (fun _ _ _ h => h) (Or.inl ⟨by rfl, ?_⟩) ?_ ?_
          rotate_left
          · intro w'
            go_simp
            with_reducible rfl
          rotate_left
          · simp only [Act.put, List.setIfInBounds_toArray, List.set_cons_zero, List.set_cons_succ, i64_w, i32_w]
            rfl
          refine pure_ (i := 1) (N := some 13) (v := ?_) (a' := ?_) #[true, true, false, false, false, false, false, false, false, false] rfl rfl (any_of HT_.out (by kernel_rfl)) (fun _ _ _ h => h) (Or.inl ⟨by rfl, ?_⟩) ?_ ?_
          rotate_left
          · intro w'
            go_simp
            with_reducible rfl
          rotate_left
          · simp only [Act.put, List.setIfInBounds_toArray, List.set_cons_zero, List.set_cons_succ, i64_w, i32_w]
            rfl
          refine pure_ (i := 3) (N := some 15) (v := ?_) (a' := ?_) #[true, true, false, true, false, false, false, false, false, false] rfl rfl (any_of HT_.out (by kernel_rfl)) (fun _ _ _ h => h) (Or.inl ⟨by rfl, ?_⟩) ?_ ?_
          rotate_left
          · intro w'
            go_simp
            with_reducible rfl
          rotate_left
          · simp only [Act.put, List.setIfInBounds_toArray, List.set_cons_zero, List.set_cons_succ, i64_w, i32_w]
            rfl
          refine pure_ (i := 4) (N := some 16) (v := ?_) (a' := ?_) #[true, true, false, true, true, false, false, false, false, false] rfl rfl (any_of HT_.out (by kernel_rfl)) (fun _ _ _ h => h) (Or.inl ⟨by rfl, ?_⟩) ?_ ?_
          rotate_left
          · intro w'
            go_simp
            with_reducible rfl
          rotate_left
          · simp only [Act.put, List.setIfInBounds_toArray, List.set_cons_zero, List.set_cons_succ, i64_w, i32_w]
            rfl
          refine pure_ (i := 5) (N := some 17) (v := ?_) (a' := ?_) #[true, true, false, true, true, true, false, false, false, false] rfl rfl (any_of HT_.out (by kernel_rfl)) (fun _ _ _ h => h) (Or.inl ⟨by rfl, ?_⟩) ?_ ?_
          rotate_left
          · intro w'
            go_simp
            with_reducible rfl
          rotate_left
          · simp only [Act.put, List.setIfInBounds_toArray, List.set_cons_zero, List.set_cons_succ, i64_w, i32_w]
            rfl
          refine join_ (σ := Value) 3 #[true, true, true, true, true, true, true, false, false, false] (fun s_ => [(14, .int .u32 t152), (18, s_)]) (fun s_ w' => (Kd.R Kd.string 9 w' w.heap.size (fun _ => True) s_ y153) ∧ (Below w.heap.size w w')) ?_ ?_
          rotate_left
          · intro hCont
            refine two_ (i := 2) (j := 6) (Ni := some 14) (Nj := some 18) #[true, true, true, true, true, true, false, false, false, false] #[true, true, false, true, true, true, true, false, false, false] rfl rfl rfl rfl (two_of HT_.out (by kernel_rfl)) (by decide) (by decide) (fun K hK => ?_) (fun K hK => ?_)
            · skip
              refine goes_ Try.func71 (by kernel_rfl) rfl #[.string a0, .int .i64 ji4] (by rfl) rfl rfl (by (try simp only [List.map_toArray, List.map_cons, List.map_nil]); first | done | (simp only [hji4]; rfl) | rfl | (simp only [List.length_drop, List.length_take]; rfl)) ?_
              with_reducible refine (sum_get.calls k a0 ji4 t152 _ A3.out).mono ?_
              rintro e w' ⟨rfl, ⟨nd, rfl⟩⟩
              refine ⟨_, rfl, ?_⟩
              refine hK.out _ _ trivial (fun hHeld => ?_)
              clear hK K
              refine norm_ (a' := ?_) ?_ ?_
              rotate_left
              · show Act.put _ (some 14) _ = _
                simp only [Act.put, List.setIfInBounds_toArray, List.set_cons_zero, List.set_cons_succ, i64_w, i32_w]
                rfl
              refine one_ (i := 6) (N := some 18) #[true, true, true, true, true, true, true, false, false, false] rfl rfl (one_of HT_.out (by kernel_rfl)) (by decide) (fun K hK => ?_)
              refine Kd.R_lit_step Kd.string _ 9 ?hg (N := 18) ?hd (xs := ([a0.extract 0 ((ji4) : Int).toNat] : List ByteArray)) (inner := [.string (a0.extract 0 ((ji4) : Int).toNat)]) (ok := fun _ => True) (okp := fun _ => True) ?hr ?hp (fun _ hk => hk) trivial (Below.refl _ _) (Nat.le_refl _) (by simp) ?_; (case hd => rfl); (case hg => rfl); (case hr => first | (go_simp; done) | (go_simp; rfl)); (case hp => exact (Reps.one (show Kd.M Kd.string _ _ _ (a0.extract 0 ((ji4) : Int).toNat) [.string (a0.extract 0 ((ji4) : Int).toNat)] from rfl) (Reps.none _ _)))
              intro v154 w19 ho20 hb hg_ hnew_
              clear hg_ hnew_
              (first | rw [← Ny153.out] at ho20 | (simp only [Int.reduceToNat] at ho20; rw [← Ny153.out] at ho20))
              have n0_ := Aside0.mk (Kd.R_lower ho20 (below_size (by repeat (first | (with_reducible first | exact HB.out | apply below_alloc | apply pw_below_drewN | apply below_drew1) | exact HB.out))))
              have n1_ := Aside0.mk (below_step (by repeat (first | (with_reducible first | exact HB.out | apply below_alloc | apply pw_below_drewN | apply below_drew1) | exact HB.out)) hb)
              clear HB
              have HO155 := n0_
              have HB := n1_
              clear n0_ n1_
              clear hb ho20
              refine hK.out _ _ trivial (fun hHeld => ?_)
              clear hK K
              refine norm_ (a' := ?_) ?_ ?_
              rotate_left
              · show Act.put _ (some 18) _ = _
                simp only [Act.put, List.setIfInBounds_toArray, List.set_cons_zero, List.set_cons_succ, i64_w, i32_w]
                rfl
              exact norm_ (by simp only [putAll, Act.put, List.setIfInBounds_toArray, List.set_cons_zero, List.set_cons_succ]) (hCont (v154) _ ⟨(by (with_reducible repeat (first | apply Kd.R_alloc | apply Kd.R_drewN | apply Kd.R_drew)); exact HO155.out), (by repeat (first | (with_reducible first | exact HB.out | apply below_alloc | apply pw_below_drewN | apply below_drew1) | exact HB.out))⟩)
            · skip
              refine Kd.R_lit_step Kd.string _ 9 ?hg (N := 18) ?hd (xs := ([a0.extract 0 ((ji4) : Int).toNat] : List ByteArray)) (inner := [.string (a0.extract 0 ((ji4) : Int).toNat)]) (ok := fun _ => True) (okp := fun _ => True) ?hr ?hp (fun _ hk => hk) trivial (Below.refl _ _) (Nat.le_refl _) (by simp) ?_; (case hd => rfl); (case hg => rfl); (case hr => first | (go_simp; done) | (go_simp; rfl)); (case hp => exact (Reps.one (show Kd.M Kd.string _ _ _ (a0.extract 0 ((ji4) : Int).toNat) [.string (a0.extract 0 ((ji4) : Int).toNat)] from rfl) (Reps.none _ _)))
              intro v154 w19 ho20 hb hg_ hnew_
              clear hg_ hnew_
              (first | rw [← Ny153.out] at ho20 | (simp only [Int.reduceToNat] at ho20; rw [← Ny153.out] at ho20))
              have n0_ := Aside0.mk (Kd.R_lower ho20 (below_size (by repeat (first | (with_reducible first | exact HB.out | apply below_alloc | apply pw_below_drewN | apply below_drew1) | exact HB.out))))
              have n1_ := Aside0.mk (below_step (by repeat (first | (with_reducible first | exact HB.out | apply below_alloc | apply pw_below_drewN | apply below_drew1) | exact HB.out)) hb)
              clear HB
              have HO155 := n0_
              have HB := n1_
              clear n0_ n1_
              clear hb ho20
              refine hK.out _ _ trivial (fun hHeld => ?_)
              clear hK K
              refine norm_ (a' := ?_) ?_ ?_
              rotate_left
              · show Act.put _ (some 18) _ = _
                simp only [Act.put, List.setIfInBounds_toArray, List.set_cons_zero, List.set_cons_succ, i64_w, i32_w]
                rfl
              refine one_ (i := 2) (N := some 14) #[true, true, true, true, true, true, true, false, false, false] rfl rfl (one_of HT_.out (by kernel_rfl)) (by decide) (fun K hK => ?_)
              refine goes_ Try.func71 (by kernel_rfl) rfl #[.string a0, .int .i64 ji4] (by rfl) rfl rfl (by (try simp only [List.map_toArray, List.map_cons, List.map_nil]); first | done | (simp only [hji4]; rfl) | rfl | (simp only [List.length_drop, List.length_take]; rfl)) ?_
              with_reducible refine (sum_get.calls k a0 ji4 t152 _ A3.out).mono ?_
              rintro e w' ⟨rfl, ⟨nd, rfl⟩⟩
              refine ⟨_, rfl, ?_⟩
              refine hK.out _ _ trivial (fun hHeld => ?_)
              clear hK K
              refine norm_ (a' := ?_) ?_ ?_
              rotate_left
              · show Act.put _ (some 14) _ = _
                simp only [Act.put, List.setIfInBounds_toArray, List.set_cons_zero, List.set_cons_succ, i64_w, i32_w]
                rfl
              exact norm_ (by simp only [putAll, Act.put, List.setIfInBounds_toArray, List.set_cons_zero, List.set_cons_succ]) (hCont (v154) _ ⟨(by (with_reducible repeat (first | apply Kd.R_alloc | apply Kd.R_drewN | apply Kd.R_drew)); exact HO155.out), (by repeat (first | (with_reducible first | exact HB.out | apply below_alloc | apply pw_below_drewN | apply below_drew1) | exact HB.out))⟩)
          rintro v154 w21 ⟨h0_, h1_⟩
          have n0_ : Aside0 (Kd.R Kd.string 9 w21 w.heap.size (fun _ => True) v154 y153) := ⟨h0_⟩
          have n1_ : Aside0 (Below w.heap.size w w21) := ⟨h1_⟩
          clear HB
          clear h0_ h1_
          have HO155 := n0_
          have HB := n1_
          clear n0_ n1_
          have hHeld := trivial
          obtain ⟨Ao22, co22, eo22⟩ := Kd.R_slice HO155.out
          (first | subst eo22 | (injection eo22 with f1_ f2_ f3_; have f4_ := f1_.symm; have f5_ := f3_.symm; clear f1_ f2_ f3_; subst f4_; subst f5_))
          refine norm_ (a' := ?_) ?_ ?_
          rotate_left
          · simp only [putAll, Act.put, List.setIfInBounds_toArray, List.set_cons_zero, List.set_cons_succ]
            rfl
          refine one_ (i := 7) (N := some 19) #[true, true, true, true, true, true, true, true, false, false] rfl rfl (one_of HT_.out (by kernel_rfl)) (by decide) (fun K hK => ?_)
          refine goes_ Try.func70 (by kernel_rfl) rfl #[.slice Ao22 y153.length co22] (by rfl) rfl rfl (by (try simp only [List.map_toArray, List.map_cons, List.map_nil]); first | done | rfl | (simp only [List.length_drop, List.length_take]; rfl)) ?_
          with_reducible refine (sum_Crc.calls k _ _ y153 t156 _ ?side1 ?side2 A7.out).mono ?_
          (case side1 => repeat (first | exact (Kd.R_reads' HO155.out).2.2 | (with_reducible refine Kd.C_alloc ?_ _) | (with_reducible refine Kd.C_drewN ?_ _) | (with_reducible refine Kd.C_drew ?_)))
          (case side2 => exact (Kd.R_reads' HO155.out).2.1)
          rintro e w' ⟨rfl, ⟨nd, rfl⟩⟩
          refine ⟨_, rfl, ?_⟩
          refine hK.out _ _ trivial (fun hHeld => ?_)
          clear hK K
          refine norm_ (a' := ?_) ?_ ?_
          rotate_left
          · show Act.put _ (some 19) _ = _
            simp only [Act.put, List.setIfInBounds_toArray, List.set_cons_zero, List.set_cons_succ, i64_w, i32_w]
            rfl
          refine pure_ (i := 8) (N := some 20) (v := ?_) (a' := ?_) #[true, true, true, true, true, true, true, true, true, false] rfl rfl (any_of HT_.out (by kernel_rfl)) (fun _ _ _ h => h) (Or.inl ⟨by rfl, ?_⟩) ?_ ?_
          rotate_left
          · intro w'
            go_simp
            with_reducible rfl
          rotate_left
          · simp only [Act.put, List.setIfInBounds_toArray, List.set_cons_zero, List.set_cons_succ, i64_w, i32_w]
            rfl
          refine pure_ (i := 9) (N := some 11) (v := ?_) (a' := ?_) #[true, true, true, true, true, true, true, true, true, true] rfl rfl (any_of HT_.out (by kernel_rfl)) (fun _ _ _ h => h) (Or.inl ⟨by rfl, ?_⟩) ?_ ?_
          rotate_left
          · intro w'
            go_simp
            with_reducible rfl
          rotate_left
          · simp only [Act.put, List.setIfInBounds_toArray, List.set_cons_zero, List.set_cons_succ, i64_w, i32_w]
            rfl
          refine done_ (done_of HT_.out (by kernel_rfl)) ?_
          try go_wp2
          go_ret2
          exact ⟨by first | rfl | (simp [errW_none, errW_some] <;> rfl) | (simp only [← hji4]; first | rfl | (simp [errW_none, errW_some] <;> rfl)) | (simp [*, errW_none, errW_some] <;> rfl), by repeat (first | (with_reducible first | exact HB.out | apply below_alloc | apply pw_below_drewN | apply below_drew1) | exact HB.out)⟩
      · rw [if_neg c6] at H
        exact absurd H (by simp)
    · rw [if_neg c5] at H
      exact absurd H (by simp)
end Go.Proofs.Ytchgpcgolgcfdaa.PNum
end
section
namespace Go.Proofs.Ytchgpcgolgcfdaa.PNum
open Go.RowKit Go.Proofs.YtchgpcgolgcfdaaW.PrintWords Go.Proofs.YtchgpcgolgcfdaaW.PrintLast Go.Proofs.YtchgpcgolgcfdaaW.PrintMore
attribute [local go_sem] max2_int min2_int max_two min_two max_three min_three max_four min_four   -- for this text's walks alone
set_option linter.unusedVariables false
set_option linter.unusedSimpArgs false
def IsS146 (w0 W : World) (g : Nat) (f0 : ByteArray) (f1 : Int) : Prop := W.heap[g]? = some (.cells #[.string f0, .int .i64 f1] 146 (0, 0)) ∧ w0.heap.size ≤ g
theorem IsS146.grown {w0 W : World} {g : Nat} {f0 : ByteArray} {f1 : Int} {W1 : World} {row : Option Nat} (h : IsS146 w0 W g f0 f1) (hw : W.grownBy W1 row) (hne : some g ≠ row) : IsS146 w0 W1 g f0 f1 := by
  obtain ⟨hb, hg⟩ := h
  exact ⟨blk_grown hb hw hne, hg⟩
theorem IsS146.kept {w0 W : World} {g : Nat} {f0 : ByteArray} {f1 : Int} {W1 : World} {S : Nat → Prop} (h : IsS146 w0 W g f0 f1) (hk : Kept W W1 S) (hne : ¬ S g) : IsS146 w0 W1 g f0 f1 := by
  obtain ⟨hb, hg⟩ := h
  exact ⟨blk_kept hb hk hne, hg⟩
theorem IsS146.below {w0 W : World} {g : Nat} {f0 : ByteArray} {f1 : Int} {W1 : World} (h : IsS146 w0 W g f0 f1) (hw : Below W.heap.size W W1) : IsS146 w0 W1 g f0 f1 := h.grown (grown_of_below hw none) (by simp)
theorem IsS146.alloc {w0 W : World} {g : Nat} {f0 : ByteArray} {f1 : Int} (h : IsS146 w0 W g f0 f1) (o : Obj) : IsS146 w0 (W.alloc o) g f0 f1 := h.below (below_alloc (Below.refl _ _) o)
theorem IsS146.drewN {w0 W : World} {g : Nat} {f0 : ByteArray} {f1 : Int} (h : IsS146 w0 W g f0 f1) (m : Nat) : IsS146 w0 (W.drewN m) g f0 f1 := h
theorem IsS146.drew {w0 W : World} {g : Nat} {f0 : ByteArray} {f1 : Int} (h : IsS146 w0 W g f0 f1) : IsS146 w0 W.drew g f0 f1 := h
theorem IsS146.at_ {w0 W : World} {g : Nat} {f0 : ByteArray} {f1 : Int} {w' : World} {m : Nat} (hq : W.drewN m = w') (h : IsS146 w0 W g f0 f1) : IsS146 w0 w' g f0 f1 := by subst hq; exact IsS146.drewN h m
theorem IsS146.apart {w0 W : World} {g : Nat} {f0 : ByteArray} {f1 : Int} {α : Type} {d : Kd α} {e : Nat} {base : Nat} {ok : Nat → Prop} {v : Value} {xs : List α} (h : IsS146 w0 W g f0 f1) (ho : d.R e W base ok v xs) (ht : ∀ q, q ∈ e :: d.E → q ≠ 146) : d.R e W base (fun k => ok k ∧ k ≠ g) v xs := by
  obtain ⟨hb, hg⟩ := h
  exact Kd.R_types ho hb ht
theorem IsS146.own_ne {w0 W : World} {g : Nat} {f0 : ByteArray} {f1 : Int} {α : Type} {d : Kd α} {e : Nat} {base : Nat} {ok : Nat → Prop} {v : Value} {xs : List α} (h : IsS146 w0 W g f0 f1) (ho : d.R e W base ok v xs) (ht : e ≠ 146) : some g ≠ v.ownBlock := by
  obtain ⟨hb, hg⟩ := h
  exact Kd.R_ne ho hb ht
theorem IsS146.lt {w0 W : World} {g : Nat} {f0 : ByteArray} {f1 : Int} (h : IsS146 w0 W g f0 f1) : g < W.heap.size := by
  obtain ⟨hb, hg⟩ := h
  exact blk_lt hb
theorem IsS146.ge {w0 W : World} {g : Nat} {f0 : ByteArray} {f1 : Int} (h : IsS146 w0 W g f0 f1) : w0.heap.size ≤ g := by
  obtain ⟨hb, hg⟩ := h
  exact hg
theorem IsS146.far {w0 W : World} {g : Nat} {f0 : ByteArray} {f1 : Int} {p : Addr} (h : IsS146 w0 W g f0 f1) (hne : g ≠ p.block) (u : Value) : IsS146 w0 (W.setCell p u) g f0 f1 := by
  obtain ⟨hb, hg⟩ := h
  exact ⟨blk_far hb hne u, hg⟩
theorem cellS146_0 {W : World} {g : Nat} {f0 : ByteArray} {f1 : Int} (h : W.heap[g]? = some (.cells #[.string f0, .int .i64 f1] 146 (0, 0))) : W.cell? ⟨g, 0, none⟩ = some (.string f0) := (blk_cell h 0).trans rfl
theorem IsS146.set_0 {w0 W : World} {g : Nat} {f0 : ByteArray} {f1 : Int} (h : IsS146 w0 W g f0 f1) (x : ByteArray) : IsS146 w0 (W.setCell ⟨g, 0, none⟩ (.string x)) g x f1 := by
  obtain ⟨hb, hg⟩ := h
  exact ⟨by simpa using blk_set hb 0 (.string x), hg⟩
theorem cellS146_1 {W : World} {g : Nat} {f0 : ByteArray} {f1 : Int} (h : W.heap[g]? = some (.cells #[.string f0, .int .i64 f1] 146 (0, 0))) : W.cell? ⟨g, 1, none⟩ = some (.int .i64 f1) := (blk_cell h 1).trans rfl
theorem IsS146.set_1 {w0 W : World} {g : Nat} {f0 : ByteArray} {f1 : Int} (h : IsS146 w0 W g f0 f1) (x : Int) : IsS146 w0 (W.setCell ⟨g, 1, none⟩ (.int .i64 x)) g f0 x := by
  obtain ⟨hb, hg⟩ := h
  exact ⟨by simpa using blk_set hb 1 (.int .i64 x), hg⟩
theorem IsS146.new (w0 W : World) (f0 : ByteArray) (f1 : Int) (hB : Below w0.heap.size w0 W) : IsS146 w0 (W.alloc (.cells #[.string f0, .int .i64 f1] 146)) W.heap.size f0 f1 := ⟨by simpa using heap_alloc_new W _, hB.size⟩
def num_NewReader.f (a0 : ByteArray) : Option (ByteArray × Int) := (strings_Clone.f a0).bind fun t => some (t, 0)
set_option maxHeartbeats 4000000 in
set_option maxRecDepth 100000 in
theorem num_NewReader.calls (a0 : ByteArray) (r1 : ByteArray) (r2 : Int) (w0 w : World) (hB : Below w0.heap.size w0 w) (h : num_NewReader.f a0 = some (r1, r2)) :
    Calls Try.prog 72 #[.string a0] w fun e w' => ∃ g_ : Nat, e = .returned (.pointer (some ⟨g_, 0, none⟩)) ∧ IsS146 w0 w' g_ r1 r2 ∧ Below w0.heap.size w0 w' ∧ Below w.heap.size w w' := by
  obtain ⟨t, ht, h⟩ := Option.bind_eq_some_iff.1 h
  simp only [Option.some.injEq, Prod.mk.injEq] at h
  obtain ⟨rfl, rfl⟩ := h
  go_enter Try.func72, Try.ntmps72
  go_wp2_with (go_at_call 65; refine (strings_Clone.calls a0 t _ ht).mono ?_; rintro e w1 ⟨rfl, hb⟩)
  have hB1 : Below w0.heap.size w0 w1 := below_step hB hb
  go_ret
  exact ⟨_, rfl, IsS146.new w0 w1 t 0 hB1, below_alloc hB1 _, below_alloc hb _⟩
def num_Reader_Left.f (s0_0 : ByteArray) (s0_1 : Int) : Option (Int × ByteArray × Int) := some ((s0_0.size : Int), s0_0, s0_1)
set_option maxHeartbeats 8000000 in
set_option maxRecDepth 100000 in
theorem num_Reader_Left.calls (g : Nat) (s0_0 : ByteArray) (s0_1 : Int) (r1 : Int) (r2 : ByteArray) (r3 : Int) (w0 w : World) (hI : IsS146 w0 w g s0_0 s0_1) (hB : Below w0.heap.size w0 w) (h : num_Reader_Left.f s0_0 s0_1 = some (r1, r2, r3)) :
    Calls Try.prog 73 #[.pointer (some ⟨g, 0, none⟩)] w fun e w' => e = .returned (.int .i64 r1) ∧ IsS146 w0 w' g r2 r3 ∧ Below w0.heap.size w0 w' ∧ KeepBut w w' g none := by
  have HI0 := Aside0.mk hI
  have HK := Aside0.mk (KeepBut.refl w g none)
  have HL := Aside0.mk hB.size
  clear hI
  have HW0 := Aside0.mk hB.size
  have HB := Aside0.mk hB
  clear hB
  have H : (some ((s0_0.size : Int), s0_0, s0_1)) = some (r1, r2, r3) := h
  clear h
  simp only [Option.some.injEq, Prod.mk.injEq] at H
  obtain ⟨rfl, rfl, rfl⟩ := H
  obtain ⟨HGz2, hgz2⟩ := HI0.out
  have hcz2_0 := cellS146_0 HGz2
  have hcz2_1 := cellS146_1 HGz2
  have hfz2_0 := blk_frozen HGz2 0
  have hfz2_1 := blk_frozen HGz2 1
  clear HGz2 hgz2
  go_enter Try.func73, Try.ntmps73
  go_wp2
  go_ret
  exact ⟨by first | rfl | (simp [errW_none, errW_some] <;> rfl) | (simp [*, errW_none, errW_some] <;> rfl), by repeat (first | (with_reducible first | exact HI0.out | apply IsS146.alloc | apply IsS146.drewN | apply IsS146.drew | apply IsS146.set_0 | apply IsS146.set_1) | exact HI0.out), by repeat (first | (with_reducible first | exact HB.out | apply below_alloc | apply pw_below_drewN | apply below_drew1 | refine below_set ?_ (IsS146.ge HI0.out)) | exact HB.out), by repeat (first | (with_reducible first | exact HK.out | apply KeepBut.set_ | apply keep_drewN | apply keep_drew | apply keep_alloc) | exact HK.out)⟩
def num_Reader_off.f (s0_0 : ByteArray) (s0_1 : Int) : Option (Bool × ByteArray × Int) := some ((s0_1 != 0), s0_0, s0_1)
set_option maxHeartbeats 8000000 in
set_option maxRecDepth 100000 in
theorem num_Reader_off.calls (g : Nat) (s0_0 : ByteArray) (s0_1 : Int) (r1 : Bool) (r2 : ByteArray) (r3 : Int) (w0 w : World) (hI : IsS146 w0 w g s0_0 s0_1) (hB : Below w0.heap.size w0 w) (h : num_Reader_off.f s0_0 s0_1 = some (r1, r2, r3)) :
    Calls Try.prog 85 #[.pointer (some ⟨g, 0, none⟩)] w fun e w' => e = .returned (.bool r1) ∧ IsS146 w0 w' g r2 r3 ∧ Below w0.heap.size w0 w' ∧ KeepBut w w' g none := by
  have HI0 := Aside0.mk hI
  have HK := Aside0.mk (KeepBut.refl w g none)
  have HL := Aside0.mk hB.size
  clear hI
  have HW0 := Aside0.mk hB.size
  have HB := Aside0.mk hB
  clear hB
  have H : (some ((s0_1 != 0), s0_0, s0_1)) = some (r1, r2, r3) := h
  clear h
  simp only [Option.some.injEq, Prod.mk.injEq] at H
  obtain ⟨rfl, rfl, rfl⟩ := H
  obtain ⟨HGz2, hgz2⟩ := HI0.out
  have hcz2_0 := cellS146_0 HGz2
  have hcz2_1 := cellS146_1 HGz2
  have hfz2_0 := blk_frozen HGz2 0
  have hfz2_1 := blk_frozen HGz2 1
  clear HGz2 hgz2
  go_enter Try.func85, Try.ntmps85
  go_wp2
  go_ret
  exact ⟨by first | rfl | (simp [errW_none, errW_some] <;> rfl) | (simp [*, errW_none, errW_some] <;> rfl), by repeat (first | (with_reducible first | exact HI0.out | apply IsS146.alloc | apply IsS146.drewN | apply IsS146.drew | apply IsS146.set_0 | apply IsS146.set_1) | exact HI0.out), by repeat (first | (with_reducible first | exact HB.out | apply below_alloc | apply pw_below_drewN | apply below_drew1 | refine below_set ?_ (IsS146.ge HI0.out)) | exact HB.out), by repeat (first | (with_reducible first | exact HK.out | apply KeepBut.set_ | apply keep_drewN | apply keep_drew | apply keep_alloc) | exact HK.out)⟩
end Go.Proofs.Ytchgpcgolgcfdaa.PNum
end
