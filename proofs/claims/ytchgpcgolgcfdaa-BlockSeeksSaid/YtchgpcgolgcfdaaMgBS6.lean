/- Texts of this claim, put together and cut down to what is used (BS6). -/
import Derived.Test.YtchgpcgolgcfdaaProg
import Derived.Deep.DeepCutAuto
import Derived.Deep.QuietTactic
import Derived.Deep.RegionHeld3
import Derived.BigRegion
import Derived.BigQuiet
import Derived.Maps.OwnSet
import Derived.Maps.Own
import Derived.Maps.Keyed
import Derived.Carry
import Derived.KernelRfl
import Derived.DeepKeys4
import Derived.Deep.LoopGhost
import Derived.StringKeys
import Derived.Test.YtchgpcgolgcfdaaMgBS3
import Derived.Test.YtchgpcgolgcfdaaMgBS1
import Derived.Test.YtchgpcgolgcfdaaMgBS0
section
namespace Go.Proofs.Ytchgpcgolgcfdaa.PNum
open Go.RowKit Go.Proofs.YtchgpcgolgcfdaaW.PrintWords Go.Proofs.YtchgpcgolgcfdaaW.PrintLast Go.Proofs.YtchgpcgolgcfdaaW.PrintMore
attribute [local go_sem] max2_int min2_int max_two min_two max_three min_three max_four min_four   -- for this text's walks alone
set_option linter.unusedVariables false
set_option linter.unusedSimpArgs false
def merge_Cut.l0 : Nat → Int → List (S29) → List (List (S29)) → Int → Int → Int → Option ((List (List (S29))))
  | 0, _, _, _, _, _, _ => none
  | k + 1, x0, x1, x5, x6, x9, x10 => if x10 < x9 then (if (wrap64 (x10 + 1)) = (x1.length : Int) then (if 0 ≤ x6 then (if x6 ≤ (wrap64 (x10 + 1)) then (if (wrap64 (x10 + 1)) ≤ (x1.length : Int) then ((some ((x1.take ((wrap64 (x10 + 1)) : Int).toNat).drop (x6 : Int).toNat : List (S29))).bind fun y116 => (if ([] : List (S29)).length + y116.length < 2932031007402 then (if x5.length < 5864062014805 then (merge_Cut.l0 k x0 x1 (x5 ++ [(([] : List (S29)) ++ y116)]) (wrap64 (x10 + 1)) x9 (wrap64 (x10 + 1))) else (none)) else (none))) else (none)) else (none)) else (none)) else (if (wrap64 ((wrap64 (x10 + 1)) - x6)) ≥ (mx x0 1) then (if 0 ≤ (wrap64 (x10 + 1)) then (if (wrap64 (x10 + 1)) < (x1.length : Int) then (if 0 ≤ x10 then (if x10 < (x1.length : Int) then (if ((rd_T29 x1 (wrap64 (x10 + 1))).f0).toList = ((rd_T29 x1 x10).f0).toList then (merge_Cut.l0 k x0 x1 x5 x6 x9 (wrap64 (x10 + 1))) else (if 0 ≤ x6 then (if x6 ≤ (wrap64 (x10 + 1)) then (if (wrap64 (x10 + 1)) ≤ (x1.length : Int) then ((some ((x1.take ((wrap64 (x10 + 1)) : Int).toNat).drop (x6 : Int).toNat : List (S29))).bind fun y128 => (if ([] : List (S29)).length + y128.length < 2932031007402 then (if x5.length < 5864062014805 then (merge_Cut.l0 k x0 x1 (x5 ++ [(([] : List (S29)) ++ y128)]) (wrap64 (x10 + 1)) x9 (wrap64 (x10 + 1))) else (none)) else (none))) else (none)) else (none)) else (none))) else (none)) else (none)) else (none)) else (none)) else (merge_Cut.l0 k x0 x1 x5 x6 x9 (wrap64 (x10 + 1))))) else (some x5)
def merge_Cut.f (k : Nat) (a0 : Int) (l1 : List (S29)) : Option ((List (List (S29)))) := merge_Cut.l0 k a0 l1 ([] : List (List (S29))) 0 (l1.length : Int) 0
theorem merge_Cut.mono_l : ∀ k, (∀ y0 y1 y2 y3 y4 y5, LeO (merge_Cut.l0 k y0 y1 y2 y3 y4 y5) (merge_Cut.l0 (k + 1) y0 y1 y2 y3 y4 y5))
  | 0 => fun _ _ _ _ _ _ r h => by simp [merge_Cut.l0] at h
  | k + 1 => by
    have ih0 := merge_Cut.mono_l k
    · intro y0 y1 y2 y3 y4 y5
      unfold merge_Cut.l0
      repeat' first
      | (with_reducible exact ih0 _ _ _ _ _ _)
      | (with_reducible exact LeO.refl _)
      | (with_reducible exact LeO.none _)
      | (with_reducible refine LeO.ite ?_ ?_)
      | (with_reducible refine LeO.bind ?_ (fun _ => ?_))
      | exact ih0 _ _ _ _ _ _
      | exact LeO.none _
      | refine LeO.ite ?_ ?_
      | refine LeO.bind ?_ (fun _ => ?_)
theorem merge_Cut.mono : ∀ a0 a1 k, LeO (merge_Cut.f k a0 a1) (merge_Cut.f (k + 1) a0 a1) := by
  intro a0 a1 k
  have ih0 := merge_Cut.mono_l k
  unfold merge_Cut.f
  repeat' first
      | (with_reducible exact ih0 _ _ _ _ _ _)
      | (with_reducible exact LeO.refl _)
      | (with_reducible exact LeO.none _)
      | (with_reducible refine LeO.ite ?_ ?_)
      | (with_reducible refine LeO.bind ?_ (fun _ => ?_))
      | exact ih0 _ _ _ _ _ _
      | exact LeO.none _
      | refine LeO.ite ?_ ?_
      | refine LeO.bind ?_ (fun _ => ?_)
set_option maxHeartbeats 8000000 in
set_option maxRecDepth 100000 in
theorem merge_Cut.calls (k : Nat) (a0 : Int) (A1 : Option Addr) (c1 : Nat) (l1 : List (S29)) (r : List (List (S29))) (w : World) (hr1 : Kd.C k29 w A1 l1.length l1) (hc1 : l1.length ≤ c1) (h : merge_Cut.f k a0 l1 = some r) :
    Calls Try.prog 12 #[.int .i64 a0, .slice A1 l1.length c1] w fun e w' => ∃ v0_ : Value, e = .returned (v0_) ∧ Kd.S (Kd.slice 29 k29) 22 w' w.heap.size (fun _ => True) v0_ r ∧ Below w.heap.size w w' := by
  have HR1 := Aside0.mk hr1
  have HC1 := Aside0.mk hc1
  clear hr1 hc1
  have HB := Aside0.mk (Below.refl w.heap.size w)
  have H : (merge_Cut.l0 k a0 l1 ([] : List (List (S29))) 0 (l1.length : Int) 0) = some r := h
  clear h
  have H' := Aside0.mk H
  clear H
  go_enter Try.func12, Try.ntmps12
  go_wp2
  repeat (go_quiet (fail); try go_wp2)
  go_loopg [5, 6, 10] k (fun kq v5 v6 v10 w' => ∃ (x5_1 : List (List (S29))) (x6_1 : Int) (x10_1 : Int), v6 = .int .i64 x6_1 ∧ v10 = .int .i64 x10_1 ∧ Aside0 (merge_Cut.l0 kq a0 l1 x5_1 x6_1 (l1.length : Int) x10_1 = some r) ∧ Aside0 (kq ≤ k) ∧ Aside0 (Kd.S (Kd.slice 29 k29) 22 w' w.heap.size (fun _ => True) v5 x5_1) ∧ Aside0 (Below w.heap.size w w'))
  case atStart => exact ⟨(([] : List (List (S29)))), (0), (0), (by first | rfl | (simp; done) | (simp [*]; done)), (by first | rfl | (simp; done) | (simp [*]; done)), H', ⟨Nat.le_refl _⟩, ⟨by first | exact Kd.S_nil _ _ _ _ _ | exact Kd.N_nil _ _ _ _ _ | exact Kd.V_nil _ _ _ _ _ | exact Kd.Q_nil _ _ _ _ _ | exact Kd.R_nil _ _ _ _ _⟩, ⟨by repeat (first | (with_reducible first | exact HB.out | apply below_alloc | apply pw_below_drewN | apply below_drew1) | exact HB.out)⟩⟩
  case round =>
    clear H'
    try clear c1
    try clear p2
    obtain ⟨x5_1, x6_1, x10_1, rfl, rfl, HA, HK1, HO_5, HB⟩ := hrel
    cases gk with
    | zero => exact absurd HA.out (by simp [merge_Cut.l0])
    | succ k1 =>
      have H := HA.out
      clear HA
      simp only [merge_Cut.l0] at H
      by_cases c3 : x10_1 < (l1.length : Int)
      · rw [if_pos c3] at H
        have c3b0 : decide (x10_1 < (l1.length : Int)) = true := decide_eq_true c3
        clear c3
        by_cases c4 : (wrap64 (x10_1 + 1)) = (l1.length : Int)
        · rw [if_pos c4] at H
          have c4b0 : ((wrap64 (x10_1 + 1)) == (l1.length : Int)) = true := beq_iff_eq.mpr c4
          have c4b1 : ((wrap64 (x10_1 + 1)) != (l1.length : Int)) = false := bne_eq_false_iff_eq.mpr c4
          clear c4
          by_cases c5 : 0 ≤ x6_1
          · rw [if_pos c5] at H
            have c5b0 := eq_true c5
            have c5b1 : decide (0 ≤ x6_1) = true := decide_eq_true c5
            clear c5
            by_cases c6 : x6_1 ≤ (wrap64 (x10_1 + 1))
            · rw [if_pos c6] at H
              have c6b0 := eq_true c6
              have c6b1 : decide (x6_1 ≤ (wrap64 (x10_1 + 1))) = true := decide_eq_true c6
              clear c6
              by_cases c7 : (wrap64 (x10_1 + 1)) ≤ (l1.length : Int)
              · rw [if_pos c7] at H
                have c7b0 := eq_true c7
                have c7b1 : decide ((wrap64 (x10_1 + 1)) ≤ (l1.length : Int)) = true := decide_eq_true c7
                clear c7
                obtain ⟨y116, hy116⟩ : ∃ y_ : List (S29), y_ = ((l1.take ((wrap64 (x10_1 + 1)) : Int).toNat).drop (x6_1 : Int).toNat) := ⟨_, rfl⟩
                replace H : (if ([] : List (S29)).length + y116.length < 2932031007402 then (if x5_1.length < 5864062014805 then (merge_Cut.l0 k1 a0 l1 (x5_1 ++ [(([] : List (S29)) ++ y116)]) (wrap64 (x10_1 + 1)) (l1.length : Int) (wrap64 (x10_1 + 1))) else (none)) else (none)) = some r := by first | (rw [hy116]; with_reducible exact H) | (have H2_ := (Option.bind_some _ _).symm.trans H; rw [hy116]; with_reducible exact H2_) | (have H2_ := (Option.bind_some _ _).symm.trans H; with_reducible exact H2_) | with_reducible exact H | (rw [hy116]; exact H) | exact H
                have Ny116 := Aside0.mk hy116
                clear hy116
                by_cases c8 : ([] : List (S29)).length + y116.length < 2932031007402
                · rw [if_pos c8] at H
                  have LMc8 := Aside0.mk c8
                  clear c8
                  obtain ⟨y120, hy120⟩ : ∃ y_ : List (S29), y_ = (([] : List (S29)) ++ y116) := ⟨_, rfl⟩
                  replace H : (if x5_1.length < 5864062014805 then (merge_Cut.l0 k1 a0 l1 (x5_1 ++ [y120]) (wrap64 (x10_1 + 1)) (l1.length : Int) (wrap64 (x10_1 + 1))) else (none)) = some r := by first | (rw [hy120]; with_reducible exact H) | (have H2_ := (Option.bind_some _ _).symm.trans H; rw [hy120]; with_reducible exact H2_) | (have H2_ := (Option.bind_some _ _).symm.trans H; with_reducible exact H2_) | with_reducible exact H | (rw [hy120]; exact H) | exact H
                  have Ny120 := Aside0.mk hy120
                  clear hy120
                  by_cases c9 : x5_1.length < 5864062014805
                  · rw [if_pos c9] at H
                    have LMc9 := Aside0.mk c9
                    clear c9
                    obtain ⟨y123, hy123⟩ : ∃ y_ : List (List (S29)), y_ = (x5_1 ++ [y120]) := ⟨_, rfl⟩
                    replace H : (merge_Cut.l0 k1 a0 l1 y123 (wrap64 (x10_1 + 1)) (l1.length : Int) (wrap64 (x10_1 + 1))) = some r := by first | (rw [hy123]; with_reducible exact H) | (have H2_ := (Option.bind_some _ _).symm.trans H; rw [hy123]; with_reducible exact H2_) | (have H2_ := (Option.bind_some _ _).symm.trans H; with_reducible exact H2_) | with_reducible exact H | (rw [hy123]; exact H) | exact H
                    have Ny123 := Aside0.mk hy123
                    clear hy123
                    have H' := Aside0.mk H
                    clear H
                    have q10 : ((wrap64 (x10_1 + 1)) : Int) ≤ ((l1.length : Int) : Int) := of_decide_eq_true (by first | (with_reducible assumption) | assumption)
                    obtain ⟨i010, hi010, _, hsz10, _⟩ := info_parts info29
                    have hroom10 : l1.length ≤ c1 := HC1.out
                    have hC10 : Kd.C k29 _ A1 l1.length l1 := HR1.out
                    have ql10 : (x6_1 : Int) ≤ ((wrap64 (x10_1 + 1)) : Int) := of_decide_eq_true (by first | (with_reducible assumption) | assumption)
                    have q010 : (0 : Int) ≤ (x6_1 : Int) := of_decide_eq_true (by first | (with_reducible assumption) | assumption)
                    have hcut10 := cut_mid (P := Try.prog) 22 29 .i64 .i64 Try.underlying22 hi010 4 hsz10 A1 l1.length c1 x6_1 (wrap64 (x10_1 + 1)) q010 ql10 q10 hroom10
                    have hr10 := Kd.C_mid (lo := (x6_1 : Int).toNat) (hi := ((wrap64 (x10_1 + 1)) : Int).toNat) (c := c1) hC10 (by omega) (by omega) hroom10
                    obtain ⟨A10, hA10⟩ : ∃ A1_, A1_ = (if c1 = (x6_1 : Int).toNat then A1 else (A1 : Option Addr).map (·.add ((x6_1 : Int).toNat * 4))) := ⟨_, rfl⟩
                    obtain ⟨c10, hc10⟩ : ∃ c1_, c1_ = c1 - (x6_1 : Int).toNat := ⟨_, rfl⟩
                    have hy10 : y116.length = ((wrap64 (x10_1 + 1)) : Int).toNat - (x6_1 : Int).toNat := (by rw [Ny116.out, List.length_drop, List.length_take] <;> omega)
                    rw [show ((l1).take ((wrap64 (x10_1 + 1)) : Int).toNat).drop (x6_1 : Int).toNat = y116 from Ny116.out.symm] at hr10
                    replace hr10 : Kd.C k29 _ A10 y116.length y116 := (by rw [hA10]; exact hr10)
                    rw [← hy10, ← hA10, ← hc10] at hcut10
                    have HR119 := Aside0.mk hr10
                    have HC119 := Aside0.mk (show y116.length ≤ c10 from by rw [hy10, hc10]; exact Nat.sub_le_sub_right (Nat.le_trans (by omega) hroom10) _)
                    clear hr10 hC10 hroom10 hi010 hsz10 hc10
                    have KY10 := Aside0.mk hy10
                    have KA10 := Aside0.mk hA10
                    clear hy10 hA10
                    replace q10 := eq_true q10
                    go_wp2_with (first | ((with_reducible refine gate_builtin (b := .append) (xs := #[.const (.slice none 0 0), .tmp 46]) rfl ?_); (try (refine gate_guard (by rfl) ?_; dsimp only)); at_builtin; refine Kd.R_append_rows k29 (w0 := w) w.heap.size rfl (.const (.slice none 0 0)) (.tmp 46) 22 29 (.agg #[(.string ⟨#[]⟩), (.int .u64 0), (.int .i64 0), (.string ⟨#[]⟩)]) 48 rfl Try.underlying22 info29 rfl (by decide) (by omega) (.slice none 0 0) ([] : List (S29)) y116 _ _ _ (fun _ => True) (fun _ => False) rfl rfl ?aO ?aR (fun _ _ h => h) (fun _ h => h.elim) ?aF ?aB ?aS ?aL ?_; (case aR => (try (change Kd.C k29 _ _ _ _)); repeat (first | exact (Kd.C_below HR119.out HB.out) | (with_reducible refine Kd.C_alloc ?_ _) | (with_reducible refine Kd.C_drewN ?_ _) | (with_reducible refine Kd.C_drew ?_))); (case aB => exact (by repeat (first | (with_reducible first | exact HB.out | apply below_alloc | apply pw_below_drewN | apply below_drew1) | exact HB.out))); (case aF => exact (fun _ _ => trivial)); (case aO => exact ((Kd.R_nil _ _ _ _ (fun _ => True)))); (case aS => exact (below_size (by repeat (first | (with_reducible first | exact HB.out | apply below_alloc | apply pw_below_drewN | apply below_drew1) | exact HB.out)))); (case aL => have := LMc8.out; omega); intro v121 w11 ho hb hg hat; rw [← Ny120.out] at ho; have n0_ := Aside0.mk (Kd.S_after (Kd.S_apart_nil (by (with_reducible repeat (first | apply Kd.S_alloc | apply Kd.S_drewN | apply Kd.S_drew)); exact HO_5.out)) hg hat); have n1_ := Aside0.mk (hb); have n2_ := Aside0.mk (ho); clear HO_5; clear HB; have HO_5 := n0_; have HB := n1_; have HO122 := n2_; clear n0_ n1_ n2_; clear ho hb hg hat; obtain ⟨Ao13, co13, eo13⟩ := Kd.R_slice HO122.out; subst eo13) | ((with_reducible refine gate_builtin (b := .append) (xs := #[.tmp 41, .tmp 48]) rfl ?_); (try (refine gate_guard (by rfl) ?_; dsimp only)); at_builtin; refine Kd.S_append (Kd.slice 29 k29) (w0 := w) w.heap.size rfl (.tmp 41) (.tmp 48) 25 22 (.slice none 0 0) 24 rfl Try.underlying25 info22 rfl (by decide) (by omega) u5 x5_1 y120 [.slice Ao13 y120.length co13] (fun _ => True) (fun k_ => some k_ = (.slice Ao13 y120.length co13 : Value).ownBlock) rfl rfl ?aP (fun k_ hk_ => ((Kd.R_mono (ok' := fun k_ => ((fun _ => True)) k_ ∧ some k_ ≠ (u5 : Value).ownBlock) (Kd.R_apart' (HO122.out) (Kd.S_typed HO_5.out) (by decide)) (fun k_ hk => ⟨trivial, hk.2⟩))).1 k_ hk_.symm) ?aF ?aO ?aB ?aS ?aL ?_; (case aP => exact Kd.M_row (Kd.R_mono (Kd.R_tight rfl (Kd.R_mono (ok' := fun k_ => ((fun _ => True)) k_ ∧ some k_ ≠ (u5 : Value).ownBlock) (Kd.R_apart' (HO122.out) (Kd.S_typed HO_5.out) (by decide)) (fun k_ hk => ⟨trivial, hk.2⟩))) (fun _ h_ => h_))); (case aB => exact (by repeat (first | (with_reducible first | exact HB.out | apply below_alloc | apply pw_below_drewN | apply below_drew1) | exact HB.out))); (case aF => exact (fun _ _ => trivial)); (case aO => exact (by (with_reducible repeat (first | apply Kd.S_alloc | apply Kd.S_drewN | apply Kd.S_drew)); exact Kd.S_mono HO_5.out (fun k_ hk => ⟨trivial, fun e_ => hk.2 e_⟩))); (case aS => exact (below_size (by repeat (first | (with_reducible first | exact HB.out | apply below_alloc | apply pw_below_drewN | apply below_drew1) | exact HB.out)))); (case aL => have := LMc9.out; omega); intro v124 w12 ho hb hg hat; rw [← Ny123.out] at ho; have n0_ := Aside0.mk (hb); have n1_ := Aside0.mk (ho); clear HB; clear HO_5; clear HO122; have HB := n0_; have HO125 := n1_; clear n0_ n1_; clear ho hb hg hat))
                    repeat (go_quiet (first | ((with_reducible refine gate_builtin (b := .append) (xs := #[.const (.slice none 0 0), .tmp 46]) rfl ?_); (try (refine gate_guard (by rfl) ?_; dsimp only)); at_builtin; refine Kd.R_append_rows k29 (w0 := w) w.heap.size rfl (.const (.slice none 0 0)) (.tmp 46) 22 29 (.agg #[(.string ⟨#[]⟩), (.int .u64 0), (.int .i64 0), (.string ⟨#[]⟩)]) 48 rfl Try.underlying22 info29 rfl (by decide) (by omega) (.slice none 0 0) ([] : List (S29)) y116 _ _ _ (fun _ => True) (fun _ => False) rfl rfl ?aO ?aR (fun _ _ h => h) (fun _ h => h.elim) ?aF ?aB ?aS ?aL ?_; (case aR => (try (change Kd.C k29 _ _ _ _)); repeat (first | exact (Kd.C_below HR119.out HB.out) | (with_reducible refine Kd.C_alloc ?_ _) | (with_reducible refine Kd.C_drewN ?_ _) | (with_reducible refine Kd.C_drew ?_))); (case aB => exact (by repeat (first | (with_reducible first | exact HB.out | apply below_alloc | apply pw_below_drewN | apply below_drew1) | exact HB.out))); (case aF => exact (fun _ _ => trivial)); (case aO => exact ((Kd.R_nil _ _ _ _ (fun _ => True)))); (case aS => exact (below_size (by repeat (first | (with_reducible first | exact HB.out | apply below_alloc | apply pw_below_drewN | apply below_drew1) | exact HB.out)))); (case aL => have := LMc8.out; omega); intro v121 w11 ho hb hg hat; rw [← Ny120.out] at ho; have n0_ := Aside0.mk (Kd.S_after (Kd.S_apart_nil (by (with_reducible repeat (first | apply Kd.S_alloc | apply Kd.S_drewN | apply Kd.S_drew)); exact HO_5.out)) hg hat); have n1_ := Aside0.mk (hb); have n2_ := Aside0.mk (ho); clear HO_5; clear HB; have HO_5 := n0_; have HB := n1_; have HO122 := n2_; clear n0_ n1_ n2_; clear ho hb hg hat; obtain ⟨Ao13, co13, eo13⟩ := Kd.R_slice HO122.out; subst eo13) | ((with_reducible refine gate_builtin (b := .append) (xs := #[.tmp 41, .tmp 48]) rfl ?_); (try (refine gate_guard (by rfl) ?_; dsimp only)); at_builtin; refine Kd.S_append (Kd.slice 29 k29) (w0 := w) w.heap.size rfl (.tmp 41) (.tmp 48) 25 22 (.slice none 0 0) 24 rfl Try.underlying25 info22 rfl (by decide) (by omega) u5 x5_1 y120 [.slice Ao13 y120.length co13] (fun _ => True) (fun k_ => some k_ = (.slice Ao13 y120.length co13 : Value).ownBlock) rfl rfl ?aP (fun k_ hk_ => ((Kd.R_mono (ok' := fun k_ => ((fun _ => True)) k_ ∧ some k_ ≠ (u5 : Value).ownBlock) (Kd.R_apart' (HO122.out) (Kd.S_typed HO_5.out) (by decide)) (fun k_ hk => ⟨trivial, hk.2⟩))).1 k_ hk_.symm) ?aF ?aO ?aB ?aS ?aL ?_; (case aP => exact Kd.M_row (Kd.R_mono (Kd.R_tight rfl (Kd.R_mono (ok' := fun k_ => ((fun _ => True)) k_ ∧ some k_ ≠ (u5 : Value).ownBlock) (Kd.R_apart' (HO122.out) (Kd.S_typed HO_5.out) (by decide)) (fun k_ hk => ⟨trivial, hk.2⟩))) (fun _ h_ => h_))); (case aB => exact (by repeat (first | (with_reducible first | exact HB.out | apply below_alloc | apply pw_below_drewN | apply below_drew1) | exact HB.out))); (case aF => exact (fun _ _ => trivial)); (case aO => exact (by (with_reducible repeat (first | apply Kd.S_alloc | apply Kd.S_drewN | apply Kd.S_drew)); exact Kd.S_mono HO_5.out (fun k_ hk => ⟨trivial, fun e_ => hk.2 e_⟩))); (case aS => exact (below_size (by repeat (first | (with_reducible first | exact HB.out | apply below_alloc | apply pw_below_drewN | apply below_drew1) | exact HB.out)))); (case aL => have := LMc9.out; omega); intro v124 w12 ho hb hg hat; rw [← Ny123.out] at ho; have n0_ := Aside0.mk (hb); have n1_ := Aside0.mk (ho); clear HB; clear HO_5; clear HO122; have HB := n0_; have HO125 := n1_; clear n0_ n1_; clear ho hb hg hat)); try go_wp2_with (first | ((with_reducible refine gate_builtin (b := .append) (xs := #[.const (.slice none 0 0), .tmp 46]) rfl ?_); (try (refine gate_guard (by rfl) ?_; dsimp only)); at_builtin; refine Kd.R_append_rows k29 (w0 := w) w.heap.size rfl (.const (.slice none 0 0)) (.tmp 46) 22 29 (.agg #[(.string ⟨#[]⟩), (.int .u64 0), (.int .i64 0), (.string ⟨#[]⟩)]) 48 rfl Try.underlying22 info29 rfl (by decide) (by omega) (.slice none 0 0) ([] : List (S29)) y116 _ _ _ (fun _ => True) (fun _ => False) rfl rfl ?aO ?aR (fun _ _ h => h) (fun _ h => h.elim) ?aF ?aB ?aS ?aL ?_; (case aR => (try (change Kd.C k29 _ _ _ _)); repeat (first | exact (Kd.C_below HR119.out HB.out) | (with_reducible refine Kd.C_alloc ?_ _) | (with_reducible refine Kd.C_drewN ?_ _) | (with_reducible refine Kd.C_drew ?_))); (case aB => exact (by repeat (first | (with_reducible first | exact HB.out | apply below_alloc | apply pw_below_drewN | apply below_drew1) | exact HB.out))); (case aF => exact (fun _ _ => trivial)); (case aO => exact ((Kd.R_nil _ _ _ _ (fun _ => True)))); (case aS => exact (below_size (by repeat (first | (with_reducible first | exact HB.out | apply below_alloc | apply pw_below_drewN | apply below_drew1) | exact HB.out)))); (case aL => have := LMc8.out; omega); intro v121 w11 ho hb hg hat; rw [← Ny120.out] at ho; have n0_ := Aside0.mk (Kd.S_after (Kd.S_apart_nil (by (with_reducible repeat (first | apply Kd.S_alloc | apply Kd.S_drewN | apply Kd.S_drew)); exact HO_5.out)) hg hat); have n1_ := Aside0.mk (hb); have n2_ := Aside0.mk (ho); clear HO_5; clear HB; have HO_5 := n0_; have HB := n1_; have HO122 := n2_; clear n0_ n1_ n2_; clear ho hb hg hat; obtain ⟨Ao13, co13, eo13⟩ := Kd.R_slice HO122.out; subst eo13) | ((with_reducible refine gate_builtin (b := .append) (xs := #[.tmp 41, .tmp 48]) rfl ?_); (try (refine gate_guard (by rfl) ?_; dsimp only)); at_builtin; refine Kd.S_append (Kd.slice 29 k29) (w0 := w) w.heap.size rfl (.tmp 41) (.tmp 48) 25 22 (.slice none 0 0) 24 rfl Try.underlying25 info22 rfl (by decide) (by omega) u5 x5_1 y120 [.slice Ao13 y120.length co13] (fun _ => True) (fun k_ => some k_ = (.slice Ao13 y120.length co13 : Value).ownBlock) rfl rfl ?aP (fun k_ hk_ => ((Kd.R_mono (ok' := fun k_ => ((fun _ => True)) k_ ∧ some k_ ≠ (u5 : Value).ownBlock) (Kd.R_apart' (HO122.out) (Kd.S_typed HO_5.out) (by decide)) (fun k_ hk => ⟨trivial, hk.2⟩))).1 k_ hk_.symm) ?aF ?aO ?aB ?aS ?aL ?_; (case aP => exact Kd.M_row (Kd.R_mono (Kd.R_tight rfl (Kd.R_mono (ok' := fun k_ => ((fun _ => True)) k_ ∧ some k_ ≠ (u5 : Value).ownBlock) (Kd.R_apart' (HO122.out) (Kd.S_typed HO_5.out) (by decide)) (fun k_ hk => ⟨trivial, hk.2⟩))) (fun _ h_ => h_))); (case aB => exact (by repeat (first | (with_reducible first | exact HB.out | apply below_alloc | apply pw_below_drewN | apply below_drew1) | exact HB.out))); (case aF => exact (fun _ _ => trivial)); (case aO => exact (by (with_reducible repeat (first | apply Kd.S_alloc | apply Kd.S_drewN | apply Kd.S_drew)); exact Kd.S_mono HO_5.out (fun k_ hk => ⟨trivial, fun e_ => hk.2 e_⟩))); (case aS => exact (below_size (by repeat (first | (with_reducible first | exact HB.out | apply below_alloc | apply pw_below_drewN | apply below_drew1) | exact HB.out)))); (case aL => have := LMc9.out; omega); intro v124 w12 ho hb hg hat; rw [← Ny123.out] at ho; have n0_ := Aside0.mk (hb); have n1_ := Aside0.mk (ho); clear HB; clear HO_5; clear HO122; have HB := n0_; have HO125 := n1_; clear n0_ n1_; clear ho hb hg hat)))
                    go_roundg k1
                    case measure => have := HK1.out; omega
                    case rel => exact ⟨(y123), (wrap64 (x10_1 + 1)), (wrap64 (x10_1 + 1)), (by first | rfl | (simp; done) | (simp [*]; done)), (by first | rfl | (simp; done) | (simp [*]; done)), H', ⟨by have := HK1.out; omega⟩, ⟨by (with_reducible repeat (first | apply Kd.S_alloc | apply Kd.S_drewN | apply Kd.S_drew)); exact HO125.out⟩, ⟨by repeat (first | (with_reducible first | exact HB.out | apply below_alloc | apply pw_below_drewN | apply below_drew1) | exact HB.out)⟩⟩
                  · rw [if_neg c9] at H
                    exact absurd H (by simp)
                · rw [if_neg c8] at H
                  exact absurd H (by simp)
              · rw [if_neg c7] at H
                exact absurd H (by simp)
            · rw [if_neg c6] at H
              exact absurd H (by simp)
          · rw [if_neg c5] at H
            exact absurd H (by simp)
        · rw [if_neg c4] at H
          have c4b0 : ((wrap64 (x10_1 + 1)) == (l1.length : Int)) = false := beq_eq_false_iff_ne.mpr c4
          have c4b1 : ((wrap64 (x10_1 + 1)) != (l1.length : Int)) = true := bne_iff_ne.mpr c4
          obtain ⟨ji14, hji14⟩ : ∃ j_ : Int, (mx a0 1) = j_ := ⟨_, rfl⟩
          replace H : (if (wrap64 ((wrap64 (x10_1 + 1)) - x6_1)) ≥ (ji14) then (if 0 ≤ (wrap64 (x10_1 + 1)) then (if (wrap64 (x10_1 + 1)) < (l1.length : Int) then (if 0 ≤ x10_1 then (if x10_1 < (l1.length : Int) then (if ((rd_T29 l1 (wrap64 (x10_1 + 1))).f0).toList = ((rd_T29 l1 x10_1).f0).toList then (merge_Cut.l0 k1 a0 l1 x5_1 x6_1 (l1.length : Int) (wrap64 (x10_1 + 1))) else (if 0 ≤ x6_1 then (if x6_1 ≤ (wrap64 (x10_1 + 1)) then (if (wrap64 (x10_1 + 1)) ≤ (l1.length : Int) then ((some ((l1.take ((wrap64 (x10_1 + 1)) : Int).toNat).drop (x6_1 : Int).toNat : List (S29))).bind fun y128 => (if ([] : List (S29)).length + y128.length < 2932031007402 then (if x5_1.length < 5864062014805 then (merge_Cut.l0 k1 a0 l1 (x5_1 ++ [(([] : List (S29)) ++ y128)]) (wrap64 (x10_1 + 1)) (l1.length : Int) (wrap64 (x10_1 + 1))) else (none)) else (none))) else (none)) else (none)) else (none))) else (none)) else (none)) else (none)) else (none)) else (merge_Cut.l0 k1 a0 l1 x5_1 x6_1 (l1.length : Int) (wrap64 (x10_1 + 1)))) = some r := by first | (rw [hji14] at H; exact H) | (simp only [hji14] at H ⊢; exact H)
          have hji14_ : (if a0 < 1 then 1 else a0) = ji14 := hji14
          by_cases c15 : (wrap64 ((wrap64 (x10_1 + 1)) - x6_1)) ≥ (ji14)
          · rw [if_pos c15] at H
            have c15b0 : decide ((ji14) ≤ (wrap64 ((wrap64 (x10_1 + 1)) - x6_1))) = true := decide_eq_true c15
            clear c15
            obtain ⟨ji16, hji16⟩ : ∃ j_ : Int, (wrap64 (x10_1 + 1)) = j_ := ⟨_, rfl⟩
            replace H : (if 0 ≤ (ji16) then (if (ji16) < (l1.length : Int) then (if 0 ≤ x10_1 then (if x10_1 < (l1.length : Int) then (if ((rd_T29 l1 (ji16)).f0).toList = ((rd_T29 l1 x10_1).f0).toList then (merge_Cut.l0 k1 a0 l1 x5_1 x6_1 (l1.length : Int) ji16) else (if 0 ≤ x6_1 then (if x6_1 ≤ (ji16) then (if (ji16) ≤ (l1.length : Int) then ((some ((l1.take ((ji16) : Int).toNat).drop (x6_1 : Int).toNat : List (S29))).bind fun y128 => (if ([] : List (S29)).length + y128.length < 2932031007402 then (if x5_1.length < 5864062014805 then (merge_Cut.l0 k1 a0 l1 (x5_1 ++ [(([] : List (S29)) ++ y128)]) ji16 (l1.length : Int) ji16) else (none)) else (none))) else (none)) else (none)) else (none))) else (none)) else (none)) else (none)) else (none)) = some r := by first | (rw [hji16] at H; exact H) | (simp only [hji16] at H ⊢; exact H)
            (try rw [hji16] at c4b0)
            (try rw [hji16] at c4b1)
            (try rw [hji16] at c15b0)
            have hji16w : (IntKind.i64.wrap (x10_1 + 1)) = ji16 := (i64_w _).trans hji16
            by_cases c17 : 0 ≤ (ji16)
            · rw [if_pos c17] at H
              have c17b0 : decide (0 ≤ (ji16)) = true := decide_eq_true c17
              clear c17
              by_cases c18 : (ji16) < (l1.length : Int)
              · rw [if_pos c18] at H
                have c18b0 : decide ((ji16) < (l1.length : Int)) = true := decide_eq_true c18
                clear c18
                by_cases c19 : 0 ≤ x10_1
                · rw [if_pos c19] at H
                  have c19b0 : decide (0 ≤ x10_1) = true := decide_eq_true c19
                  clear c19
                  by_cases c20 : x10_1 < (l1.length : Int)
                  · rw [if_pos c20] at H
                    have c20b0 : decide (x10_1 < (l1.length : Int)) = true := decide_eq_true c20
                    clear c20
                    by_cases c21 : ((rd_T29 l1 (ji16)).f0).toList = ((rd_T29 l1 x10_1).f0).toList
                    · rw [if_pos c21] at H
                      have c21b0 : (((rd_T29 l1 (ji16)).f0).toList == ((rd_T29 l1 x10_1).f0).toList) = true := beq_iff_eq.mpr c21
                      have c21b1 : (((rd_T29 l1 (ji16)).f0).toList != ((rd_T29 l1 x10_1).f0).toList) = false := bne_eq_false_iff_eq.mpr c21
                      clear c21
                      have H' := Aside0.mk H
                      clear H
                      have p126 : 0 ≤ ((ji16) : Int) := of_decide_eq_true (by first | (with_reducible assumption) | assumption)
                      have q126 : (ji16) < (l1.length : Int) := of_decide_eq_true (by first | (with_reducible assumption) | assumption)
                      obtain ⟨ad126, e126, hx126_0, hx126_1, hx126_2, hx126_3⟩ := at_T29 HR1.out (ji16) p126 q126
                      cases e126
                      replace hx126_0 := (HB.out.cell (World.block_lt_of_cell? w _ hx126_0)).trans hx126_0
                      replace hx126_1 := (HB.out.cell (World.block_lt_of_cell? w _ hx126_1)).trans hx126_1
                      replace hx126_2 := (HB.out.cell (World.block_lt_of_cell? w _ hx126_2)).trans hx126_2
                      replace hx126_3 := (HB.out.cell (World.block_lt_of_cell? w _ hx126_3)).trans hx126_3
                      replace p126 := eq_true p126
                      replace q126 := eq_true q126
                      have p127 : 0 ≤ (x10_1 : Int) := of_decide_eq_true (by first | (with_reducible assumption) | assumption)
                      have q127 : x10_1 < (l1.length : Int) := of_decide_eq_true (by first | (with_reducible assumption) | assumption)
                      obtain ⟨ad127, e127, hx127_0, hx127_1, hx127_2, hx127_3⟩ := at_T29 HR1.out x10_1 p127 q127
                      obtain rfl : ad126 = ad127 := (by injection e127)
                      replace hx127_0 := (HB.out.cell (World.block_lt_of_cell? w _ hx127_0)).trans hx127_0
                      replace hx127_1 := (HB.out.cell (World.block_lt_of_cell? w _ hx127_1)).trans hx127_1
                      replace hx127_2 := (HB.out.cell (World.block_lt_of_cell? w _ hx127_2)).trans hx127_2
                      replace hx127_3 := (HB.out.cell (World.block_lt_of_cell? w _ hx127_3)).trans hx127_3
                      replace p127 := eq_true p127
                      replace q127 := eq_true q127
                      go_wp2
                      repeat (go_quiet (fail); try go_wp2)
                      go_roundg k1
                      case measure => have := HK1.out; omega
                      case rel => exact ⟨(x5_1), (x6_1), (ji16), (by first | rfl | (simp; done) | (simp [*]; done)), (by first | rfl | (simp; done) | (simp only [← hji16] <;> (first | rfl | simp)) | (simp [*]; done)), H', ⟨by have := HK1.out; omega⟩, ⟨by (with_reducible repeat (first | apply Kd.S_alloc | apply Kd.S_drewN | apply Kd.S_drew)); exact HO_5.out⟩, ⟨by repeat (first | (with_reducible first | exact HB.out | apply below_alloc | apply pw_below_drewN | apply below_drew1) | exact HB.out)⟩⟩
                    · rw [if_neg c21] at H
                      have c21b0 : (((rd_T29 l1 (ji16)).f0).toList == ((rd_T29 l1 x10_1).f0).toList) = false := beq_eq_false_iff_ne.mpr c21
                      have c21b1 : (((rd_T29 l1 (ji16)).f0).toList != ((rd_T29 l1 x10_1).f0).toList) = true := bne_iff_ne.mpr c21
                      by_cases c22 : 0 ≤ x6_1
                      · rw [if_pos c22] at H
                        have c22b0 := eq_true c22
                        have c22b1 : decide (0 ≤ x6_1) = true := decide_eq_true c22
                        clear c22
                        by_cases c23 : x6_1 ≤ (ji16)
                        · rw [if_pos c23] at H
                          have c23b0 := eq_true c23
                          have c23b1 : decide (x6_1 ≤ (ji16)) = true := decide_eq_true c23
                          clear c23
                          by_cases c24 : (ji16) ≤ (l1.length : Int)
                          · rw [if_pos c24] at H
                            have c24b0 := eq_true c24
                            have c24b1 : decide ((ji16) ≤ (l1.length : Int)) = true := decide_eq_true c24
                            clear c24
                            obtain ⟨y128, hy128⟩ : ∃ y_ : List (S29), y_ = ((l1.take ((ji16) : Int).toNat).drop (x6_1 : Int).toNat) := ⟨_, rfl⟩
                            replace H : (if ([] : List (S29)).length + y128.length < 2932031007402 then (if x5_1.length < 5864062014805 then (merge_Cut.l0 k1 a0 l1 (x5_1 ++ [(([] : List (S29)) ++ y128)]) ji16 (l1.length : Int) ji16) else (none)) else (none)) = some r := by first | (rw [hy128]; with_reducible exact H) | (have H2_ := (Option.bind_some _ _).symm.trans H; rw [hy128]; with_reducible exact H2_) | (have H2_ := (Option.bind_some _ _).symm.trans H; with_reducible exact H2_) | with_reducible exact H | (rw [hy128]; exact H) | exact H
                            have Ny128 := Aside0.mk hy128
                            clear hy128
                            by_cases c25 : ([] : List (S29)).length + y128.length < 2932031007402
                            · rw [if_pos c25] at H
                              have LMc25 := Aside0.mk c25
                              clear c25
                              obtain ⟨y132, hy132⟩ : ∃ y_ : List (S29), y_ = (([] : List (S29)) ++ y128) := ⟨_, rfl⟩
                              replace H : (if x5_1.length < 5864062014805 then (merge_Cut.l0 k1 a0 l1 (x5_1 ++ [y132]) ji16 (l1.length : Int) ji16) else (none)) = some r := by first | (rw [hy132]; with_reducible exact H) | (have H2_ := (Option.bind_some _ _).symm.trans H; rw [hy132]; with_reducible exact H2_) | (have H2_ := (Option.bind_some _ _).symm.trans H; with_reducible exact H2_) | with_reducible exact H | (rw [hy132]; exact H) | exact H
                              have Ny132 := Aside0.mk hy132
                              clear hy132
                              by_cases c26 : x5_1.length < 5864062014805
                              · rw [if_pos c26] at H
                                have LMc26 := Aside0.mk c26
                                clear c26
                                obtain ⟨y135, hy135⟩ : ∃ y_ : List (List (S29)), y_ = (x5_1 ++ [y132]) := ⟨_, rfl⟩
                                replace H : (merge_Cut.l0 k1 a0 l1 y135 ji16 (l1.length : Int) ji16) = some r := by first | (rw [hy135]; with_reducible exact H) | (have H2_ := (Option.bind_some _ _).symm.trans H; rw [hy135]; with_reducible exact H2_) | (have H2_ := (Option.bind_some _ _).symm.trans H; with_reducible exact H2_) | with_reducible exact H | (rw [hy135]; exact H) | exact H
                                have Ny135 := Aside0.mk hy135
                                clear hy135
                                have H' := Aside0.mk H
                                clear H
                                have p126 : 0 ≤ ((ji16) : Int) := of_decide_eq_true (by first | (with_reducible assumption) | assumption)
                                have q126 : (ji16) < (l1.length : Int) := of_decide_eq_true (by first | (with_reducible assumption) | assumption)
                                obtain ⟨ad126, e126, hx126_0, hx126_1, hx126_2, hx126_3⟩ := at_T29 HR1.out (ji16) p126 q126
                                cases e126
                                replace hx126_0 := (HB.out.cell (World.block_lt_of_cell? w _ hx126_0)).trans hx126_0
                                replace hx126_1 := (HB.out.cell (World.block_lt_of_cell? w _ hx126_1)).trans hx126_1
                                replace hx126_2 := (HB.out.cell (World.block_lt_of_cell? w _ hx126_2)).trans hx126_2
                                replace hx126_3 := (HB.out.cell (World.block_lt_of_cell? w _ hx126_3)).trans hx126_3
                                replace p126 := eq_true p126
                                replace q126 := eq_true q126
                                have p127 : 0 ≤ (x10_1 : Int) := of_decide_eq_true (by first | (with_reducible assumption) | assumption)
                                have q127 : x10_1 < (l1.length : Int) := of_decide_eq_true (by first | (with_reducible assumption) | assumption)
                                obtain ⟨ad127, e127, hx127_0, hx127_1, hx127_2, hx127_3⟩ := at_T29 HR1.out x10_1 p127 q127
                                obtain rfl : ad126 = ad127 := (by injection e127)
                                replace hx127_0 := (HB.out.cell (World.block_lt_of_cell? w _ hx127_0)).trans hx127_0
                                replace hx127_1 := (HB.out.cell (World.block_lt_of_cell? w _ hx127_1)).trans hx127_1
                                replace hx127_2 := (HB.out.cell (World.block_lt_of_cell? w _ hx127_2)).trans hx127_2
                                replace hx127_3 := (HB.out.cell (World.block_lt_of_cell? w _ hx127_3)).trans hx127_3
                                replace p127 := eq_true p127
                                replace q127 := eq_true q127
                                have q27 : ((ji16) : Int) ≤ ((l1.length : Int) : Int) := of_decide_eq_true (by first | (with_reducible assumption) | assumption)
                                obtain ⟨i027, hi027, _, hsz27, _⟩ := info_parts info29
                                have hroom27 : l1.length ≤ c1 := HC1.out
                                have hC27 : Kd.C k29 _ (some ad126) l1.length l1 := HR1.out
                                have ql27 : (x6_1 : Int) ≤ ((ji16) : Int) := of_decide_eq_true (by first | (with_reducible assumption) | assumption)
                                have q027 : (0 : Int) ≤ (x6_1 : Int) := of_decide_eq_true (by first | (with_reducible assumption) | assumption)
                                have hcut27 := cut_mid (P := Try.prog) 22 29 .i64 .i64 Try.underlying22 hi027 4 hsz27 (some ad126) l1.length c1 x6_1 (ji16) q027 ql27 q27 hroom27
                                have hr27 := Kd.C_mid (lo := (x6_1 : Int).toNat) (hi := ((ji16) : Int).toNat) (c := c1) hC27 (by omega) (by omega) hroom27
                                obtain ⟨A27, hA27⟩ : ∃ A1_, A1_ = (if c1 = (x6_1 : Int).toNat then (some ad126) else ((some ad126) : Option Addr).map (·.add ((x6_1 : Int).toNat * 4))) := ⟨_, rfl⟩
                                obtain ⟨c27, hc27⟩ : ∃ c1_, c1_ = c1 - (x6_1 : Int).toNat := ⟨_, rfl⟩
                                have hy27 : y128.length = ((ji16) : Int).toNat - (x6_1 : Int).toNat := (by rw [Ny128.out, List.length_drop, List.length_take] <;> omega)
                                rw [show ((l1).take ((ji16) : Int).toNat).drop (x6_1 : Int).toNat = y128 from Ny128.out.symm] at hr27
                                replace hr27 : Kd.C k29 _ A27 y128.length y128 := (by rw [hA27]; exact hr27)
                                rw [← hy27, ← hA27, ← hc27] at hcut27
                                have HR131 := Aside0.mk hr27
                                have HC131 := Aside0.mk (show y128.length ≤ c27 from by rw [hy27, hc27]; exact Nat.sub_le_sub_right (Nat.le_trans (by omega) hroom27) _)
                                clear hr27 hC27 hroom27 hi027 hsz27 hc27
                                have KY27 := Aside0.mk hy27
                                have KA27 := Aside0.mk hA27
                                clear hy27 hA27
                                replace q27 := eq_true q27
                                go_wp2_with (first | ((with_reducible refine gate_builtin (b := .append) (xs := #[.const (.slice none 0 0), .tmp 46]) rfl ?_); (try (refine gate_guard (by rfl) ?_; dsimp only)); at_builtin; refine Kd.R_append_rows k29 (w0 := w) w.heap.size rfl (.const (.slice none 0 0)) (.tmp 46) 22 29 (.agg #[(.string ⟨#[]⟩), (.int .u64 0), (.int .i64 0), (.string ⟨#[]⟩)]) 48 rfl Try.underlying22 info29 rfl (by decide) (by omega) (.slice none 0 0) ([] : List (S29)) y128 _ _ _ (fun _ => True) (fun _ => False) rfl rfl ?aO ?aR (fun _ _ h => h) (fun _ h => h.elim) ?aF ?aB ?aS ?aL ?_; (case aR => (try (change Kd.C k29 _ _ _ _)); repeat (first | exact (Kd.C_below HR131.out HB.out) | (with_reducible refine Kd.C_alloc ?_ _) | (with_reducible refine Kd.C_drewN ?_ _) | (with_reducible refine Kd.C_drew ?_))); (case aB => exact (by repeat (first | (with_reducible first | exact HB.out | apply below_alloc | apply pw_below_drewN | apply below_drew1) | exact HB.out))); (case aF => exact (fun _ _ => trivial)); (case aO => exact ((Kd.R_nil _ _ _ _ (fun _ => True)))); (case aS => exact (below_size (by repeat (first | (with_reducible first | exact HB.out | apply below_alloc | apply pw_below_drewN | apply below_drew1) | exact HB.out)))); (case aL => have := LMc25.out; omega); intro v133 w28 ho hb hg hat; rw [← Ny132.out] at ho; have n0_ := Aside0.mk (Kd.S_after (Kd.S_apart_nil (by (with_reducible repeat (first | apply Kd.S_alloc | apply Kd.S_drewN | apply Kd.S_drew)); exact HO_5.out)) hg hat); have n1_ := Aside0.mk (hb); have n2_ := Aside0.mk (ho); clear HO_5; clear HB; have HO_5 := n0_; have HB := n1_; have HO134 := n2_; clear n0_ n1_ n2_; clear ho hb hg hat; obtain ⟨Ao30, co30, eo30⟩ := Kd.R_slice HO134.out; subst eo30) | ((with_reducible refine gate_builtin (b := .append) (xs := #[.tmp 41, .tmp 48]) rfl ?_); (try (refine gate_guard (by rfl) ?_; dsimp only)); at_builtin; refine Kd.S_append (Kd.slice 29 k29) (w0 := w) w.heap.size rfl (.tmp 41) (.tmp 48) 25 22 (.slice none 0 0) 24 rfl Try.underlying25 info22 rfl (by decide) (by omega) u5 x5_1 y132 [.slice Ao30 y132.length co30] (fun _ => True) (fun k_ => some k_ = (.slice Ao30 y132.length co30 : Value).ownBlock) rfl rfl ?aP (fun k_ hk_ => ((Kd.R_mono (ok' := fun k_ => ((fun _ => True)) k_ ∧ some k_ ≠ (u5 : Value).ownBlock) (Kd.R_apart' (HO134.out) (Kd.S_typed HO_5.out) (by decide)) (fun k_ hk => ⟨trivial, hk.2⟩))).1 k_ hk_.symm) ?aF ?aO ?aB ?aS ?aL ?_; (case aP => exact Kd.M_row (Kd.R_mono (Kd.R_tight rfl (Kd.R_mono (ok' := fun k_ => ((fun _ => True)) k_ ∧ some k_ ≠ (u5 : Value).ownBlock) (Kd.R_apart' (HO134.out) (Kd.S_typed HO_5.out) (by decide)) (fun k_ hk => ⟨trivial, hk.2⟩))) (fun _ h_ => h_))); (case aB => exact (by repeat (first | (with_reducible first | exact HB.out | apply below_alloc | apply pw_below_drewN | apply below_drew1) | exact HB.out))); (case aF => exact (fun _ _ => trivial)); (case aO => exact (by (with_reducible repeat (first | apply Kd.S_alloc | apply Kd.S_drewN | apply Kd.S_drew)); exact Kd.S_mono HO_5.out (fun k_ hk => ⟨trivial, fun e_ => hk.2 e_⟩))); (case aS => exact (below_size (by repeat (first | (with_reducible first | exact HB.out | apply below_alloc | apply pw_below_drewN | apply below_drew1) | exact HB.out)))); (case aL => have := LMc26.out; omega); intro v136 w29 ho hb hg hat; rw [← Ny135.out] at ho; have n0_ := Aside0.mk (hb); have n1_ := Aside0.mk (ho); clear HB; clear HO_5; clear HO134; have HB := n0_; have HO137 := n1_; clear n0_ n1_; clear ho hb hg hat))
                                repeat (go_quiet (first | ((with_reducible refine gate_builtin (b := .append) (xs := #[.const (.slice none 0 0), .tmp 46]) rfl ?_); (try (refine gate_guard (by rfl) ?_; dsimp only)); at_builtin; refine Kd.R_append_rows k29 (w0 := w) w.heap.size rfl (.const (.slice none 0 0)) (.tmp 46) 22 29 (.agg #[(.string ⟨#[]⟩), (.int .u64 0), (.int .i64 0), (.string ⟨#[]⟩)]) 48 rfl Try.underlying22 info29 rfl (by decide) (by omega) (.slice none 0 0) ([] : List (S29)) y128 _ _ _ (fun _ => True) (fun _ => False) rfl rfl ?aO ?aR (fun _ _ h => h) (fun _ h => h.elim) ?aF ?aB ?aS ?aL ?_; (case aR => (try (change Kd.C k29 _ _ _ _)); repeat (first | exact (Kd.C_below HR131.out HB.out) | (with_reducible refine Kd.C_alloc ?_ _) | (with_reducible refine Kd.C_drewN ?_ _) | (with_reducible refine Kd.C_drew ?_))); (case aB => exact (by repeat (first | (with_reducible first | exact HB.out | apply below_alloc | apply pw_below_drewN | apply below_drew1) | exact HB.out))); (case aF => exact (fun _ _ => trivial)); (case aO => exact ((Kd.R_nil _ _ _ _ (fun _ => True)))); (case aS => exact (below_size (by repeat (first | (with_reducible first | exact HB.out | apply below_alloc | apply pw_below_drewN | apply below_drew1) | exact HB.out)))); (case aL => have := LMc25.out; omega); intro v133 w28 ho hb hg hat; rw [← Ny132.out] at ho; have n0_ := Aside0.mk (Kd.S_after (Kd.S_apart_nil (by (with_reducible repeat (first | apply Kd.S_alloc | apply Kd.S_drewN | apply Kd.S_drew)); exact HO_5.out)) hg hat); have n1_ := Aside0.mk (hb); have n2_ := Aside0.mk (ho); clear HO_5; clear HB; have HO_5 := n0_; have HB := n1_; have HO134 := n2_; clear n0_ n1_ n2_; clear ho hb hg hat; obtain ⟨Ao30, co30, eo30⟩ := Kd.R_slice HO134.out; subst eo30) | ((with_reducible refine gate_builtin (b := .append) (xs := #[.tmp 41, .tmp 48]) rfl ?_); (try (refine gate_guard (by rfl) ?_; dsimp only)); at_builtin; refine Kd.S_append (Kd.slice 29 k29) (w0 := w) w.heap.size rfl (.tmp 41) (.tmp 48) 25 22 (.slice none 0 0) 24 rfl Try.underlying25 info22 rfl (by decide) (by omega) u5 x5_1 y132 [.slice Ao30 y132.length co30] (fun _ => True) (fun k_ => some k_ = (.slice Ao30 y132.length co30 : Value).ownBlock) rfl rfl ?aP (fun k_ hk_ => ((Kd.R_mono (ok' := fun k_ => ((fun _ => True)) k_ ∧ some k_ ≠ (u5 : Value).ownBlock) (Kd.R_apart' (HO134.out) (Kd.S_typed HO_5.out) (by decide)) (fun k_ hk => ⟨trivial, hk.2⟩))).1 k_ hk_.symm) ?aF ?aO ?aB ?aS ?aL ?_; (case aP => exact Kd.M_row (Kd.R_mono (Kd.R_tight rfl (Kd.R_mono (ok' := fun k_ => ((fun _ => True)) k_ ∧ some k_ ≠ (u5 : Value).ownBlock) (Kd.R_apart' (HO134.out) (Kd.S_typed HO_5.out) (by decide)) (fun k_ hk => ⟨trivial, hk.2⟩))) (fun _ h_ => h_))); (case aB => exact (by repeat (first | (with_reducible first | exact HB.out | apply below_alloc | apply pw_below_drewN | apply below_drew1) | exact HB.out))); (case aF => exact (fun _ _ => trivial)); (case aO => exact (by (with_reducible repeat (first | apply Kd.S_alloc | apply Kd.S_drewN | apply Kd.S_drew)); exact Kd.S_mono HO_5.out (fun k_ hk => ⟨trivial, fun e_ => hk.2 e_⟩))); (case aS => exact (below_size (by repeat (first | (with_reducible first | exact HB.out | apply below_alloc | apply pw_below_drewN | apply below_drew1) | exact HB.out)))); (case aL => have := LMc26.out; omega); intro v136 w29 ho hb hg hat; rw [← Ny135.out] at ho; have n0_ := Aside0.mk (hb); have n1_ := Aside0.mk (ho); clear HB; clear HO_5; clear HO134; have HB := n0_; have HO137 := n1_; clear n0_ n1_; clear ho hb hg hat)); try go_wp2_with (first | ((with_reducible refine gate_builtin (b := .append) (xs := #[.const (.slice none 0 0), .tmp 46]) rfl ?_); (try (refine gate_guard (by rfl) ?_; dsimp only)); at_builtin; refine Kd.R_append_rows k29 (w0 := w) w.heap.size rfl (.const (.slice none 0 0)) (.tmp 46) 22 29 (.agg #[(.string ⟨#[]⟩), (.int .u64 0), (.int .i64 0), (.string ⟨#[]⟩)]) 48 rfl Try.underlying22 info29 rfl (by decide) (by omega) (.slice none 0 0) ([] : List (S29)) y128 _ _ _ (fun _ => True) (fun _ => False) rfl rfl ?aO ?aR (fun _ _ h => h) (fun _ h => h.elim) ?aF ?aB ?aS ?aL ?_; (case aR => (try (change Kd.C k29 _ _ _ _)); repeat (first | exact (Kd.C_below HR131.out HB.out) | (with_reducible refine Kd.C_alloc ?_ _) | (with_reducible refine Kd.C_drewN ?_ _) | (with_reducible refine Kd.C_drew ?_))); (case aB => exact (by repeat (first | (with_reducible first | exact HB.out | apply below_alloc | apply pw_below_drewN | apply below_drew1) | exact HB.out))); (case aF => exact (fun _ _ => trivial)); (case aO => exact ((Kd.R_nil _ _ _ _ (fun _ => True)))); (case aS => exact (below_size (by repeat (first | (with_reducible first | exact HB.out | apply below_alloc | apply pw_below_drewN | apply below_drew1) | exact HB.out)))); (case aL => have := LMc25.out; omega); intro v133 w28 ho hb hg hat; rw [← Ny132.out] at ho; have n0_ := Aside0.mk (Kd.S_after (Kd.S_apart_nil (by (with_reducible repeat (first | apply Kd.S_alloc | apply Kd.S_drewN | apply Kd.S_drew)); exact HO_5.out)) hg hat); have n1_ := Aside0.mk (hb); have n2_ := Aside0.mk (ho); clear HO_5; clear HB; have HO_5 := n0_; have HB := n1_; have HO134 := n2_; clear n0_ n1_ n2_; clear ho hb hg hat; obtain ⟨Ao30, co30, eo30⟩ := Kd.R_slice HO134.out; subst eo30) | ((with_reducible refine gate_builtin (b := .append) (xs := #[.tmp 41, .tmp 48]) rfl ?_); (try (refine gate_guard (by rfl) ?_; dsimp only)); at_builtin; refine Kd.S_append (Kd.slice 29 k29) (w0 := w) w.heap.size rfl (.tmp 41) (.tmp 48) 25 22 (.slice none 0 0) 24 rfl Try.underlying25 info22 rfl (by decide) (by omega) u5 x5_1 y132 [.slice Ao30 y132.length co30] (fun _ => True) (fun k_ => some k_ = (.slice Ao30 y132.length co30 : Value).ownBlock) rfl rfl ?aP (fun k_ hk_ => ((Kd.R_mono (ok' := fun k_ => ((fun _ => True)) k_ ∧ some k_ ≠ (u5 : Value).ownBlock) (Kd.R_apart' (HO134.out) (Kd.S_typed HO_5.out) (by decide)) (fun k_ hk => ⟨trivial, hk.2⟩))).1 k_ hk_.symm) ?aF ?aO ?aB ?aS ?aL ?_; (case aP => exact Kd.M_row (Kd.R_mono (Kd.R_tight rfl (Kd.R_mono (ok' := fun k_ => ((fun _ => True)) k_ ∧ some k_ ≠ (u5 : Value).ownBlock) (Kd.R_apart' (HO134.out) (Kd.S_typed HO_5.out) (by decide)) (fun k_ hk => ⟨trivial, hk.2⟩))) (fun _ h_ => h_))); (case aB => exact (by repeat (first | (with_reducible first | exact HB.out | apply below_alloc | apply pw_below_drewN | apply below_drew1) | exact HB.out))); (case aF => exact (fun _ _ => trivial)); (case aO => exact (by (with_reducible repeat (first | apply Kd.S_alloc | apply Kd.S_drewN | apply Kd.S_drew)); exact Kd.S_mono HO_5.out (fun k_ hk => ⟨trivial, fun e_ => hk.2 e_⟩))); (case aS => exact (below_size (by repeat (first | (with_reducible first | exact HB.out | apply below_alloc | apply pw_below_drewN | apply below_drew1) | exact HB.out)))); (case aL => have := LMc26.out; omega); intro v136 w29 ho hb hg hat; rw [← Ny135.out] at ho; have n0_ := Aside0.mk (hb); have n1_ := Aside0.mk (ho); clear HB; clear HO_5; clear HO134; have HB := n0_; have HO137 := n1_; clear n0_ n1_; clear ho hb hg hat)))
                                go_roundg k1
                                case measure => have := HK1.out; omega
                                case rel => exact ⟨(y135), (ji16), (ji16), (by first | rfl | (simp; done) | (simp only [← hji16] <;> (first | rfl | simp)) | (simp [*]; done)), (by first | rfl | (simp; done) | (simp only [← hji16] <;> (first | rfl | simp)) | (simp [*]; done)), H', ⟨by have := HK1.out; omega⟩, ⟨by (with_reducible repeat (first | apply Kd.S_alloc | apply Kd.S_drewN | apply Kd.S_drew)); exact HO137.out⟩, ⟨by repeat (first | (with_reducible first | exact HB.out | apply below_alloc | apply pw_below_drewN | apply below_drew1) | exact HB.out)⟩⟩
                              · rw [if_neg c26] at H
                                exact absurd H (by simp)
                            · rw [if_neg c25] at H
                              exact absurd H (by simp)
                          · rw [if_neg c24] at H
                            exact absurd H (by simp)
                        · rw [if_neg c23] at H
                          exact absurd H (by simp)
                      · rw [if_neg c22] at H
                        exact absurd H (by simp)
                  · rw [if_neg c20] at H
                    exact absurd H (by simp)
                · rw [if_neg c19] at H
                  exact absurd H (by simp)
              · rw [if_neg c18] at H
                exact absurd H (by simp)
            · rw [if_neg c17] at H
              exact absurd H (by simp)
          · rw [if_neg c15] at H
            have c15b0 : decide ((ji14) ≤ (wrap64 ((wrap64 (x10_1 + 1)) - x6_1))) = false := decide_eq_false c15
            clear c15
            have H' := Aside0.mk H
            clear H
            go_wp2
            repeat (go_quiet (fail); try go_wp2)
            go_roundg k1
            case measure => have := HK1.out; omega
            case rel => exact ⟨(x5_1), (x6_1), (wrap64 (x10_1 + 1)), (by first | rfl | (simp; done) | (simp [*]; done)), (by first | rfl | (simp; done) | (simp [*]; done)), H', ⟨by have := HK1.out; omega⟩, ⟨by (with_reducible repeat (first | apply Kd.S_alloc | apply Kd.S_drewN | apply Kd.S_drew)); exact HO_5.out⟩, ⟨by repeat (first | (with_reducible first | exact HB.out | apply below_alloc | apply pw_below_drewN | apply below_drew1) | exact HB.out)⟩⟩
      · rw [if_neg c3] at H
        have c3b0 : decide (x10_1 < (l1.length : Int)) = false := decide_eq_false c3
        clear c3
        obtain rfl := Option.some.inj H
        go_wp2
        repeat (go_quiet (fail); try go_wp2)
        go_ret
        exact ⟨_, by first | rfl | (simp [errW_none, errW_some] <;> rfl) | (simp [*, errW_none, errW_some] <;> rfl), by (with_reducible repeat (first | apply Kd.S_alloc | apply Kd.S_drewN | apply Kd.S_drew)); exact HO_5.out, by repeat (first | (with_reducible first | exact HB.out | apply below_alloc | apply pw_below_drewN | apply below_drew1) | exact HB.out)⟩
end Go.Proofs.Ytchgpcgolgcfdaa.PNum
end
section
namespace Go.Proofs.YtchgpcgolgcfdaaW.PuHeap
set_option linter.unusedVariables false
set_option linter.unusedSimpArgs false
section
variable {H : Type}
structure Pre (le : H → H → Prop) : Prop where
  total : ∀ a b, le a b ∨ le b a
  trans : ∀ {a b c}, le a b → le b c → le a c
variable {le : H → H → Prop}
theorem Pre.refl (h : Pre le) (a : H) : le a a := (h.total a a).elim id id
def Hp (le : H → H → Prop) (f : Nat → H) (n lo : Nat) : Prop := ∀ c, 0 < c → c < n → lo ≤ (c - 1) / 2 → le (f ((c - 1) / 2)) (f c)
def Hx (le : H → H → Prop) (f : Nat → H) (n lo i : Nat) : Prop :=
  (∀ c, 0 < c → c < n → lo ≤ (c - 1) / 2 → (c - 1) / 2 ≠ i → le (f ((c - 1) / 2)) (f c)) ∧ (∀ c, 0 < c → c < n → (c - 1) / 2 = i → 0 < i → lo ≤ (i - 1) / 2 → le (f ((i - 1) / 2)) (f c))
def sw (f : Nat → H) (i j : Nat) : Nat → H := fun k => if k = i then f j else if k = j then f i else f k
theorem Hp.min (hP : Pre le) {f : Nat → H} {n : Nat} (h : Hp le f n 0) : ∀ c, c < n → le (f 0) (f c) := by
  intro c
  induction c using Nat.strongRecOn with
  | ind c ih =>
    intro hc
    by_cases h0 : c = 0
    · subst h0
      exact hP.refl _
    · exact hP.trans (ih ((c - 1) / 2) (by omega) (by omega)) (h c (by omega) hc (Nat.zero_le _))
theorem Hx.leaf {f : Nat → H} {n lo i : Nat} (h : Hx le f n lo i) (hn : n ≤ 2 * i + 1) : Hp le f n lo := by
  intro c h0 hc hl
  exact h.1 c h0 hc hl (by omega)
theorem Hx.stop {f : Nat → H} {n lo i : Nat} (h : Hx le f n lo i) (hk : ∀ c, 0 < c → c < n → (c - 1) / 2 = i → le (f i) (f c)) : Hp le f n lo := by
  intro c h0 hc hl
  by_cases e : (c - 1) / 2 = i
  · rw [e]; exact hk c h0 hc e
  · exact h.1 c h0 hc hl e
theorem Hx.step (hP : Pre le) {f : Nat → H} {n lo i j : Nat} (h : Hx le f n lo i) (hi : lo ≤ i) (hj0 : 0 < j) (hjn : j < n) (hj : (j - 1) / 2 = i) (hle : le (f j) (f i)) (hs : ∀ c, 0 < c → c < n → (c - 1) / 2 = i → le (f j) (f c)) : Hx le (sw f i j) n lo j := by
  have hij : i < j := by omega
  refine ⟨fun c h0 hc hl hp => ?_, fun c h0 hc hp _ _ => ?_⟩
  · unfold sw
    by_cases e1 : (c - 1) / 2 = i
    · rw [if_pos e1]
      by_cases e2 : c = j
      · rw [if_neg (by omega), if_pos e2]; exact hle
      · rw [if_neg (by omega), if_neg e2]; exact hs c h0 hc e1
    · rw [if_neg e1, if_neg hp]
      by_cases e2 : c = i
      · subst e2
        rw [if_pos rfl]
        exact h.2 j hj0 hjn hj h0 hl
      · rw [if_neg e2, if_neg (by rintro rfl; exact e1 hj)]
        exact h.1 c h0 hc hl e1
  · unfold sw
    rw [if_pos hj, if_neg (by omega), if_neg (by omega)]
    have := h.1 c h0 hc (by omega) (by omega)
    rw [hp] at this
    exact this
theorem Hp.first {f : Nat → H} {n : Nat} : Hp le f n (n / 2) := fun c h0 hc hl => by omega
theorem Hp.next {f : Nat → H} {n k : Nat} (h : Hp le f n (k + 1)) : Hx le f n k k :=
  ⟨fun c h0 hc hl hp => h c h0 hc (by omega), fun c h0 hc hp h1 hl => by omega⟩
theorem Hp.again {f g : Nat → H} {n : Nat} (h : Hp le f n 0) (hg : ∀ k, k ≠ 0 → k < n → g k = f k) : Hx le g n 0 0 :=
  ⟨fun c h0 hc hl hp => by rw [hg c (by omega) hc, hg _ hp (by omega)]; exact h c h0 hc hl, fun c _ _ _ h1 _ => by omega⟩
theorem Hp.less {f : Nat → H} {n m : Nat} (h : Hp le f n 0) (hm : m ≤ n) : Hp le f m 0 := fun c h0 hc hl => h c h0 (by omega) hl
theorem Hx.congr {f g : Nat → H} {n lo i : Nat} (h : Hx le f n lo i) (hi : i < n) (hg : ∀ k, k < n → g k = f k) : Hx le g n lo i :=
  ⟨fun c h0 hc hl hp => by rw [hg c hc, hg _ (by omega)]; exact h.1 c h0 hc hl hp, fun c h0 hc hp h1 hl => by rw [hg c hc, hg _ (by omega)]; exact h.2 c h0 hc hp h1 hl⟩
theorem Hp.congr {f g : Nat → H} {n lo : Nat} (h : Hp le f n lo) (hg : ∀ k, k < n → g k = f k) : Hp le g n lo := fun c h0 hc hl => by rw [hg c hc, hg _ (by omega)]; exact h c h0 hc hl
def swL (l : List H) (i j : Nat) : List H := if h : i < l.length ∧ j < l.length then (l.set i l[j]).set j l[i] else l
theorem swL_len (l : List H) (i j : Nat) : (swL l i j).length = l.length := by unfold swL; split <;> simp
theorem swL_perm (l : List H) (i j : Nat) : (swL l i j).Perm l := by
  unfold swL
  split
  · rename_i h
    exact List.set_set_perm h.1 h.2
  · exact List.Perm.refl _
theorem swL_get (d : H) (l : List H) {i j : Nat} (hi : i < l.length) (hj : j < l.length) (k : Nat) : (swL l i j).getD k d = sw (fun k => l.getD k d) i j k := by
  unfold swL sw
  rw [dif_pos ⟨hi, hj⟩]
  simp only [List.getD_eq_getElem?_getD, List.getElem?_set, List.length_set]
  by_cases h1 : k = j
  · subst h1
    by_cases h2 : k = i
    · subst h2; simp [hi]
    · simp [hj, hi, Ne.symm h2, h2]
  · by_cases h2 : k = i
    · subst h2; simp [hi, hj, h1, Ne.symm h1]
    · simp [h1, h2, Ne.symm h1, Ne.symm h2]
end
end Go.Proofs.YtchgpcgolgcfdaaW.PuHeap
end
section
namespace Go.Proofs.YtchgpcgolgcfdaaW.PuMrg
open Go.Proofs.YtchgpcgolgcfdaaW.PuHeap
set_option linter.unusedVariables false
set_option linter.unusedSimpArgs false
section
variable {E : Type}
structure Ord (ce : E → E → Int) : Prop where
  range : ∀ a b, ce a b = -1 ∨ ce a b = 0 ∨ ce a b = 1
  neg : ∀ a b, ce a b = - ce b a
  trans : ∀ {a b c}, ce a b = -1 → ce b c = -1 → ce a c = -1
  same : ∀ {a b}, ce a b = 0 → ∀ c, ce a c = ce b c
variable {ce : E → E → Int}
theorem Ord.refl (o : Ord ce) (a : E) : ce a a = 0 := by have := o.neg a a; omega
theorem Ord.same' (o : Ord ce) {a b : E} (h : ce a b = 0) (c : E) : ce c a = ce c b := by
  have h1 := o.neg c a; have h2 := o.neg c b; have h3 := o.same h c; omega
theorem Ord.symm (o : Ord ce) {a b : E} (h : ce a b = 0) : ce b a = 0 := by have := o.neg b a; omega
theorem Ord.le_trans (o : Ord ce) {a b c : E} (h : ce a b ≤ 0) (k : ce b c ≤ 0) : ce a c ≤ 0 := by
  rcases o.range a b with h1 | h1 | h1
  · rcases o.range b c with k1 | k1 | k1
    · have := o.trans h1 k1; omega
    · have := o.same' k1 a; omega
    · omega
  · have := o.same h1 c; omega
  · omega
abbrev Srt (ce : E → E → Int) (l : List E) : Prop := l.Pairwise (fun x y => ce x y = -1)
def Fst (ce : E → E → Int) (ls : List (List E)) (e : E) : Prop := ∃ (i : Nat) (l : List E), ls[i]? = some l ∧ e ∈ l ∧ ∀ j, j < i → ∀ l', ls[j]? = some l' → ∀ e' ∈ l', ce e e' ≠ 0
def Mg (ce : E → E → Int) (ls : List (List E)) (r : List E) : Prop := Srt ce r ∧ ∀ e, e ∈ r ↔ Fst ce ls e
theorem srt_eq (o : Ord ce) : ∀ {a b : List E}, Srt ce a → Srt ce b → (∀ e, e ∈ a ↔ e ∈ b) → a = b
  | [], [], _, _, _ => rfl
  | [], y :: b, _, _, h => absurd ((h y).2 (by simp)) (by simp)
  | x :: a, [], _, _, h => absurd ((h x).1 (by simp)) (by simp)
  | x :: a, y :: b, ha, hb, h => by
    have ha2 := List.pairwise_cons.1 ha
    have hb2 := List.pairwise_cons.1 hb
    have hxy : x = y := by
      rcases List.mem_cons.1 ((h x).1 (by simp)) with e | e
      · exact e
      · rcases List.mem_cons.1 ((h y).2 (by simp)) with e2 | e2
        · exact e2.symm
        · have h1 := hb2.1 x e
          have h2 := ha2.1 y e2
          have h3 := o.neg x y
          omega
    subst hxy
    congr 1
    refine srt_eq o ha2.2 hb2.2 (fun e => ⟨fun he => ?_, fun he => ?_⟩)
    · rcases List.mem_cons.1 ((h e).1 (List.mem_cons_of_mem _ he)) with q | q
      · subst q
        have := ha2.1 e he
        have := o.refl e
        omega
      · exact q
    · rcases List.mem_cons.1 ((h e).2 (List.mem_cons_of_mem _ he)) with q | q
      · subst q
        have := hb2.1 e he
        have := o.refl e
        omega
      · exact q
theorem Mg.eq (o : Ord ce) {ls : List (List E)} {a b : List E} (ha : Mg ce ls a) (hb : Mg ce ls b) : a = b :=
  srt_eq o ha.1 hb.1 (fun e => (ha.2 e).trans (hb.2 e).symm)
theorem srt_same (o : Ord ce) : ∀ {l : List E}, Srt ce l → ∀ x ∈ l, ∀ y ∈ l, ce x y = 0 → x = y
  | [], _, x, hx, _, _, _ => by simp at hx
  | a :: l, h, x, hx, y, hy, he => by
    have h2 := List.pairwise_cons.1 h
    rcases List.mem_cons.1 hx with e1 | e1
    · rcases List.mem_cons.1 hy with e2 | e2
      · rw [e1, e2]
      · have := h2.1 y e2; rw [← e1] at this; omega
    · rcases List.mem_cons.1 hy with e2 | e2
      · have := h2.1 x e1
        rw [← e2] at this
        have := o.neg x y
        omega
      · exact srt_same o h2.2 x e1 y e2 he
def ins (ce : E → E → Int) (e : E) : List E → List E
  | [] => [e]
  | x :: r => if ce x e < 0 then x :: ins ce e r else if ce x e = 0 then x :: r else e :: x :: r
theorem mem_ins (o : Ord ce) (e : E) : ∀ {l : List E}, Srt ce l → ∀ y, y ∈ ins ce e l ↔ y ∈ l ∨ (y = e ∧ ∀ x ∈ l, ce x e ≠ 0)
  | [], _, y => by simp [ins]
  | x :: r, h, y => by
    have h2 := List.pairwise_cons.1 h
    rw [ins]
    split
    · rename_i h1
      rw [List.mem_cons, mem_ins o e h2.2 y, List.mem_cons]
      constructor
      · rintro (q | q | ⟨q, q2⟩)
        · exact .inl (.inl q)
        · exact .inl (.inr q)
        · refine .inr ⟨q, fun z hz => ?_⟩
          rcases List.mem_cons.1 hz with rfl | hz
          · omega
          · exact q2 z hz
      · rintro ((q | q) | ⟨q, q2⟩)
        · exact .inl q
        · exact .inr (.inl q)
        · exact .inr (.inr ⟨q, fun z hz => q2 z (List.mem_cons_of_mem _ hz)⟩)
    · rename_i h1
      split
      · rename_i h3
        constructor
        · exact .inl
        · rintro (q | ⟨q, q2⟩)
          · exact q
          · exact absurd h3 (q2 x (by simp))
      · rename_i h3
        have h4 : ce e x = -1 := by have := o.neg e x; rcases o.range x e with q | q | q <;> omega
        rw [List.mem_cons]
        constructor
        · rintro (q | q)
          · refine .inr ⟨q, fun z hz => ?_⟩
            rcases List.mem_cons.1 hz with rfl | hz
            · exact h3
            · have := o.trans h4 (h2.1 z hz)
              have := o.neg e z
              omega
          · exact .inl q
        · rintro (q | ⟨q, _⟩)
          · exact .inr q
          · exact .inl q
theorem srt_ins (o : Ord ce) (e : E) : ∀ {l : List E}, Srt ce l → Srt ce (ins ce e l)
  | [], _ => List.pairwise_singleton _ _
  | x :: r, h => by
    have h2 := List.pairwise_cons.1 h
    rw [ins]
    split
    · rename_i h1
      refine List.pairwise_cons.2 ⟨fun y hy => ?_, srt_ins o e h2.2⟩
      rcases (mem_ins o e h2.2 y).1 hy with q | ⟨q, _⟩
      · exact h2.1 y q
      · subst q
        rcases o.range x y with q | q | q <;> omega
    · rename_i h1
      split
      · exact h
      · rename_i h3
        have h4 : ce e x = -1 := by have := o.neg e x; rcases o.range x e with q | q | q <;> omega
        refine List.pairwise_cons.2 ⟨fun y hy => ?_, h⟩
        rcases List.mem_cons.1 hy with rfl | hy
        · exact h4
        · exact o.trans h4 (h2.1 y hy)
def mrg (ce : E → E → Int) (ls : List (List E)) : List E := ls.flatten.foldl (fun a e => ins ce e a) []
theorem foldl_mem (o : Ord ce) : ∀ (xs acc : List E), Srt ce acc → Srt ce (xs.foldl (fun a e => ins ce e a) acc) ∧ ∀ y, y ∈ xs.foldl (fun a e => ins ce e a) acc ↔ y ∈ acc ∨ ∃ p q, xs = p ++ y :: q ∧ (∀ x ∈ acc, ce x y ≠ 0) ∧ ∀ x ∈ p, ce x y ≠ 0
  | [], acc, h => ⟨h, fun y => by simp⟩
  | a :: xs, acc, h => by
    obtain ⟨h1, h2⟩ := foldl_mem o xs (ins ce a acc) (srt_ins o a h)
    refine ⟨h1, fun y => ?_⟩
    rw [List.foldl_cons, h2 y, mem_ins o a h y]
    constructor
    · rintro ((q | ⟨q, q2⟩) | ⟨p, q, e, q1, q2⟩)
      · exact .inl q
      · subst q
        exact .inr ⟨[], xs, rfl, q2, by simp⟩
      · refine .inr ⟨a :: p, q, by rw [e]; rfl, fun x hx => q1 x ((mem_ins o a h x).2 (.inl hx)), fun x hx => ?_⟩
        rcases List.mem_cons.1 hx with rfl | hx
        · by_cases k : ∀ z ∈ acc, ce z x ≠ 0
          · exact q1 x ((mem_ins o x h x).2 (.inr ⟨rfl, k⟩))
          · intro k2
            obtain ⟨z, hz⟩ := Classical.not_forall.1 k
            obtain ⟨hz, k3⟩ := Classical.not_imp.1 hz
            have k3 : ce z x = 0 := Classical.not_not.1 k3
            have := o.same k3 y
            exact q1 z ((mem_ins o x h z).2 (.inl hz)) (by omega)
        · exact q2 x hx
    · rintro (q | ⟨p, q, e, q1, q2⟩)
      · exact .inl (.inl q)
      · cases p with
        | nil =>
          simp only [List.nil_append, List.cons.injEq] at e
          obtain ⟨rfl, rfl⟩ := e
          exact .inl (.inr ⟨rfl, q1⟩)
        | cons b p =>
          simp only [List.cons_append, List.cons.injEq] at e
          obtain ⟨rfl, rfl⟩ := e
          refine .inr ⟨p, q, rfl, fun x hx => ?_, fun x hx => q2 x (List.mem_cons_of_mem _ hx)⟩
          rcases (mem_ins o a h x).1 hx with k | ⟨k, _⟩
          · exact q1 x k
          · subst k
            exact q2 x (by simp)
theorem flat_split {ls : List (List E)} : ∀ {p q : List E} {y : E}, ls.flatten = p ++ y :: q → ∃ i l p2 q2, ls[i]? = some l ∧ l = p2 ++ y :: q2 ∧ p = (ls.take i).flatten ++ p2 := by
  induction ls with
  | nil => intro p q y h; simp at h
  | cons a ls ih =>
    intro p q y h
    rw [List.flatten_cons] at h
    rcases List.append_eq_append_iff.1 h with ⟨r, h1, h2⟩ | ⟨r, h1, h2⟩
    · obtain ⟨i, l, p2, q2, e1, e2, e3⟩ := ih h2
      exact ⟨i + 1, l, p2, q2, by simpa using e1, e2, by rw [h1, e3, List.take_succ_cons, List.flatten_cons, List.append_assoc]⟩
    · cases r with
      | nil =>
        simp only [List.nil_append] at h2
        obtain ⟨i, l, p2, q2, e1, e2, e3⟩ := ih (p := []) (q := q) (y := y) (by simpa using h2.symm)
        refine ⟨i + 1, l, p2, q2, by simpa using e1, e2, ?_⟩
        rw [List.take_succ_cons, List.flatten_cons, List.append_assoc, ← e3]
        simpa using h1.symm
      | cons b r =>
        simp only [List.cons_append, List.cons.injEq] at h2
        obtain ⟨rfl, h2⟩ := h2
        exact ⟨0, a, p, r, by simp, h1, by simp⟩
theorem split_flat {ls : List (List E)} {i : Nat} {l p q : List E} {y : E} (h : ls[i]? = some l) (e : l = p ++ y :: q) : ls.flatten = ((ls.take i).flatten ++ p) ++ y :: (q ++ (ls.drop (i + 1)).flatten) := by
  have hi := (List.getElem?_eq_some_iff.1 h)
  obtain ⟨hlt, hl⟩ := hi
  have : ls = ls.take i ++ l :: ls.drop (i + 1) := by
    conv => lhs; rw [← List.take_append_drop i ls, List.drop_eq_getElem_cons hlt, hl]
  conv => lhs; rw [this, List.flatten_append, List.flatten_cons, e]
  simp
theorem mem_take_flat {ls : List (List E)} {i : Nat} {x : E} : x ∈ (ls.take i).flatten ↔ ∃ j, j < i ∧ ∃ l, ls[j]? = some l ∧ x ∈ l := by
  rw [List.mem_flatten]
  constructor
  · rintro ⟨l, hl, hx⟩
    obtain ⟨j, hj⟩ := List.mem_iff_getElem?.1 hl
    rw [List.getElem?_take] at hj
    split at hj
    · exact ⟨j, by assumption, l, hj, hx⟩
    · cases hj
  · rintro ⟨j, hj, l, hl, hx⟩
    exact ⟨l, List.mem_iff_getElem?.2 ⟨j, by rw [List.getElem?_take, if_pos hj]; exact hl⟩, hx⟩
theorem mrg_mg (o : Ord ce) {ls : List (List E)} (hs : ∀ l ∈ ls, Srt ce l) : Mg ce ls (mrg ce ls) := by
  obtain ⟨h1, h2⟩ := foldl_mem o ls.flatten [] List.Pairwise.nil
  refine ⟨h1, fun e => (h2 e).trans ⟨?_, ?_⟩⟩
  · rintro (q | ⟨p, q, e1, _, q2⟩)
    · simp at q
    · obtain ⟨i, l, p2, q2', e2, e3, e4⟩ := flat_split e1
      refine ⟨i, l, e2, by rw [e3]; simp, fun j hj l' hl' e' he' k => ?_⟩
      refine q2 e' ?_ (o.symm k)
      rw [e4]
      exact List.mem_append.2 (.inl (mem_take_flat.2 ⟨j, hj, l', hl', he'⟩))
  · rintro ⟨i, l, e1, e2, q⟩
    obtain ⟨p, r, e3⟩ := List.append_of_mem e2
    refine .inr ⟨_, _, split_flat e1 e3, by simp, fun x hx k => ?_⟩
    rcases List.mem_append.1 hx with hx | hx
    · obtain ⟨j, hj, l', hl', hx⟩ := mem_take_flat.1 hx
      exact q j hj l' hl' x hx (o.symm k)
    · have := hs l (List.mem_iff_getElem?.2 ⟨i, e1⟩)
      rw [e3] at this
      have := (List.pairwise_append.1 this).2.2 x hx e (by simp)
      omega
abbrev Hd (E : Type) := List E × Nat
def fr (z : E) (h : Hd E) : E := h.1.headD z
def le (ce : E → E → Int) (z : E) (a b : Hd E) : Prop := ce (fr z a) (fr z b) = -1 ∨ (ce (fr z a) (fr z b) = 0 ∧ a.2 ≤ b.2)
theorem le_pre (o : Ord ce) (z : E) : Pre (le ce z) := ⟨fun a b => by
  unfold le
  have h1 := o.neg (fr z a) (fr z b)
  rcases o.range (fr z a) (fr z b) with h | h | h
  · exact .inl (.inl h)
  · rcases Nat.le_total a.2 b.2 with k | k
    · exact .inl (.inr ⟨h, k⟩)
    · exact .inr (.inr ⟨by omega, k⟩)
  · exact .inr (.inl (by omega)), fun {a b c} h k => by
  unfold le at *
  rcases h with h | ⟨h, h'⟩
  · rcases k with k | ⟨k, _⟩
    · exact .inl (o.trans h k)
    · have := o.same' k (fr z a); exact .inl (by omega)
  · have := o.same h (fr z c)
    rcases k with k | ⟨k, k'⟩
    · exact .inl (by omega)
    · exact .inr ⟨by omega, Nat.le_trans h' k'⟩⟩
structure Inv (ce : E → E → Int) (ls : List (List E)) (hs : List (Hd E)) (out : List E) : Prop where
  ne : ∀ h ∈ hs, h.1 ≠ []
  at_ : ∀ h ∈ hs, ∃ l t, ls[h.2]? = some l ∧ l = t ++ h.1
  sound : ∀ e ∈ out, Fst ce ls e
  full : ∀ i l e, ls[i]? = some l → e ∈ l → (∃ h ∈ hs, h.2 = i ∧ e ∈ h.1) ∨ ∃ x ∈ out, ce x e = 0
  srt : Srt ce out
  lo : ∀ x ∈ out, ∀ h ∈ hs, ∀ y ∈ h.1, ce x y ≤ 0
theorem Inv.perm {ls : List (List E)} {hs hs' : List (Hd E)} {out : List E} (h : Inv ce ls hs out) (p : hs'.Perm hs) : Inv ce ls hs' out :=
  ⟨fun x hx => h.ne x (p.mem_iff.1 hx), fun x hx => h.at_ x (p.mem_iff.1 hx), h.sound, fun i l e h1 h2 => (h.full i l e h1 h2).elim (fun ⟨x, hx, q⟩ => .inl ⟨x, p.mem_iff.2 hx, q⟩) .inr, h.srt, fun x hx y hy => h.lo x hx y (p.mem_iff.1 hy)⟩
theorem Inv.done (o : Ord ce) {ls : List (List E)} {out : List E} (hs : ∀ l ∈ ls, Srt ce l) (h : Inv ce ls [] out) : out = mrg ce ls := by
  refine Mg.eq o ⟨h.srt, fun e => ⟨h.sound e, ?_⟩⟩ (mrg_mg o hs)
  rintro ⟨i, l, e1, e2, q⟩
  rcases h.full i l e e1 e2 with ⟨x, hx, _⟩ | ⟨x, hx, k⟩
  · simp at hx
  · obtain ⟨i', l', e1', e2', q'⟩ := h.sound x hx
    rcases Nat.lt_trichotomy i i' with c | c | c
    · exact absurd k (q' i c l e1 e e2)
    · subst c
      rw [e1] at e1'
      obtain rfl := Option.some.inj e1'
      have := srt_same o (hs l (List.mem_iff_getElem?.2 ⟨i, e1⟩)) x e2' e e2 k
      rw [← this]
      exact hx
    · exact absurd (o.symm k) (q i' c l' e1' x e2')
theorem Inv.start {ls : List (List E)} {hs : List (Hd E)} (h1 : ∀ h ∈ hs, h.1 ≠ [] ∧ ls[h.2]? = some h.1) (h2 : ∀ i l, ls[i]? = some l → l ≠ [] → (l, i) ∈ hs) : Inv ce ls hs [] :=
  ⟨fun h hh => (h1 h hh).1, fun h hh => ⟨h.1, [], (h1 h hh).2, rfl⟩, fun e he => by simp at he, fun i l e e1 e2 => .inl ⟨(l, i), h2 i l e1 (List.ne_nil_of_mem e2), rfl, e2⟩, List.Pairwise.nil, fun x hx => by simp at hx⟩
theorem suf_srt {ls : List (List E)} (hs : ∀ l ∈ ls, Srt ce l) {i : Nat} {l t r : List E} (h : ls[i]? = some l) (e : l = t ++ r) : Srt ce r := by
  have := hs l (List.mem_iff_getElem?.2 ⟨i, h⟩)
  rw [e] at this
  exact (List.pairwise_append.1 this).2.1
theorem Inv.step (o : Ord ce) (z : E) {ls : List (List E)} (hls : ∀ l ∈ ls, Srt ce l) {hs rest : List (Hd E)} {out : List E} {e : E} {t : List E} {i : Nat} (h : Inv ce ls hs out) (p : hs.Perm ((e :: t, i) :: rest)) (hm : ∀ x ∈ hs, le ce z (e :: t, i) x) (hs' : List (Hd E)) (hp : hs'.Perm (if t = [] then rest else (t, i) :: rest)) (b : Bool) (hb : b = true ↔ ∃ x ∈ out, ce x e = 0) :
    Inv ce ls hs' (if b = true then out else out ++ [e]) := by
  have H := h.perm p.symm
  obtain ⟨l0, t0, e0, s0⟩ := H.at_ (e :: t, i) (by simp)
  have hsr := List.pairwise_cons.1 (suf_srt hls e0 s0)
  have hmin : ∀ x ∈ hs, ∀ y ∈ x.1, ce e y ≤ 0 := by
    intro x hx y hy
    obtain ⟨l1, t1, e1, s1⟩ := h.at_ x hx
    have hsx := suf_srt hls e1 s1
    have h3 := hm x hx
    have h4 : ce e (fr z x) ≤ 0 := by
      rcases h3 with q | ⟨q, _⟩ <;> · simp only [fr, List.headD_cons] at q ⊢; omega
    cases hx1 : x.1 with
    | nil => rw [hx1] at hy; simp at hy
    | cons a r =>
      rw [hx1] at hy hsx
      simp only [fr, hx1, List.headD_cons] at h4
      rcases List.mem_cons.1 hy with rfl | hy
      · exact h4
      · have := (List.pairwise_cons.1 hsx).1 y hy
        exact o.le_trans h4 (by omega)
  have hmem : ∀ x ∈ hs', (x ∈ rest ∧ x ∈ hs) ∨ (t ≠ [] ∧ x = (t, i)) := by
    intro x hx
    have := hp.mem_iff.1 hx
    split at this
    · exact .inl ⟨this, p.mem_iff.2 (List.mem_cons_of_mem _ this)⟩
    · rcases List.mem_cons.1 this with q | q
      · exact .inr ⟨by assumption, q⟩
      · exact .inl ⟨q, p.mem_iff.2 (List.mem_cons_of_mem _ q)⟩
  have h0 : (e :: t, i) ∈ hs := p.mem_iff.2 (by simp)
  have hfst : b = false → Fst ce ls e := by
    intro hbf
    refine ⟨i, l0, e0, by rw [s0]; simp, fun j hj l' hl' e' he' k => ?_⟩
    rcases h.full j l' e' hl' he' with ⟨x, hx, hxj, hxe⟩ | ⟨x, hx, k2⟩
    · have h3 := hm x hx
      obtain ⟨l1, t1, e1, s1⟩ := h.at_ x hx
      have hsx := suf_srt hls e1 s1
      cases hx1 : x.1 with
      | nil => rw [hx1] at hxe; simp at hxe
      | cons a r =>
        rw [hx1] at hxe hsx
        have h5 : ce a e' ≤ 0 := by
          rcases List.mem_cons.1 hxe with rfl | q
          · have := o.refl e'; omega
          · have := (List.pairwise_cons.1 hsx).1 e' q; omega
        have h6 : ce a e ≤ 0 := by have := o.same' k a; omega
        rcases h3 with q | ⟨q, q2⟩
        · simp only [fr, hx1, List.headD_cons] at q
          have := o.neg a e
          omega
        · simp only at q2
          omega
    · have k3 := o.symm k
      have := o.same' k3 x
      have := hb.2 ⟨x, hx, by omega⟩
      rw [hbf] at this
      cases this
  refine ⟨fun x hx => ?_, fun x hx => ?_, fun x hx => ?_, fun j l y hl hy => ?_, ?_, fun x hx k hk y hy => ?_⟩
  · rcases hmem x hx with ⟨_, q⟩ | ⟨q, rfl⟩
    · exact h.ne x q
    · exact q
  · rcases hmem x hx with ⟨_, q⟩ | ⟨q, rfl⟩
    · exact h.at_ x q
    · exact ⟨l0, t0 ++ [e], e0, by rw [s0]; simp⟩
  · cases b with
    | true => exact h.sound x hx
    | false =>
      rcases List.mem_append.1 hx with q | q
      · exact h.sound x q
      · rw [List.mem_singleton.1 q]; exact hfst rfl
  · have hout : ∀ x ∈ out, x ∈ (if b = true then out else out ++ [e]) := fun x hx => by
      split
      · exact hx
      · exact List.mem_append.2 (.inl hx)
    rcases h.full j l y hl hy with ⟨x, hx, q1, q2⟩ | ⟨x, hx, q⟩
    · rcases List.mem_cons.1 (p.mem_iff.1 hx) with rfl | hr
      · rcases List.mem_cons.1 q2 with rfl | q2
        · right
          cases b with
          | true =>
            obtain ⟨x, hx, k⟩ := hb.1 rfl
            exact ⟨x, hx, k⟩
          | false => exact ⟨y, by simp, o.refl y⟩
        · left
          refine ⟨(t, i), hp.mem_iff.2 ?_, q1, q2⟩
          rw [if_neg (List.ne_nil_of_mem q2)]
          simp
      · left
        refine ⟨x, hp.mem_iff.2 ?_, q1, q2⟩
        split
        · exact hr
        · exact List.mem_cons_of_mem _ hr
    · exact .inr ⟨x, hout x hx, q⟩
  · cases b with
    | true => exact h.srt
    | false =>
      show Srt ce (out ++ [e])
      refine List.pairwise_append.2 ⟨h.srt, List.pairwise_singleton _ _, fun x hx y hy => ?_⟩
      rw [List.mem_singleton.1 hy]
      have h1 := h.lo x hx _ h0 e (by simp)
      rcases o.range x e with q | q | q
      · exact q
      · have := hb.2 ⟨x, hx, q⟩
        cases this
      · omega
  · have hy' : (∃ k' ∈ hs, y ∈ k'.1) := by
      rcases hmem k hk with ⟨_, q⟩ | ⟨q, rfl⟩
      · exact ⟨k, q, hy⟩
      · exact ⟨_, h0, List.mem_cons_of_mem _ hy⟩
    obtain ⟨k', hk', hy'⟩ := hy'
    cases b with
    | true => exact h.lo x hx k' hk' y hy'
    | false =>
      rcases List.mem_append.1 hx with q | q
      · exact h.lo x q k' hk' y hy'
      · rw [List.mem_singleton.1 q]; exact hmin k' hk' y hy'
end
end Go.Proofs.YtchgpcgolgcfdaaW.PuMrg
end
section
namespace Go.Proofs.Ytchgpcgolgcfdaa.PuIkC
open Go Go.RowKit Go.Proofs.Ytchgpcgolgcfdaa.PNum Go.Proofs.YtchgpcgolgcfdaaW.PrintWords Go.Proofs.YtchgpcgolgcfdaaW.PrintLast Go.Proofs.YtchgpcgolgcfdaaW.PrintMore Go.Proofs.YtchgpcgolgcfdaaW.Pu
theorem rd_nat (l : List Int) (i : Nat) (h : i < l.length) : rd l (i : Int) = l[i] := by
  simp [rd, h]
theorem cl_range : ∀ a b : List UInt8, Lib.compareBytes a b = -1 ∨ Lib.compareBytes a b = 0 ∨ Lib.compareBytes a b = 1
  | [], [] => .inr (.inl rfl)
  | [], _ :: _ => .inl rfl
  | _ :: _, [] => .inr (.inr rfl)
  | a :: xs, b :: ys => by
    rw [Lib.compareBytes]
    split
    · exact .inl rfl
    · split
      · exact .inr (.inr rfl)
      · exact cl_range xs ys
theorem cl_neg : ∀ a b : List UInt8, Lib.compareBytes a b = -Lib.compareBytes b a
  | [], [] => rfl
  | [], _ :: _ => rfl
  | _ :: _, [] => rfl
  | a :: xs, b :: ys => by
    rw [Lib.compareBytes, Lib.compareBytes, cl_neg xs ys]
    by_cases h : a < b
    · rw [if_pos h, if_neg (fun k => UInt8.lt_asymm h k), if_pos h]
    · by_cases k : b < a
      · rw [if_neg h, if_pos k, if_pos k]; rfl
      · rw [if_neg h, if_neg k, if_neg k, if_neg h]
theorem cl_zero : ∀ a b : List UInt8, Lib.compareBytes a b = 0 ↔ a = b
  | [], [] => by simp [Lib.compareBytes]
  | [], _ :: _ => by simp [Lib.compareBytes]
  | _ :: _, [] => by simp [Lib.compareBytes]
  | a :: xs, b :: ys => by
    rw [Lib.compareBytes]
    by_cases h : a < b
    · rw [if_pos h]
      simp only [List.cons.injEq]
      exact ⟨fun k => by omega, fun k => absurd (k.1 ▸ h) (UInt8.lt_irrefl _)⟩
    · by_cases k : b < a
      · rw [if_neg h, if_pos k]
        simp only [List.cons.injEq]
        exact ⟨fun k => by omega, fun q => absurd (q.1 ▸ k) (UInt8.lt_irrefl _)⟩
      · rw [if_neg h, if_neg k, cl_zero xs ys, List.cons.injEq]
        have : a = b := UInt8.le_antisymm (UInt8.not_lt.1 k) (UInt8.not_lt.1 h)
        simp [this]
theorem cl_trans : ∀ a b c : List UInt8, Lib.compareBytes a b = -1 → Lib.compareBytes b c = -1 → Lib.compareBytes a c = -1
  | [], _, [] => fun h k => by
    rename_i b
    cases b with
    | nil => cases h
    | cons => cases k
  | [], _, _ :: _ => fun _ _ => rfl
  | _ :: _, [], _ => fun h _ => by cases h
  | _ :: _, _ :: _, [] => fun _ h => by cases h
  | a :: xs, b :: ys, c :: zs => by
    intro h k
    rw [Lib.compareBytes] at h k ⊢
    by_cases h1 : a < b
    · by_cases k1 : b < c
      · rw [if_pos (UInt8.lt_trans h1 k1)]
      · rw [if_neg k1] at k
        by_cases k2 : c < b
        · rw [if_pos k2] at k; cases k
        · have : b = c := UInt8.le_antisymm (UInt8.not_lt.1 k2) (UInt8.not_lt.1 k1)
          rw [if_pos (this ▸ h1)]
    · rw [if_neg h1] at h
      by_cases h2 : b < a
      · rw [if_pos h2] at h; cases h
      · rw [if_neg h2] at h
        have hab : a = b := UInt8.le_antisymm (UInt8.not_lt.1 h2) (UInt8.not_lt.1 h1)
        subst hab
        by_cases k1 : a < c
        · rw [if_pos k1]
        · rw [if_neg k1] at k ⊢
          by_cases k2 : c < a
          · rw [if_pos k2] at k; cases k
          · rw [if_neg k2] at k ⊢
            exact cl_trans xs ys zs h k
def cb (a b : ByteArray) : Int := Lib.compareBytes a.data.toList b.data.toList
theorem ba_ext {a b : ByteArray} : a.data.toList = b.data.toList ↔ a = b := by
  refine ⟨fun h => ?_, fun h => by rw [h]⟩
  cases a; cases b
  simp only [ByteArray.mk.injEq]
  exact Array.toList_inj.1 h
theorem tl_ext {a b : ByteArray} : a.toList = b.toList ↔ a = b := by rw [toList_data, toList_data, ba_ext]
theorem tl_beq (a b : ByteArray) : (a.toList == b.toList) = decide (a = b) := by
  by_cases h : a = b
  · subst h; simp
  · rw [decide_eq_false h, beq_eq_false_iff_ne]
    exact fun k => h (tl_ext.1 k)
def cs (x y : Int) : Int := if x < y then -1 else if x > y then 1 else 0
def ce (a b : S29) : Int := if cb a.f0 b.f0 = 0 then cs b.f1 a.f1 else cb a.f0 b.f0
theorem cs_range (x y : Int) : cs x y = -1 ∨ cs x y = 0 ∨ cs x y = 1 := by
  unfold cs
  split
  · exact .inl rfl
  · split
    · exact .inr (.inr rfl)
    · exact .inr (.inl rfl)
theorem cmp_u64 (x y : Int) : cmp_Compare_uint64.f x y = some (cs x y) := by
  simp only [cmp_Compare_uint64.f, cmp_isNaN_uint64.f, Option.bind_some, bne_self_eq_false]
  rw [if_neg (by simp), if_neg (by simp)]
  unfold cs
  split
  · rfl
  · split <;> rfl
theorem Or_ev (x y : Int) : Ev (fun k => cmp_Or_int.f k [x, y]) (if x = 0 then y else x) := by
  refine Ev.congr (fun k => by rw [cmp_Or_int.f]) (Ev.step (fun k => by rw [cmp_Or_int.l0]) ?_)
  refine ev_pos (show (0 : Int) < (([x, y] : List Int).length : Int) by simp) (ev_pos (by omega) (ev_pos (show (0 : Int) < (([x, y] : List Int).length : Int) by simp) ?_))
  rw [show rd [x, y] 0 = x from rfl]
  by_cases h : x = 0
  · rw [if_pos h]
    refine ev_pos h ?_
    rw [show wrap64 (0 + 1) = 1 from wrap64_id (by omega)]
    refine Ev.step (fun k => by rw [cmp_Or_int.l0]) ?_
    refine ev_pos (show (1 : Int) < (([x, y] : List Int).length : Int) by simp) (ev_pos (by omega) (ev_pos (show (1 : Int) < (([x, y] : List Int).length : Int) by simp) ?_))
    rw [show rd [x, y] 1 = y from rfl]
    by_cases k : y = 0
    · refine ev_pos k ?_
      rw [show wrap64 (1 + 1) = 2 from wrap64_id (by omega)]
      refine Ev.step (fun k => by rw [cmp_Or_int.l0]) (ev_neg (show ¬ (2 : Int) < (([x, y] : List Int).length : Int) by simp) (ev_const ?_))
      rw [k]
    · exact ev_neg k (ev_const rfl)
  · rw [if_neg h]
    exact ev_neg h (ev_const rfl)
theorem Compare_ev (a b : S29) : Ev (fun k => ikey_Compare.f k a.f0 a.f1 a.f2 a.f3 b.f0 b.f1 b.f2 b.f3) (ce a b) := by
  refine Ev.congr (fun k => by rw [ikey_Compare.f]) (ev_call (show strings_Compare.f a.f0 b.f0 = some (cb a.f0 b.f0) from rfl) (ev_call (cmp_u64 b.f1 a.f1) (Ev.bind (Or_ev _ _) (ev_const rfl))))
theorem ce_range (a b : S29) : ce a b = -1 ∨ ce a b = 0 ∨ ce a b = 1 := by
  unfold ce
  split
  · exact cs_range _ _
  · exact cl_range _ _
theorem cb_neg (a b : ByteArray) : cb a b = - cb b a := cl_neg _ _
theorem cb_zero (a b : ByteArray) : cb a b = 0 ↔ a = b := (cl_zero _ _).trans ba_ext
theorem cs_neg (x y : Int) : cs x y = - cs y x := by unfold cs; split <;> split <;> (try split) <;> omega
theorem ce_neg (a b : S29) : ce a b = - ce b a := by
  unfold ce
  rw [cb_neg a.f0 b.f0, cs_neg b.f1 a.f1]
  by_cases h : cb b.f0 a.f0 = 0
  · rw [if_pos h, if_pos (by omega)]
  · rw [if_neg h, if_neg (by omega)]
theorem cs_zero (x y : Int) : cs x y = 0 ↔ x = y := by unfold cs; split <;> (try split) <;> omega
theorem ce_zero (a b : S29) : ce a b = 0 ↔ a.f0 = b.f0 ∧ a.f1 = b.f1 := by
  unfold ce
  by_cases h : cb a.f0 b.f0 = 0
  · rw [if_pos h, cs_zero]
    have := (cb_zero _ _).1 h
    exact ⟨fun k => ⟨this, k.symm⟩, fun k => k.2.symm⟩
  · rw [if_neg h]
    exact ⟨fun k => absurd k h, fun k => absurd ((cb_zero _ _).2 k.1) h⟩
theorem ce_trans {a b c : S29} (h : ce a b = -1) (k : ce b c = -1) : ce a c = -1 := by
  unfold ce at *
  by_cases h0 : cb a.f0 b.f0 = 0
  · rw [if_pos h0] at h
    have e := (cb_zero _ _).1 h0
    rw [e]
    by_cases k0 : cb b.f0 c.f0 = 0
    · rw [if_pos k0] at k ⊢
      unfold cs at *
      rw [if_pos]
      split at h
      · split at k
        · omega
        · split at k <;> cases k
      · split at h <;> cases h
    · rw [if_neg k0] at k ⊢
      exact k
  · rw [if_neg h0] at h
    by_cases k0 : cb b.f0 c.f0 = 0
    · have e := (cb_zero _ _).1 k0
      rw [← e, if_neg h0]
      exact h
    · rw [if_neg k0] at k
      have : cb a.f0 c.f0 = -1 := cl_trans _ _ _ h k
      rw [if_neg (by omega)]
      exact this
theorem ce_same {a b : S29} (h : a.f0 = b.f0) (c : S29) (k : a.f1 = b.f1) : ce a c = ce b c := by
  unfold ce
  rw [h, k]
def valid (a0 : ByteArray) (a2 : Int) (a3 : ByteArray) : Bool := decide ((a0.size : Int) ≤ 300 ∧ (a3.size : Int) ≤ 60000 ∧ if a2 = 2 then a3 = ⟨#[]⟩ else a2 = 1)
theorem nil_toList : (⟨#[]⟩ : ByteArray).toList = [] := by rw [toList_data]
theorem Valid_ev (a0 : ByteArray) (a1 a2 : Int) (a3 : ByteArray) : Ev (fun k => ikey_Valid.f k a0 a1 a2 a3) (valid a0 a2 a3) := by
  refine Ev.congr (fun k => by rw [ikey_Valid.f]) ?_
  have hn : ∀ {b : Bool}, valid a0 a2 a3 = false → b = true → Ev (fun k => ikey_Valid.j0 k b a0 a1 a2 a3) (valid a0 a2 a3) := by
    intro b h hb
    subst hb
    exact Ev.step (fun k => by rw [ikey_Valid.j0]) (ev_pos rfl (ev_const (by rw [h])))
  by_cases h : (a0.size : Int) > 300
  · refine ev_pos h (hn ?_ rfl)
    unfold valid
    exact decide_eq_false (fun k => by omega)
  · refine ev_neg h ?_
    by_cases k : (a3.size : Int) > 60000
    · refine hn ?_ (decide_eq_true k)
      unfold valid
      exact decide_eq_false (fun q => by omega)
    · rw [decide_eq_false k]
      refine Ev.step (fun k => by rw [ikey_Valid.j0]) (ev_neg (by simp) ?_)
      unfold valid
      by_cases q : a2 = 2
      · refine ev_pos q (ev_const ?_)
        have hb := tl_beq a3 ⟨#[]⟩
        rw [nil_toList] at hb
        rw [hb]
        refine congrArg some (decide_eq_decide.2 ?_)
        rw [if_pos q]
        exact ⟨fun x => ⟨by omega, by omega, x⟩, fun x => x.2.2⟩
      · refine ev_neg q (ev_const ?_)
        refine congrArg some ((decide_eq_decide (p := a2 = 1)).2 ?_)
        rw [if_neg q]
        exact ⟨fun x => ⟨by omega, by omega, x⟩, fun x => x.2.2⟩
theorem Room_ev (r a b : Int) (hr : -1 ≤ r ∧ r ≤ 20000) (ha : 0 ≤ a ∧ a ≤ 9223372036854775807) (hb : 0 ≤ b ∧ b ≤ 9223372036854775807) : ∃ q, Ev (fun k => cornucopiabook_Room.f k r [a, b]) q ∧ -1 ≤ q ∧ q ≤ 20000 := by
  have fin : ∀ q, (h : Ev (fun k => cornucopiabook_Room.l0 k r [a, b] 0) q) → Ev (fun k => cornucopiabook_Room.f k r [a, b]) q := fun q h => Ev.congr (fun k => by rw [cornucopiabook_Room.f]) h
  have l2 : (([a, b] : List Int).length : Int) = 2 := rfl
  by_cases h0 : r < 0
  · exact ⟨-1, fin _ (Ev.step (fun k => by rw [cornucopiabook_Room.l0, l2]) (ev_pos (by omega) (ev_pos h0 (ev_const rfl)))), by omega, by omega⟩
  by_cases h1 : a > r
  · exact ⟨-1, fin _ (Ev.step (fun k => by rw [cornucopiabook_Room.l0, l2, show rd [a, b] 0 = a from rfl]) (ev_pos (by omega) (ev_neg h0 (ev_pos (by omega) (ev_pos h1 (ev_const rfl)))))), by omega, by omega⟩
  have s1 : wrap64 (r - a) = r - a := wrap64_id (by omega)
  have s2 : wrap64 ((0 : Int) + 1) = 1 := wrap64_id (by omega)
  have s3 : wrap64 ((1 : Int) + 1) = 2 := wrap64_id (by omega)
  have f1 : ∀ q, (h : Ev (fun k => cornucopiabook_Room.l0 k (r - a) [a, b] 1) q) → Ev (fun k => cornucopiabook_Room.f k r [a, b]) q := fun q h =>
    fin _ (Ev.step (fun k => by rw [cornucopiabook_Room.l0, l2, show rd [a, b] 0 = a from rfl, s1, s2]) (ev_pos (by omega) (ev_neg h0 (ev_pos (by omega) (ev_neg h1 h)))))
  by_cases h2 : b > r - a
  · exact ⟨-1, f1 _ (Ev.step (fun k => by rw [cornucopiabook_Room.l0, l2, show rd [a, b] 1 = b from rfl]) (ev_pos (by omega) (ev_neg (by omega) (ev_pos (by omega) (ev_pos h2 (ev_const rfl)))))), by omega, by omega⟩
  · have s4 : wrap64 (r - a - b) = r - a - b := wrap64_id (by omega)
    exact ⟨r - a - b, f1 _ (Ev.step (fun k => by rw [cornucopiabook_Room.l0, l2, show rd [a, b] 1 = b from rfl, s3, s4]) (ev_pos (by omega) (ev_neg (by omega) (ev_pos (by omega) (ev_neg h2 (Ev.step (fun k => by rw [cornucopiabook_Room.l0, l2]) (ev_neg (by omega) (ev_const rfl)))))))), by omega, by omega⟩
end Go.Proofs.Ytchgpcgolgcfdaa.PuIkC
end
section
namespace Go.Proofs.Ytchgpcgolgcfdaa.Hp
open Go Go.RowKit Go.Proofs.Ytchgpcgolgcfdaa.PNum Go.Proofs.Ytchgpcgolgcfdaa.BkW Go.Proofs.Ytchgpcgolgcfdaa.PuIkC Go.Proofs.YtchgpcgolgcfdaaW.PrintWords Go.Proofs.YtchgpcgolgcfdaaW.PrintLast Go.Proofs.YtchgpcgolgcfdaaW.PrintMore Go.Proofs.YtchgpcgolgcfdaaW.Pu Go.Proofs.YtchgpcgolgcfdaaW.PuMrg Go.Proofs.YtchgpcgolgcfdaaW.PuHeap
set_option linter.unusedVariables false
set_option linter.unusedSimpArgs false
abbrev E := S29
abbrev kE := k29
theorem nan_calls (x : Int) (w : World) : Calls Try.prog 111 #[.int .i64 x] w fun e w' => e = .returned (.bool false) ∧ Below w.heap.size w w' := by
  have h0 : (x != x) = false := bne_self_eq_false x
  go_enter Try.func111, Try.ntmps111
  go_wp2
  go_ret
  exact ⟨rfl, Below.refl _ _⟩
set_option maxHeartbeats 8000000 in
theorem cmp_calls (x y : Int) (w : World) : Calls Try.prog 110 #[.int .i64 x, .int .i64 y] w fun e w' => e = .returned (.int .i64 (cs x y)) ∧ Below w.heap.size w w' := by
  have HB := Aside0.mk (Below.refl w.heap.size w)
  unfold cs
  by_cases h1 : x < y
  · have t1 : decide (x < y) = true := decide_eq_true h1
    rw [if_pos h1]
    go_enter Try.func110, Try.ntmps110
    go_wp2_with (first | (go_at_call 111; refine (nan_calls _ _).mono ?_; rintro e w1 ⟨rfl, hb⟩; have n0_ := Aside0.mk (below_step HB.out hb); clear HB hb; have HB := n0_; clear n0_))
    go_ret
    exact ⟨rfl, HB.out⟩
  · have t1 : decide (x < y) = false := decide_eq_false h1
    rw [if_neg h1]
    by_cases h2 : x > y
    · have t2 : decide (y < x) = true := decide_eq_true h2
      rw [if_pos h2]
      go_enter Try.func110, Try.ntmps110
      go_wp2_with (first | (go_at_call 111; refine (nan_calls _ _).mono ?_; rintro e w1 ⟨rfl, hb⟩; have n0_ := Aside0.mk (below_step HB.out hb); clear HB hb; have HB := n0_; clear n0_))
      go_ret
      exact ⟨rfl, HB.out⟩
    · have t2 : decide (y < x) = false := decide_eq_false h2
      rw [if_neg h2]
      go_enter Try.func110, Try.ntmps110
      go_wp2_with (first | (go_at_call 111; refine (nan_calls _ _).mono ?_; rintro e w1 ⟨rfl, hb⟩; have n0_ := Aside0.mk (below_step HB.out hb); clear HB hb; have HB := n0_; clear n0_))
      go_ret
      exact ⟨rfl, HB.out⟩
structure Fr where
  A : Option Addr
  c : Nat
  l : List E
  p : Nat
def encH (h : Fr) : List Value := [.slice h.A h.l.length h.c, .int .i64 (h.p : Int)]
def zE : E := ⟨⟨#[]⟩, 0, 0, ⟨#[]⟩⟩
def hdE (h : Fr) : E := h.l.headD zE
def pr (h : Fr) : Hd E := (h.l, h.p)
def lsI (a b : Fr) : Int := if ce (hdE a) (hdE b) = 0 then cs (a.p : Int) (b.p : Int) else ce (hdE a) (hdE b)
def ls (a b : Fr) : Bool := decide (lsI a b < 0)
theorem cells_of {w : World} {g c : Nat} {hs : List Fr} {o : Nat} (h : Rw w 67 2 (.slice (some ⟨g, o, none⟩) hs.length c) hs.length (encL encH hs)) {i : Nat} (hi : i < hs.length) :
    w.cell? ⟨g, o + i * 2, none⟩ = some (.slice hs[i].A hs[i].l.length hs[i].c) ∧ w.cell? ⟨g, o + i * 2 + 1, none⟩ = some (.int .i64 (hs[i].p : Int)) := by
  obtain ⟨g', o', c', e, hc, hf, hcell⟩ := h.form (by omega)
  injection e with e1 e2 e3
  injection e1 with e1
  injection e1 with e1 e4
  subst e1; subst e4
  have hl : ∀ (xs : List Fr) (j : Nat) (x : Fr), xs[j]? = some x → (encL encH xs)[j * 2]? = some (.slice x.A x.l.length x.c) ∧ (encL encH xs)[j * 2 + 1]? = some (.int .i64 (x.p : Int)) := by
    intro xs
    induction xs with
    | nil => intro j x hx; simp at hx
    | cons a xs ih =>
      intro j x hx
      cases j with
      | zero =>
        have : a = x := by simpa using hx
        subst this
        exact ⟨rfl, rfl⟩
      | succ j =>
        have := ih j x (by simpa using hx)
        have e1 : encL encH (a :: xs) = [.slice a.A a.l.length a.c, .int .i64 (a.p : Int)] ++ encL encH xs := rfl
        rw [e1, show (j + 1) * 2 = 2 + j * 2 from by omega, show 2 + j * 2 + 1 = 2 + (j * 2 + 1) from by omega, List.getElem?_append_right (by simp), List.getElem?_append_right (by first | (simp; done) | (simp; omega))]
        simpa using this
  have h1 := hl hs i hs[i] (List.getElem?_eq_getElem hi)
  refine ⟨hcell _ _ h1.1, ?_⟩
  have := hcell _ _ h1.2
  rw [← Nat.add_assoc] at this
  exact this
end Go.Proofs.Ytchgpcgolgcfdaa.Hp
end
section
namespace Go.Proofs.Ytchgpcgolgcfdaa.Hp
open Go Go.RowKit Go.Proofs.Ytchgpcgolgcfdaa.PNum Go.Proofs.Ytchgpcgolgcfdaa.BkW Go.Proofs.Ytchgpcgolgcfdaa.PuIkC Go.Proofs.YtchgpcgolgcfdaaW.PrintWords Go.Proofs.YtchgpcgolgcfdaaW.PrintLast Go.Proofs.YtchgpcgolgcfdaaW.PrintMore Go.Proofs.YtchgpcgolgcfdaaW.Pu Go.Proofs.YtchgpcgolgcfdaaW.PuMrg Go.Proofs.YtchgpcgolgcfdaaW.PuHeap
set_option linter.unusedVariables false
set_option linter.unusedSimpArgs false
theorem ecell0 {w : World} {A : Option Addr} {l : List E} (hC : Kd.C kE w A l.length l) (hi : l ≠ []) : ∃ ad, A = some ad ∧ (w.cell? ad = some (.string (l.headD zE).f0) ∧ w.cell? ⟨ad.block, ad.off + 1, none⟩ = some (.int .u64 (l.headD zE).f1) ∧ w.cell? ⟨ad.block, ad.off + 2, none⟩ = some (.int .i64 (l.headD zE).f2) ∧ w.cell? ⟨ad.block, ad.off + 3, none⟩ = some (.string (l.headD zE).f3)) := by
  have h0 : 0 < l.length := List.length_pos_iff.2 hi
  obtain ⟨ad, e0, y0, y1, y2, y3⟩ := at_T29 hC (0 : Int) (by omega) (by omega)
  have hx : rd_T29 l (0 : Int) = l.headD zE := by
    cases l with
    | nil => exact absurd rfl hi
    | cons a l => simp [rd_T29]
  have hz : ad.add (Int.toNat 0 * 4) = ad := by simp [Addr.add]
  rw [hx] at y0 y1 y2 y3
  rw [hz] at y0 y1 y2 y3
  exact ⟨ad, e0, y0, y1, y2, y3⟩
def encI (x : Int) : List Value := [.int .i64 x]
theorem flatI : Flat (Kd.int .i64) encI := ⟨fun _ => rfl, fun h => h, fun _ _ => rfl, fun h => h⟩
theorem cmp_calls' (x y c : Int) (h : c = cs x y) (w : World) : Calls Try.prog 110 #[.int .i64 x, .int .i64 y] w fun e w' => e = .returned (.int .i64 c) ∧ Below w.heap.size w w' := by
  subst h
  exact cmp_calls x y w
theorem lit2 (W : World) (a b : Int) : Kd.C (Kd.int .i64) (W.alloc (.cells #[.int .i64 a, .int .i64 b] 3)) (some ⟨W.heap.size, 0, none⟩) 2 [a, b] := by
  have hb := blk_new W (.cells #[.int .i64 a, .int .i64 b] 3)
  refine flatI.to_C (e := 3) (c := 2) ⟨rfl, .inr ⟨W.heap.size, 0, 2, #[.int .i64 a, .int .i64 b], rfl, by simpa using hb, Nat.le_refl 2, by decide, Nat.le_refl 2, rfl⟩⟩ rfl
set_option maxHeartbeats 16000000 in
set_option maxRecDepth 100000 in
theorem less_calls {w : World} {g c o : Nat} {hs : List Fr} (h : Rw w 67 2 (.slice (some ⟨g, o, none⟩) hs.length c) hs.length (encL encH hs)) (hl : ∀ x ∈ hs, Kd.C kE w x.A x.l.length x.l) {i j : Nat} (hi : i < hs.length) (hj : j < hs.length) (ni : hs[i].l ≠ []) (nj : hs[j].l ≠ []) :
    Calls Try.prog 108 #[.slice (some ⟨g, o, none⟩) hs.length c, .int .i64 (i : Int), .int .i64 (j : Int)] w fun e w' => e = .returned (.bool (ls hs[i] hs[j])) ∧ Below w.heap.size w w' := by
  obtain ⟨r0, r1⟩ := cells_of h hi
  obtain ⟨s0, s1⟩ := cells_of h hj
  have ci := hl _ (List.getElem_mem hi)
  have cj := hl _ (List.getElem_mem hj)
  obtain ⟨ai, e1, y0, y1, y2, y3⟩ := ecell0 ci ni
  obtain ⟨aj, e2, z0, z1, z2, z3⟩ := ecell0 cj nj
  have li : 0 < hs[i].l.length := List.length_pos_iff.2 ni
  have lj : 0 < hs[j].l.length := List.length_pos_iff.2 nj
  unfold ls lsI hdE
  rw [e1] at r0
  rw [e2] at s0
  clear ci cj ni nj e1 e2 hl h
  generalize hs[i].l.headD zE = x at *
  generalize hs[j].l.headD zE = y at *
  generalize hs[i].p = pi_ at *
  generalize hs[j].p = pj at *
  generalize hs[i].l.length = ni at *
  generalize hs[j].l.length = nj at *
  generalize hs[i].c = ki at *
  generalize hs[j].c = kj at *
  generalize hs.length = n at *
  have p1 : (0 : Int) ≤ (i : Int) := Int.natCast_nonneg _
  have p2 : (0 : Int) ≤ (j : Int) := Int.natCast_nonneg _
  have q1 : (i : Int) < (n : Int) := Int.ofNat_lt.mpr hi
  have q2 : (j : Int) < (n : Int) := Int.ofNat_lt.mpr hj
  have q3 : (0 : Int) < (ni : Int) := Int.ofNat_lt.mpr li
  have q4 : (0 : Int) < (nj : Int) := Int.ofNat_lt.mpr lj
  have HB := Aside0.mk (Below.refl w.heap.size w)
  obtain ⟨kc, hkc⟩ := Compare_ev x y
  have HKC := Aside0.mk (hkc kc (Nat.le_refl _))
  obtain ⟨ko, hko⟩ := Or_ev (ce x y) (cs (pi_ : Int) (pj : Int))
  have HKO := Aside0.mk (hko ko (Nat.le_refl _))
  clear hkc hko
  have HS : Aside0 (∀ V, Below w.heap.size w V → V.cell? ⟨g, o + i * 2, none⟩ = some (.slice (some ai) ni ki) ∧ V.cell? ⟨g, o + i * 2 + 1, none⟩ = some (.int .i64 (pi_ : Int)) ∧ V.cell? ⟨g, o + j * 2, none⟩ = some (.slice (some aj) nj kj) ∧ V.cell? ⟨g, o + j * 2 + 1, none⟩ = some (.int .i64 (pj : Int)) ∧
      V.cell? ai = some (.string x.f0) ∧ V.cell? ⟨ai.block, ai.off + 1, none⟩ = some (.int .u64 x.f1) ∧ V.cell? ⟨ai.block, ai.off + 2, none⟩ = some (.int .i64 x.f2) ∧ V.cell? ⟨ai.block, ai.off + 3, none⟩ = some (.string x.f3) ∧
      V.cell? aj = some (.string y.f0) ∧ V.cell? ⟨aj.block, aj.off + 1, none⟩ = some (.int .u64 y.f1) ∧ V.cell? ⟨aj.block, aj.off + 2, none⟩ = some (.int .i64 y.f2) ∧ V.cell? ⟨aj.block, aj.off + 3, none⟩ = some (.string y.f3)) :=
    ⟨fun V hb => ⟨pw_cell_below hb r0, pw_cell_below hb r1, pw_cell_below hb s0, pw_cell_below hb s1, pw_cell_below hb y0, pw_cell_below hb y1, pw_cell_below hb y2, pw_cell_below hb y3, pw_cell_below hb z0, pw_cell_below hb z1, pw_cell_below hb z2, pw_cell_below hb z3⟩⟩
  obtain ⟨oo, hoo⟩ : ∃ oo, oo = (if ce x y = 0 then cs (pi_ : Int) (pj : Int) else ce x y) := ⟨_, rfl⟩
  rw [← hoo] at HKO ⊢
  clear hoo
  generalize ce x y = cxy at *
  obtain ⟨cpp, hcpp⟩ : ∃ cpp, cpp = cs (pi_ : Int) (pj : Int) := ⟨_, rfl⟩
  rw [← hcpp] at HKO
  have HPP := Aside0.mk hcpp
  clear hcpp
  go_enter Try.func108, Try.ntmps108
  go_wp2
  go_region_held3 (fun V => V.cell? ⟨g, o + i * 2, none⟩ = some (.slice (some ai) ni ki) ∧ V.cell? ⟨g, o + i * 2 + 1, none⟩ = some (.int .i64 (pi_ : Int)) ∧ V.cell? ⟨g, o + j * 2, none⟩ = some (.slice (some aj) nj kj) ∧ V.cell? ⟨g, o + j * 2 + 1, none⟩ = some (.int .i64 (pj : Int)) ∧
      V.cell? ai = some (.string x.f0) ∧ V.cell? ⟨ai.block, ai.off + 1, none⟩ = some (.int .u64 x.f1) ∧ V.cell? ⟨ai.block, ai.off + 2, none⟩ = some (.int .i64 x.f2) ∧ V.cell? ⟨ai.block, ai.off + 3, none⟩ = some (.string x.f3) ∧
      V.cell? aj = some (.string y.f0) ∧ V.cell? ⟨aj.block, aj.off + 1, none⟩ = some (.int .u64 y.f1) ∧ V.cell? ⟨aj.block, aj.off + 2, none⟩ = some (.int .i64 y.f2) ∧ V.cell? ⟨aj.block, aj.off + 3, none⟩ = some (.string y.f3)) (exact HS.out _ (by repeat (first | exact HB.out | apply below_alloc | apply pw_below_drewN | apply below_drew1))) (first
    | (go_at_call 64; refine (ikey_Compare.calls kc _ _ _ _ _ _ _ _ cxy _ HKC.out).mono ?_; rintro e w1 ⟨rfl, hb⟩; have n0_ := Aside0.mk (below_step (by repeat (first | exact HB.out | apply below_alloc | apply pw_below_drewN | apply below_drew1)) hb); clear HB hb; have HB := n0_; clear n0_)
    | (go_at_call 110; refine (cmp_calls' _ _ _ HPP.out _).mono ?_; rintro e w2 ⟨rfl, hb⟩; have n0_ := Aside0.mk (below_step (by repeat (first | exact HB.out | apply below_alloc | apply pw_below_drewN | apply below_drew1)) hb); clear HB hb; have HB := n0_; clear n0_)
    | (go_at_call 79; refine (cmp_Or_int.calls ko _ _ [cxy, cpp] oo _ (lit2 _ cxy cpp) (Nat.le_refl 2) HKO.out).mono ?_; rintro e w3 ⟨rfl, hb⟩; have n0_ := Aside0.mk (below_step (by repeat (first | exact HB.out | apply below_alloc | apply pw_below_drewN | apply below_drew1)) hb.below); clear HB hb; have HB := n0_; clear n0_))
  all_goals
    go_wp2_with (fail)
    go_ret
    exact ⟨rfl, HB.out⟩
end Go.Proofs.Ytchgpcgolgcfdaa.Hp
end
section
namespace Go.Proofs.Ytchgpcgolgcfdaa.Hp
open Go Go.RowKit Go.Proofs.Ytchgpcgolgcfdaa.PNum Go.Proofs.Ytchgpcgolgcfdaa.BkW Go.Proofs.Ytchgpcgolgcfdaa.PuIkC Go.Proofs.YtchgpcgolgcfdaaW.PrintWords Go.Proofs.YtchgpcgolgcfdaaW.PrintLast Go.Proofs.YtchgpcgolgcfdaaW.PrintMore Go.Proofs.YtchgpcgolgcfdaaW.Pu Go.Proofs.YtchgpcgolgcfdaaW.PuMrg Go.Proofs.YtchgpcgolgcfdaaW.PuHeap
set_option linter.unusedVariables false
set_option linter.unusedSimpArgs false
theorem encH_len : ∀ xs : List Fr, (encL encH xs).length = xs.length * 2
  | [] => rfl
  | x :: xs => by
    have e1 : encL encH (x :: xs) = encH x ++ encL encH xs := rfl
    rw [e1, List.length_append, encH_len xs]
    show 2 + _ = _
    simp
    omega
theorem encH_set (x : Fr) : ∀ (xs : List Fr) (j : Nat), j < xs.length → (encL encH xs).take (j * 2) ++ encH x ++ (encL encH xs).drop (j * 2 + (encH x).length) = encL encH (xs.set j x)
  | [], j, h => by simp at h
  | a :: xs, 0, h => by
    have e1 : encL encH (a :: xs) = encH a ++ encL encH xs := rfl
    rw [List.set_cons_zero, e1]
    rfl
  | a :: xs, j + 1, h => by
    have e1 : encL encH (a :: xs) = encH a ++ encL encH xs := rfl
    have e2 : encL encH (a :: xs.set j x) = encH a ++ encL encH (xs.set j x) := rfl
    have ih := encH_set x xs j (by simpa using h)
    rw [List.set_cons_succ, e1, e2, ← ih]
    have h2 : (encH a).length = 2 := rfl
    have h3 : (encH x).length = 2 := rfl
    rw [show (j + 1) * 2 = (encH a).length + j * 2 from by rw [h2]; omega, List.take_length_add_append, show (encH a).length + j * 2 + (encH x).length = (encH a).length + (j * 2 + (encH x).length) from by omega, List.drop_length_add_append]
    simp
theorem Rw.seth {w : World} {g c o : Nat} {hs : List Fr} (h : Rw w 67 2 (.slice (some ⟨g, o, none⟩) hs.length c) hs.length (encL encH hs)) {i : Nat} (hi : i < hs.length) (x : Fr) :
    Rw ((w.setCell ⟨g, o + i * 2, none⟩ (.slice x.A x.l.length x.c)).setCell ⟨g, o + i * 2 + 1, none⟩ (.int .i64 (x.p : Int))) 67 2 (.slice (some ⟨g, o, none⟩) (hs.set i x).length c) (hs.set i x).length (encL encH (hs.set i x)) := by
  have h1 := h.put (p := i * 2) (seg := encH x) (by rw [encH_len]; show i * 2 + 2 ≤ _; omega)
  rw [encH_set x hs i hi] at h1
  rw [List.length_set]
  exact h1
theorem swL_eq (hs : List Fr) {i j : Nat} (hi : i < hs.length) (hj : j < hs.length) : swL hs i j = (hs.set i hs[j]).set j hs[i] := by
  unfold swL
  rw [dif_pos ⟨hi, hj⟩]
theorem frozen_of {w : World} {g c o : Nat} {hs : List Fr} (h : Rw w 67 2 (.slice (some ⟨g, o, none⟩) hs.length c) hs.length (encL encH hs)) (h0 : 0 < hs.length) (q : Nat) : w.frozen? ⟨g, q, none⟩ = false := by
  obtain ⟨g', o', c', e, hc, hf, hcell⟩ := h.form h0
  injection e with e1 e2 e3
  injection e1 with e1
  injection e1 with e1 e4
  rw [e1]
  exact hf q
theorem cell?_setCell_some {w : World} {p q : Addr} {x v : Value} (h : w.cell? q = some v) : ∃ v', (w.setCell p x).cell? q = some v' := by
  by_cases e : p = q
  · subst e; exact ⟨x, World.cell?_setCell_same w p x h⟩
  · exact ⟨v, (World.cell?_setCell_other w p q x e).trans h⟩
set_option maxHeartbeats 16000000 in
set_option maxRecDepth 100000 in
theorem swap_calls {w0 w : World} {g c o : Nat} {hs : List Fr} (h : Rw w 67 2 (.slice (some ⟨g, o, none⟩) hs.length c) hs.length (encL encH hs)) (hb : Below w0.heap.size w0 w) (hg : w0.heap.size ≤ g) {i j : Nat} (hi : i < hs.length) (hj : j < hs.length) :
    Calls Try.prog 109 #[.slice (some ⟨g, o, none⟩) hs.length c, .int .i64 (i : Int), .int .i64 (j : Int)] w fun e w' => e = .returned (.tuple #[]) ∧ Rw w' 67 2 (.slice (some ⟨g, o, none⟩) hs.length c) hs.length (encL encH (swL hs i j)) ∧ Below w0.heap.size w0 w' ∧ w'.heap.size = w.heap.size ∧ ∀ k, k ≠ g → w'.heap[k]? = w.heap[k]? := by
  obtain ⟨r0, r1⟩ := cells_of h hi
  obtain ⟨s0, s1⟩ := cells_of h hj
  have hf := frozen_of h (by omega)
  have hR : ∀ V : World, Rw V 67 2 (.slice (some ⟨g, o, none⟩) hs.length c) hs.length (encL encH hs) → Rw ((((V.setCell ⟨g, o + i * 2, none⟩ (.slice hs[j].A hs[j].l.length hs[j].c)).setCell ⟨g, o + i * 2 + 1, none⟩ (.int .i64 (hs[j].p : Int))).setCell ⟨g, o + j * 2, none⟩ (.slice hs[i].A hs[i].l.length hs[i].c)).setCell ⟨g, o + j * 2 + 1, none⟩ (.int .i64 (hs[i].p : Int))) 67 2 (.slice (some ⟨g, o, none⟩) hs.length c) hs.length (encL encH (swL hs i j)) := by
    intro V hV
    have h1 := Rw.seth (Rw.seth hV hi hs[j]) (i := j) (by rw [List.length_set]; exact hj) hs[i]
    rw [swL_eq hs hi hj]
    simpa using h1
  have p1 : (0 : Int) ≤ (i : Int) := Int.natCast_nonneg _
  have p2 : (0 : Int) ≤ (j : Int) := Int.natCast_nonneg _
  have q1 : (i : Int) < (hs.length : Int) := Int.ofNat_lt.mpr hi
  have q2 : (j : Int) < (hs.length : Int) := Int.ofNat_lt.mpr hj
  have HR := Aside0.mk hR
  have HH := Aside0.mk h
  have HB := Aside0.mk hb
  have HG := Aside0.mk hg
  have f0 := hf (o + i * 2)
  have f1 := hf (o + i * 2 + 1)
  have f2 := hf (o + j * 2)
  have f3 := hf (o + j * 2 + 1)
  clear hR hf h hb hg
  generalize hs[i].A = Ai at *
  generalize hs[i].l.length = ni at *
  generalize hs[i].c = ki at *
  generalize (hs[i].p : Int) = pi_ at *
  generalize hs[j].A = Aj at *
  generalize hs[j].l.length = nj at *
  generalize hs[j].c = kj at *
  generalize (hs[j].p : Int) = pj at *
  have hd0 : w.drew.cell? ⟨g, o + i * 2, none⟩ = some (.slice Ai ni ki) := r0
  have hd1 : w.drew.cell? ⟨g, o + i * 2 + 1, none⟩ = some (.int .i64 pi_) := r1
  have hd2 : w.drew.cell? ⟨g, o + j * 2, none⟩ = some (.slice Aj nj kj) := s0
  have hd3 : w.drew.cell? ⟨g, o + j * 2 + 1, none⟩ = some (.int .i64 pj) := s1
  obtain ⟨v1, k1⟩ := cell?_setCell_some (w := w) (p := ⟨g, o + i * 2, none⟩) (x := .slice Aj nj kj) (q := ⟨g, o + i * 2 + 1, none⟩) (v := .int .i64 pi_) r1
  obtain ⟨v2, k2⟩ := cell?_setCell_some (w := w) (p := ⟨g, o + i * 2, none⟩) (x := .slice Aj nj kj) (q := ⟨g, o + j * 2, none⟩) (v := .slice Aj nj kj) s0
  obtain ⟨v3, k3⟩ := cell?_setCell_some (w := w) (p := ⟨g, o + i * 2, none⟩) (x := .slice Aj nj kj) (q := ⟨g, o + j * 2 + 1, none⟩) (v := .int .i64 pj) s1
  obtain ⟨v4, k4⟩ := cell?_setCell_some (p := ⟨g, o + i * 2 + 1, none⟩) (x := .int .i64 pj) (q := ⟨g, o + j * 2, none⟩) k2
  obtain ⟨v5, k5⟩ := cell?_setCell_some (p := ⟨g, o + i * 2 + 1, none⟩) (x := .int .i64 pj) (q := ⟨g, o + j * 2 + 1, none⟩) k3
  obtain ⟨v6, k6⟩ := cell?_setCell_some (p := ⟨g, o + j * 2, none⟩) (x := .slice Ai ni ki) (q := ⟨g, o + j * 2 + 1, none⟩) k5
  go_enter Try.func109, Try.ntmps109
  go_wp2
  go_region
  all_goals
    (try go_wp2)
    first | go_end0 | ((try simp only [Exit.inBlock, Exit.then]); refine bodyPost_ret (results_none rfl _ _ _) rfl ?_)
    refine ⟨rfl, HR.out w HH.out, ?_, ?_, ?_⟩
    · have := below_set (below_set (below_set (below_set HB.out HG.out (j := o + i * 2) (v := .slice Aj nj kj)) HG.out (j := o + i * 2 + 1) (v := .int .i64 pj)) HG.out (j := o + j * 2) (v := .slice Ai ni ki)) HG.out (j := o + j * 2 + 1) (v := .int .i64 pi_)
      exact below_drew1 this
    · show ((((w.setCell _ _).setCell _ _).setCell _ _).setCell _ _).heap.size = _
      simp [World.setCell]
    · intro k hk
      exact (Below.heap_setCell _ _ _ k (fun e => hk e)).trans ((Below.heap_setCell _ _ _ k (fun e => hk e)).trans ((Below.heap_setCell _ _ _ k (fun e => hk e)).trans (Below.heap_setCell _ _ _ k (fun e => hk e))))
end Go.Proofs.Ytchgpcgolgcfdaa.Hp
end
section
namespace Go.Proofs.Ytchgpcgolgcfdaa.Hp
open Go Go.RowKit Go.Proofs.Ytchgpcgolgcfdaa.PNum Go.Proofs.Ytchgpcgolgcfdaa.BkW Go.Proofs.Ytchgpcgolgcfdaa.PuIkC Go.Proofs.YtchgpcgolgcfdaaW.PrintWords Go.Proofs.YtchgpcgolgcfdaaW.PrintLast Go.Proofs.YtchgpcgolgcfdaaW.PrintMore Go.Proofs.YtchgpcgolgcfdaaW.Pu Go.Proofs.YtchgpcgolgcfdaaW.PuMrg Go.Proofs.YtchgpcgolgcfdaaW.PuHeap
set_option linter.unusedVariables false
set_option linter.unusedSimpArgs false
def Kf (w w1 : World) (g : Nat) (A : Option Addr) : Prop := w.heap.size ≤ w1.heap.size ∧ ∀ k, k < w.heap.size → k ≠ g → (Value.slice A 0 0).ownBlock ≠ some k → w1.heap[k]? = w.heap[k]?
theorem Kf.refl (w : World) (g : Nat) (A : Option Addr) : Kf w w g A := ⟨Nat.le_refl _, fun _ _ _ _ => rfl⟩
theorem Kf.trans {a b c : World} {g : Nat} {A : Option Addr} (h : Kf a b g A) (k : Kf b c g A) : Kf a c g A := ⟨Nat.le_trans h.1 k.1, fun i hi h1 h2 => (k.2 i (Nat.lt_of_lt_of_le hi h.1) h1 h2).trans (h.2 i hi h1 h2)⟩
theorem Kf.of_below {w w1 : World} (hb : Below w.heap.size w w1) (g : Nat) (A : Option Addr) : Kf w w1 g A := ⟨hb.size, fun k hk _ _ => hb.block k hk⟩
structure Hm (w0 wb w : World) (g : Nat) (A : Option Addr) (c : Nat) (hs : List Fr) : Prop where
  blk : w.heap[g]? = some (.cells #[.slice A hs.length c] 65 (0, 0))
  row : Rw w 67 2 (.slice A hs.length c) hs.length (encL encH hs)
  rb : ∀ k, (Value.slice A hs.length c).ownBlock = some k → w0.heap.size ≤ k
  gb : w0.heap.size ≤ g
  bel : Below w0.heap.size w0 w
  fr : Kf wb w g A
  ls : ∀ x ∈ hs, Kd.C kE w0 x.A x.l.length x.l ∧ x.l.length ≤ x.c
section
variable {w0 wb w w1 : World} {g c : Nat} {A : Option Addr} {hs : List Fr}
theorem Hm.below (h : Hm w0 wb w g A c hs) (hb : Below w.heap.size w w1) : Hm w0 wb w1 g A c hs := ⟨blk_below h.blk hb, h.row.below hb, h.rb, h.gb, below_step h.bel hb, h.fr.trans (Kf.of_below hb g A), h.ls⟩
theorem Hm.reset (h : Hm w0 wb w g A c hs) : Hm w0 w w g A c hs := ⟨h.blk, h.row, h.rb, h.gb, h.bel, Kf.refl _ _ _, h.ls⟩
theorem Hm.some_ (h : Hm w0 wb w g A c hs) (h0 : 0 < hs.length) : ∃ G o, A = some ⟨G, o, none⟩ ∧ G ≠ g ∧ w0.heap.size ≤ G := by
  obtain ⟨G, o, c', e, _⟩ := h.row.form h0
  injection e with e1 _ _
  subst e1
  refine ⟨G, o, rfl, ?_, h.rb G (by simp [Value.ownBlock])⟩
  rintro rfl
  obtain ⟨cur, hc⟩ := h.row.typed G (by simp [Value.ownBlock])
  have := h.blk.symm.trans hc
  simp at this
theorem Hm.less (h : Hm w0 wb w g A c hs) {i j : Nat} (hi : i < hs.length) (hj : j < hs.length) (ni : hs[i].l ≠ []) (nj : hs[j].l ≠ []) :
    Calls Try.prog 108 #[.slice A hs.length c, .int .i64 (i : Int), .int .i64 (j : Int)] w fun e w' => e = .returned (.bool (Hp.ls hs[i] hs[j])) ∧ Hm w0 wb w' g A c hs := by
  obtain ⟨G, o, rfl, _, _⟩ := h.some_ (by omega)
  refine (less_calls h.row (fun x hx => Kd.C_below (h.ls x hx).1 h.bel) hi hj ni nj).mono ?_
  rintro e w' ⟨rfl, hb⟩
  exact ⟨rfl, h.below hb⟩
theorem Hm.swap (h : Hm w0 wb w g A c hs) {i j : Nat} (hi : i < hs.length) (hj : j < hs.length) :
    Calls Try.prog 109 #[.slice A hs.length c, .int .i64 (i : Int), .int .i64 (j : Int)] w fun e w' => e = .returned (.tuple #[]) ∧ Hm w0 wb w' g A c (swL hs i j) := by
  obtain ⟨G, o, rfl, hne, hG⟩ := h.some_ (by omega)
  refine (swap_calls h.row h.bel hG hi hj).mono ?_
  rintro e w' ⟨rfl, hr, hb, hsz, hk⟩
  refine ⟨rfl, ?_, ?_, ?_, h.gb, hb, h.fr.trans ⟨Nat.le_of_eq hsz.symm, fun k hk1 _ hk3 => hk k (fun e => hk3 (by rw [e]; simp [Value.ownBlock]))⟩, fun x hx => h.ls x ((swL_perm hs i j).mem_iff.1 hx)⟩
  · rw [swL_len, hk g hne.symm]; exact h.blk
  · rw [swL_len]; exact hr
  · rw [swL_len]; exact h.rb
end
set_option maxHeartbeats 4000000 in
set_option maxRecDepth 100000 in
theorem len_calls (A : Option Addr) (n c : Nat) (w : World) : Calls Try.prog 107 #[.slice A n c] w fun e w' => e = .returned (.int .i64 (n : Int)) ∧ Below w.heap.size w w' := by
  go_enter Try.func107, Try.ntmps107
  go_wp2
  go_ret
  exact ⟨rfl, Below.refl _ _⟩
theorem load_v (g : Nat) (v : Value) (w : World) (h : w.cell? ⟨g, 0, none⟩ = some v) : (loadVar 65 ⟨g, 0, none⟩).run Try.prog w = .ok v w := by
  have hu := Try.underlying65
  go_simp
theorem wrap_some (ts : Array TypeId) (t : TypeId) (a : Addr) (x y : String) (w : World) : (Builtin.ssaWrapNilChk_ ts t #[.pointer (some a), strVal x, strVal y]).run Try.prog w = .ok (.pointer (some a)) w := rfl
theorem m_val (g : Nat) (f : FuncId) (nm : String) (v : Value) (w : World) (h : w.cell? ⟨g, 0, none⟩ = some v) (hq0 : (Array.find? (fun x => x.name == nm) Try.t69.methods).map (fun m => (m.path, m.func)) = some (#[], some (f, false))) (n : Nat) : (method (n + 1) 69 (.pointer (some ⟨g, 0, none⟩)) nm).run Try.prog w = .ok (f, v) w := by
  have hu := Try.underlying69
  cases hq : Array.find? (fun x => x.name == nm) Try.t69.methods with
  | none => rw [hq] at hq0; simp at hq0
  | some m =>
    rw [hq] at hq0
    simp only [Option.map_some, Option.some.injEq, Prod.mk.injEq] at hq0
    obtain ⟨h1, h2⟩ := hq0
    simp [method, hq, h1, h2, follow, receiverAt, Place.get, asAddr]
    rw [wrap_some]
    simp [Result.andThen, load_v g v w h]
theorem m_len (g : Nat) (v : Value) (w : World) (h : w.cell? ⟨g, 0, none⟩ = some v) : ∀ n, (method (n + 1) 69 (.pointer (some ⟨g, 0, none⟩)) "Len").run Try.prog w = .ok (107, v) w := m_val g _ _ v w h (by kernel_rfl)
theorem m_less (g : Nat) (v : Value) (w : World) (h : w.cell? ⟨g, 0, none⟩ = some v) : ∀ n, (method (n + 1) 69 (.pointer (some ⟨g, 0, none⟩)) "Less").run Try.prog w = .ok (108, v) w := m_val g _ _ v w h (by kernel_rfl)
theorem m_swap (g : Nat) (v : Value) (w : World) (h : w.cell? ⟨g, 0, none⟩ = some v) : ∀ n, (method (n + 1) 69 (.pointer (some ⟨g, 0, none⟩)) "Swap").run Try.prog w = .ok (109, v) w := m_val g _ _ v w h (by kernel_rfl)
theorem m_pop (g : Nat) (w : World) : ∀ n, (method (n + 1) 69 (.pointer (some ⟨g, 0, none⟩)) "Pop").run Try.prog w = .ok (112, .pointer (some ⟨g, 0, none⟩)) w := fun _ => by kernel_rfl
theorem Hm.cell {w0 wb w : World} {g c : Nat} {A : Option Addr} {hs : List Fr} (h : Hm w0 wb w g A c hs) : w.cell? ⟨g, 0, none⟩ = some (.slice A hs.length c) := (blk_cell h.blk 0).trans rfl
theorem ordE : Ord (ce : E → E → Int) := ⟨ce_range, ce_neg, fun h k => ce_trans h k, fun {a b} h c => by have := (ce_zero a b).1 h; exact ce_same this.1 c this.2⟩
def leF (a b : Fr) : Prop := Go.Proofs.YtchgpcgolgcfdaaW.PuMrg.le ce zE (pr a) (pr b)
theorem leF_pre : Pre leF := ⟨fun a b => (le_pre ordE zE).total (pr a) (pr b), fun h k => (le_pre ordE zE).trans h k⟩
theorem ls_true {a b : Fr} (h : Hp.ls a b = true) : leF a b := by
  have h := of_decide_eq_true h
  unfold lsI cs at h
  unfold leF Go.Proofs.YtchgpcgolgcfdaaW.PuMrg.le fr pr
  show ce (hdE a) (hdE b) = -1 ∨ (ce (hdE a) (hdE b) = 0 ∧ a.p ≤ b.p)
  have := ce_range (hdE a) (hdE b)
  split at h
  · rename_i h0
    refine .inr ⟨h0, ?_⟩
    split at h
    · omega
    · split at h <;> omega
  · exact .inl (by omega)
theorem ls_false {a b : Fr} (h : Hp.ls a b = false) : leF b a := by
  have h := of_decide_eq_false h
  unfold lsI cs at h
  unfold leF Go.Proofs.YtchgpcgolgcfdaaW.PuMrg.le fr pr
  show ce (hdE b) (hdE a) = -1 ∨ (ce (hdE b) (hdE a) = 0 ∧ b.p ≤ a.p)
  have h1 := ce_neg (hdE b) (hdE a)
  have := ce_range (hdE a) (hdE b)
  split at h
  · rename_i h0
    refine .inr ⟨by omega, ?_⟩
    split at h
    · omega
    · split at h <;> omega
  · exact .inl (by omega)
def d0 : Fr := ⟨none, 0, [], 0⟩
def fv (hs : List Fr) : Nat → Fr := fun k => hs.getD k d0
theorem fv_get {hs : List Fr} {i : Nat} (h : i < hs.length) : fv hs i = hs[i] := by unfold fv; rw [List.getD_eq_getElem?_getD, List.getElem?_eq_getElem h]; rfl
theorem fv_sw (hs : List Fr) {i j : Nat} (hi : i < hs.length) (hj : j < hs.length) : fv (swL hs i j) = sw (fv hs) i j := funext fun k => swL_get d0 hs hi hj k
end Go.Proofs.Ytchgpcgolgcfdaa.Hp
end
section
namespace Go.Proofs.Ytchgpcgolgcfdaa.Hp
open Go Go.RowKit Go.Proofs.Ytchgpcgolgcfdaa.PNum Go.Proofs.Ytchgpcgolgcfdaa.BkW Go.Proofs.Ytchgpcgolgcfdaa.PuIkC Go.Proofs.YtchgpcgolgcfdaaW.PrintWords Go.Proofs.YtchgpcgolgcfdaaW.PrintLast Go.Proofs.YtchgpcgolgcfdaaW.PrintMore Go.Proofs.YtchgpcgolgcfdaaW.Pu Go.Proofs.YtchgpcgolgcfdaaW.PuMrg Go.Proofs.YtchgpcgolgcfdaaW.PuHeap
set_option linter.unusedVariables false
set_option linter.unusedSimpArgs false
theorem Hm.less_ {w0 wb w : World} {g c n : Nat} {A : Option Addr} {hs : List Fr} (h : Hm w0 wb w g A c hs) {x y : Int} {i j : Nat} (hn : n = hs.length) (hx : x = (i : Int)) (hy : y = (j : Int)) (hi : i < hs.length) (hj : j < hs.length) (ni : hs[i].l ≠ []) (nj : hs[j].l ≠ []) :
    Calls Try.prog 108 #[.slice A n c, .int .i64 x, .int .i64 y] w fun e w' => e = .returned (.bool (Hp.ls hs[i] hs[j])) ∧ Hm w0 wb w' g A c hs := by
  subst hn hx hy
  exact h.less hi hj ni nj
theorem Hm.swap_ {w0 wb w : World} {g c n : Nat} {A : Option Addr} {hs : List Fr} (h : Hm w0 wb w g A c hs) {x y : Int} {i j : Nat} (hn : n = hs.length) (hx : x = (i : Int)) (hy : y = (j : Int)) (hi : i < hs.length) (hj : j < hs.length) :
    Calls Try.prog 109 #[.slice A n c, .int .i64 x, .int .i64 y] w fun e w' => e = .returned (.tuple #[]) ∧ Hm w0 wb w' g A c (swL hs i j) := by
  subst hn hx hy
  exact h.swap hi hj
set_option maxHeartbeats 16000000 in
set_option maxRecDepth 100000 in
theorem down_calls {w0 wb w : World} {g c : Nat} {A : Option Addr} {hs : List Fr} (h : Hm w0 wb w g A c hs) {i0 n lo : Nat} (hn : n ≤ hs.length) (hL : hs.length ≤ 1000) (hi0 : i0 ≤ 1000) (hlo : lo ≤ i0) (hx : Hx leF (fv hs) n lo i0) (hne : ∀ k, k < n → (fv hs k).l ≠ []) :
    Calls Try.prog 55 #[.iface 69 (.pointer (some ⟨g, 0, none⟩)), .int .i64 (i0 : Int), .int .i64 (n : Int)] w fun e w' => ∃ b, e = .returned (.bool b) ∧ ∃ hs', Hm w0 wb w' g A c hs' ∧ Hp leF (fv hs') n lo ∧ hs'.Perm hs ∧ ∀ k, n ≤ k → fv hs' k = fv hs k := by
  have HM := Aside0.mk h
  have HX := Aside0.mk hx
  have HNN := Aside0.mk hne
  clear h hx hne
  go_enter Try.func55, Try.ntmps55
  go_wp2
  go_loopw [7] (fun v7 w' => ∃ (i : Nat) (hs' : List Fr), v7 = .int .i64 i ∧ i ≤ 1000 ∧ lo ≤ i ∧ hs'.length = hs.length ∧ Aside0 (Hm w0 wb w' g A c hs') ∧ Aside0 (Hx leF (fv hs') n lo i) ∧ Aside0 (hs'.Perm hs) ∧ Aside0 (∀ k, n ≤ k → fv hs' k = fv hs k) ∧ Aside0 (∀ k, k < n → (fv hs' k).l ≠ [])) (fun v7 _ => 1001 - (intOf v7).toNat)
  case atStart => exact ⟨i0, hs, rfl, hi0, hlo, rfl, HM, HX, ⟨List.Perm.refl _⟩, ⟨fun _ _ => rfl⟩, HNN⟩
  case round =>
    clear HM HX HNN
    obtain ⟨i, hs', rfl, hi, hli, hl', HM, HX, HP, HT, HNN⟩ := hrel
    have e1 : wrap64 (2 * (i : Int)) = ((2 * i : Nat) : Int) := by rw [wrap64_id (by omega)]; omega
    have e2 : wrap64 (((2 * i : Nat) : Int) + 1) = ((2 * i + 1 : Nat) : Int) := by rw [wrap64_id (by omega)]; omega
    have e3 : wrap64 (((2 * i + 1 : Nat) : Int) + 1) = ((2 * i + 2 : Nat) : Int) := by rw [wrap64_id (by omega)]; omega
    by_cases c1 : 2 * i + 1 < n
    · have t1 : decide ((n : Int) ≤ ((2 * i + 1 : Nat) : Int)) = false := decide_eq_false (by omega)
      have t2 : decide (((2 * i + 1 : Nat) : Int) < 0) = false := decide_eq_false (by omega)
      have hi_ : i < hs'.length := by omega
      have mm := m_less g _ _ HM.out.cell
      have ms := m_swap g _ _ HM.out.cell
      by_cases c2 : 2 * i + 2 < n
      · have t3 : decide (((2 * i + 2 : Nat) : Int) < (n : Int)) = true := decide_eq_true (by omega)
        have h1_ : 2 * i + 1 < hs'.length := by omega
        have h2_ : 2 * i + 2 < hs'.length := by omega
        have T1 := Aside0.mk True.intro
        cases hb1 : Hp.ls hs'[2 * i + 2] hs'[2 * i + 1]
        case false =>
          have HB1 := Aside0.mk hb1
          clear hb1
          have hj_ : 2 * i + 1 < hs'.length := by omega
          have HSIB : Aside0 (∀ c, 0 < c → c < n → (c - 1) / 2 = i → leF (fv hs' (2 * i + 1)) (fv hs' c)) := ⟨by
            intro c_ h0_ hc_ hp_
            have hc3 : c_ = 2 * i + 1 ∨ c_ = 2 * i + 2 := by omega
            rcases hc3 with rfl | rfl
            · exact leF_pre.refl _
            · rw [fv_get h1_, fv_get h2_]
              exact ls_false HB1.out
            ⟩
          cases hb2 : Hp.ls (hs'[2 * i + 1]'hj_) hs'[i]
          case false =>
            have HB2 := Aside0.mk hb2
            clear hb2
            have T2 := Aside0.mk True.intro
            go_wp2_with (first | (go_at_call 108; have t_ := T1; refine (HM.out.less_ (i := 2 * i + 2) (j := 2 * i + 1) (by omega) (by omega) (by omega) h2_ h1_ (by rw [← fv_get h2_]; exact HNN.out _ (by omega)) (by rw [← fv_get h1_]; exact HNN.out _ (by omega))).mono ?_; rintro e w1 ⟨rfl, hh⟩; rw [HB1.out]; have n0_ := Aside0.mk hh; clear HM mm ms hh t_ T1; have HM := n0_; clear n0_; have T1b := Aside0.mk True.intro; have mm := m_less g _ _ HM.out.cell; have ms := m_swap g _ _ HM.out.cell) | (go_at_call 108; have t_ := T2; refine (HM.out.less_ (i := 2 * i + 1) (j := i) (by omega) (by omega) (by omega) hj_ hi_ (by rw [← fv_get hj_]; exact HNN.out _ (by omega)) (by rw [← fv_get hi_]; exact HNN.out _ (by omega))).mono ?_; rintro e w2 ⟨rfl, hh⟩; rw [HB2.out]; have n0_ := Aside0.mk hh; clear HM mm ms hh t_ T2; have HM := n0_; clear n0_; have T3 := Aside0.mk True.intro; have mm := m_less g _ _ HM.out.cell; have ms := m_swap g _ _ HM.out.cell) | (go_at_call 109; refine (HM.out.swap_ (i := i) (j := 2 * i + 1) (by omega) (by omega) (by omega) hi_ hj_).mono ?_; rintro e w3 ⟨rfl, hh⟩; have n0_ := Aside0.mk hh; clear HM mm ms hh; have HM := n0_; clear n0_))
            go_ret
            refine ⟨_, rfl, hs', HM.out, HX.out.stop (fun c_ h0_ hc_ hp_ => leF_pre.trans ?_ (HSIB.out c_ h0_ hc_ hp_)), HP.out, HT.out⟩
            have := ls_false HB2.out
            rw [fv_get hi_, fv_get hj_]
            exact this
          case true =>
            have HB2 := Aside0.mk hb2
            clear hb2
            have T2 := Aside0.mk True.intro
            go_wp2_with (first | (go_at_call 108; have t_ := T1; refine (HM.out.less_ (i := 2 * i + 2) (j := 2 * i + 1) (by omega) (by omega) (by omega) h2_ h1_ (by rw [← fv_get h2_]; exact HNN.out _ (by omega)) (by rw [← fv_get h1_]; exact HNN.out _ (by omega))).mono ?_; rintro e w1 ⟨rfl, hh⟩; rw [HB1.out]; have n0_ := Aside0.mk hh; clear HM mm ms hh t_ T1; have HM := n0_; clear n0_; have T1b := Aside0.mk True.intro; have mm := m_less g _ _ HM.out.cell; have ms := m_swap g _ _ HM.out.cell) | (go_at_call 108; have t_ := T2; refine (HM.out.less_ (i := 2 * i + 1) (j := i) (by omega) (by omega) (by omega) hj_ hi_ (by rw [← fv_get hj_]; exact HNN.out _ (by omega)) (by rw [← fv_get hi_]; exact HNN.out _ (by omega))).mono ?_; rintro e w2 ⟨rfl, hh⟩; rw [HB2.out]; have n0_ := Aside0.mk hh; clear HM mm ms hh t_ T2; have HM := n0_; clear n0_; have T3 := Aside0.mk True.intro; have mm := m_less g _ _ HM.out.cell; have ms := m_swap g _ _ HM.out.cell) | (go_at_call 109; refine (HM.out.swap_ (i := i) (j := 2 * i + 1) (by omega) (by omega) (by omega) hi_ hj_).mono ?_; rintro e w3 ⟨rfl, hh⟩; have n0_ := Aside0.mk hh; clear HM mm ms hh; have HM := n0_; clear n0_))
            go_roundw
            case rel =>
              refine ⟨2 * i + 1, swL hs' i (2 * i + 1), by go_num, by omega, by omega, by rw [swL_len]; exact hl', HM, ⟨?_⟩, ⟨(swL_perm _ _ _).trans HP.out⟩, ⟨?_⟩, ⟨?_⟩⟩
              · rw [fv_sw hs' hi_ hj_]
                refine HX.out.step leF_pre (by omega) (by omega) (by omega) (by omega) ?_ HSIB.out
                rw [fv_get hi_, fv_get hj_]
                exact ls_true HB2.out
              · intro k_ hk_
                rw [← HT.out k_ hk_, fv_sw hs' hi_ hj_]
                unfold sw
                rw [if_neg (by omega), if_neg (by omega)]
              · intro k_ hk_
                rw [fv_sw hs' hi_ hj_]
                unfold sw
                split
                · exact HNN.out _ (by omega)
                · split
                  · exact HNN.out _ (by omega)
                  · exact HNN.out _ hk_
            case measure => simp [intOf]; omega
        case true =>
          have HB1 := Aside0.mk hb1
          clear hb1
          have hj_ : 2 * i + 2 < hs'.length := by omega
          have HSIB : Aside0 (∀ c, 0 < c → c < n → (c - 1) / 2 = i → leF (fv hs' (2 * i + 2)) (fv hs' c)) := ⟨by
            intro c_ h0_ hc_ hp_
            have hc3 : c_ = 2 * i + 1 ∨ c_ = 2 * i + 2 := by omega
            rcases hc3 with rfl | rfl
            · rw [fv_get h1_, fv_get h2_]
              exact ls_true HB1.out
            · exact leF_pre.refl _
            ⟩
          cases hb2 : Hp.ls (hs'[2 * i + 2]'hj_) hs'[i]
          case false =>
            have HB2 := Aside0.mk hb2
            clear hb2
            have T2 := Aside0.mk True.intro
            go_wp2_with (first | (go_at_call 108; have t_ := T1; refine (HM.out.less_ (i := 2 * i + 2) (j := 2 * i + 1) (by omega) (by omega) (by omega) h2_ h1_ (by rw [← fv_get h2_]; exact HNN.out _ (by omega)) (by rw [← fv_get h1_]; exact HNN.out _ (by omega))).mono ?_; rintro e w1 ⟨rfl, hh⟩; rw [HB1.out]; have n0_ := Aside0.mk hh; clear HM mm ms hh t_ T1; have HM := n0_; clear n0_; have T1b := Aside0.mk True.intro; have mm := m_less g _ _ HM.out.cell; have ms := m_swap g _ _ HM.out.cell) | (go_at_call 108; have t_ := T2; refine (HM.out.less_ (i := 2 * i + 2) (j := i) (by omega) (by omega) (by omega) hj_ hi_ (by rw [← fv_get hj_]; exact HNN.out _ (by omega)) (by rw [← fv_get hi_]; exact HNN.out _ (by omega))).mono ?_; rintro e w2 ⟨rfl, hh⟩; rw [HB2.out]; have n0_ := Aside0.mk hh; clear HM mm ms hh t_ T2; have HM := n0_; clear n0_; have T3 := Aside0.mk True.intro; have mm := m_less g _ _ HM.out.cell; have ms := m_swap g _ _ HM.out.cell) | (go_at_call 109; refine (HM.out.swap_ (i := i) (j := 2 * i + 2) (by omega) (by omega) (by omega) hi_ hj_).mono ?_; rintro e w3 ⟨rfl, hh⟩; have n0_ := Aside0.mk hh; clear HM mm ms hh; have HM := n0_; clear n0_))
            go_ret
            refine ⟨_, rfl, hs', HM.out, HX.out.stop (fun c_ h0_ hc_ hp_ => leF_pre.trans ?_ (HSIB.out c_ h0_ hc_ hp_)), HP.out, HT.out⟩
            have := ls_false HB2.out
            rw [fv_get hi_, fv_get hj_]
            exact this
          case true =>
            have HB2 := Aside0.mk hb2
            clear hb2
            have T2 := Aside0.mk True.intro
            go_wp2_with (first | (go_at_call 108; have t_ := T1; refine (HM.out.less_ (i := 2 * i + 2) (j := 2 * i + 1) (by omega) (by omega) (by omega) h2_ h1_ (by rw [← fv_get h2_]; exact HNN.out _ (by omega)) (by rw [← fv_get h1_]; exact HNN.out _ (by omega))).mono ?_; rintro e w1 ⟨rfl, hh⟩; rw [HB1.out]; have n0_ := Aside0.mk hh; clear HM mm ms hh t_ T1; have HM := n0_; clear n0_; have T1b := Aside0.mk True.intro; have mm := m_less g _ _ HM.out.cell; have ms := m_swap g _ _ HM.out.cell) | (go_at_call 108; have t_ := T2; refine (HM.out.less_ (i := 2 * i + 2) (j := i) (by omega) (by omega) (by omega) hj_ hi_ (by rw [← fv_get hj_]; exact HNN.out _ (by omega)) (by rw [← fv_get hi_]; exact HNN.out _ (by omega))).mono ?_; rintro e w2 ⟨rfl, hh⟩; rw [HB2.out]; have n0_ := Aside0.mk hh; clear HM mm ms hh t_ T2; have HM := n0_; clear n0_; have T3 := Aside0.mk True.intro; have mm := m_less g _ _ HM.out.cell; have ms := m_swap g _ _ HM.out.cell) | (go_at_call 109; refine (HM.out.swap_ (i := i) (j := 2 * i + 2) (by omega) (by omega) (by omega) hi_ hj_).mono ?_; rintro e w3 ⟨rfl, hh⟩; have n0_ := Aside0.mk hh; clear HM mm ms hh; have HM := n0_; clear n0_))
            go_roundw
            case rel =>
              refine ⟨2 * i + 2, swL hs' i (2 * i + 2), by go_num, by omega, by omega, by rw [swL_len]; exact hl', HM, ⟨?_⟩, ⟨(swL_perm _ _ _).trans HP.out⟩, ⟨?_⟩, ⟨?_⟩⟩
              · rw [fv_sw hs' hi_ hj_]
                refine HX.out.step leF_pre (by omega) (by omega) (by omega) (by omega) ?_ HSIB.out
                rw [fv_get hi_, fv_get hj_]
                exact ls_true HB2.out
              · intro k_ hk_
                rw [← HT.out k_ hk_, fv_sw hs' hi_ hj_]
                unfold sw
                rw [if_neg (by omega), if_neg (by omega)]
              · intro k_ hk_
                rw [fv_sw hs' hi_ hj_]
                unfold sw
                split
                · exact HNN.out _ (by omega)
                · split
                  · exact HNN.out _ (by omega)
                  · exact HNN.out _ hk_
            case measure => simp [intOf]; omega
      · have t3 : decide (((2 * i + 2 : Nat) : Int) < (n : Int)) = false := decide_eq_false (by omega)
        have hj_ : 2 * i + 1 < hs'.length := by omega
        have HSIB : Aside0 (∀ c, 0 < c → c < n → (c - 1) / 2 = i → leF (fv hs' (2 * i + 1)) (fv hs' c)) := ⟨by
          intro c_ h0_ hc_ hp_
          have hc3 : c_ = 2 * i + 1 := by omega
          rw [hc3]
          exact leF_pre.refl _
          ⟩
        cases hb2 : Hp.ls (hs'[2 * i + 1]'hj_) hs'[i]
        case false =>
          have HB2 := Aside0.mk hb2
          clear hb2
          have T2 := Aside0.mk True.intro
          go_wp2_with (first | (go_at_call 108; have t_ := T2; refine (HM.out.less_ (i := 2 * i + 1) (j := i) (by omega) (by omega) (by omega) hj_ hi_ (by rw [← fv_get hj_]; exact HNN.out _ (by omega)) (by rw [← fv_get hi_]; exact HNN.out _ (by omega))).mono ?_; rintro e w2 ⟨rfl, hh⟩; rw [HB2.out]; have n0_ := Aside0.mk hh; clear HM mm ms hh t_ T2; have HM := n0_; clear n0_; have T3 := Aside0.mk True.intro; have mm := m_less g _ _ HM.out.cell; have ms := m_swap g _ _ HM.out.cell) | (go_at_call 109; refine (HM.out.swap_ (i := i) (j := 2 * i + 1) (by omega) (by omega) (by omega) hi_ hj_).mono ?_; rintro e w3 ⟨rfl, hh⟩; have n0_ := Aside0.mk hh; clear HM mm ms hh; have HM := n0_; clear n0_))
          go_ret
          refine ⟨_, rfl, hs', HM.out, HX.out.stop (fun c_ h0_ hc_ hp_ => leF_pre.trans ?_ (HSIB.out c_ h0_ hc_ hp_)), HP.out, HT.out⟩
          have := ls_false HB2.out
          rw [fv_get hi_, fv_get hj_]
          exact this
        case true =>
          have HB2 := Aside0.mk hb2
          clear hb2
          have T2 := Aside0.mk True.intro
          go_wp2_with (first | (go_at_call 108; have t_ := T2; refine (HM.out.less_ (i := 2 * i + 1) (j := i) (by omega) (by omega) (by omega) hj_ hi_ (by rw [← fv_get hj_]; exact HNN.out _ (by omega)) (by rw [← fv_get hi_]; exact HNN.out _ (by omega))).mono ?_; rintro e w2 ⟨rfl, hh⟩; rw [HB2.out]; have n0_ := Aside0.mk hh; clear HM mm ms hh t_ T2; have HM := n0_; clear n0_; have T3 := Aside0.mk True.intro; have mm := m_less g _ _ HM.out.cell; have ms := m_swap g _ _ HM.out.cell) | (go_at_call 109; refine (HM.out.swap_ (i := i) (j := 2 * i + 1) (by omega) (by omega) (by omega) hi_ hj_).mono ?_; rintro e w3 ⟨rfl, hh⟩; have n0_ := Aside0.mk hh; clear HM mm ms hh; have HM := n0_; clear n0_))
          go_roundw
          case rel =>
            refine ⟨2 * i + 1, swL hs' i (2 * i + 1), by go_num, by omega, by omega, by rw [swL_len]; exact hl', HM, ⟨?_⟩, ⟨(swL_perm _ _ _).trans HP.out⟩, ⟨?_⟩, ⟨?_⟩⟩
            · rw [fv_sw hs' hi_ hj_]
              refine HX.out.step leF_pre (by omega) (by omega) (by omega) (by omega) ?_ HSIB.out
              rw [fv_get hi_, fv_get hj_]
              exact ls_true HB2.out
            · intro k_ hk_
              rw [← HT.out k_ hk_, fv_sw hs' hi_ hj_]
              unfold sw
              rw [if_neg (by omega), if_neg (by omega)]
            · intro k_ hk_
              rw [fv_sw hs' hi_ hj_]
              unfold sw
              split
              · exact HNN.out _ (by omega)
              · split
                · exact HNN.out _ (by omega)
                · exact HNN.out _ hk_
          case measure => simp [intOf]; omega
    · have t1 : decide ((n : Int) ≤ ((2 * i + 1 : Nat) : Int)) = true := decide_eq_true (by omega)
      go_wp2
      go_ret
      have hle := HX.out.leaf (by omega)
      refine ⟨?_, hs', HM.out, hle, HP.out, HT.out⟩
      rcases Bool.eq_false_or_eq_true (decide (i0 < i)) with q | q
      · exact .inr (congrArg (fun b => Ending.returned (Value.bool b)) q)
      · exact .inl (congrArg (fun b => Ending.returned (Value.bool b)) q)
end Go.Proofs.Ytchgpcgolgcfdaa.Hp
end
section
namespace Go.Proofs.Ytchgpcgolgcfdaa.Lent
open Go Go.RowKit Go.Proofs.YtchgpcgolgcfdaaW.PrintWords Go.Proofs.YtchgpcgolgcfdaaW.PrintLast Go.Proofs.YtchgpcgolgcfdaaW.PrintMore
section
variable {α : Type} {d : Kd α} {mark : α} {e : Nat} {w w1 : World} {base : Nat} {ok : Nat → Prop} {v : Value} {xs : List α}
def RM (d : Kd α) (mark : α) (e : Nat) (w : World) (base : Nat) (ok : Nat → Prop) (v : Value) (xs : List α) : Prop := ∃ A c, v = .slice A xs.length c ∧ d.R e w base ok (.slice A (xs.length + 1) c) (xs ++ [mark])
def CM (d : Kd α) (mark : α) (w : World) (A : Option Addr) (n : Nat) (xs : List α) : Prop := d.C w A (n + 1) (xs ++ [mark]) ∧ d.C w A n xs
theorem R_lower {base' : Nat} (h : RM d mark e w base ok v xs) (hb : base' ≤ base) : RM d mark e w base' ok v xs := by
  obtain ⟨A, c, hv, hr⟩ := h
  exact ⟨A, c, hv, Kd.R_lower hr hb⟩
theorem R_below (h : RM d mark e w base ok v xs) (hb : Below w.heap.size w w1) : RM d mark e w1 base ok v xs := by
  obtain ⟨A, c, hv, hr⟩ := h
  exact ⟨A, c, hv, Kd.R_below hr hb⟩
theorem R_alloc (h : RM d mark e w base ok v xs) (o : Obj) : RM d mark e (w.alloc o) base ok v xs := R_below h (below_alloc (Below.refl _ _) o)
theorem R_drew (h : RM d mark e w base ok v xs) : RM d mark e w.drew base ok v xs := R_below h (below_drew (Below.refl _ _))
theorem R_drewN (h : RM d mark e w base ok v xs) (m : Nat) : RM d mark e (w.drewN m) base ok v xs := R_below h (pw_below_drewN (Below.refl _ _) m)
theorem R_slice (h : RM d mark e w base ok v xs) : ∃ A c, v = .slice A xs.length c := by
  obtain ⟨A, c, hv, _⟩ := h
  exact ⟨A, c, hv⟩
theorem R_R (h : RM d mark e w base ok v xs) : d.R e w base ok v xs := by
  obtain ⟨A, c, rfl, hr⟩ := h
  have := Kd.R_take (m := xs.length) hr (by simp)
  simpa using this
theorem R_reads' {A : Option Addr} {n c : Nat} (h : RM d mark e w base ok (.slice A n c) xs) : n = xs.length ∧ n ≤ c ∧ d.C w A xs.length xs := Kd.R_reads' (R_R h)
theorem C_alloc {A : Option Addr} {n : Nat} (h : CM d mark w A n xs) (o : Obj) : CM d mark (w.alloc o) A n xs := ⟨Kd.C_alloc h.1 o, Kd.C_alloc h.2 o⟩
theorem C_drew {A : Option Addr} {n : Nat} (h : CM d mark w A n xs) : CM d mark w.drew A n xs := ⟨Kd.C_drew h.1, Kd.C_drew h.2⟩
theorem C_drewN {A : Option Addr} {n : Nat} (h : CM d mark w A n xs) (m : Nat) : CM d mark (w.drewN m) A n xs := ⟨Kd.C_drewN h.1 m, Kd.C_drewN h.2 m⟩
end
theorem cut_room {P : Program} (t e : TypeId) (kh : IntKind) {i : TypeInfo} (ht : P.underlying t = some (.slice e)) (hi : P.info? e = some i) (A : Option Addr) (n c : Nat) (j : Int) (h0 : 0 ≤ j) (hm : j ≤ c) :
    ∀ W : World, (Instr.slice t (.slice A n c) none (some (.int kh j)) none).run P W = .ok (.slice A j.toNat c) W := by
  intro W
  have hel : P.elem t = e := by simp [Program.elem, ht]
  have hu : P.underlying t = some (.slice (P.elem t)) := by rw [hel]; exact ht
  have ha : (A.map fun x => x.add 0) = A := by cases A <;> simp [Addr.add]
  rw [run_slice_h W t A n c hu kh j h0 (by omega), hel]
  simp [sizeOf, typeInfo, hi, sliced, Result.andThen, ha]
end Go.Proofs.Ytchgpcgolgcfdaa.Lent
end
section
namespace Go.Proofs.Ytchgpcgolgcfdaa.Hp
open Go Go.RowKit Go.Proofs.Ytchgpcgolgcfdaa.PNum Go.Proofs.Ytchgpcgolgcfdaa.BkW Go.Proofs.Ytchgpcgolgcfdaa.PuIkC Go.Proofs.YtchgpcgolgcfdaaW.PrintWords Go.Proofs.YtchgpcgolgcfdaaW.PrintLast Go.Proofs.YtchgpcgolgcfdaaW.PrintMore Go.Proofs.YtchgpcgolgcfdaaW.Pu Go.Proofs.YtchgpcgolgcfdaaW.PuMrg Go.Proofs.YtchgpcgolgcfdaaW.PuHeap
set_option linter.unusedVariables false
set_option linter.unusedSimpArgs false
theorem infoH : (Try.prog.info? 67).map (fun i => (i.zero, i.size, i.bytes)) = some (some (.agg #[.slice none 0 0, .int .i64 0]), 2, 32) := by kernel_rfl
set_option maxHeartbeats 8000000 in
set_option maxRecDepth 100000 in
theorem up_calls (g : Nat) (w : World) : Calls Try.prog 56 #[.iface 69 (.pointer (some ⟨g, 0, none⟩)), .int .i64 0] w fun e w' => e = .returned (.tuple #[]) ∧ Below w.heap.size w w' := by
  go_enter Try.func56, Try.ntmps56
  go_wp2
  go_loopw [1] (fun v1 w' => v1 = .int .i64 0 ∧ w' = w) (fun _ _ => 0)
  case atStart => exact ⟨rfl, rfl⟩
  case round =>
    obtain ⟨rfl, rfl⟩ := hrel
    go_wp2
    first | go_end0 | ((try simp only [Exit.inBlock, Exit.then]); refine bodyPost_ret (results_none rfl _ _ _) rfl ?_)
    exact ⟨rfl, Below.refl _ _⟩
set_option maxHeartbeats 8000000 in
set_option maxRecDepth 100000 in
theorem hpop_calls {w0 wb w : World} {g c n : Nat} {A : Option Addr} {hs : List Fr} (h : Hm w0 wb w g A c hs) (hn : hs.length = n + 1) (hL : n ≤ 1000) :
    Calls Try.prog 112 #[.pointer (some ⟨g, 0, none⟩)] w fun e w' => (∃ v, e = .returned v) ∧ Hm w0 wb w' g A c (hs.take n) := by
  have hc : w.cell? ⟨g, 0, none⟩ = some (.slice A (n + 1) c) := by rw [← hn]; exact h.cell
  obtain ⟨G, o, rfl, hne, hG⟩ := h.some_ (by omega)
  obtain ⟨r0, r1⟩ := cells_of h.row (show n < hs.length by omega)
  have hcc : n + 1 ≤ c := by
    obtain ⟨_, _, e, hc'⟩ := h.row.slice
    injection e with _ _ e
    omega
  obtain ⟨ih, hih, _, hsz, _⟩ := info_parts infoH
  have hcut := fun W : World => Lent.cut_room (P := Try.prog) 65 67 .i64 Try.underlying65 hih (some ⟨G, o, none⟩) (n + 1) c (n : Int) (Int.natCast_nonneg _) (by omega) W
  simp only [Int.toNat_natCast] at hcut
  have HH := Aside0.mk h
  have hlen : (hs.take n).length = n := by rw [List.length_take]; omega
  have hen : (encL encH hs).take (n * 2) = encL encH (hs.take n) := by
    have e1 : encL encH hs = encL encH (hs.take n) ++ encL encH (hs.drop n) := by rw [← encL_append, List.take_append_drop]
    rw [e1, List.take_append_of_le_length (by rw [encH_len, hlen]; exact Nat.le_refl _)]
    exact List.take_of_length_le (by rw [encH_len, hlen]; exact Nat.le_refl _)
  have hgs : w.heap.size ≠ g := Nat.ne_of_gt (blk_lt h.blk)
  clear h
  generalize hs[n].A = An at *
  generalize hs[n].l.length = ln at *
  generalize hs[n].c = cn at *
  generalize (hs[n].p : Int) = pn at *
  have hc1 : (w.alloc (.cells #[.slice An ln cn, .int .i64 pn] 67)).cell? ⟨g, 0, none⟩ = some (.slice (some ⟨G, o, none⟩) (n + 1) c) := by rw [← hn]; exact (blk_cell (blk_alloc HH.out.blk _) 0).trans rfl
  have hf1 : (w.alloc (.cells #[.slice An ln cn, .int .i64 pn] 67)).frozen? ⟨g, 0, none⟩ = false := blk_frozen (blk_alloc HH.out.blk _) 0
  have hx0 : ((w.alloc (.cells #[.slice An ln cn, .int .i64 pn] 67)).setCell ⟨g, 0, none⟩ (.slice (some ⟨G, o, none⟩) n c)).cell? ⟨w.heap.size, 0, none⟩ = some (.slice An ln cn) := (blk_cell (blk_far (blk_new w (.cells #[.slice An ln cn, .int .i64 pn] 67)) hgs _) 0).trans rfl
  have hx1 : ((w.alloc (.cells #[.slice An ln cn, .int .i64 pn] 67)).setCell ⟨g, 0, none⟩ (.slice (some ⟨G, o, none⟩) n c)).cell? ⟨w.heap.size, 1, none⟩ = some (.int .i64 pn) := (blk_cell (blk_far (blk_new w (.cells #[.slice An ln cn, .int .i64 pn] 67)) hgs _) 1).trans rfl
  have p1 : (0 : Int) ≤ (n : Int) := Int.natCast_nonneg _
  have p2 : (n : Int) < ((n + 1 : Nat) : Int) := by omega
  have p3 : (n : Int) ≤ 1000 := by omega
  go_enter Try.func112, Try.ntmps112
  go_wp2
  go_ret
  refine ⟨⟨_, rfl⟩, ?_⟩
  have hb1 : Below w.heap.size w (w.alloc (.cells #[.slice An ln cn, .int .i64 pn] 67)) := below_alloc (Below.refl _ _) _
  refine ⟨?_, ?_, ?_, HH.out.gb, below_set (below_step HH.out.bel hb1) HH.out.gb, HH.out.fr.trans ((Kf.of_below hb1 g _).trans ⟨by simp [World.setCell], fun k _ hk _ => Below.heap_setCell _ _ _ k (fun e => hk e)⟩), fun x hx => HH.out.ls x (List.mem_of_mem_take hx)⟩
  · rw [hlen]
    exact blk_put (blk_alloc HH.out.blk _) 0 _ rfl
  · rw [hlen, ← hen]
    have h1 := (HH.out.row.below hb1)
    rw [hn] at h1
    refine (h1.take (m := n) (by omega)).move (fun k hk => Below.heap_setCell _ _ _ k (fun e => ?_))
    have : k = G := by simpa [Value.ownBlock] using hk.symm
    exact hne (this.symm.trans e)
  · rw [hlen]
    exact fun k hk => HH.out.rb k (by rw [← hk]; rfl)
set_option maxHeartbeats 8000000 in
set_option maxRecDepth 100000 in
theorem fix_calls {w0 wb w : World} {g c : Nat} {A : Option Addr} {hs : List Fr} (h : Hm w0 wb w g A c hs) (hL : hs.length ≤ 1000) (hx : Hx leF (fv hs) hs.length 0 0) (hne : ∀ k, k < hs.length → (fv hs k).l ≠ []) :
    Calls Try.prog 30 #[.iface 69 (.pointer (some ⟨g, 0, none⟩)), .int .i64 0] w fun e w' => e = .returned (.tuple #[]) ∧ ∃ hs', Hm w0 wb w' g A c hs' ∧ Hp leF (fv hs') hs'.length 0 ∧ hs'.Perm hs := by
  have mm := m_len g _ w h.cell
  have HM := Aside0.mk h
  have HX := Aside0.mk hx
  have HNN := Aside0.mk hne
  clear h hx hne
  go_enter Try.func30, Try.ntmps30
  go_wp2_with (first
    | (go_at_call 107; refine (len_calls _ _ _ _).mono ?_; rintro e w1 ⟨rfl, hb⟩; have n0_ := Aside0.mk (HM.out.below hb); clear HM hb mm; have HM := n0_; clear n0_)
    | (go_at_call 55; refine (down_calls (lo := 0) (i0 := 0) HM.out (Nat.le_refl _) hL (by omega) (Nat.le_refl _) HX.out HNN.out).mono ?_; rintro e w2 ⟨b, rfl, hs', hm, hp, hq, _⟩; have HM2 := Aside0.mk hm; have HP := Aside0.mk hp; have HQ2 := Aside0.mk hq; clear HM hm hp hq; cases b)
    | (go_at_call 56; refine (up_calls g _).mono ?_; rintro e w3 ⟨rfl, hb⟩; have n0_ := Aside0.mk (HM2.out.below hb); clear HM2 hb; have HM2 := n0_; clear n0_))
  all_goals
    (try go_wp2_with (first | (go_at_call 56; refine (up_calls g _).mono ?_; rintro e w3 ⟨rfl, hb⟩; have n0_ := Aside0.mk (HM2.out.below hb); clear HM2 hb; have HM2 := n0_; clear n0_)))
    first | go_end0 | ((try simp only [Exit.inBlock, Exit.then]); refine bodyPost_ret (results_none rfl _ _ _) rfl ?_)
    exact ⟨rfl, hs', HM2.out, by rw [HQ2.out.length_eq]; exact HP.out, HQ2.out⟩
end Go.Proofs.Ytchgpcgolgcfdaa.Hp
end
section
namespace Go.Proofs.Ytchgpcgolgcfdaa.Hp
open Go Go.RowKit Go.Proofs.Ytchgpcgolgcfdaa.PNum Go.Proofs.Ytchgpcgolgcfdaa.BkW Go.Proofs.Ytchgpcgolgcfdaa.PuIkC Go.Proofs.YtchgpcgolgcfdaaW.PrintWords Go.Proofs.YtchgpcgolgcfdaaW.PrintLast Go.Proofs.YtchgpcgolgcfdaaW.PrintMore Go.Proofs.YtchgpcgolgcfdaaW.Pu Go.Proofs.YtchgpcgolgcfdaaW.PuMrg Go.Proofs.YtchgpcgolgcfdaaW.PuHeap
set_option linter.unusedVariables false
set_option linter.unusedSimpArgs false
set_option maxHeartbeats 8000000 in
set_option maxRecDepth 100000 in
theorem pop_calls {w0 wb w : World} {g c n : Nat} {A : Option Addr} {hs : List Fr} (h : Hm w0 wb w g A c hs) (hn : hs.length = n + 1) (hL : n ≤ 900) (hp : Hx leF (fv hs) hs.length 0 0) (hne : ∀ k, 0 < k → k < hs.length → (fv hs k).l ≠ []) :
    Calls Try.prog 31 #[.iface 69 (.pointer (some ⟨g, 0, none⟩))] w fun e w' => (∃ v, e = .returned v) ∧ ∃ hs', Hm w0 wb w' g A c hs' ∧ Hp leF (fv hs') hs'.length 0 ∧ (hs' ++ [fv hs 0]).Perm hs := by
  have mm := m_len g _ w h.cell
  have ms := m_swap g _ w h.cell
  have mp := m_pop g
  have HM := Aside0.mk h
  have h0 : 0 < hs.length := by omega
  have h1 : n < hs.length := by omega
  have HX : Aside0 (Hx leF (fv (swL hs 0 n)) n 0 0) := ⟨by
    rw [fv_sw hs h0 h1]
    refine ⟨fun c_ h0_ hc_ hl_ hp_ => ?_, fun c_ _ _ _ h1_ _ => by omega⟩
    have := hp.1 c_ h0_ (by omega) hl_ hp_
    unfold sw
    rw [if_neg hp_, if_neg (by omega), if_neg (by omega), if_neg (by omega)]
    exact this⟩
  have HNN : Aside0 (∀ k, k < n → (fv (swL hs 0 n) k).l ≠ []) := ⟨by
    intro k hk
    rw [fv_sw hs h0 h1]
    unfold sw
    split
    · exact hne n (by omega) h1
    · rw [if_neg (by omega)]
      exact hne k (by omega) (by omega)⟩
  have H0 : Aside0 (fv (swL hs 0 n) n = fv hs 0) := ⟨by
    rw [fv_sw hs h0 h1]
    unfold sw
    by_cases e : n = 0
    · subst e; rw [if_pos rfl]
    · rw [if_neg e, if_pos rfl]⟩
  have HP1 := Aside0.mk (swL_perm hs 0 n)
  have HL1 := swL_len hs 0 n
  clear h hp hne
  have hn3 : (n : Int) ≤ 900 := by omega
  go_enter Try.func31, Try.ntmps31
  go_wp2_with (first
    | (go_at_call 107; refine (len_calls _ _ _ _).mono ?_; rintro e w1 ⟨rfl, hb⟩; have n0_ := Aside0.mk (HM.out.below hb); clear HM hb mm ms; have HM := n0_; clear n0_; have ms := m_swap g _ _ HM.out.cell)
    | (go_at_call 109; refine (HM.out.swap_ (i := 0) (j := n) (by omega) (by omega) (by omega) h0 h1).mono ?_; rintro e w2 ⟨rfl, hh⟩; clear HM ms; have HM := Aside0.mk hh; clear hh)
    | (go_at_call 55; refine (down_calls (lo := 0) (i0 := 0) (n := n) HM.out (by omega) (by omega) (by omega) (Nat.le_refl _) HX.out HNN.out).mono ?_; rintro e w3 ⟨b, rfl, hs2, hm, hp, hq, ht⟩; have HM2 := Aside0.mk hm; have HP := Aside0.mk hp; have HQ2 := Aside0.mk hq; have HT := Aside0.mk ht; clear HM hm hp hq ht)
    | (go_at_call 112; refine (hpop_calls (n := n) HM2.out (by rw [HQ2.out.length_eq, HL1]; exact hn) (by omega)).mono ?_; rintro e w4 ⟨⟨v, rfl⟩, hh⟩; have HM3 := Aside0.mk hh; clear hh))
  go_ret
  have e2 : hs2.length = n + 1 := by rw [HQ2.out.length_eq, HL1]; exact hn
  have e3 : (hs2.take n).length = n := by rw [List.length_take]; omega
  refine ⟨⟨_, rfl⟩, hs2.take n, HM3.out, ?_, ?_⟩
  · rw [e3]
    refine HP.out.congr (fun k hk => ?_)
    rw [fv_get (by omega), fv_get (by omega), List.getElem_take]
  · have e4 : hs2.take n ++ [fv hs 0] = hs2 := by
      have e5 : fv hs 0 = hs2[n]'(by omega) := by
        rw [← H0.out, ← HT.out n (Nat.le_refl _), fv_get (by omega)]
      rw [e5]
      have := List.take_append_drop n hs2
      conv => rhs; rw [← this, List.drop_eq_getElem_cons (by omega), List.drop_of_length_le (by omega)]
    rw [e4]
    exact HQ2.out.trans HP1.out
set_option maxHeartbeats 8000000 in
set_option maxRecDepth 100000 in
theorem init_calls {w0 wb w : World} {g c n : Nat} {A : Option Addr} {hs : List Fr} (h : Hm w0 wb w g A c hs) (hn : hs.length = n) (hL : n ≤ 900) (hne : ∀ x ∈ hs, x.l ≠ []) :
    Calls Try.prog 29 #[.iface 69 (.pointer (some ⟨g, 0, none⟩))] w fun e w' => e = .returned (.tuple #[]) ∧ ∃ hs', Hm w0 wb w' g A c hs' ∧ Hp leF (fv hs') hs'.length 0 ∧ hs'.Perm hs := by
  have mm := m_len g _ w h.cell
  have HM := Aside0.mk h
  clear h
  have hn3 : (n : Int) ≤ 900 := by omega
  have hq : Int.tdiv (n : Int) 2 = ((n / 2 : Nat) : Int) := by rw [Int.tdiv_eq_ediv_of_nonneg (by omega)]; omega
  obtain ⟨m, hm⟩ : ∃ m, m = n / 2 := ⟨_, rfl⟩
  rw [← hm] at hq
  have hm9 : (m : Int) ≤ 450 := by omega
  go_enter Try.func29, Try.ntmps29
  go_wp2_with (first
    | (go_at_call 107; refine (len_calls _ _ _ _).mono ?_; rintro e w1 ⟨rfl, hb⟩; have n0_ := Aside0.mk (HM.out.below hb); clear HM hb mm; have HM := n0_; clear n0_))
  go_loopw [3] (fun v3 w' => ∃ (k : Nat) (hs' : List Fr), v3 = .int .i64 ((k : Int) - 1) ∧ k ≤ 450 ∧ Aside0 (Hm w0 wb w' g A c hs') ∧ Aside0 (Hp leF (fv hs') n k) ∧ Aside0 (hs'.Perm hs)) (fun v3 _ => (intOf v3 + 1).toNat)
  case atStart => exact ⟨m, hs, by go_num, by omega, HM, ⟨by rw [hm]; exact Hp.first⟩, ⟨List.Perm.refl _⟩⟩
  case round =>
    clear HM
    obtain ⟨k, hs', rfl, hk, HM, HX, HP⟩ := hrel
    by_cases h0 : 0 < k
    · obtain ⟨j, rfl⟩ : ∃ j, k = j + 1 := ⟨k - 1, by omega⟩
      have ej : ((j + 1 : Nat) : Int) - 1 = (j : Int) := by omega
      have t1 : decide ((0 : Int) ≤ (j : Int)) = true := decide_eq_true (by omega)
      have hln : hs'.length = n := by rw [HP.out.length_eq]; exact hn
      rw [ej]
      go_wp2_with (first
        | (go_at_call 55; refine (down_calls (lo := j) (i0 := j) (n := n) HM.out (by omega) (by omega) (by omega) (Nat.le_refl _) HX.out.next (fun k_ hk_ => by rw [fv_get (by omega)]; exact hne _ (HP.out.mem_iff.1 (List.getElem_mem (by omega))))).mono ?_; rintro e w3 ⟨b, rfl, hs2, hm2, hp, hq2, ht⟩; have HM2 := Aside0.mk hm2; have HPP := Aside0.mk hp; have HQ2 := Aside0.mk hq2; clear HM hm2 hp hq2 ht))
      go_roundw
      case rel => exact ⟨j, hs2, by go_num, by omega, HM2, HPP, ⟨HQ2.out.trans HP.out⟩⟩
      case measure => simp [intOf]
    · obtain rfl : k = 0 := by omega
      have ej : ((0 : Nat) : Int) - 1 = -1 := by omega
      have hln : hs'.length = n := by rw [HP.out.length_eq]; exact hn
      rw [ej]
      go_wp2
      first | go_end0 | ((try simp only [Exit.inBlock, Exit.then]); refine bodyPost_ret (results_none rfl _ _ _) rfl ?_)
      exact ⟨rfl, hs', HM.out, by rw [hln]; exact HX.out, HP.out⟩
end Go.Proofs.Ytchgpcgolgcfdaa.Hp
end
section
namespace Go.Proofs.Ytchgpcgolgcfdaa.SetS
open Go Go.RowKit Go.Maps Go.Proofs.YtchgpcgolgcfdaaW.PrintWords
theorem laidOut : laidOutB Try.prog = true := by kernel_rfl
theorem law0 : WideMaps.KeyLaw Try.prog 74 := deep_law_laid laidOut (m := 2) (by omega) (of_decide_eq_true (by kernel_rfl)) (by kernel_rfl) (by rw [Try.underlying74])
theorem law : Keyed Try.prog 74 := Keyed.of_law law0
theorem unit0 (w : World) : (zeroValue 75).run Try.prog w = .ok (.agg #[]) w := by kernel_rfl
abbrev K2 := ByteArray × Int
def kv (x : K2) : Value := .agg #[.string x.1, .int .u64 x.2]
def kl (x : K2) : Lit := .string (keyBytes [.string x.1.data.toList, .int .u64 x.2])
theorem cells2 : Try.prog.cellsOf 74 = 2 := by kernel_rfl
theorem kt : Try.prog.keyType 74 = true := by kernel_rfl
theorem sz : 1 < Try.prog.types.size := of_decide_eq_true (by kernel_rfl)
theorem key {x : K2} (h1 : x.1.size ≤ maxLen) (h2 : (Lit.int .u64 x.2).wf = true) : keyOf Try.prog 74 (kv x) = some (kl x) := by
  have hu := Try.underlying74
  have hs := Try.underlying9
  have hi := Try.underlying27
  have c1 : Try.prog.cellsOf 9 = 1 := by kernel_rfl
  have c2 : Try.prog.cellsOf 27 = 1 := by kernel_rfl
  have hf : (kv x).formed Try.prog 74 = true := by simp [kv, Value.formed, hu, cells2]
  obtain ⟨m, hm⟩ : ∃ m, Try.prog.types.size = m + 1 := ⟨Try.prog.types.size - 1, by have := sz; omega⟩
  unfold keyOf
  rw [hu]
  simp only [kt, hf, Bool.and_self, if_true]
  rw [hm]
  simp [Program.keyLits, hu, hs, hi, cells2, c1, c2, kv, Value.cells, h1, h2, kl]
def ok (x : K2) : Prop := x.1.size ≤ maxLen ∧ (Lit.int .u64 x.2).wf = true
theorem kl_inj {x y : K2} (hx : ok x) (hy : ok y) (h : kl x = kl y) : x = y := by
  have h1 := law.inj (key hx.1 hx.2) ((key hy.1 hy.2).trans (congrArg some h.symm))
  have h2 : x.1 = y.1 ∧ x.2 = y.2 := by
    simp [kv] at h1
    exact h1
  exact Prod.ext h2.1 h2.2
def D (L : List K2) : DataW Unit := setOf (.agg []) (L.map kl)
def Is (W : World) (b : Nat) (L : List K2) : Prop := W.ownsMap Try.prog 74 (unitElem (H := Unit)) b L.length (D L)
theorem has_D {L : List K2} {x : K2} (hL : ∀ y ∈ L, ok y) (hx : ok x) : Maps.has (D L) (kl x) = L.any (fun y => decide (x = y)) := by
  unfold D
  rw [has_setOf _ _ _ (fun y hy => by obtain ⟨_, _, rfl⟩ := List.mem_map.1 hy; trivial), List.any_map]
  induction L with
  | nil => simp
  | cons a L ih =>
    have h1 := ih (fun y hy => hL y (List.mem_cons_of_mem _ hy))
    have h2 : ((fun y : Lit => y.sameKey (kl x)) ∘ kl) a = decide (x = a) := by
      by_cases e : x = a
      · subst e
        simp [kl, Lit.sameKey]
      · rw [decide_eq_false e]
        have : ¬ kl a = kl x := fun h => e (kl_inj (hL a (by simp)) hx h).symm
        simp [kl] at this
        simp [kl, Lit.sameKey, this]
    rw [List.any_cons, h1, h2, List.any_cons]
theorem D_snoc (L : List K2) (x : K2) : (D L).put (kl x) (.agg []) = D (L ++ [x]) := by
  unfold D
  rw [List.map_append]
  exact (setOf_snoc _ _ _).symm
theorem Is.new (w : World) : Is (w.alloc (.map #[] 0)) w.heap.size [] := World.ownsMap_made _ _ _ _
theorem Is.lt {W : World} {b : Nat} {L : List K2} (h : Is W b L) : b < W.heap.size := World.ownsMap.lt h
theorem Is.grown {W W1 : World} {b : Nat} {L : List K2} {row : Option Nat} (h : Is W b L) (hg : W.grownBy W1 row) (hne : some b ≠ row) : Is W1 b L := World.ownsMap.kept h hg hne
theorem Is.below {W W1 : World} {b : Nat} {L : List K2} (h : Is W b L) (hb : Below W.heap.size W W1) : Is W1 b L := h.grown (grown_of_below hb none) (by simp)
theorem Is.alloc {W : World} {b : Nat} {L : List K2} (h : Is W b L) (o : Obj) : Is (W.alloc o) b L := World.ownsMap.alloc h o
theorem Is.map {W : World} {b : Nat} {L : List K2} (h : Is W b L) : ∃ es c, W.heap[b]? = some (.map es c) := by
  obtain ⟨es, c, hb, _⟩ := h
  exact ⟨es, c, hb⟩
theorem Is.ne {W : World} {b : Nat} {L : List K2} (h : Is W b L) {k : Nat} {cs : Array Value} {t : TypeId} {fr : Nat × Nat} (hk : W.heap[k]? = some (.cells cs t fr)) : b ≠ k := by
  rintro rfl
  obtain ⟨es, c, hb⟩ := h.map
  rw [hb] at hk
  cases hk
theorem Is.far {W : World} {b : Nat} {L : List K2} (h : Is W b L) {p : Addr} (hp : b ≠ p.block) (u : Value) : Is (W.setCell p u) b L := World.ownsMap.setCell h hp u
theorem Is.move {W W1 : World} {b : Nat} {L : List K2} (h : Is W b L) (hm : W1.heap[b]? = W.heap[b]?) : Is W1 b L := by
  obtain ⟨es, c, hb, hr⟩ := h
  exact ⟨es, c, hm.trans hb, hr⟩
end Go.Proofs.Ytchgpcgolgcfdaa.SetS
end
section
namespace Go.Proofs.Ytchgpcgolgcfdaa.Hp
open Go Go.RowKit Go.Proofs.Ytchgpcgolgcfdaa.PNum Go.Proofs.Ytchgpcgolgcfdaa.BkW Go.Proofs.Ytchgpcgolgcfdaa.PuIkC Go.Proofs.YtchgpcgolgcfdaaW.PrintWords Go.Proofs.YtchgpcgolgcfdaaW.PrintLast Go.Proofs.YtchgpcgolgcfdaaW.PrintMore Go.Proofs.YtchgpcgolgcfdaaW.Pu Go.Proofs.YtchgpcgolgcfdaaW.PuMrg Go.Proofs.YtchgpcgolgcfdaaW.PuHeap
set_option linter.unusedVariables false
set_option linter.unusedSimpArgs false
section
variable {P : Program} {ops : Array Oper} {rest : List Oper} {o : Oper} {a : Act} {Q : Exit → Act → World → Prop}
theorem wp_append_raw {W : World} (hgd : o.guard = none) (s x : Operand) (t e : TypeId) (z : Value) (size bytes : Nat)
    (ho : o.op = .call { callee := .builtin .append, args := #[s, x], argTypes := #[t, t] })
    (ht : P.underlying t = some (.slice e)) (hinfo : (P.info? e).map (fun i => (i.zero, i.size, i.bytes)) = some (some z, size, bytes)) (hz : z.cells.size = size) (hs0 : 0 < size)
    (v : Value) (n : Nat) (xs : List Value) (ad : Addr) (m c : Nat) (news : List Value) (hs : a.eval s = v) (hx : a.eval x = .slice (some ad) m c) (HO : Rw W e size v n xs) (hln : news.length = m * size) (hnews : ∀ j u, news[j]? = some u → W.cell? (ad.add j) = some u) (h1 : ∀ u ∈ news, u.oneCell' = true) (hm : 0 < m)
    (hl : (n + m) * bytes ≤ 140737488355328) (hl2 : n + m ≤ maxLen)
    (h : ∀ v1 w1, Rw w1 e size v1 (n + m) (xs ++ news) → W.grownBy w1 v.ownBlock → ((∃ A' c', v = .slice A' n c' ∧ v1 = .slice A' (n + m) c') ∨ ∃ b, v1.ownBlock = some b ∧ W.heap.size ≤ b) → wpList P ops Q rest (a.put o.dst v1) w1) :
    wpList P ops Q (o :: rest) a W := by
  obtain ⟨i0, hi, hzz⟩ := Option.map_eq_some_iff.1 hinfo
  simp only [Prod.mk.injEq] at hzz
  obtain ⟨hz0, hz1, hz2⟩ := hzz
  obtain ⟨v1, w1, hr, h1', h2, h3, h4⟩ := Rw.append (P := P) W t o.type e i0 z size bytes ht hi hz0 hz1 hz2 hz hs0 v n xs HO ad m c news hln hnews h1 hm hl2 hl
  refine wpList_plain hgd fun K hK => ?_
  unfold Oper.wp execOp
  simp only [ho, resolve, invoke, builtin, Sem.run_bind, Sem.run_pure, Result.andThen_ok, List.map_toArray, List.map_cons, List.map_nil, hs, hx, hr]
  exact hK _ _ (h v1 w1 h1' h3 h4)
end
theorem Hm.push {w0 wb w w1 w2 : World} {g c : Nat} {A : Option Addr} {hs : List Fr} (h : Hm w0 wb w g A c hs) (hb : Below w.heap.size w w1) (x : Fr) (hx : Kd.C kE w0 x.A x.l.length x.l ∧ x.l.length ≤ x.c) {v1 : Value}
    (hr : Rw w2 67 2 v1 (hs.length + 1) (encL encH hs ++ encH x)) (hg : w1.grownBy w2 (Value.slice A hs.length c).ownBlock) (hat : (∃ A' c', (Value.slice A hs.length c) = .slice A' hs.length c' ∧ v1 = .slice A' (hs.length + 1) c') ∨ ∃ b, v1.ownBlock = some b ∧ w1.heap.size ≤ b) :
    ∃ A' c', v1 = .slice A' (hs.length + 1) c' ∧ w2.cell? ⟨g, 0, none⟩ = some (.slice A hs.length c) ∧ w2.frozen? ⟨g, 0, none⟩ = false ∧ Hm w0 (w2.setCell ⟨g, 0, none⟩ v1) (w2.setCell ⟨g, 0, none⟩ v1) g A' c' (hs ++ [x]) := by
  have h1 := h.below hb
  obtain ⟨A', c', rfl, hcc⟩ := hr.slice
  have hne : some g ≠ (Value.slice A hs.length c).ownBlock := fun e => by
    obtain ⟨cur, hc⟩ := h1.row.typed g e.symm
    have := h1.blk.symm.trans hc
    simp at this
  have hblk := blk_grown h1.blk hg hne
  have hB : Below w0.heap.size w0 w2 := h1.bel.grown hg h1.bel.size (fun k hk => h.rb k hk)
  have hen : encL encH hs ++ encH x = encL encH (hs ++ [x]) := by rw [encL_append]; rfl
  have hlen : (hs ++ [x]).length = hs.length + 1 := by simp
  refine ⟨A', c', rfl, (blk_cell hblk 0).trans rfl, blk_frozen hblk 0, ?_, ?_, ?_, h.gb, below_set hB h.gb, Kf.refl _ _ _, ?_⟩
  · rw [hlen]
    exact blk_put hblk 0 _ rfl
  · rw [hlen, ← hen]
    refine hr.move (fun k hk => Below.heap_setCell _ _ _ k (fun e => ?_))
    obtain ⟨cur, hc⟩ := hr.typed k hk
    rw [e] at hc
    have := hblk.symm.trans hc
    simp at this
  · rw [hlen]
    intro k hk
    rcases hat with ⟨A2, c2, e1, e2⟩ | ⟨b, e1, e2⟩
    · injection e1 with e1 _ _
      injection e2 with e2 _ _
      subst e1; subst e2
      exact h.rb k (by rw [← hk]; exact own_sl _ _ _ _ _)
    · rw [e1] at hk
      injection hk with hk
      have := h1.bel.size
      omega
  · intro y hy
    rcases List.mem_append.1 hy with q | q
    · exact h.ls y q
    · rw [List.mem_singleton.1 q]; exact hx
def hdsOf (ls : List (List E)) : List (Hd E) := ls.zipIdx.filter fun x => !x.1.isEmpty
theorem hdsOf_snoc (ls : List (List E)) (l : List E) : hdsOf (ls ++ [l]) = hdsOf ls ++ (if l = [] then [] else [(l, ls.length)]) := by
  unfold hdsOf
  rw [List.zipIdx_append, List.filter_append]
  congr 1
  cases l <;> simp
theorem hdsOf_start {ls : List (List E)} : Inv ce ls (hdsOf ls) [] := by
  refine Inv.start (fun h hh => ?_) (fun i l h1 h2 => ?_)
  · obtain ⟨h1, h2⟩ := List.mem_filter.1 hh
    refine ⟨fun e => by rw [e] at h2; simp at h2, ?_⟩
    exact List.mem_zipIdx_iff_getElem?.1 h1
  · refine List.mem_filter.2 ⟨List.mem_zipIdx_iff_getElem?.2 h1, ?_⟩
    cases l with
    | nil => exact absurd rfl h2
    | cons a l => rfl
theorem lcells {w : World} {A : Option Addr} {n : Nat} {ls : List (List E)} (hC : Kd.C (Kd.slice 29 kE) w A n ls) {i : Nat} (hi : i < ls.length) :
    ∃ ad A' c', A = some ad ∧ (∀ V, Below w.heap.size w V → V.cell? (ad.add i) = some (.slice A' ls[i].length c')) ∧ ls[i].length ≤ c' ∧ Kd.C kE w A' ls[i].length ls[i] := by
  have hn : ls.length = n := hC.1
  obtain ⟨ad, rfl, h1⟩ := hC.2.2 (by omega)
  obtain ⟨cs, hsz, ⟨A', c', e, hc, hC'⟩, hcell⟩ := h1 i ls[i] (List.getElem?_eq_getElem hi)
  refine ⟨ad, A', c', rfl, fun V hb => ?_, hc, hC'⟩
  have h2 := hcell 0 (.slice A' ls[i].length c') (by rw [e]; rfl)
  have h3 : (ad.add (i * (Kd.slice 29 kE).sz)).add 0 = ad.add i := by
    show (ad.add (i * 1)).add 0 = ad.add i
    rw [Nat.mul_one]
    simp [Addr.add]
  first | exact pw_cell_below hb (h3 ▸ h2) | exact pw_cell_below hb h2
end Go.Proofs.Ytchgpcgolgcfdaa.Hp
end
section
namespace Go.Proofs.Ytchgpcgolgcfdaa.Hp
open Go Go.RowKit Go.Proofs.Ytchgpcgolgcfdaa.PNum Go.Proofs.Ytchgpcgolgcfdaa.BkW Go.Proofs.Ytchgpcgolgcfdaa.PuIkC Go.Proofs.YtchgpcgolgcfdaaW.PrintWords Go.Proofs.YtchgpcgolgcfdaaW.PrintLast Go.Proofs.YtchgpcgolgcfdaaW.PrintMore Go.Proofs.YtchgpcgolgcfdaaW.Pu Go.Proofs.YtchgpcgolgcfdaaW.PuMrg Go.Proofs.YtchgpcgolgcfdaaW.PuHeap
set_option linter.unusedVariables false
set_option linter.unusedSimpArgs false
section
variable {w0 wb W W1 : World} {g c : Nat} {A : Option Addr} {hs : List Fr}
theorem Hm.own (h : Hm w0 wb W g A c hs) : ∀ k, (Value.slice A 0 0).ownBlock = some k → ∃ x, W.heap[k]? = some (.cells x 67 (0, 0)) := fun k hk => h.row.typed k (by rw [← hk]; exact own_sl _ _ _ _ _)
theorem Hm.keepR (h : Hm w0 wb W g A c hs) (hk : Kf W W1 g A) {base : Nat} {ok : Nat → Prop} {v : Value} {xs : List E} (hr : Kd.R kE 29 W base ok v xs) : Kd.R kE 29 W1 base ok v xs :=
  Kd.R_mono (Kd.R_move (Kd.R_bound hr) (fun k hk' => by
    obtain ⟨_, _, hlt, q, hq, cells, hc⟩ := hk'
    have hqe : q = 29 := by
      rcases List.mem_cons.1 hq with e | e
      · exact e
      · have he : kE.E = [] := rfl
        rw [he] at e
        simp at e
    subst hqe
    refine hk.2 k hlt (fun e => ?_) (fun e => ?_)
    · subst e
      have := h.blk.symm.trans hc
      simp at this
    · obtain ⟨x, hx⟩ := h.own k e
      have := hx.symm.trans hc
      simp at this)) (fun _ hk => hk.1)
theorem Hm.keepB (h : Hm w0 wb W g A c hs) (hk : Kf W W1 g A) {b : Nat} {cs : Array Value} {t : TypeId} (hb : W.heap[b]? = some (.cells cs t (0, 0))) (h1 : t ≠ 65) (h2 : t ≠ 67) : W1.heap[b]? = some (.cells cs t (0, 0)) := by
  rw [hk.2 b (blk_lt hb) (fun e => ?_) (fun e => ?_)]
  · exact hb
  · subst e
    have := h.blk.symm.trans hb
    simp at this
    exact h1 this.2.symm
  · obtain ⟨x, hx⟩ := h.own b e
    have := hx.symm.trans hb
    simp at this
    exact h2 this.2.symm
theorem Hm.keepS (h : Hm w0 wb W g A c hs) (hk : Kf W W1 g A) {b : Nat} {L : List SetS.K2} (hb : SetS.Is W b L) : SetS.Is W1 b L := by
  refine hb.move (hk.2 b hb.lt (fun e => ?_) (fun e => ?_))
  · exact hb.ne h.blk e
  · obtain ⟨x, hx⟩ := h.own b e
    exact hb.ne hx rfl
def cutF (x : Fr) : Fr := ⟨if x.c = 1 then x.A else x.A.map (·.add (1 * 4)), x.c - 1, x.l.drop 1, x.p⟩
theorem Hm.cut (h : Hm w0 wb W g A c hs) (h0 : 0 < hs.length) (hb : Below W.heap.size W W1) {G o : Nat} (hA : A = some ⟨G, o, none⟩) (hl : (hs[0]'h0).l ≠ []) :
    Hm w0 (W1.setCell ⟨G, o, none⟩ (.slice (cutF (hs[0]'h0)).A (cutF (hs[0]'h0)).l.length (cutF (hs[0]'h0)).c)) (W1.setCell ⟨G, o, none⟩ (.slice (cutF (hs[0]'h0)).A (cutF (hs[0]'h0)).l.length (cutF (hs[0]'h0)).c)) g A c (hs.set 0 (cutF (hs[0]'h0))) := by
  subst hA
  have h1 := h.below hb
  obtain ⟨G', o', e, hne, hG⟩ := h1.some_ h0
  injection e with e
  injection e with e1 e2
  subst e1; subst e2
  obtain ⟨x, hx⟩ : ∃ x, x = hs[0]'h0 := ⟨_, rfl⟩
  rw [← hx] at hl ⊢
  have hlen : (hs.set 0 (cutF x)).length = hs.length := List.length_set
  have hput := h1.row.put (p := 0) (seg := [.slice (cutF x).A (cutF x).l.length (cutF x).c]) (by rw [encH_len]; simp; omega)
  have hset := encH_set (cutF x) hs 0 h0
  obtain ⟨r, hr⟩ : ∃ r, hs = x :: r := by
    cases hs with
    | nil => simp at h0
    | cons a r => exact ⟨r, by rw [hx]; rfl⟩
  have hen : (encL encH hs).take 0 ++ [.slice (cutF x).A (cutF x).l.length (cutF x).c] ++ (encL encH hs).drop (0 + [Value.slice (cutF x).A (cutF x).l.length (cutF x).c].length) = encL encH (hs.set 0 (cutF x)) := by
    rw [hr]
    rfl
  rw [hen] at hput
  refine ⟨?_, ?_, ?_, h.gb, below_set h1.bel hG, Kf.refl _ _ _, ?_⟩
  · rw [hlen]
    exact blk_far h1.blk (fun e => hne e.symm) _
  · rw [hlen]
    exact hput
  · rw [hlen]
    exact h.rb
  · intro y hy
    rcases List.mem_or_eq_of_mem_set hy with q | q
    · exact h.ls y q
    · subst q
      have hx2 := h.ls x (by rw [hx]; exact List.getElem_mem _)
      have hl0 : 0 < x.l.length := List.length_pos_iff.2 hl
      have hd := Kd.C_drop (m := 1) hx2.1 (by omega) hx2.2
      refine ⟨hd, ?_⟩
      show (x.l.drop 1).length ≤ x.c - 1
      rw [List.length_drop]
      have := hx2.2
      omega
end
end Go.Proofs.Ytchgpcgolgcfdaa.Hp
end
section
namespace Go.Proofs.Ytchgpcgolgcfdaa.Hp
open Go Go.RowKit Go.Proofs.Ytchgpcgolgcfdaa.PNum Go.Proofs.Ytchgpcgolgcfdaa.BkW Go.Proofs.Ytchgpcgolgcfdaa.PuIkC Go.Proofs.YtchgpcgolgcfdaaW.PrintWords Go.Proofs.YtchgpcgolgcfdaaW.PrintLast Go.Proofs.YtchgpcgolgcfdaaW.PrintMore Go.Proofs.YtchgpcgolgcfdaaW.Pu Go.Proofs.YtchgpcgolgcfdaaW.PuMrg Go.Proofs.YtchgpcgolgcfdaaW.PuHeap
set_option linter.unusedVariables false
set_option linter.unusedSimpArgs false
theorem enc_one (x : Fr) : ∀ u ∈ encH x, u.oneCell' = true := by
  intro u hu
  simp [encH] at hu
  rcases hu with rfl | rfl <;> rfl
theorem news_of (w : World) (x : Fr) {m : Nat} (h : m = x.l.length) : ∀ j u, (encH x)[j]? = some u → (w.alloc (.cells #[.slice x.A m x.c, .int .i64 (x.p : Int)] 67)).cell? ((⟨w.heap.size, 0, none⟩ : Addr).add j) = some u := by
  intro j u hu
  subst h
  have hb := blk_new w (.cells #[.slice x.A x.l.length x.c, .int .i64 (x.p : Int)] 67)
  rw [add_at, Nat.zero_add, blk_cell hb j]
  rw [← hu]
  cases j with
  | zero => rfl
  | succ j =>
    cases j with
    | zero => rfl
    | succ j => simp [encH]
theorem infoE : (Try.prog.info? 29).map (fun i => (i.zero, i.size, i.bytes)) = some (some (.agg #[.string ⟨#[]⟩, .int .u64 0, .int .i64 0, .string ⟨#[]⟩]), 4, 48) := by kernel_rfl
theorem cutF_run (x : Fr) (ae : Addr) (hae : x.A = some ae) (hl : x.l ≠ []) (hc : x.l.length ≤ x.c) : ∀ W : World, (Instr.slice 22 (.slice (some ae) x.l.length x.c) (some (.int .i64 1)) none none).run Try.prog W = .ok (.slice (cutF x).A (cutF x).l.length (cutF x).c) W := by
  intro W
  obtain ⟨ih, hih, _, hsz, _⟩ := info_parts infoE
  have hl0 : 0 < x.l.length := List.length_pos_iff.2 hl
  have h1 := cut_from (P := Try.prog) 22 29 .i64 Try.underlying22 hih 4 hsz (some ae) x.l.length x.c 1 (by omega) (by omega) W
  rw [h1]
  unfold cutF
  rw [hae, List.length_drop]
  rfl
def ek (e : E) : SetS.K2 := (e.f0, e.f1)
def wt (hs : List Fr) : Nat := (hs.map fun h => h.l.length).sum
theorem wt_perm {a b : List Fr} (h : a.Perm b) : wt a = wt b := (h.map _).sum_nat
theorem wt_start (ls : List (List E)) : ((hdsOf ls).map fun h => h.1.length).sum ≤ ls.flatten.length := by
  have : ∀ (xs : List (List E)) (k : Nat), (((xs.zipIdx k).filter fun x => !x.1.isEmpty).map fun h => h.1.length).sum ≤ xs.flatten.length := by
    intro xs
    induction xs with
    | nil => intro k; simp
    | cons a xs ih =>
      intro k
      rw [List.zipIdx_cons, List.filter_cons, List.flatten_cons, List.length_append]
      have := ih (k + 1)
      split
      · simp only [List.map_cons, List.sum_cons]
        omega
      · omega
  exact this ls 0
theorem SetS.row_ne {α : Type} {d : Kd α} {e : Nat} {W : World} {base : Nat} {ok : Nat → Prop} {v : Value} {xs : List α} {b : Nat} {L : List SetS.K2} (h : d.R e W base ok v xs) (hm : SetS.Is W b L) : some b ≠ v.ownBlock := by
  intro he
  obtain ⟨inner, ho⟩ := Kd.R_own h
  obtain ⟨cells, hc⟩ := own_typed ho b he.symm
  exact hm.ne hc rfl
theorem SetS.R_map {α : Type} {d : Kd α} {e : Nat} {W W1 : World} {base : Nat} {ok : Nat → Prop} {v : Value} {xs : List α} {b : Nat} {L : List SetS.K2} (h : d.R e W base ok v xs) (hm : SetS.Is W b L) (hg : W.grownBy W1 (some b)) : d.R e W1 base ok v xs :=
  Kd.R_mono (Kd.R_move (Kd.R_bound h) (fun k hk => by
    obtain ⟨_, _, hlt, _, _, cells, hc⟩ := hk
    refine hg.block k hlt ?_
    intro e
    injection e with e
    exact hm.ne hc e.symm)) (fun _ hk => hk.1)
theorem Hm.grownM {w0 wb w w1 : World} {g c : Nat} {A : Option Addr} {hs : List Fr} (h : Hm w0 wb w g A c hs) {b : Nat} {L : List SetS.K2} (hm : SetS.Is w b L) (hg : w.grownBy w1 (some b)) (hb : w0.heap.size ≤ b) : Hm w0 w1 w1 g A c hs :=
  ⟨blk_grown h.blk hg (fun e => SetS.Is.ne hm h.blk (Option.some.inj e).symm), h.row.move (fun k hk => hg.block k (h.row.lt k hk) (fun e => by
    obtain ⟨x, hx⟩ := h.row.typed k hk
    exact SetS.Is.ne hm hx (Option.some.inj e).symm)), h.rb, h.gb, h.bel.grown hg h.bel.size (fun k hk => by cases hk; exact hb), Kf.refl _ _ _, h.ls⟩
theorem Hm.grownR {w0 wb w w1 : World} {g c : Nat} {A : Option Addr} {hs : List Fr} (h : Hm w0 wb w g A c hs) {base : Nat} {ok : Nat → Prop} {v : Value} {xs : List E} (hr : Kd.R kE 29 w base ok v xs) (hg : w.grownBy w1 v.ownBlock) (hb : Below w0.heap.size w0 w1) : Hm w0 w1 w1 g A c hs := by
  have ht : ∀ k, v.ownBlock = some k → ∃ cells, w.heap[k]? = some (.cells cells 29 (0, 0)) := fun k hk => by
    obtain ⟨inner, ho⟩ := Kd.R_own hr
    exact own_typed ho k hk
  refine ⟨blk_grown h.blk hg (fun e => ?_), h.row.move (fun k hk => hg.block k (h.row.lt k hk) (fun e => ?_)), h.rb, h.gb, hb, Kf.refl _ _ _, h.ls⟩
  · obtain ⟨x, hx⟩ := ht g e.symm
    have := h.blk.symm.trans hx
    simp at this
  · obtain ⟨x, hx⟩ := ht k e.symm
    obtain ⟨y, hy⟩ := h.row.typed k hk
    have := hy.symm.trans hx
    simp at this
theorem any_ek (out : List E) (e : E) : (out.map ek).any (fun y => decide (ek e = y)) = true ↔ ∃ x ∈ out, ce x e = 0 := by
  rw [List.any_eq_true]
  constructor
  · rintro ⟨y, hy, h⟩
    obtain ⟨x, hx, rfl⟩ := List.mem_map.1 hy
    have h := of_decide_eq_true h
    unfold ek at h
    injection h with h1 h2
    exact ⟨x, hx, (ce_zero x e).2 ⟨h1.symm, h2.symm⟩⟩
  · rintro ⟨x, hx, h⟩
    obtain ⟨h1, h2⟩ := (ce_zero x e).1 h
    refine ⟨ek x, List.mem_map_of_mem hx, decide_eq_true ?_⟩
    unfold ek
    rw [h1, h2]
theorem Inv.round {lists : List (List E)} (hS : ∀ l ∈ lists, Srt ce l) {hs' : List Fr} {out : List E} (hI : Inv ce lists (hs'.map pr) out) {x : Fr} {r : List Fr} (hcons : hs' = x :: r) (hP : Hp leF (fv hs') hs'.length 0) {e : E} {t : List E} (het : x.l = e :: t) {hs2 : List Fr} (hq : hs2.Perm (if t = [] then r else cutF x :: r)) (bf : Bool) (hb : bf = true ↔ ∃ x ∈ out, ce x e = 0) :
    Inv ce lists (hs2.map pr) (if bf = true then out else out ++ [e]) := by
  have hpx : pr x = (e :: t, x.p) := by unfold pr; rw [het]
  have hpc : pr (cutF x) = (t, x.p) := by unfold pr cutF; simp [het]
  refine Inv.step (i := x.p) (rest := r.map pr) ordE zE hS hI (by rw [hcons, List.map_cons, hpx]) ?_ (hs2.map pr) ?_ bf hb
  · intro y hy
    obtain ⟨z, hz, rfl⟩ := List.mem_map.1 hy
    obtain ⟨i, hi, hz2⟩ := List.mem_iff_getElem.1 hz
    have h1 := hP.min leF_pre i hi
    have h2 : fv hs' 0 = x := by rw [hcons]; rfl
    have h3 : fv hs' i = z := by unfold fv; rw [← hz2]; simp [List.getD_eq_getElem?_getD, hi]
    rw [h2, h3] at h1
    unfold leF at h1
    rw [hpx] at h1
    exact h1
  · have := hq.map pr
    refine this.trans ?_
    split
    · exact List.Perm.refl _
    · rw [List.map_cons, hpc]
theorem wt_round {x : Fr} {r : List Fr} {e : E} {t : List E} (het : x.l = e :: t) {hs2 : List Fr} (hq : hs2.Perm (if t = [] then r else cutF x :: r)) : wt hs2 + 1 = wt (x :: r) := by
  rw [wt_perm hq]
  have h0 : (cutF x).l = t := by unfold cutF; rw [het]; rfl
  split
  · rename_i h
    subst h
    simp [wt, het]
    omega
  · simp [wt, h0, het]
    omega
theorem ok_of {lists : List (List E)} (hK : ∀ l ∈ lists, ∀ e ∈ l, SetS.ok (e.f0, e.f1)) {hs' : List Fr} {out : List E} (hI : Inv ce lists (hs'.map pr) out) {x : Fr} {r : List Fr} (hcons : hs' = x :: r) {e : E} {t : List E} (het : x.l = e :: t) : SetS.ok (ek e) ∧ ∀ y ∈ out.map ek, SetS.ok y := by
  constructor
  · obtain ⟨l, t1, h1, h2⟩ := hI.at_ (pr x) (List.mem_map_of_mem (by rw [hcons]; simp))
    refine hK l (List.mem_iff_getElem?.2 ⟨_, h1⟩) e ?_
    rw [h2]
    show e ∈ t1 ++ x.l
    rw [het]
    simp
  · intro y hy
    obtain ⟨z, hz, rfl⟩ := List.mem_map.1 hy
    obtain ⟨i, l, h1, h2, _⟩ := hI.sound z hz
    exact hK l (List.mem_iff_getElem?.2 ⟨_, h1⟩) z h2
set_option maxHeartbeats 16000000 in
set_option maxRecDepth 100000 in
theorem all_calls (A : Option Addr) (n c : Nat) (lists : List (List E)) (w : World) (hr : Kd.C (Kd.slice 29 kE) w A n lists) (hc : n ≤ c) (hn8 : n ≤ 800) (hS : ∀ l ∈ lists, Srt ce l) (hK : ∀ l ∈ lists, ∀ e ∈ l, SetS.ok (e.f0, e.f1)) (hT : lists.flatten.length ≤ 1000000) :
    Calls Try.prog 14 #[.slice A n c] w fun e w' => ∃ v, e = .returned v ∧ Kd.R kE 29 w' w.heap.size (fun _ => True) v (mrg ce lists) ∧ Below w.heap.size w w' := by
  have hln : lists.length = n := hr.1
  have HR := Aside0.mk hr
  have HSS := Aside0.mk hS
  have HKK := Aside0.mk hK
  have HTT := Aside0.mk hT
  clear hr hS hK hT
  have hn9 : (n : Int) ≤ 800 := by omega
  go_enter Try.func14, Try.ntmps14
  go_wp2
  have HM : Aside0 (Hm w (w.alloc (.cells #[.slice none 0 0] 65)) (w.alloc (.cells #[.slice none 0 0] 65)) w.heap.size none 0 []) := ⟨⟨blk_new w _, Rw.nil _ _ _, by simp [Value.ownBlock], Nat.le_refl _, below_alloc (Below.refl _ _) _, Kf.refl _ _ _, by simp⟩⟩
  obtain ⟨g, hg⟩ : ∃ g, g = w.heap.size := ⟨_, rfl⟩
  rw [← hg] at HM ⊢
  clear hg
  go_loopw [14] (fun v14 w' => ∃ (i : Nat) (hs : List Fr) (Ah : Option Addr) (ch : Nat), v14 = .int .i64 i ∧ i ≤ n ∧ hs.length ≤ i ∧ Aside0 (Hm w w' w' g Ah ch hs) ∧ Aside0 (hs.map pr = hdsOf (lists.take i))) (fun v14 _ => n - (intOf v14).toNat)
  case atStart => exact ⟨0, [], none, 0, rfl, Nat.zero_le _, Nat.le_refl _, HM, ⟨rfl⟩⟩
  case round =>
    clear HM
    obtain ⟨i, hs, Ah, ch, rfl, hi, hsi, HM, HD⟩ := hrel
    by_cases hlt : i < n
    · have p0 : (0 : Int) ≤ (i : Int) := Int.natCast_nonneg _
      have q0 : (i : Int) < (n : Int) := Int.ofNat_lt.mpr hlt
      have hil : i < lists.length := by omega
      have t0 : decide ((i : Int) < (n : Int)) = true := decide_eq_true q0
      obtain ⟨ad, Ai, ci, e0, hcl, hcc, hcC⟩ := lcells HR.out hil
      subst e0
      have y0 := hcl _ HM.out.bel
      have HCC := Aside0.mk hcC
      have HCE := Aside0.mk hcc
      have HTK : Aside0 (hdsOf (lists.take (i + 1)) = hdsOf (lists.take i) ++ (if lists[i] = [] then [] else [(lists[i], i)])) := ⟨by
        rw [List.take_succ_eq_append_getElem hil, hdsOf_snoc, List.length_take, Nat.min_eq_left (by omega)]⟩
      clear hcl hcC hcc
      generalize lists[i] = li at *
      obtain ⟨lli, hlli⟩ : ∃ m, m = li.length := ⟨_, rfl⟩
      have HLL := Aside0.mk hlli
      rw [← hlli] at y0
      clear hlli
      by_cases hl0 : 0 < lli
      · have hne : li ≠ [] := fun e => by have := HLL.out; rw [e] at this; simp at this; omega
        have t1 : decide ((0 : Int) < (lli : Int)) = true := decide_eq_true (by omega)
        have t1' : decide (0 < lli) = true := decide_eq_true hl0
        have HNE := Aside0.mk hne
        have z0 := HM.out.cell
        have zf := blk_frozen HM.out.blk 0
        clear hne
        have z1 : (wr.alloc (.cells #[.slice Ai lli ci, .int .i64 (i : Int)] 67)).cell? ⟨g, 0, none⟩ = some (.slice Ah hs.length ch) := (blk_cell (blk_alloc HM.out.blk _) 0).trans rfl
        go_wp2_with (first
          | ((with_reducible refine gate_builtin (b := .append) (xs := #[.tmp 22, .tmp 26]) rfl ?_); at_builtin; refine wp_append_raw rfl (.tmp 22) (.tmp 26) 65 67 (.agg #[.slice none 0 0, .int .i64 0]) 2 32 rfl Try.underlying65 infoH rfl (by decide) (.slice Ah hs.length ch) hs.length (encL encH hs) ⟨wr.heap.size, 0, none⟩ 1 1 (encH ⟨Ai, ci, li, i⟩) rfl rfl (HM.out.row.below (below_alloc (Below.refl _ _) _)) rfl (news_of wr ⟨Ai, ci, li, i⟩ HLL.out) (enc_one _) (by decide) (by omega) (by unfold maxLen; omega) ?_; intro v1 w1 hr1 hg1 hat1; obtain ⟨A2, c2, rfl, hc2, hf2, hm2⟩ := HM.out.push (below_alloc (Below.refl _ _) _) ⟨Ai, ci, li, i⟩ ⟨HCC.out, HCE.out⟩ hr1 hg1 hat1; have HM2 := Aside0.mk hm2; clear hr1 hg1 hat1 hm2))
        go_roundw
        case rel => exact ⟨i + 1, hs ++ [⟨Ai, ci, li, i⟩], A2, c2, by go_num, by omega, by simp; omega, HM2, ⟨by rw [List.map_append, HD.out, HTK.out, if_neg HNE.out]; rfl⟩⟩
        case measure => simp [intOf]; omega
      · obtain rfl : lli = 0 := by omega
        have hne : li = [] := List.eq_nil_of_length_eq_zero HLL.out.symm
        have HNE := Aside0.mk hne
        clear hne
        have t1 : decide ((0 : Int) < ((0 : Nat) : Int)) = false := decide_eq_false (by simp)
        have t1' : decide ((0 : Int) < 0) = false := decide_eq_false (by simp)
        go_wp2
        go_roundw
        case rel => exact ⟨i + 1, hs, Ah, ch, by go_num, by omega, by omega, HM, ⟨by rw [HD.out, HTK.out, if_pos HNE.out, List.append_nil]⟩⟩
        case measure => simp [intOf]; omega
    · obtain rfl : i = n := by omega
      have t0 : decide ((i : Int) < (i : Int)) = false := decide_eq_false (by omega)
      have hmm := @run_makeMap Try.prog
      have HD2 : Aside0 (hs.map pr = hdsOf lists) := ⟨by rw [HD.out, List.take_of_length_le (by omega)]⟩
      have HNE : Aside0 (∀ x ∈ hs, x.l ≠ []) := ⟨fun x hx e => by
        have h1 : pr x ∈ hdsOf lists := by rw [← HD2.out]; exact List.mem_map_of_mem hx
        have h2 := (List.mem_filter.1 h1).2
        simp [pr, e] at h2⟩
      go_wp2_with (first
        | (go_at_call 29; refine (init_calls (n := hs.length) HM.out rfl (by omega) HNE.out).mono ?_; rintro e w1 ⟨rfl, hs1, hm1, hp1, hq1⟩; have HM1 := Aside0.mk hm1; have HP1 := Aside0.mk hp1; have HQ1 := Aside0.mk hq1; clear hm1 hp1 hq1))
      obtain ⟨b, hbe⟩ : ∃ b, b = w1.heap.size := ⟨_, rfl⟩
      have HMS : Aside0 (SetS.Is (w1.alloc (.map #[] 0)) b []) := ⟨by rw [hbe]; exact SetS.Is.new w1⟩
      have HGB : Aside0 (w.heap.size ≤ b) := ⟨by rw [hbe]; exact HM1.out.bel.size⟩
      rw [← hbe]
      clear hbe
      have HM2 : Aside0 (Hm w (w1.alloc (.map #[] 0)) (w1.alloc (.map #[] 0)) g Ah ch hs1) := ⟨(HM1.out.below (below_alloc (Below.refl _ _) _)).reset⟩
      have HIV : Aside0 (Inv ce lists (hs1.map pr) []) := ⟨by
        refine Inv.perm ?_ (HQ1.out.map pr)
        rw [HD2.out]
        exact hdsOf_start⟩
      have HWT : Aside0 (wt hs1 ≤ lists.flatten.length) := ⟨by
        rw [wt_perm HQ1.out]
        have h1 := wt_start lists
        rw [← HD2.out, List.map_map] at h1
        exact h1⟩
      have HN1 : Aside0 (∀ x ∈ hs1, x.l ≠ []) := ⟨fun x hx => HNE.out x (HQ1.out.mem_iff.1 hx)⟩
      have hl1 : hs1.length ≤ 800 := by rw [HQ1.out.length_eq]; omega
      clear HM1 HD HM HD2 HNE
      go_loopg [7] (wt hs1) (fun k v7 w' => ∃ (hs' : List Fr) (out : List E), hs'.length ≤ 800 ∧ Aside0 (Hm w w' w' g Ah ch hs') ∧ Aside0 (Hp leF (fv hs') hs'.length 0) ∧ Aside0 (∀ x ∈ hs', x.l ≠ []) ∧ Aside0 (Inv ce lists (hs'.map pr) out) ∧ Aside0 (SetS.Is w' b (out.map ek)) ∧ Aside0 (Kd.R kE 29 w' w.heap.size (fun _ => True) v7 out) ∧ Aside0 (k = wt hs') ∧ Aside0 (out.length + k ≤ lists.flatten.length))
      case atStart => exact ⟨hs1, [], hl1, HM2, HP1, HN1, HIV, HMS, ⟨Kd.R_nil _ _ _ _ _⟩, ⟨rfl⟩, ⟨by simpa using HWT.out⟩⟩
      case round =>
        clear HM2 HP1 HN1 HIV HMS HWT HQ1 hl1
        obtain ⟨hs', out, hl', HM, HP, HN, HI, HS, HO, HK, HL⟩ := hrel
        by_cases h0 : 0 < hs'.length
        · obtain ⟨G, o, hA, hGg, hGw⟩ := HM.out.some_ h0
          subst hA
          obtain ⟨x, hx⟩ : ∃ x, x = hs'[0]'h0 := ⟨_, rfl⟩
          have hxm : x ∈ hs' := by rw [hx]; exact List.getElem_mem _
          have hxl := HN.out x hxm
          obtain ⟨e, t, het⟩ : ∃ e t, x.l = e :: t := by
            cases h : x.l with
            | nil => exact absurd h hxl
            | cons e t => exact ⟨e, t, rfl⟩
          obtain ⟨hcx, hxc⟩ := HM.out.ls x hxm
          obtain ⟨ae, hae, y0, y1, y2, y3⟩ := ecell0 (Kd.C_below hcx HM.out.bel) hxl
          have hhd : x.l.headD zE = e := by rw [het]; rfl
          rw [hhd] at y0 y1 y2 y3
          have r0 := (cells_of HM.out.row h0).1
          rw [← hx, hae] at r0
          simp only [Nat.zero_mul, Nat.add_zero] at r0
          have rf := frozen_of HM.out.row h0 o
          have z0 := HM.out.cell
          have hcutf := cutF_run x ae hae hxl hxc
          have HCU := Aside0.mk (HM.out.cut h0 (below_alloc (Below.refl _ _) (.cells #[.string e.f0, .int .u64 e.f1, .int .i64 e.f2, .string e.f3] 29)) rfl (by rw [← hx]; exact hxl))
          have HM1 := Aside0.mk (HM.out.below (below_alloc (Below.refl _ _) (.cells #[.string e.f0, .int .u64 e.f1, .int .i64 e.f2, .string e.f3] 29)))
          have z1 := HM1.out.cell
          have r1 := pw_cell_below (below_alloc (Below.refl wr.heap.size wr) (.cells #[.string e.f0, .int .u64 e.f1, .int .i64 e.f2, .string e.f3] 29)) r0
          have rf1 := frozen_of HM1.out.row h0 o
          have HX := Aside0.mk hx
          have HET := Aside0.mk het
          have HXC := Aside0.mk hxc
          obtain ⟨m, hm⟩ : ∃ m, m = x.l.length := ⟨_, rfl⟩
          have HMX := Aside0.mk hm
          have hm0 : 0 < m := by rw [hm, het]; simp
          rw [← hm] at r0 r1 hcutf
          rw [← hx] at HCU
          have q1 : (0 : Int) < (hs'.length : Int) := by omega
          have t2 : decide ((0 : Int) < (hs'.length : Int)) = true := decide_eq_true q1
          have t2' : decide (0 < hs'.length) = true := decide_eq_true h0
          have q2 : (0 : Int) < (m : Int) := by omega
          have HLN : Aside0 (hs'.length ≤ 800) := ⟨hl'⟩
          obtain ⟨A1, hA1⟩ : ∃ a, a = (cutF x).A := ⟨_, rfl⟩
          obtain ⟨m1, hm1⟩ : ∃ a, a = (cutF x).l.length := ⟨_, rfl⟩
          obtain ⟨c1, hc1⟩ : ∃ a, a = (cutF x).c := ⟨_, rfl⟩
          rw [← hA1, ← hm1, ← hc1] at hcutf HCU
          have HA1 := Aside0.mk hA1
          have HM1L := Aside0.mk hm1
          have HC1 := Aside0.mk hc1
          obtain ⟨xc, hxcc⟩ : ∃ a, a = x.c := ⟨_, rfl⟩
          rw [← hxcc] at hcutf r0 r1
          clear hx hxl het hcx hxc hae hhd hm hA1 hm1 hc1 hxcc
          go_wp2_with (fail)
          obtain ⟨b8, hb8⟩ : ∃ b8, b8 = wr.heap.size := ⟨_, rfl⟩
          have HB8 : Aside0 ((wr.alloc (.cells #[.string e.f0, .int .u64 e.f1, .int .i64 e.f2, .string e.f3] 29)).heap[b8]? = some (.cells #[.string e.f0, .int .u64 e.f1, .int .i64 e.f2, .string e.f3] 29 (0, 0))) := ⟨by rw [hb8]; exact blk_new wr _⟩
          have HS1 := Aside0.mk (HS.out.alloc (.cells #[.string e.f0, .int .u64 e.f1, .int .i64 e.f2, .string e.f3] 29))
          have HO1 := Aside0.mk (Kd.R_alloc HO.out (.cells #[.string e.f0, .int .u64 e.f1, .int .i64 e.f2, .string e.f3] 29))
          rw [← hb8]
          clear hb8 HM HS HO y0 y1 y2 y3 r0 z0 rf t2 t2'
          generalize (wr.alloc (.cells #[.string e.f0, .int .u64 e.f1, .int .i64 e.f2, .string e.f3] 29)) = W1 at *
          have hd0 : W1.drew.cell? ⟨g, 0, none⟩ = some (.slice (some ⟨G, o, none⟩) hs'.length ch) := z1
          have hd1 : W1.drew.cell? ⟨G, o, none⟩ = some (.slice (some ae) m xc) := r1
          go_cut [7] (fun v7 wc => Aside0 (Hm w wc wc g (some ⟨G, o, none⟩) ch (hs'.set 0 (cutF x))) ∧ Aside0 (wc.heap[b8]? = some (.cells #[.string e.f0, .int .u64 e.f1, .int .i64 e.f2, .string e.f3] 29 (0, 0))) ∧ Aside0 (SetS.Is wc b (out.map ek)) ∧ Aside0 (Kd.R kE 29 wc w.heap.size (fun _ => True) v7 out))
          case first =>
            go_region
            all_goals
              (try go_wp2_with (fail))
              go_meet
              case rel =>
                have hkf : Kf W1 (W1.setCell ⟨G, o, none⟩ (.slice A1 m1 c1)) g (some ⟨G, o, none⟩) := ⟨by simp [World.setCell], fun k _ _ h2 => Below.heap_setCell _ _ _ k (fun e => h2 (by rw [e]; simp [Value.ownBlock]))⟩
                exact ⟨⟨(HCU.out.below (below_drew1 (Below.refl _ _))).reset⟩, ⟨HM1.out.keepB hkf HB8.out (by decide) (by decide)⟩, ⟨HM1.out.keepS hkf HS1.out⟩, ⟨HM1.out.keepR hkf HO1.out⟩⟩
          case rest =>
          clear HCU HM1 HB8 HS1 HO1 z1 r1 rf1 hd0 hd1 hcutf
          obtain ⟨HM, HB8, HS, HO⟩ := hcut
          obtain ⟨r, hr⟩ : ∃ r, r = hs'.drop 1 := ⟨_, rfl⟩
          have hcons : hs' = x :: r := by
            rw [hr, HX.out]
            have := List.drop_eq_getElem_cons h0
            simpa using this
          have hset : hs'.set 0 (cutF x) = cutF x :: r := by rw [hcons]; rfl
          have hsl : (hs'.set 0 (cutF x)).length = hs'.length := List.length_set
          have hct : (cutF x).l = t := by unfold cutF; rw [HET.out]; rfl
          have z0 := HM.out.cell
          rw [hsl] at z0
          have r0 := (cells_of HM.out.row (i := 0) (by omega)).1
          have hgz : (hs'.set 0 (cutF x))[0]'(by omega) = cutF x := by simp
          rw [hgz, ← HA1.out, ← HM1L.out, ← HC1.out] at r0
          simp only [Nat.zero_mul, Nat.add_zero] at r0
          have hm1t : m1 = t.length := by rw [HM1L.out, hct]
          have HXX : Aside0 (Hx leF (fv (hs'.set 0 (cutF x))) (hs'.set 0 (cutF x)).length 0 0) := ⟨by
            rw [hsl]
            refine HP.out.again (fun k hk hkn => ?_)
            unfold fv
            simp [List.getD_eq_getElem?_getD, List.getElem?_set, Ne.symm hk]⟩
          have HCONS := Aside0.mk hcons
          have HSET := Aside0.mk hset
          have HSL := Aside0.mk hsl
          have HCT := Aside0.mk hct
          have HMT := Aside0.mk hm1t
          have HRL : Aside0 (hs'.length = r.length + 1) := ⟨by rw [hcons]; simp⟩
          have HNR : Aside0 (∀ z ∈ r, z.l ≠ []) := ⟨fun z hz => HN.out z (by rw [hcons]; exact List.mem_cons_of_mem _ hz)⟩
          have HFV : Aside0 (∀ k, 0 < k → k < hs'.length → (fv (hs'.set 0 (cutF x)) k).l ≠ []) := ⟨fun k hk1 hk2 => by
            rw [hset]
            cases k with
            | zero => omega
            | succ k =>
              have hk3 : k < r.length := by have := HRL.out; omega
              have : fv (cutF x :: r) (k + 1) = r[k] := by unfold fv; simp [List.getD_eq_getElem?_getD, List.getElem?_eq_getElem hk3]
              rw [this]
              exact HNR.out _ (List.getElem_mem hk3)⟩
          clear hr hcons hset hsl hct hm1t hgz
          go_upto_if 54 with (fail)
          go_cut [7] (fun v7 wd => ∃ hs2 : List Fr, hs2.length ≤ 800 ∧ Aside0 (Hm w wd wd g (some ⟨G, o, none⟩) ch hs2) ∧ Aside0 (Hp leF (fv hs2) hs2.length 0) ∧ Aside0 (∀ z ∈ hs2, z.l ≠ []) ∧ Aside0 (hs2.Perm (if t = [] then r else cutF x :: r)) ∧ Aside0 (wd.heap[b8]? = some (.cells #[.string e.f0, .int .u64 e.f1, .int .i64 e.f2, .string e.f3] 29 (0, 0))) ∧ Aside0 (SetS.Is wd b (out.map ek)) ∧ Aside0 (Kd.R kE 29 wd w.heap.size (fun _ => True) v7 out))
          case first =>
            by_cases hm10 : 0 < m1
            · have htn : t ≠ [] := fun e_ => by have := HMT.out; rw [e_] at this; simp at this; omega
              have HTN := Aside0.mk htn
              have t4 : decide ((0 : Int) < (m1 : Int)) = true := decide_eq_true (by omega)
              have t4' : decide (0 < m1) = true := decide_eq_true hm10
              clear htn
              go_wp2_with (first
                | (go_at_call 30; refine (fix_calls HM.out (by rw [HSL.out]; have := HLN.out; omega) HXX.out (fun k hk => ?_)).mono ?_; (next => (by_cases hk0 : k = 0; (rw [hk0, HSET.out]; show (cutF x).l ≠ []; rw [HCT.out]; exact HTN.out); exact HFV.out k (by omega) (by rw [HSL.out] at hk; exact hk))); rintro e_ wf ⟨rfl, hs2, hm2, hp2, hq2⟩; have HMF := Aside0.mk hm2; have HPF := Aside0.mk hp2; have HQF := Aside0.mk hq2; clear hm2 hp2 hq2))
              go_meet
              case rel =>
                refine ⟨hs2, by rw [HQF.out.length_eq, HSL.out]; exact HLN.out, ⟨HMF.out.reset⟩, HPF, ⟨fun z hz => ?_⟩, ⟨by rw [if_neg HTN.out, ← HSET.out]; exact HQF.out⟩, ⟨HM.out.keepB HMF.out.fr HB8.out (by decide) (by decide)⟩, ⟨HM.out.keepS HMF.out.fr HS.out⟩, ⟨HM.out.keepR HMF.out.fr HO.out⟩⟩
                have h1 := HQF.out.mem_iff.1 hz
                rw [HSET.out] at h1
                rcases List.mem_cons.1 h1 with q | q
                · rw [q, HCT.out]; exact HTN.out
                · exact HNR.out z q
            · obtain rfl : m1 = 0 := by omega
              have htn : t = [] := List.eq_nil_of_length_eq_zero HMT.out.symm
              have HTN := Aside0.mk htn
              have t4 : decide ((0 : Int) < ((0 : Nat) : Int)) = false := decide_eq_false (by simp)
              have t4' : decide ((0 : Int) < 0) = false := decide_eq_false (by simp)
              clear htn
              go_wp2_with (first
                | (go_at_call 31; refine (pop_calls (n := r.length) HM.out (by rw [HSL.out]; exact HRL.out) (by have := HLN.out; have := HRL.out; omega) HXX.out (fun k hk1 hk2 => HFV.out k hk1 (by rw [HSL.out] at hk2; exact hk2))).mono ?_; rintro e_ wf ⟨⟨v_, rfl⟩, hs2, hm2, hp2, hq2⟩; have HMF := Aside0.mk hm2; have HPF := Aside0.mk hp2; have HQF := Aside0.mk hq2; clear hm2 hp2 hq2))
              go_meet
              case rel =>
                have hpr : hs2.Perm r := by
                  have h1 := HQF.out
                  rw [HSET.out] at h1
                  have h2 : fv (cutF x :: r) 0 = cutF x := rfl
                  rw [h2] at h1
                  exact ((List.perm_append_singleton _ _).symm.trans h1).cons_inv
                refine ⟨hs2, by rw [hpr.length_eq]; have := HLN.out; have := HRL.out; omega, ⟨HMF.out.reset⟩, HPF, ⟨fun z hz => HNR.out z (hpr.mem_iff.1 hz)⟩, ⟨by rw [if_pos HTN.out]; exact hpr⟩, ⟨HM.out.keepB HMF.out.fr HB8.out (by decide) (by decide)⟩, ⟨HM.out.keepS HMF.out.fr HS.out⟩, ⟨HM.out.keepR HMF.out.fr HO.out⟩⟩
          case rest =>
          clear HM HB8 HS HO HXX HSET HSL HCT HMT HRL HNR HFV r0 z0
          obtain ⟨hs2, hl2, HM2, HP2, HN2, HQ2, HB2, HS2, HO2⟩ := hcut
          have y0 := blk_cell HB2.out 0
          have y1 := blk_cell HB2.out 1
          obtain ⟨hok, hoko⟩ := ok_of HKK.out HI.out HCONS.out HET.out
          have hh := SetS.has_D hoko hok
          have HKY : Aside0 (keyOf Try.prog 74 (.agg #[.string e.f0, .int .u64 e.f1]) = some (SetS.kl (ek e))) := ⟨SetS.key (x := ek e) hok.1 hok.2⟩
          have HINV := Inv.round HSS.out HI.out HCONS.out HP.out HET.out HQ2.out _ (any_ek out e)
          have HW2 : Aside0 (wt hs2 + 1 = gk) := ⟨by rw [HK.out, HCONS.out]; exact wt_round HET.out HQ2.out⟩
          have HLL : Aside0 (out.length + wt hs2 + 1 ≤ 1000000) := ⟨by have h1 := HL.out; have h2 := HTT.out; have h3 := HW2.out; omega⟩
          clear hok hoko HP HI HN HK
          generalize hbf : (out.map ek).any (fun y => decide (ek e = y)) = bf at hh HINV
          have HV := Aside0.mk HINV
          clear HINV hbf
          cases bf
          · go_wp2_with (first | (at_lookup; refine wpList_lookup_own_unit _ rfl _ _ 70 rfl 74 75 SetS.law Try.underlying70 (SetS.unit0 _) b _ (SetS.D (out.map ek)) rfl (by first | exact HS2.out | exact SetS.Is.alloc HS2.out _ | exact SetS.Is.alloc (SetS.Is.alloc HS2.out _) _) _ _ rfl HKY.out ?_) | (at_mapUpdate; refine wpList_mapUpdate_own _ rfl _ _ _ 70 rfl 74 75 SetS.law Try.underlying70 (unitElem (H := Unit)) b _ (SetS.D (out.map ek)) rfl (SetS.Is.alloc (SetS.Is.alloc HS2.out _) _) (by have := HLL.out; unfold maxLen; simp; omega) _ _ _ rfl rfl HKY.out _ [] unitElem_mk ?_; intro w1 hown1 hgrow1; have hb8 := blk_grown (blk_alloc (blk_alloc HB2.out _) _) hgrow1 (fun e_ => SetS.Is.ne HS2.out HB2.out (Option.some.inj e_).symm); have v0 : w1.cell? ⟨b8, 0, none⟩ = some (.string e.f0) := (blk_cell hb8 0).trans rfl; have v1 : w1.cell? ⟨b8, 1, none⟩ = some (.int .u64 e.f1) := (blk_cell hb8 1).trans rfl; have v2 : w1.cell? ⟨b8, 2, none⟩ = some (.int .i64 e.f2) := (blk_cell hb8 2).trans rfl; have v3 : w1.cell? ⟨b8, 3, none⟩ = some (.string e.f3) := (blk_cell hb8 3).trans rfl; have HM3 := Aside0.mk (Hm.grownM ((HM2.out.below (below_alloc (Below.refl _ _) _)).below (below_alloc (Below.refl _ _) _)) ((HS2.out.alloc _).alloc _) hgrow1 HGB.out); have HO3 := Aside0.mk (SetS.R_map (Kd.R_alloc (Kd.R_alloc HO2.out _) _) ((HS2.out.alloc _).alloc _) hgrow1); have HS3 : Aside0 (SetS.Is w1 b ((out ++ [e]).map ek)) := ⟨by have := hown1; rw [SetS.D_snoc] at this; unfold SetS.Is; simpa using this⟩; clear hb8 hown1 hgrow1) | ((with_reducible refine gate_builtin (b := .append) (xs := #[.tmp 75, .tmp 77]) rfl ?_); at_builtin; refine Kd.R_append kE (w0 := w) w.heap.size rfl (.tmp 75) (.tmp 77) 22 29 (.agg #[(.string ⟨#[]⟩), (.int .u64 0), (.int .i64 0), (.string ⟨#[]⟩)]) 48 rfl Try.underlying22 infoE rfl (by decide) (by omega) u7 out e [.string e.f0, .int .u64 e.f1, .int .i64 e.f2, .string e.f3] (fun _ => True) (fun _ => False) rfl rfl ?aP (fun _ hk => hk.elim) ?aF ?aO ?aB ?aS ?aL ?_; (case aP => exact k29_mkM _ _ _ _); (case aB => exact HM3.out.bel); (case aF => exact (fun _ _ => trivial)); (case aO => exact HO3.out); (case aS => exact below_size HM3.out.bel); (case aL => have := HLL.out; omega); intro v7 w7 ho hb hg hat; have HG := Aside0.mk hg; have HO7 := Aside0.mk ho; have HB7 := Aside0.mk hb; clear ho hb hg hat))
            go_roundg (wt hs2)
            case rel => exact ⟨hs2, out ++ [e], hl2, ⟨Hm.grownR HM3.out HO3.out HG.out HB7.out⟩, HP2, HN2, HV, ⟨SetS.Is.grown HS3.out HG.out (SetS.row_ne HO3.out HS3.out)⟩, ⟨HO7.out⟩, ⟨rfl⟩, ⟨by have h1 := HL.out; have h2 := HW2.out; rw [List.length_append, List.length_singleton]; omega⟩⟩
            all_goals (have h2 := HW2.out; omega)
          · go_wp2_with (first | (at_lookup; refine wpList_lookup_own_unit _ rfl _ _ 70 rfl 74 75 SetS.law Try.underlying70 (SetS.unit0 _) b _ (SetS.D (out.map ek)) rfl (by first | exact HS2.out | exact SetS.Is.alloc HS2.out _ | exact SetS.Is.alloc (SetS.Is.alloc HS2.out _) _) _ _ rfl HKY.out ?_))
            go_roundg (wt hs2)
            case rel => exact ⟨hs2, out, hl2, ⟨((HM2.out.below (below_alloc (Below.refl _ _) _)).below (below_alloc (Below.refl _ _) _)).reset⟩, HP2, HN2, HV, ⟨(HS2.out.alloc _).alloc _⟩, ⟨Kd.R_alloc (Kd.R_alloc HO2.out _) _⟩, ⟨rfl⟩, ⟨by have h1 := HL.out; have h2 := HW2.out; omega⟩⟩
            all_goals (have h2 := HW2.out; omega)
        · have hnil : hs' = [] := List.eq_nil_of_length_eq_zero (by omega)
          subst hnil
          have z0 := HM.out.cell
          have t2 : decide ((0 : Int) < (([] : List Fr).length : Int)) = false := decide_eq_false (by simp)
          have t3 : decide ((0 : Int) < 0) = false := decide_eq_false (by simp)
          go_wp2
          go_ret
          have := HI.out.done ordE HSS.out
          exact ⟨_, rfl, by rw [← this]; exact HO.out, HM.out.bel⟩
end Go.Proofs.Ytchgpcgolgcfdaa.Hp
end
section
namespace Go.Proofs.Ytchgpcgolgcfdaa.PNum
open Go.RowKit Go.Proofs.YtchgpcgolgcfdaaW.PrintWords Go.Proofs.YtchgpcgolgcfdaaW.PrintLast Go.Proofs.YtchgpcgolgcfdaaW.PrintMore
attribute [local go_sem] max2_int min2_int max_two min_two max_three min_three max_four min_four   -- for this text's walks alone
set_option linter.unusedVariables false
set_option linter.unusedSimpArgs false
def merge_All.fit (l0 : List (List S29)) : Bool := decide (l0.length ≤ 800) && l0.all (fun l => decide (l.Pairwise fun x y => Go.Proofs.Ytchgpcgolgcfdaa.PuIkC.ce x y = -1)) && l0.all (fun l => l.all fun e => decide (e.f0.size ≤ maxLen) && (Lit.int .u64 e.f1).wf) && decide (l0.flatten.length ≤ 1000000)
def merge_All.f (l0 : List (List S29)) : Option (List S29) := if merge_All.fit l0 = true then some (Go.Proofs.YtchgpcgolgcfdaaW.PuMrg.mrg Go.Proofs.Ytchgpcgolgcfdaa.PuIkC.ce l0) else none
theorem merge_All.fit_iff (l0 : List (List S29)) : merge_All.fit l0 = true ↔ l0.length ≤ 800 ∧ (∀ l ∈ l0, Go.Proofs.YtchgpcgolgcfdaaW.PuMrg.Srt Go.Proofs.Ytchgpcgolgcfdaa.PuIkC.ce l) ∧ (∀ l ∈ l0, ∀ e ∈ l, Go.Proofs.Ytchgpcgolgcfdaa.SetS.ok (e.f0, e.f1)) ∧ l0.flatten.length ≤ 1000000 := by
  unfold merge_All.fit
  simp only [Bool.and_eq_true, decide_eq_true_eq, List.all_eq_true, and_assoc]
  rfl
theorem merge_All.calls (A0 : Option Addr) (c0 : Nat) (l0 : List (List S29)) (r : List S29) (w : World) (hr0 : Kd.C (Kd.slice 29 k29) w A0 l0.length l0) (hc0 : l0.length ≤ c0) (h : merge_All.f l0 = some r) :
    Calls Try.prog 14 #[.slice A0 l0.length c0] w fun e w' => ∃ v0_ : Value, e = .returned (v0_) ∧ Kd.R k29 29 w' w.heap.size (fun _ => True) v0_ r ∧ Below w.heap.size w w' := by
  unfold merge_All.f at h
  split at h
  · rename_i hg
    obtain rfl := Option.some.inj h
    have hg := (merge_All.fit_iff l0).1 hg
    exact Go.Proofs.Ytchgpcgolgcfdaa.Hp.all_calls A0 l0.length c0 l0 w hr0 hc0 hg.1 hg.2.1 hg.2.2.1 hg.2.2.2
  · cases h
end Go.Proofs.Ytchgpcgolgcfdaa.PNum
end
section
namespace Go.Proofs.Ytchgpcgolgcfdaa.PuLat
open Go Go.RowKit Go.Proofs.Ytchgpcgolgcfdaa.PNum Go.Proofs.Ytchgpcgolgcfdaa.PuIkC Go.Proofs.YtchgpcgolgcfdaaW.PrintWords Go.Proofs.YtchgpcgolgcfdaaW.PrintLast Go.Proofs.YtchgpcgolgcfdaaW.PrintMore Go.Proofs.YtchgpcgolgcfdaaW.Pu Go.Proofs.YtchgpcgolgcfdaaW.PuMrg
abbrev E := S29
abbrev P := S37
def lat (s : Int) : List E → List ByteArray → List P
  | [], _ => []
  | e :: l, seen => if s < e.f1 then lat s l seen else if seen.any (fun y => decide (e.f0 = y)) = true then lat s l seen else if e.f2 = 2 then lat s l (seen ++ [e.f0]) else ⟨e.f0, e.f3⟩ :: lat s l (seen ++ [e.f0])
end Go.Proofs.Ytchgpcgolgcfdaa.PuLat
end
section
namespace Go.Proofs.YtchgpcgolgcfdaaW.PuMrg
set_option linter.unusedVariables false
set_option linter.unusedSimpArgs false
section
variable {E : Type} {ce : E → E → Int}
theorem mrg_mem (o : Ord ce) {ls : List (List E)} (h : ∀ l ∈ ls, Srt ce l) {e : E} (he : e ∈ mrg ce ls) : ∃ l ∈ ls, e ∈ l := by
  obtain ⟨i, l, h1, h2, _⟩ := ((mrg_mg o h).2 e).1 he
  exact ⟨l, List.mem_iff_getElem?.2 ⟨i, h1⟩, h2⟩
theorem ins_len (ce : E → E → Int) (e : E) : ∀ l : List E, (ins ce e l).length ≤ l.length + 1
  | [] => by simp [ins]
  | x :: r => by
    rw [ins]
    have := ins_len ce e r
    split
    · simp; omega
    · split
      · simp
      · simp
theorem foldl_len (ce : E → E → Int) : ∀ (xs acc : List E), (xs.foldl (fun a e => ins ce e a) acc).length ≤ acc.length + xs.length
  | [], acc => by simp
  | x :: xs, acc => by
    rw [List.foldl_cons]
    have h1 := foldl_len ce xs (ins ce x acc)
    have h2 := ins_len ce x acc
    simp only [List.length_cons]
    omega
theorem mrg_len (ce : E → E → Int) (ls : List (List E)) : (mrg ce ls).length ≤ ls.flatten.length := by
  have := foldl_len ce ls.flatten []
  simpa [mrg] using this
end
end Go.Proofs.YtchgpcgolgcfdaaW.PuMrg
end
section
namespace Go.Proofs.Ytchgpcgolgcfdaa.SetT
open Go Go.WideMaps Go.RowKit Go.Maps Go.Proofs.YtchgpcgolgcfdaaW.PrintWords
theorem law : Keyed Try.prog 9 := string_keyed Try.underlying9
theorem unit0 (w : World) : (zeroValue 75).run Try.prog w = .ok (.agg #[]) w := by kernel_rfl
def kl (x : ByteArray) : Lit := .string x.data.toList
def lits (L : List ByteArray) : List Lit := L.map kl
def D (L : List ByteArray) : DataW Unit := setOf (.agg []) (lits L)
def Is (W : World) (b : Nat) (L : List ByteArray) : Prop := W.ownsMap Try.prog 9 (unitElem (H := Unit)) b L.length (D L)
theorem kl_inj {x a : ByteArray} (h : kl a = kl x) : a = x := by
  unfold kl at h
  injection h with h
  have h1 := Array.toList_inj.1 h
  cases a
  cases x
  simp at h1
  rw [h1]
theorem has_D (L : List ByteArray) (x : ByteArray) : Maps.has (D L) (kl x) = L.any (fun y => decide (x = y)) := by
  unfold D lits
  rw [has_setOf _ _ _ (fun y hy => by obtain ⟨_, _, rfl⟩ := List.mem_map.1 hy; trivial), List.any_map]
  induction L with
  | nil => simp
  | cons a L ih =>
    have h2 : ((fun y : Lit => y.sameKey (kl x)) ∘ kl) a = decide (x = a) := by
      by_cases e : x = a
      · subst e
        simp [kl, Lit.sameKey]
      · rw [decide_eq_false e]
        have : ¬ kl a = kl x := fun h => e (kl_inj h).symm
        simp [kl] at this
        simp [kl, Lit.sameKey, this]
    rw [List.any_cons, ih, h2, List.any_cons]
theorem D_snoc (L : List ByteArray) (x : ByteArray) : (D L).put (kl x) (.agg []) = D (L ++ [x]) := by
  unfold D lits
  rw [List.map_append]
  exact (setOf_snoc _ _ _).symm
theorem Is.new (w : World) : Is (w.alloc (.map #[] 0)) w.heap.size [] := World.ownsMap_made _ _ _ _
theorem Is.lt {W : World} {b : Nat} {L : List ByteArray} (h : Is W b L) : b < W.heap.size := World.ownsMap.lt h
theorem Is.grown {W W1 : World} {b : Nat} {L : List ByteArray} {row : Option Nat} (h : Is W b L) (hg : W.grownBy W1 row) (hne : some b ≠ row) : Is W1 b L := World.ownsMap.kept h hg hne
theorem Is.below {W W1 : World} {b : Nat} {L : List ByteArray} (h : Is W b L) (hb : Below W.heap.size W W1) : Is W1 b L := h.grown (grown_of_below hb none) (by simp)
theorem Is.alloc {W : World} {b : Nat} {L : List ByteArray} (h : Is W b L) (o : Obj) : Is (W.alloc o) b L := World.ownsMap.alloc h o
theorem Is.drewN {W : World} {b : Nat} {L : List ByteArray} (h : Is W b L) (m : Nat) : Is (W.drewN m) b L := h
theorem Is.map {W : World} {b : Nat} {L : List ByteArray} (h : Is W b L) : ∃ es c, W.heap[b]? = some (.map es c) := by
  obtain ⟨es, c, hb, _⟩ := h
  exact ⟨es, c, hb⟩
theorem Is.ne {W : World} {b : Nat} {L : List ByteArray} (h : Is W b L) {k : Nat} {cs : Array Value} {t : TypeId} {fr : Nat × Nat} (hk : W.heap[k]? = some (.cells cs t fr)) : b ≠ k := by
  rintro rfl
  obtain ⟨es, c, hb⟩ := h.map
  rw [hb] at hk
  cases hk
theorem Is.far {W : World} {b : Nat} {L : List ByteArray} (h : Is W b L) {p : Addr} (hp : b ≠ p.block) (u : Value) : Is (W.setCell p u) b L := World.ownsMap.setCell h hp u
theorem R_map {α : Type} {d : Kd α} {e : Nat} {W W1 : World} {base : Nat} {ok : Nat → Prop} {v : Value} {xs : List α} {b : Nat} {L : List ByteArray} (h : d.R e W base ok v xs) (hm : Is W b L) (hg : W.grownBy W1 (some b)) : d.R e W1 base ok v xs :=
  Kd.R_mono (Kd.R_move (Kd.R_bound h) (fun k hk => by
    obtain ⟨_, _, hlt, _, _, cells, hc⟩ := hk
    refine hg.block k hlt ?_
    intro e
    injection e with e
    exact hm.ne hc e.symm)) (fun _ hk => hk.1)
theorem row_ne {α : Type} {d : Kd α} {e : Nat} {W : World} {base : Nat} {ok : Nat → Prop} {v : Value} {xs : List α} {b : Nat} {L : List ByteArray} (h : d.R e W base ok v xs) (hm : Is W b L) : some b ≠ v.ownBlock := by
  intro he
  obtain ⟨inner, ho⟩ := Kd.R_own h
  obtain ⟨cells, hc⟩ := own_typed ho b he.symm
  exact hm.ne hc rfl
theorem key {x : ByteArray} (h : x.size ≤ maxLen) : keyOf Try.prog 9 (.string x) = some (kl x) := keyOf_string_mk Try.underlying9 h
end Go.Proofs.Ytchgpcgolgcfdaa.SetT
end
section
namespace Go.Proofs.Ytchgpcgolgcfdaa.Lt
open Go Go.RowKit Go.Maps Go.Proofs.Ytchgpcgolgcfdaa.PNum Go.Proofs.Ytchgpcgolgcfdaa.BkW Go.Proofs.Ytchgpcgolgcfdaa.PuIkC Go.Proofs.Ytchgpcgolgcfdaa.PuLat Go.Proofs.YtchgpcgolgcfdaaW.PrintWords Go.Proofs.YtchgpcgolgcfdaaW.PrintLast Go.Proofs.YtchgpcgolgcfdaaW.PrintMore Go.Proofs.YtchgpcgolgcfdaaW.Pu Go.Proofs.YtchgpcgolgcfdaaW.PuMrg Go.Proofs.Ytchgpcgolgcfdaa.Hp
set_option linter.unusedVariables false
set_option linter.unusedSimpArgs false
abbrev E := S29
abbrev P := S37
abbrev kP := k37
def encE (x : E) : List Value := [.string x.f0, .int .u64 x.f1, .int .i64 x.f2, .string x.f3]
theorem flatE : Flat k29 encE := ⟨fun _ => rfl, fun h => k29_openM h, fun w x => k29_mk w x, fun h => k29_open h⟩
def fit (s : Int) (l0 : List (List E)) : Bool := merge_All.fit l0
theorem infoP : (Try.prog.info? 37).map (fun i => (i.zero, i.size, i.bytes)) = some (some (.agg #[.string ⟨#[]⟩, .string ⟨#[]⟩]), 2, 32) := by kernel_rfl
theorem all_rw (A0 : Option Addr) (c0 : Nat) (l0 : List (List E)) (w : World) (hr0 : Kd.C (Kd.slice 29 k29) w A0 l0.length l0) (hc0 : l0.length ≤ c0) (hg : merge_All.fit l0 = true) (L : List E) (hL : L = mrg ce l0) (V : World) (hb : Below w.heap.size w V) :
    Calls Try.prog 14 #[.slice A0 l0.length c0] V fun e w' => ∃ A c, e = .returned (.slice A L.length c) ∧ L.length ≤ c ∧ Rw w' 29 4 (.slice A L.length c) L.length (encL encE L) ∧ (∀ k, (Value.slice A L.length c).ownBlock = some k → V.heap.size ≤ k) ∧ Below V.heap.size V w' := by
  have hg := (merge_All.fit_iff l0).1 hg
  subst hL
  refine (all_calls A0 l0.length c0 l0 V (Kd.C_below hr0 hb) hc0 hg.1 hg.2.1 hg.2.2.1 hg.2.2.2).mono ?_
  rintro e w' ⟨v, rfl, hR, hb'⟩
  have h1 := flatE.of_R hR
  obtain ⟨A, c, rfl, hc⟩ := h1.slice
  refine ⟨A, c, rfl, hc, h1, fun k hk => ?_, hb'⟩
  obtain ⟨_, ho⟩ := Kd.R_own hR
  exact own_base ho k hk
theorem rw_ne {W : World} {e sz n : Nat} {v : Value} {cs : List Value} {b : Nat} {L : List ByteArray} (h : Rw W e sz v n cs) (hm : SetT.Is W b L) : v.ownBlock ≠ some b := fun he => by
  obtain ⟨cur, hc⟩ := h.typed b he
  exact hm.ne hc rfl
theorem rw_map {W W1 : World} {e sz n : Nat} {v : Value} {cs : List Value} {b : Nat} {L : List ByteArray} (hg : W.grownBy W1 (some b)) (h : Rw W e sz v n cs) (hm : SetT.Is W b L) : Rw W1 e sz v n cs := h.grown hg (.inr (rw_ne h hm))
theorem rw_other {α : Type} {d : Kd α} {W : World} {e e' sz n base : Nat} {v u : Value} {cs : List Value} {ok : Nat → Prop} {xs : List α} (h : Rw W e sz v n cs) (hr : Kd.R d e' W base ok u xs) (hne : e ≠ e') : v.ownBlock = none ∨ v.ownBlock ≠ u.ownBlock := by
  cases hv : v.ownBlock with
  | none => exact .inl rfl
  | some k =>
    refine .inr (fun he => ?_)
    obtain ⟨cur, hc⟩ := h.typed k hv
    obtain ⟨_, ho⟩ := Kd.R_own hr
    obtain ⟨cells, hc2⟩ := own_typed ho k he.symm
    rw [hc] at hc2
    injection hc2 with hc2
    injection hc2 with _ hc2
    exact hne hc2
set_option maxHeartbeats 16000000 in
set_option maxRecDepth 100000 in
theorem latest_calls (s : Int) (A0 : Option Addr) (c0 : Nat) (l0 : List (List E)) (w : World) (hr0 : Kd.C (Kd.slice 29 k29) w A0 l0.length l0) (hc0 : l0.length ≤ c0) (hg : fit s l0 = true) :
    Calls Try.prog 15 #[.int .u64 s, .slice A0 l0.length c0] w fun e w' => ∃ v, e = .returned v ∧ Kd.R kP 37 w' w.heap.size (fun _ => True) v (lat s (mrg ce l0) []) ∧ Below w.heap.size w w' := by
  have hg1 := (merge_All.fit_iff l0).1 hg
  obtain ⟨L, hL⟩ : ∃ L, L = mrg ce l0 := ⟨_, rfl⟩
  have HKL : Aside0 (∀ e ∈ L, e.f0.size ≤ maxLen) := ⟨fun e he => by
    rw [hL] at he
    obtain ⟨l, hl, hel⟩ := mrg_mem ordE hg1.2.1 he
    exact (hg1.2.2.1 l hl e hel).1⟩
  have HLL : Aside0 (L.length ≤ 1000000) := ⟨by rw [hL]; exact Nat.le_trans (mrg_len ce l0) hg1.2.2.2⟩
  have HALL : Aside0 (∀ V, Below w.heap.size w V → Calls Try.prog 14 #[.slice A0 l0.length c0] V fun e w' => ∃ A c, e = .returned (.slice A L.length c) ∧ L.length ≤ c ∧ Rw w' 29 4 (.slice A L.length c) L.length (encL encE L) ∧ (∀ k, (Value.slice A L.length c).ownBlock = some k → V.heap.size ≤ k) ∧ Below V.heap.size V w') := ⟨fun V hb => all_rw A0 c0 l0 w hr0 hc0 hg L hL V hb⟩
  rw [← hL]
  clear hL hg hg1 hr0 hc0
  have hu29 := Try.underlying29
  have hmm := @run_makeMap Try.prog
  go_enter Try.func15, Try.ntmps15
  go_wp2_with (first
    | (go_at_call 14; refine (HALL.out _ (below_alloc (Below.refl _ _) _)).mono ?_; rintro e w1 ⟨A, c, rfl, hc, hrow, hfr, hb⟩; have HRL := Aside0.mk hrow; have HCL := Aside0.mk hc; have HFR := Aside0.mk hfr; have HMS : Aside0 (SetT.Is w1 w.heap.size []) := ⟨(SetT.Is.new w).below hb⟩; have HB := Aside0.mk (below_step (below_alloc (Below.refl w.heap.size w) _) hb); clear hrow hfr hb hc))
  go_loopw [5, 15] (fun v5 v15 w' => ∃ (i : Nat) (seen : List ByteArray) (out : List P), v15 = .int .i64 i ∧ i ≤ L.length ∧ Aside0 (out.length ≤ i) ∧ Aside0 (seen.length ≤ i) ∧ Aside0 (SetT.Is w' w.heap.size seen) ∧ Aside0 (Rw w' 29 4 (.slice A L.length c) L.length (encL encE L)) ∧ Aside0 (Kd.R kP 37 w' w.heap.size (fun _ => True) v5 out) ∧ Aside0 (Below w.heap.size w w') ∧ Aside0 (out ++ lat s (L.drop i) seen = lat s L [])) (fun _ v15 _ => L.length - (intOf v15).toNat)
  case atStart => exact ⟨0, [], [], rfl, Nat.zero_le _, ⟨Nat.le_refl _⟩, ⟨Nat.le_refl _⟩, HMS, HRL, ⟨Kd.R_nil _ _ _ _ _⟩, HB, ⟨rfl⟩⟩
  case round =>
    clear HMS HRL HB HALL
    obtain ⟨i, seen, out, rfl, hi, HO, HS, HM, HR, HRo, HB, HA⟩ := hrel
    by_cases hlt : i < L.length
    · have p0 : (0 : Int) ≤ (i : Int) := Int.natCast_nonneg _
      have q0 : (i : Int) < (L.length : Int) := Int.ofNat_lt.mpr hlt
      have t0 : decide ((i : Int) < (L.length : Int)) = true := decide_eq_true q0
      have hlen : (L.length : Int) ≤ 1000000 := by have := HLL.out; omega
      obtain ⟨ad, e0, y0, y1, y2, y3⟩ := at_T29 (flatE.to_C HR.out rfl) (i : Int) p0 q0
      cases e0
      have hx : rd_T29 L (i : Int) = L[i] := by simp [rd_T29, hlt]
      rw [hx] at y0 y1 y2 y3
      simp only [Int.toNat_natCast] at y0 y1 y2 y3
      have hdr : L.drop i = L[i] :: L.drop (i + 1) := List.drop_eq_getElem_cons hlt
      have hks : L[i].f0.size ≤ maxLen := HKL.out _ (List.getElem_mem hlt)
      clear hx
      generalize L[i] = e at *
      have HDR := Aside0.mk hdr
      have HKY := Aside0.mk (SetT.key hks)
      have HLT := Aside0.mk hlt
      have hwb : w.heap.size < wr.heap.size := SetT.Is.lt HM.out
      have HWB := Aside0.mk hwb
      have hh := SetT.has_D seen e.f0
      clear hdr hks hlt hwb
      by_cases hs : s < e.f1
      · have t1 : decide (s < e.f1) = true := decide_eq_true hs
        have HSE := Aside0.mk hs
        clear hh hs
        go_wp2_with (fail)
        go_roundw
        case rel => exact ⟨i + 1, seen, out, by go_num, by have := HLT.out; omega, ⟨by have := HO.out; omega⟩, ⟨by have := HS.out; omega⟩, ⟨HM.out.alloc _⟩, ⟨HR.out.below (below_alloc (Below.refl _ _) _)⟩, ⟨Kd.R_alloc HRo.out _⟩, ⟨below_alloc HB.out _⟩, ⟨by rw [← HA.out, HDR.out, lat, if_pos HSE.out]⟩⟩
        case measure => simp [intOf]; have := HLT.out; omega
      · have t1 : decide (s < e.f1) = false := decide_eq_false hs
        have HSE := Aside0.mk hs
        clear hs
        generalize hbf : seen.any (fun y => decide (e.f0 = y)) = bf at hh
        have HBF := Aside0.mk hbf
        clear hbf
        cases bf
        · by_cases hk : e.f2 = 2
          · have t2 : (e.f2 != 2) = false := by rw [hk]; rfl
            have HK := Aside0.mk hk
            clear hk
            go_wp2_with (first | (at_lookup; refine wpList_lookup_own_unit _ rfl _ _ 77 rfl 9 75 SetT.law Try.underlying77 (SetT.unit0 _) w.heap.size _ (SetT.D seen) rfl (by first | exact HM.out | exact SetT.Is.alloc HM.out _ | exact SetT.Is.alloc (SetT.Is.alloc HM.out _) _) _ _ rfl HKY.out ?_) | (at_mapUpdate; refine wpList_mapUpdate_own _ rfl _ _ _ 77 rfl 9 75 SetT.law Try.underlying77 (unitElem (H := Unit)) w.heap.size _ (SetT.D seen) rfl (SetT.Is.alloc (SetT.Is.alloc HM.out _) _) (by have := HS.out; have := HLL.out; have := HLT.out; unfold maxLen; omega) _ _ _ rfl rfl HKY.out _ [] unitElem_mk ?_; intro w2 hown hgrow; have hb8 := blk_grown (blk_alloc (blk_new wr (.cells #[.string e.f0, .int .u64 e.f1, .int .i64 e.f2, .string e.f3] 29)) _) hgrow (fun e_ => by have := HWB.out; injection e_ with e_; omega); have v0 : w2.cell? ⟨wr.heap.size, 0, none⟩ = some (.string e.f0) := (blk_cell hb8 0).trans rfl; have v2 : w2.cell? ⟨wr.heap.size, 2, none⟩ = some (.int .i64 e.f2) := (blk_cell hb8 2).trans rfl; have v3 : w2.cell? ⟨wr.heap.size, 3, none⟩ = some (.string e.f3) := (blk_cell hb8 3).trans rfl; have HS2 : Aside0 (SetT.Is w2 w.heap.size (seen ++ [e.f0])) := ⟨by have := hown; rw [SetT.D_snoc] at this; unfold SetT.Is; simpa using this⟩; have HR2 := Aside0.mk (rw_map hgrow (HR.out.below (below_alloc (below_alloc (Below.refl _ _) _) _)) ((HM.out.alloc _).alloc _)); have HO2 := Aside0.mk (SetT.R_map (Kd.R_alloc (Kd.R_alloc HRo.out _) _) ((HM.out.alloc _).alloc _) hgrow); have HB2 := Aside0.mk (Below.grown (below_alloc (below_alloc HB.out _) _) hgrow (below_size (below_alloc (below_alloc HB.out _) _)) (fun k h => by cases h; exact Nat.le_refl _)); clear hb8 hown hgrow))
            go_roundw
            case rel => exact ⟨i + 1, seen ++ [e.f0], out, by go_num, by have := HLT.out; omega, ⟨by have := HO.out; omega⟩, ⟨by have := HS.out; simp; omega⟩, HS2, HR2, HO2, HB2, ⟨by rw [← HA.out, HDR.out, lat, if_neg HSE.out, HBF.out, if_neg (by simp), if_pos HK.out]⟩⟩
            case measure => simp [intOf]; have := HLT.out; omega
          · have t2 : (e.f2 != 2) = true := by rw [bne_iff_ne]; exact hk
            have HK := Aside0.mk hk
            clear hk
            go_wp2_with (first | (at_lookup; refine wpList_lookup_own_unit _ rfl _ _ 77 rfl 9 75 SetT.law Try.underlying77 (SetT.unit0 _) w.heap.size _ (SetT.D seen) rfl (by first | exact HM.out | exact SetT.Is.alloc HM.out _ | exact SetT.Is.alloc (SetT.Is.alloc HM.out _) _) _ _ rfl HKY.out ?_) | (at_mapUpdate; refine wpList_mapUpdate_own _ rfl _ _ _ 77 rfl 9 75 SetT.law Try.underlying77 (unitElem (H := Unit)) w.heap.size _ (SetT.D seen) rfl (SetT.Is.alloc (SetT.Is.alloc HM.out _) _) (by have := HS.out; have := HLL.out; have := HLT.out; unfold maxLen; omega) _ _ _ rfl rfl HKY.out _ [] unitElem_mk ?_; intro w2 hown hgrow; have hb8 := blk_grown (blk_alloc (blk_new wr (.cells #[.string e.f0, .int .u64 e.f1, .int .i64 e.f2, .string e.f3] 29)) _) hgrow (fun e_ => by have := HWB.out; injection e_ with e_; omega); have v0 : w2.cell? ⟨wr.heap.size, 0, none⟩ = some (.string e.f0) := (blk_cell hb8 0).trans rfl; have v2 : w2.cell? ⟨wr.heap.size, 2, none⟩ = some (.int .i64 e.f2) := (blk_cell hb8 2).trans rfl; have v3 : w2.cell? ⟨wr.heap.size, 3, none⟩ = some (.string e.f3) := (blk_cell hb8 3).trans rfl; have HS2 : Aside0 (SetT.Is w2 w.heap.size (seen ++ [e.f0])) := ⟨by have := hown; rw [SetT.D_snoc] at this; unfold SetT.Is; simpa using this⟩; have HR2 := Aside0.mk (rw_map hgrow (HR.out.below (below_alloc (below_alloc (Below.refl _ _) _) _)) ((HM.out.alloc _).alloc _)); have HO2 := Aside0.mk (SetT.R_map (Kd.R_alloc (Kd.R_alloc HRo.out _) _) ((HM.out.alloc _).alloc _) hgrow); have HB2 := Aside0.mk (Below.grown (below_alloc (below_alloc HB.out _) _) hgrow (below_size (below_alloc (below_alloc HB.out _) _)) (fun k h => by cases h; exact Nat.le_refl _)); clear hb8 hown hgrow) | ((with_reducible refine gate_builtin (b := .append) (xs := #[.tmp 38, .tmp 44]) rfl ?_); at_builtin; refine Kd.R_append kP (w0 := w) w.heap.size rfl (.tmp 38) (.tmp 44) 34 37 (.agg #[(.string ⟨#[]⟩), (.string ⟨#[]⟩)]) 32 rfl Try.underlying34 infoP rfl (by decide) (by omega) u5 out ⟨e.f0, e.f3⟩ [.string e.f0, .string e.f3] (fun _ => True) (fun _ => False) rfl rfl ?aP (fun _ hk => hk.elim) ?aF ?aO ?aB ?aS ?aL ?_; (case aP => exact k37_mkM _ _ _ _); (case aB => exact HB2.out); (case aF => exact (fun _ _ => trivial)); (case aO => exact HO2.out); (case aS => exact below_size HB2.out); (case aL => have := HO.out; have := HLL.out; have := HLT.out; omega); intro v7 w7 ho hb hg hat; have HG := Aside0.mk hg; have HO7 := Aside0.mk ho; have HB7 := Aside0.mk hb; clear ho hb hg hat))
            go_roundw
            case rel => exact ⟨i + 1, seen ++ [e.f0], out ++ [⟨e.f0, e.f3⟩], by go_num, by have := HLT.out; omega, ⟨by have := HO.out; simp; omega⟩, ⟨by have := HS.out; simp; omega⟩, ⟨SetT.Is.grown HS2.out HG.out (SetT.row_ne HO2.out HS2.out)⟩, ⟨HR2.out.grown HG.out (rw_other HR2.out HO2.out (by decide))⟩, HO7, HB7, ⟨by rw [← HA.out, HDR.out, lat, if_neg HSE.out, HBF.out, if_neg (by simp), if_neg HK.out, List.append_assoc]; rfl⟩⟩
            case measure => simp [intOf]; have := HLT.out; omega
        · go_wp2_with (first | (at_lookup; refine wpList_lookup_own_unit _ rfl _ _ 77 rfl 9 75 SetT.law Try.underlying77 (SetT.unit0 _) w.heap.size _ (SetT.D seen) rfl (by first | exact HM.out | exact SetT.Is.alloc HM.out _ | exact SetT.Is.alloc (SetT.Is.alloc HM.out _) _) _ _ rfl HKY.out ?_))
          go_roundw
          case rel => exact ⟨i + 1, seen, out, by go_num, by have := HLT.out; omega, ⟨by have := HO.out; omega⟩, ⟨by have := HS.out; omega⟩, ⟨(HM.out.alloc _).alloc _⟩, ⟨HR.out.below (below_alloc (below_alloc (Below.refl _ _) _) _)⟩, ⟨Kd.R_alloc (Kd.R_alloc HRo.out _) _⟩, ⟨below_alloc (below_alloc HB.out _) _⟩, ⟨by rw [← HA.out, HDR.out, lat, if_neg HSE.out, HBF.out, if_pos rfl]⟩⟩
          case measure => simp [intOf]; have := HLT.out; omega
    · obtain rfl : i = L.length := by omega
      have t0 : decide ((L.length : Int) < (L.length : Int)) = false := decide_eq_false (by omega)
      go_wp2
      go_ret
      exact ⟨_, rfl, by have := HA.out; rw [List.drop_length, lat, List.append_nil] at this; rw [← this]; exact HRo.out, HB.out⟩
end Go.Proofs.Ytchgpcgolgcfdaa.Lt
end
section
namespace Go.Proofs.Ytchgpcgolgcfdaa.PNum
open Go.RowKit Go.Proofs.YtchgpcgolgcfdaaW.PrintWords Go.Proofs.YtchgpcgolgcfdaaW.PrintLast Go.Proofs.YtchgpcgolgcfdaaW.PrintMore
attribute [local go_sem] max2_int min2_int max_two min_two max_three min_three max_four min_four   -- for this text's walks alone
set_option linter.unusedVariables false
set_option linter.unusedSimpArgs false
def merge_Latest.f (s : Int) (l0 : List (List S29)) : Option (List S37) := if Go.Proofs.Ytchgpcgolgcfdaa.Lt.fit s l0 = true then some (Go.Proofs.Ytchgpcgolgcfdaa.PuLat.lat s (Go.Proofs.YtchgpcgolgcfdaaW.PuMrg.mrg Go.Proofs.Ytchgpcgolgcfdaa.PuIkC.ce l0) []) else none
theorem merge_Latest.calls (s : Int) (A0 : Option Addr) (c0 : Nat) (l0 : List (List S29)) (r : List S37) (w : World) (hr0 : Kd.C (Kd.slice 29 k29) w A0 l0.length l0) (hc0 : l0.length ≤ c0) (h : merge_Latest.f s l0 = some r) :
    Calls Try.prog 15 #[.int .u64 s, .slice A0 l0.length c0] w fun e w' => ∃ v0_ : Value, e = .returned (v0_) ∧ Kd.R k37 37 w' w.heap.size (fun _ => True) v0_ r ∧ Below w.heap.size w w' := by
  unfold merge_Latest.f at h
  split at h
  · rename_i hg
    obtain rfl := Option.some.inj h
    exact Go.Proofs.Ytchgpcgolgcfdaa.Lt.latest_calls s A0 c0 l0 w hr0 hc0 hg
  · cases h
end Go.Proofs.Ytchgpcgolgcfdaa.PNum
end
section
namespace Go.Proofs.Ytchgpcgolgcfdaa.PNum
open Go.RowKit Go.Proofs.YtchgpcgolgcfdaaW.PrintWords Go.Proofs.YtchgpcgolgcfdaaW.PrintLast Go.Proofs.YtchgpcgolgcfdaaW.PrintMore
attribute [local go_sem] max2_int min2_int max_two min_two max_three min_three max_four min_four   -- for this text's walks alone
set_option linter.unusedVariables false
set_option linter.unusedSimpArgs false
attribute [local go_sem high] eqA29
def cornucopialaw14_alive.f (k : Nat)  : Option (Bool) := (merge_Latest.f 2 (([(([(⟨(⟨#[97]⟩ : ByteArray), 3, 1, (⟨#[]⟩ : ByteArray)⟩ : S29)] : List (S29))), (([(⟨(⟨#[97]⟩ : ByteArray), 1, 2, (⟨#[]⟩ : ByteArray)⟩ : S29), (⟨(⟨#[98]⟩ : ByteArray), 2, 1, (⟨#[]⟩ : ByteArray)⟩ : S29)] : List (S29)))] : List (List (S29))))).bind fun t147 => ((merge_Cut.f k 1 (([(⟨(⟨#[97]⟩ : ByteArray), 2, 0, (⟨#[]⟩ : ByteArray)⟩ : S29), (⟨(⟨#[97]⟩ : ByteArray), 1, 0, (⟨#[]⟩ : ByteArray)⟩ : S29), (⟨(⟨#[98]⟩ : ByteArray), 1, 0, (⟨#[]⟩ : ByteArray)⟩ : S29)] : List (S29)))).bind fun t153 => (if (t147.length : Int) = 1 then (if 0 < (t147.length : Int) then (if ((rd_T37 t147 0).f0).toList = ([98] : List UInt8) then (if (t153.length : Int) = 2 then (if 0 < (t153.length : Int) then (if ((rd_L4 t153 0).length : Int) = 2 then ((merge_All.f ([] : List (List (S29)))).bind fun t158 => (some ((t158.length : Int) == 0))) else (none)) else (none)) else (none)) else (none)) else (none)) else (none)))
theorem cornucopialaw14_alive.mono : ∀ k, LeO (cornucopialaw14_alive.f k ) (cornucopialaw14_alive.f (k + 1) ) := by
  intro  k
  unfold cornucopialaw14_alive.f
  repeat' first
      | (with_reducible exact merge_Cut.mono _ _ _)
      | (with_reducible exact LeO.refl _)
      | (with_reducible exact LeO.none _)
      | (with_reducible refine LeO.ite ?_ ?_)
      | (with_reducible refine LeO.bind ?_ (fun _ => ?_))
      | exact merge_Cut.mono _ _ _
      | exact LeO.none _
      | refine LeO.ite ?_ ?_
      | refine LeO.bind ?_ (fun _ => ?_)
set_option maxHeartbeats 8000000 in
set_option maxRecDepth 100000 in
theorem cornucopialaw14_alive.calls (k : Nat)  (r : Bool) (w : World) (h : cornucopialaw14_alive.f k  = some r) :
    Calls Try.prog 11 #[] w fun e w' => e = .returned (.bool r) ∧ Below w.heap.size w w' := by
  have hu29 := Try.underlying29
  have HB := Aside0.mk (Below.refl w.heap.size w)
  have H : ((merge_Latest.f 2 (([(([(⟨(⟨#[97]⟩ : ByteArray), 3, 1, (⟨#[]⟩ : ByteArray)⟩ : S29)] : List (S29))), (([(⟨(⟨#[97]⟩ : ByteArray), 1, 2, (⟨#[]⟩ : ByteArray)⟩ : S29), (⟨(⟨#[98]⟩ : ByteArray), 2, 1, (⟨#[]⟩ : ByteArray)⟩ : S29)] : List (S29)))] : List (List (S29))))).bind fun t147 => ((merge_Cut.f k 1 (([(⟨(⟨#[97]⟩ : ByteArray), 2, 0, (⟨#[]⟩ : ByteArray)⟩ : S29), (⟨(⟨#[97]⟩ : ByteArray), 1, 0, (⟨#[]⟩ : ByteArray)⟩ : S29), (⟨(⟨#[98]⟩ : ByteArray), 1, 0, (⟨#[]⟩ : ByteArray)⟩ : S29)] : List (S29)))).bind fun t153 => (if (t147.length : Int) = 1 then (if 0 < (t147.length : Int) then (if ((rd_T37 t147 0).f0).toList = ([98] : List UInt8) then (if (t153.length : Int) = 2 then (if 0 < (t153.length : Int) then (if ((rd_L4 t153 0).length : Int) = 2 then ((merge_All.f ([] : List (List (S29)))).bind fun t158 => (some ((t158.length : Int) == 0))) else (none)) else (none)) else (none)) else (none)) else (none)) else (none)))) = some r := h
  clear h
  obtain ⟨y138, hy138⟩ : ∃ y_ : List (S29), y_ = (([(⟨(⟨#[97]⟩ : ByteArray), 3, 1, (⟨#[]⟩ : ByteArray)⟩ : S29)] : List (S29))) := ⟨_, rfl⟩
  replace H : ((merge_Latest.f 2 (([y138, (([(⟨(⟨#[97]⟩ : ByteArray), 1, 2, (⟨#[]⟩ : ByteArray)⟩ : S29), (⟨(⟨#[98]⟩ : ByteArray), 2, 1, (⟨#[]⟩ : ByteArray)⟩ : S29)] : List (S29)))] : List (List (S29))))).bind fun t147 => ((merge_Cut.f k 1 (([(⟨(⟨#[97]⟩ : ByteArray), 2, 0, (⟨#[]⟩ : ByteArray)⟩ : S29), (⟨(⟨#[97]⟩ : ByteArray), 1, 0, (⟨#[]⟩ : ByteArray)⟩ : S29), (⟨(⟨#[98]⟩ : ByteArray), 1, 0, (⟨#[]⟩ : ByteArray)⟩ : S29)] : List (S29)))).bind fun t153 => (if (t147.length : Int) = 1 then (if 0 < (t147.length : Int) then (if ((rd_T37 t147 0).f0).toList = ([98] : List UInt8) then (if (t153.length : Int) = 2 then (if 0 < (t153.length : Int) then (if ((rd_L4 t153 0).length : Int) = 2 then ((merge_All.f ([] : List (List (S29)))).bind fun t158 => (some ((t158.length : Int) == 0))) else (none)) else (none)) else (none)) else (none)) else (none)) else (none)))) = some r := by first | (rw [hy138]; with_reducible exact H) | (have H2_ := (Option.bind_some _ _).symm.trans H; rw [hy138]; with_reducible exact H2_) | (have H2_ := (Option.bind_some _ _).symm.trans H; with_reducible exact H2_) | with_reducible exact H | (rw [hy138]; exact H) | exact H
  have Ny138 := Aside0.mk hy138
  clear hy138
  obtain ⟨y141, hy141⟩ : ∃ y_ : List (S29), y_ = (([(⟨(⟨#[97]⟩ : ByteArray), 1, 2, (⟨#[]⟩ : ByteArray)⟩ : S29), (⟨(⟨#[98]⟩ : ByteArray), 2, 1, (⟨#[]⟩ : ByteArray)⟩ : S29)] : List (S29))) := ⟨_, rfl⟩
  replace H : ((merge_Latest.f 2 (([y138, y141] : List (List (S29))))).bind fun t147 => ((merge_Cut.f k 1 (([(⟨(⟨#[97]⟩ : ByteArray), 2, 0, (⟨#[]⟩ : ByteArray)⟩ : S29), (⟨(⟨#[97]⟩ : ByteArray), 1, 0, (⟨#[]⟩ : ByteArray)⟩ : S29), (⟨(⟨#[98]⟩ : ByteArray), 1, 0, (⟨#[]⟩ : ByteArray)⟩ : S29)] : List (S29)))).bind fun t153 => (if (t147.length : Int) = 1 then (if 0 < (t147.length : Int) then (if ((rd_T37 t147 0).f0).toList = ([98] : List UInt8) then (if (t153.length : Int) = 2 then (if 0 < (t153.length : Int) then (if ((rd_L4 t153 0).length : Int) = 2 then ((merge_All.f ([] : List (List (S29)))).bind fun t158 => (some ((t158.length : Int) == 0))) else (none)) else (none)) else (none)) else (none)) else (none)) else (none)))) = some r := by first | (rw [hy141]; with_reducible exact H) | (have H2_ := (Option.bind_some _ _).symm.trans H; rw [hy141]; with_reducible exact H2_) | (have H2_ := (Option.bind_some _ _).symm.trans H; with_reducible exact H2_) | with_reducible exact H | (rw [hy141]; exact H) | exact H
  have Ny141 := Aside0.mk hy141
  clear hy141
  obtain ⟨y144, hy144⟩ : ∃ y_ : List (List (S29)), y_ = (([y138, y141] : List (List (S29)))) := ⟨_, rfl⟩
  replace H : ((merge_Latest.f 2 y144).bind fun t147 => ((merge_Cut.f k 1 (([(⟨(⟨#[97]⟩ : ByteArray), 2, 0, (⟨#[]⟩ : ByteArray)⟩ : S29), (⟨(⟨#[97]⟩ : ByteArray), 1, 0, (⟨#[]⟩ : ByteArray)⟩ : S29), (⟨(⟨#[98]⟩ : ByteArray), 1, 0, (⟨#[]⟩ : ByteArray)⟩ : S29)] : List (S29)))).bind fun t153 => (if (t147.length : Int) = 1 then (if 0 < (t147.length : Int) then (if ((rd_T37 t147 0).f0).toList = ([98] : List UInt8) then (if (t153.length : Int) = 2 then (if 0 < (t153.length : Int) then (if ((rd_L4 t153 0).length : Int) = 2 then ((merge_All.f ([] : List (List (S29)))).bind fun t158 => (some ((t158.length : Int) == 0))) else (none)) else (none)) else (none)) else (none)) else (none)) else (none)))) = some r := by first | (rw [hy144]; with_reducible exact H) | (have H2_ := (Option.bind_some _ _).symm.trans H; rw [hy144]; with_reducible exact H2_) | (have H2_ := (Option.bind_some _ _).symm.trans H; with_reducible exact H2_) | with_reducible exact H | (rw [hy144]; exact H) | exact H
  have Ny144 := Aside0.mk hy144
  clear hy144
  replace H := Option.bind_eq_some_iff.mp H
  obtain ⟨t147, A10, H⟩ := H
  replace H : ((merge_Cut.f k 1 (([(⟨(⟨#[97]⟩ : ByteArray), 2, 0, (⟨#[]⟩ : ByteArray)⟩ : S29), (⟨(⟨#[97]⟩ : ByteArray), 1, 0, (⟨#[]⟩ : ByteArray)⟩ : S29), (⟨(⟨#[98]⟩ : ByteArray), 1, 0, (⟨#[]⟩ : ByteArray)⟩ : S29)] : List (S29)))).bind fun t153 => (if (t147.length : Int) = 1 then (if 0 < (t147.length : Int) then (if ((rd_T37 t147 0).f0).toList = ([98] : List UInt8) then (if (t153.length : Int) = 2 then (if 0 < (t153.length : Int) then (if ((rd_L4 t153 0).length : Int) = 2 then ((merge_All.f ([] : List (List (S29)))).bind fun t158 => (some ((t158.length : Int) == 0))) else (none)) else (none)) else (none)) else (none)) else (none)) else (none))) = some r := H
  have A1 := Aside0.mk A10
  clear A10
  obtain ⟨y150, hy150⟩ : ∃ y_ : List (S29), y_ = (([(⟨(⟨#[97]⟩ : ByteArray), 2, 0, (⟨#[]⟩ : ByteArray)⟩ : S29), (⟨(⟨#[97]⟩ : ByteArray), 1, 0, (⟨#[]⟩ : ByteArray)⟩ : S29), (⟨(⟨#[98]⟩ : ByteArray), 1, 0, (⟨#[]⟩ : ByteArray)⟩ : S29)] : List (S29))) := ⟨_, rfl⟩
  replace H : ((merge_Cut.f k 1 y150).bind fun t153 => (if (t147.length : Int) = 1 then (if 0 < (t147.length : Int) then (if ((rd_T37 t147 0).f0).toList = ([98] : List UInt8) then (if (t153.length : Int) = 2 then (if 0 < (t153.length : Int) then (if ((rd_L4 t153 0).length : Int) = 2 then ((merge_All.f ([] : List (List (S29)))).bind fun t158 => (some ((t158.length : Int) == 0))) else (none)) else (none)) else (none)) else (none)) else (none)) else (none))) = some r := by first | (rw [hy150]; with_reducible exact H) | (have H2_ := (Option.bind_some _ _).symm.trans H; rw [hy150]; with_reducible exact H2_) | (have H2_ := (Option.bind_some _ _).symm.trans H; with_reducible exact H2_) | with_reducible exact H | (rw [hy150]; exact H) | exact H
  have Ny150 := Aside0.mk hy150
  clear hy150
  replace H := Option.bind_eq_some_iff.mp H
  obtain ⟨t153, A20, H⟩ := H
  replace H : (if (t147.length : Int) = 1 then (if 0 < (t147.length : Int) then (if ((rd_T37 t147 0).f0).toList = ([98] : List UInt8) then (if (t153.length : Int) = 2 then (if 0 < (t153.length : Int) then (if ((rd_L4 t153 0).length : Int) = 2 then ((merge_All.f ([] : List (List (S29)))).bind fun t158 => (some ((t158.length : Int) == 0))) else (none)) else (none)) else (none)) else (none)) else (none)) else (none)) = some r := H
  have A2 := Aside0.mk A20
  clear A20
  by_cases c3 : (t147.length : Int) = 1
  · rw [if_pos c3] at H
    have c3b0 : ((t147.length : Int) == 1) = true := beq_iff_eq.mpr c3
    have c3b1 : ((t147.length : Int) != 1) = false := bne_eq_false_iff_eq.mpr c3
    clear c3
    by_cases c4 : 0 < (t147.length : Int)
    · rw [if_pos c4] at H
      have c4b0 : decide (0 < (t147.length : Int)) = true := decide_eq_true c4
      have c4b1 : decide (0 < t147.length) = true := decide_eq_true (by omega)
      clear c4
      by_cases c5 : ((rd_T37 t147 0).f0).toList = ([98] : List UInt8)
      · rw [if_pos c5] at H
        have c5b0 : (((rd_T37 t147 0).f0).toList == ([98] : List UInt8)) = true := beq_iff_eq.mpr c5
        have c5b1 : (((rd_T37 t147 0).f0).toList != ([98] : List UInt8)) = false := bne_eq_false_iff_eq.mpr c5
        clear c5
        by_cases c6 : (t153.length : Int) = 2
        · rw [if_pos c6] at H
          have c6b0 : ((t153.length : Int) == 2) = true := beq_iff_eq.mpr c6
          have c6b1 : ((t153.length : Int) != 2) = false := bne_eq_false_iff_eq.mpr c6
          clear c6
          by_cases c7 : 0 < (t153.length : Int)
          · rw [if_pos c7] at H
            have c7b0 : decide (0 < (t153.length : Int)) = true := decide_eq_true c7
            have c7b1 : decide (0 < t153.length) = true := decide_eq_true (by omega)
            clear c7
            by_cases c8 : ((rd_L4 t153 0).length : Int) = 2
            · rw [if_pos c8] at H
              have c8b0 : (((rd_L4 t153 0).length : Int) == 2) = true := beq_iff_eq.mpr c8
              have c8b1 : (((rd_L4 t153 0).length : Int) != 2) = false := bne_eq_false_iff_eq.mpr c8
              clear c8
              replace H := Option.bind_eq_some_iff.mp H
              obtain ⟨t158, A90, H⟩ := H
              replace H : (some ((t158.length : Int) == 0)) = some r := H
              have A9 := Aside0.mk A90
              clear A90
              obtain rfl := Option.some.inj H
              go_enter Try.func11, Try.ntmps11
              go_wp2_with (first | ((with_reducible refine gate_dst (N := 4) rfl ?_); (try (refine gate_guard (by rfl) ?_; dsimp only)); refine Kd.R_lit k29 _ 29 ?hg (N := 4) ?hd (xs := ([(⟨(⟨#[97]⟩ : ByteArray), 3, 1, (⟨#[]⟩ : ByteArray)⟩ : S29)] : List (S29))) (inner := [.string (⟨#[97]⟩ : ByteArray), .int .u64 3, .int .i64 1, .string (⟨#[]⟩ : ByteArray)]) (ok := fun _ => True) (okp := fun _ => True) ?hr ?hp (fun _ hk => hk) trivial (Below.refl _ _) (Nat.le_refl _) (by simp) ?_; (case hd => rfl); (case hg => rfl); (case hr => first | (go_simp; done) | (go_simp; rfl)); (case hp => exact (Reps.c4 (show Kd.M k29 _ _ _ (⟨(⟨#[97]⟩ : ByteArray), 3, 1, (⟨#[]⟩ : ByteArray)⟩ : S29) [.string (⟨#[97]⟩ : ByteArray), .int .u64 3, .int .i64 1, .string (⟨#[]⟩ : ByteArray)] from (k29_mkM _ _ _ (⟨(⟨#[97]⟩ : ByteArray), 3, 1, (⟨#[]⟩ : ByteArray)⟩ : S29) )) (Reps.none _ _))); intro v139 w10 ho11 hb hg_ hnew_; clear hg_ hnew_; (first | rw [← Ny138.out] at ho11 | (simp only [Int.reduceToNat] at ho11; rw [← Ny138.out] at ho11)); have n0_ := Aside0.mk (Kd.R_lower ho11 (below_size (by repeat (first | (with_reducible first | exact HB.out | apply below_alloc | apply pw_below_drewN | apply below_drew1) | exact HB.out)))); have n1_ := Aside0.mk (below_step (by repeat (first | (with_reducible first | exact HB.out | apply below_alloc | apply pw_below_drewN | apply below_drew1) | exact HB.out)) hb); clear HB; have HO140 := n0_; have HB := n1_; clear n0_ n1_; clear hb ho11) | ((with_reducible refine gate_dst (N := 7) rfl ?_); (try (refine gate_guard (by rfl) ?_; dsimp only)); refine Kd.R_lit k29 _ 29 ?hg (N := 7) ?hd (xs := ([(⟨(⟨#[97]⟩ : ByteArray), 1, 2, (⟨#[]⟩ : ByteArray)⟩ : S29), (⟨(⟨#[98]⟩ : ByteArray), 2, 1, (⟨#[]⟩ : ByteArray)⟩ : S29)] : List (S29))) (inner := [.string (⟨#[97]⟩ : ByteArray), .int .u64 1, .int .i64 2, .string (⟨#[]⟩ : ByteArray), .string (⟨#[98]⟩ : ByteArray), .int .u64 2, .int .i64 1, .string (⟨#[]⟩ : ByteArray)]) (ok := fun _ => True) (okp := fun _ => True) ?hr ?hp (fun _ hk => hk) trivial (Below.refl _ _) (Nat.le_refl _) (by simp) ?_; (case hd => rfl); (case hg => rfl); (case hr => first | (go_simp; done) | (go_simp; rfl)); (case hp => exact (Reps.c4 (show Kd.M k29 _ _ _ (⟨(⟨#[97]⟩ : ByteArray), 1, 2, (⟨#[]⟩ : ByteArray)⟩ : S29) [.string (⟨#[97]⟩ : ByteArray), .int .u64 1, .int .i64 2, .string (⟨#[]⟩ : ByteArray)] from (k29_mkM _ _ _ (⟨(⟨#[97]⟩ : ByteArray), 1, 2, (⟨#[]⟩ : ByteArray)⟩ : S29) )) (Reps.c4 (show Kd.M k29 _ _ _ (⟨(⟨#[98]⟩ : ByteArray), 2, 1, (⟨#[]⟩ : ByteArray)⟩ : S29) [.string (⟨#[98]⟩ : ByteArray), .int .u64 2, .int .i64 1, .string (⟨#[]⟩ : ByteArray)] from (k29_mkM _ _ _ (⟨(⟨#[98]⟩ : ByteArray), 2, 1, (⟨#[]⟩ : ByteArray)⟩ : S29) )) (Reps.none _ _)))); intro v142 w12 ho13 hb hg_ hnew_; clear hg_ hnew_; (first | rw [← Ny141.out] at ho13 | (simp only [Int.reduceToNat] at ho13; rw [← Ny141.out] at ho13)); have n0_ := Aside0.mk (Kd.R_elder' (by (with_reducible repeat (first | apply Kd.R_alloc | apply Kd.R_drewN | apply Kd.R_drew)); exact HO140.out) (by first | exact Kd.R_base ho13 | exact Kd.S_base ho13 | exact Kd.R_base ho13) hb); have n1_ := Aside0.mk (Kd.R_lower (Kd.R_new' ho13 (Kd.R_lt (by (with_reducible repeat (first | apply Kd.R_alloc | apply Kd.R_drewN | apply Kd.R_drew)); exact HO140.out))) (below_size (by repeat (first | (with_reducible first | exact HB.out | apply below_alloc | apply pw_below_drewN | apply below_drew1) | exact HB.out)))); have n2_ := Aside0.mk (below_step (by repeat (first | (with_reducible first | exact HB.out | apply below_alloc | apply pw_below_drewN | apply below_drew1) | exact HB.out)) hb); clear HO140; clear HB; have HO140 := n0_; have HO143 := n1_; have HB := n2_; clear n0_ n1_ n2_; clear hb ho13; obtain ⟨Ao14, co14, eo14⟩ := Kd.R_slice HO140.out; subst eo14; obtain ⟨Ao15, co15, eo15⟩ := Kd.R_slice HO143.out; subst eo15) | ((with_reducible refine gate_dst (N := 8) rfl ?_); (try (refine gate_guard (by rfl) ?_; dsimp only)); refine Kd.N_lit (Kd.slice 29 k29) _ 22 ?hg (N' := 8) ?hd (xs := ([y138, y141] : List (List (S29)))) (inner := [.slice Ao14 y138.length co14, .slice Ao15 y141.length co15]) (ok := (fun _ => True)) (okp := (fun _ => True)) ?hr ?hp (fun _ hk => hk) ((show ∀ k_, w12.heap.size ≤ k_ → (fun _ => True) k_ from fun k_ hk => trivial) _ (Nat.le_refl _)) (Below.refl _ _) (Nat.le_refl _) (by simp) ?_; (case hd => rfl); (case hg => rfl); (case hr => first | (go_simp; done) | (go_simp; rfl)); (case hp => exact (Reps.one (show Kd.FK (Kd.slice 29 k29) _ _ y138 [.slice Ao14 y138.length co14] from (Kd.FK_slice_mk (Kd.R_reads' (Kd.R_mono (ok' := (fun _ => True)) (HO140.out) (fun k_ hk => trivial))).2.1 (Kd.R_F (Kd.R_mono (ok' := (fun _ => True)) (HO140.out) (fun k_ hk => trivial))))) (Reps.one (show Kd.FK (Kd.slice 29 k29) _ _ y141 [.slice Ao15 y141.length co15] from (Kd.FK_slice_mk (Kd.R_reads' (Kd.R_mono (ok' := (fun _ => True)) (HO143.out) (fun k_ hk => trivial))).2.1 (Kd.R_F (Kd.R_mono (ok' := (fun _ => True)) (HO143.out) (fun k_ hk => trivial))))) (Reps.none _ _)))); intro v145 w16 ho17 hb hg_ hnew_; clear hg_ hnew_; (first | rw [← Ny144.out] at ho17 | (simp only [Int.reduceToNat] at ho17; rw [← Ny144.out] at ho17)); have n0_ := Aside0.mk (Kd.N_lower ho17 (below_size (by repeat (first | (with_reducible first | exact HB.out | apply below_alloc | apply pw_below_drewN | apply below_drew1) | exact HB.out)))); have n1_ := Aside0.mk (below_step (by repeat (first | (with_reducible first | exact HB.out | apply below_alloc | apply pw_below_drewN | apply below_drew1) | exact HB.out)) hb); clear HB; clear HO140; clear HO143; have HO146 := n0_; have HB := n1_; clear n0_ n1_; clear hb ho17; obtain ⟨Ao18, co18, eo18⟩ := Kd.N_slice HO146.out; subst eo18) | ((with_reducible refine gate_callee (f := 15) rfl ?_); refine goesL_ (some 9) rfl rfl Try.func15 (by kernel_rfl) rfl #[.int .u64 2, .slice Ao18 y144.length co18] rfl (by (try simp only [List.map_toArray, List.map_cons, List.map_nil]); first | done | rfl | (simp only [List.length_drop, List.length_take]; rfl)) ?_; (with_reducible refine (merge_Latest.calls 2 _ _ y144 t147 _ ?side1 ?side2 A1.out).mono ?_); (case side1 => repeat (first | exact (Kd.N_reads' HO146.out).2.2 | (with_reducible refine Kd.C_alloc ?_ _) | (with_reducible refine Kd.C_drewN ?_ _) | (with_reducible refine Kd.C_drew ?_))); (case side2 => exact (Kd.N_reads' HO146.out).2.1); rintro e w19 ⟨v148, rfl, ho0, hb⟩; refine ⟨_, rfl, ?_⟩; have n0_ := Aside0.mk (Kd.N_elder' (by (with_reducible repeat (first | apply Kd.N_alloc | apply Kd.N_drewN | apply Kd.N_drew)); exact HO146.out) (by first | exact Kd.R_base ho0 | exact Kd.S_base ho0 | exact Kd.R_base ho0) hb); have n1_ := Aside0.mk (Kd.R_lower ho0 (below_size (by repeat (first | (with_reducible first | exact HB.out | apply below_alloc | apply pw_below_drewN | apply below_drew1) | exact HB.out)))); have n2_ := Aside0.mk (below_step (by repeat (first | (with_reducible first | exact HB.out | apply below_alloc | apply pw_below_drewN | apply below_drew1) | exact HB.out)) hb); clear HO146; clear HB; have HO146 := n0_; have HO149 := n1_; have HB := n2_; clear n0_ n1_ n2_; (try clear hb); (try clear hb2); (try clear hk); (try clear hi); (try clear ho0)) | ((with_reducible refine gate_dst (N := 13) rfl ?_); (try (refine gate_guard (by rfl) ?_; dsimp only)); refine Kd.R_lit k29 _ 29 ?hg (N := 13) ?hd (xs := ([(⟨(⟨#[97]⟩ : ByteArray), 2, 0, (⟨#[]⟩ : ByteArray)⟩ : S29), (⟨(⟨#[97]⟩ : ByteArray), 1, 0, (⟨#[]⟩ : ByteArray)⟩ : S29), (⟨(⟨#[98]⟩ : ByteArray), 1, 0, (⟨#[]⟩ : ByteArray)⟩ : S29)] : List (S29))) (inner := [.string (⟨#[97]⟩ : ByteArray), .int .u64 2, .int .i64 0, .string (⟨#[]⟩ : ByteArray), .string (⟨#[97]⟩ : ByteArray), .int .u64 1, .int .i64 0, .string (⟨#[]⟩ : ByteArray), .string (⟨#[98]⟩ : ByteArray), .int .u64 1, .int .i64 0, .string (⟨#[]⟩ : ByteArray)]) (ok := fun _ => True) (okp := fun _ => True) ?hr ?hp (fun _ hk => hk) trivial (Below.refl _ _) (Nat.le_refl _) (by simp) ?_; (case hd => rfl); (case hg => rfl); (case hr => first | (go_simp; done) | (go_simp; rfl)); (case hp => exact (Reps.c4 (show Kd.M k29 _ _ _ (⟨(⟨#[97]⟩ : ByteArray), 2, 0, (⟨#[]⟩ : ByteArray)⟩ : S29) [.string (⟨#[97]⟩ : ByteArray), .int .u64 2, .int .i64 0, .string (⟨#[]⟩ : ByteArray)] from (k29_mkM _ _ _ (⟨(⟨#[97]⟩ : ByteArray), 2, 0, (⟨#[]⟩ : ByteArray)⟩ : S29) )) (Reps.c4 (show Kd.M k29 _ _ _ (⟨(⟨#[97]⟩ : ByteArray), 1, 0, (⟨#[]⟩ : ByteArray)⟩ : S29) [.string (⟨#[97]⟩ : ByteArray), .int .u64 1, .int .i64 0, .string (⟨#[]⟩ : ByteArray)] from (k29_mkM _ _ _ (⟨(⟨#[97]⟩ : ByteArray), 1, 0, (⟨#[]⟩ : ByteArray)⟩ : S29) )) (Reps.c4 (show Kd.M k29 _ _ _ (⟨(⟨#[98]⟩ : ByteArray), 1, 0, (⟨#[]⟩ : ByteArray)⟩ : S29) [.string (⟨#[98]⟩ : ByteArray), .int .u64 1, .int .i64 0, .string (⟨#[]⟩ : ByteArray)] from (k29_mkM _ _ _ (⟨(⟨#[98]⟩ : ByteArray), 1, 0, (⟨#[]⟩ : ByteArray)⟩ : S29) )) (Reps.none _ _))))); intro v151 w20 ho21 hb hg_ hnew_; clear hg_ hnew_; (first | rw [← Ny150.out] at ho21 | (simp only [Int.reduceToNat] at ho21; rw [← Ny150.out] at ho21)); have n0_ := Aside0.mk (Kd.N_elder' (by (with_reducible repeat (first | apply Kd.N_alloc | apply Kd.N_drewN | apply Kd.N_drew)); exact HO146.out) (by first | exact Kd.R_base ho21 | exact Kd.S_base ho21 | exact Kd.R_base ho21) hb); have n1_ := Aside0.mk (Kd.R_below (by (with_reducible repeat (first | apply Kd.R_alloc | apply Kd.R_drewN | apply Kd.R_drew)); exact HO149.out) hb); have n2_ := Aside0.mk (Kd.R_lower ho21 (below_size (by repeat (first | (with_reducible first | exact HB.out | apply below_alloc | apply pw_below_drewN | apply below_drew1) | exact HB.out)))); have n3_ := Aside0.mk (below_step (by repeat (first | (with_reducible first | exact HB.out | apply below_alloc | apply pw_below_drewN | apply below_drew1) | exact HB.out)) hb); clear HO146; clear HO149; clear HB; have HO146 := n0_; have HO149 := n1_; have HO152 := n2_; have HB := n3_; clear n0_ n1_ n2_ n3_; clear hb ho21; obtain ⟨Ao22, co22, eo22⟩ := Kd.R_slice HO152.out; subst eo22) | ((with_reducible refine gate_callee (f := 12) rfl ?_); refine goesL_ (some 14) rfl rfl Try.func12 (by kernel_rfl) rfl #[.int .i64 1, .slice Ao22 y150.length co22] rfl (by (try simp only [List.map_toArray, List.map_cons, List.map_nil]); first | done | rfl | (simp only [List.length_drop, List.length_take]; rfl)) ?_; (with_reducible refine (merge_Cut.calls k 1 _ _ y150 t153 _ ?side1 ?side2 A2.out).mono ?_); (case side1 => repeat (first | exact (Kd.R_reads' HO152.out).2.2 | (with_reducible refine Kd.C_alloc ?_ _) | (with_reducible refine Kd.C_drewN ?_ _) | (with_reducible refine Kd.C_drew ?_))); (case side2 => exact (Kd.R_reads' HO152.out).2.1); rintro e w23 ⟨v154, rfl, ho0, hb⟩; refine ⟨_, rfl, ?_⟩; have n0_ := Aside0.mk (Kd.N_elder' (by (with_reducible repeat (first | apply Kd.N_alloc | apply Kd.N_drewN | apply Kd.N_drew)); exact HO146.out) (by first | exact Kd.N_base ho0 | exact Kd.S_base ho0 | exact Kd.R_base ho0) hb); have n1_ := Aside0.mk (Kd.R_below (by (with_reducible repeat (first | apply Kd.R_alloc | apply Kd.R_drewN | apply Kd.R_drew)); exact HO149.out) hb); have n2_ := Aside0.mk (Kd.R_below (by (with_reducible repeat (first | apply Kd.R_alloc | apply Kd.R_drewN | apply Kd.R_drew)); exact HO152.out) hb); have n3_ := Aside0.mk (Kd.N_lower (Kd.N_mono (ok' := fun k_ => some k_ ≠ (.slice Ao18 y144.length co18 : Value).ownBlock ∧ some k_ ≠ (v148 : Value).ownBlock ∧ some k_ ≠ (.slice Ao22 y150.length co22 : Value).ownBlock) (Kd.S_N (Kd.S_bound ho0)) (fun k_ hk_ => ⟨(Kd.fresh' (Kd.N_lt (by (with_reducible repeat (first | apply Kd.N_alloc | apply Kd.N_drewN | apply Kd.N_drew)); exact HO146.out)) k_ hk_.2.1), (Kd.fresh' (Kd.R_lt (by (with_reducible repeat (first | apply Kd.R_alloc | apply Kd.R_drewN | apply Kd.R_drew)); exact HO149.out)) k_ hk_.2.1), (Kd.fresh' (Kd.R_lt (by (with_reducible repeat (first | apply Kd.R_alloc | apply Kd.R_drewN | apply Kd.R_drew)); exact HO152.out)) k_ hk_.2.1)⟩)) (below_size (by repeat (first | (with_reducible first | exact HB.out | apply below_alloc | apply pw_below_drewN | apply below_drew1) | exact HB.out)))); have n4_ := Aside0.mk (below_step (by repeat (first | (with_reducible first | exact HB.out | apply below_alloc | apply pw_below_drewN | apply below_drew1) | exact HB.out)) hb); clear HO146; clear HO149; clear HO152; clear HB; have HO146 := n0_; have HO149 := n1_; have HO152 := n2_; have HO155 := n3_; have HB := n4_; clear n0_ n1_ n2_ n3_ n4_; (try clear hb); (try clear hb2); (try clear hk); (try clear hi); (try clear ho0); obtain ⟨Ao24, co24, eo24⟩ := Kd.R_slice HO149.out; subst eo24; have p156 : 0 ≤ (0 : Int) := (by omega); have q156 : 0 < (t147.length : Int) := of_decide_eq_true (by first | (with_reducible assumption) | assumption); obtain ⟨ad156, e156, hx156_0, hx156_1⟩ := at_T37 (Kd.R_reads' HO149.out).2.2 0 p156 q156; cases e156; have qi156 : (0 < t147.length) = True := eq_true (by omega); (try rw [show ((0 : Int)).toNat = 0 from rfl] at hx156_0); (try rw [show 0 * 2 = 0 from rfl] at hx156_0); (try rw [Addr.add_zero'] at hx156_0); (try rw [show ((0 : Int)).toNat = 0 from rfl] at hx156_1); (try rw [show 0 * 2 = 0 from rfl] at hx156_1); (try rw [Addr.add_zero'] at hx156_1); replace p156 := eq_true p156; replace q156 := eq_true q156; obtain ⟨Ao25, co25, eo25⟩ := Kd.N_slice HO155.out; subst eo25; have p157 : 0 ≤ (0 : Int) := (by omega); have q157 : 0 < (t153.length : Int) := of_decide_eq_true (by first | (with_reducible assumption) | assumption); obtain ⟨ad157, A157_0, c157_0, e157, hx157_0, hl157_0, hi157_0⟩ := at_L4 (Kd.N_reads' HO155.out).2.2 0 p157 q157; cases e157; obtain ⟨ce157, hce157, hMe157, hcc157⟩ := Kd.N_get HO155.out [] 0 p157 (by first | exact q157 | exact of_decide_eq_true (by first | (with_reducible assumption) | assumption) | (have e_ := (Kd.N_reads' HO155.out).1; omega)); obtain ⟨ua157_0, uc157_0, rfl, ul157_0, ge157_0⟩ := Kd.FK_slice_open hMe157; have hv157_0 := hcc157 0 _ rfl; rw [Nat.add_zero, show ((Kd.slice 29 k29)).sz = 1 from rfl, Nat.mul_one] at hv157_0; replace hv157_0 := Option.some.inj (hv157_0.symm.trans hx157_0); injection hv157_0 with hva_ hvn_ hvc_; rw [hva_] at ge157_0; rw [hvc_] at ul157_0; have HL157_0 := Aside0.mk (show Kd.V k29 29 _ w.heap.size _ _ (rd_L4 t153 0) from Kd.V_mk ul157_0 ge157_0); clear hva_ hvn_ hvc_ ge157_0 ul157_0; clear hcc157 hce157; have qi157 : (0 < t153.length) = True := eq_true (by omega); (try rw [show ((0 : Int)).toNat = 0 from rfl] at hx157_0); (try rw [Addr.add_zero'] at hx157_0); have HR157_0 := Aside0.mk hi157_0; have HC157_0 := Aside0.mk hl157_0; clear hi157_0 hl157_0; replace p157 := eq_true p157; replace q157 := eq_true q157) | (go_at_call 14; (refine (merge_All.calls _ _ ([] : List (List (S29))) t158 _ ?side1 ?side2 A9.out).mono ?_); (case side1 => exact Kd.C_nil _ _); (case side2 => exact Nat.le_refl _); rintro e w26 ⟨v159, rfl, ho0, hb⟩; have n0_ := Aside0.mk (Kd.N_elder' (by (with_reducible repeat (first | apply Kd.N_alloc | apply Kd.N_drewN | apply Kd.N_drew)); exact HO146.out) (by first | exact Kd.R_base ho0 | exact Kd.S_base ho0 | exact Kd.R_base ho0) hb); have n1_ := Aside0.mk (Kd.R_below (by (with_reducible repeat (first | apply Kd.R_alloc | apply Kd.R_drewN | apply Kd.R_drew)); exact HO149.out) hb); have n2_ := Aside0.mk (Kd.R_elder' (by (with_reducible repeat (first | apply Kd.R_alloc | apply Kd.R_drewN | apply Kd.R_drew)); exact HO152.out) (by first | exact Kd.R_base ho0 | exact Kd.S_base ho0 | exact Kd.R_base ho0) hb); have n3_ := Aside0.mk (Kd.N_elder' (by (with_reducible repeat (first | apply Kd.N_alloc | apply Kd.N_drewN | apply Kd.N_drew)); exact HO155.out) (by first | exact Kd.R_base ho0 | exact Kd.S_base ho0 | exact Kd.R_base ho0) hb); have n4_ := Aside0.mk (Kd.V_elder' (by (with_reducible repeat (first | apply Kd.V_alloc | apply Kd.V_drewN | apply Kd.V_drew)); exact HL157_0.out) (by first | exact Kd.R_base ho0 | exact Kd.S_base ho0 | exact Kd.R_base ho0) hb); have n5_ := Aside0.mk (Kd.R_lower (Kd.R_new' ho0 (Kd.R_lt (by (with_reducible repeat (first | apply Kd.R_alloc | apply Kd.R_drewN | apply Kd.R_drew)); exact HO152.out))) (below_size (by repeat (first | (with_reducible first | exact HB.out | apply below_alloc | apply pw_below_drewN | apply below_drew1) | exact HB.out)))); have n6_ := Aside0.mk (Kd.C_below (by repeat (first | (with_reducible exact HR157_0.out) | (with_reducible refine Kd.C_alloc ?_ _) | (with_reducible refine Kd.C_drewN ?_ _) | (with_reducible refine Kd.C_drew ?_) | exact HR157_0.out)) hb); have n7_ := Aside0.mk (below_step (by repeat (first | (with_reducible first | exact HB.out | apply below_alloc | apply pw_below_drewN | apply below_drew1) | exact HB.out)) hb); clear HO146; clear HO149; clear HO152; clear HO155; clear HL157_0; clear HR157_0; clear HB; have HO146 := n0_; have HO149 := n1_; have HO152 := n2_; have HO155 := n3_; have HL157_0 := n4_; have HO160 := n5_; have HR157_0 := n6_; have HB := n7_; clear n0_ n1_ n2_ n3_ n4_ n5_ n6_ n7_; (try clear hb); (try clear hb2); (try clear hk); (try clear hi); (try clear ho0); obtain ⟨Ao27, co27, eo27⟩ := Kd.R_slice HO160.out; subst eo27))
              go_ret
              exact ⟨by first | rfl | (simp [errW_none, errW_some] <;> rfl) | (simp [*, errW_none, errW_some] <;> rfl), by repeat (first | (with_reducible first | exact HB.out | apply below_alloc | apply pw_below_drewN | apply below_drew1) | exact HB.out)⟩
            · rw [if_neg c8] at H
              exact absurd H (by simp)
          · rw [if_neg c7] at H
            exact absurd H (by simp)
        · rw [if_neg c6] at H
          exact absurd H (by simp)
      · rw [if_neg c5] at H
        exact absurd H (by simp)
    · rw [if_neg c4] at H
      exact absurd H (by simp)
  · rw [if_neg c3] at H
    exact absurd H (by simp)
def cornucopiabook_SameEntries.l0 : Nat → List (S29) → List (S29) → Int → Option (Bool)
  | 0, _, _, _ => none
  | k + 1, x0, x1, x5 => if x5 < (x0.length : Int) then (if 0 ≤ x5 then (if x5 < (x1.length : Int) then (if ((((rd_T29 x0 x5).f0).toList) == (((rd_T29 x1 x5).f0).toList) && (((rd_T29 x0 x5).f1) == ((rd_T29 x1 x5).f1) && (((rd_T29 x0 x5).f2) == ((rd_T29 x1 x5).f2) && ((((rd_T29 x0 x5).f3).toList) == (((rd_T29 x1 x5).f3).toList))))) = true then (cornucopiabook_SameEntries.l0 k x0 x1 (wrap64 (x5 + 1))) else (some false)) else (none)) else (none)) else (some true)
def cornucopiabook_SameEntries.f (k : Nat) (l0 : List (S29)) (l1 : List (S29)) : Option (Bool) := if (l0.length : Int) = (l1.length : Int) then (cornucopiabook_SameEntries.l0 k l0 l1 0) else (some false)
theorem cornucopiabook_SameEntries.mono_l : ∀ k, (∀ y0 y1 y2, LeO (cornucopiabook_SameEntries.l0 k y0 y1 y2) (cornucopiabook_SameEntries.l0 (k + 1) y0 y1 y2))
  | 0 => fun _ _ _ r h => by simp [cornucopiabook_SameEntries.l0] at h
  | k + 1 => by
    have ih0 := cornucopiabook_SameEntries.mono_l k
    · intro y0 y1 y2
      unfold cornucopiabook_SameEntries.l0
      repeat' first
      | (with_reducible exact ih0 _ _ _)
      | (with_reducible exact LeO.refl _)
      | (with_reducible exact LeO.none _)
      | (with_reducible refine LeO.ite ?_ ?_)
      | (with_reducible refine LeO.bind ?_ (fun _ => ?_))
      | exact ih0 _ _ _
      | exact LeO.none _
      | refine LeO.ite ?_ ?_
      | refine LeO.bind ?_ (fun _ => ?_)
theorem cornucopiabook_SameEntries.mono : ∀ a0 a1 k, LeO (cornucopiabook_SameEntries.f k a0 a1) (cornucopiabook_SameEntries.f (k + 1) a0 a1) := by
  intro a0 a1 k
  have ih0 := cornucopiabook_SameEntries.mono_l k
  unfold cornucopiabook_SameEntries.f
  repeat' first
      | (with_reducible exact ih0 _ _ _)
      | (with_reducible exact LeO.refl _)
      | (with_reducible exact LeO.none _)
      | (with_reducible refine LeO.ite ?_ ?_)
      | (with_reducible refine LeO.bind ?_ (fun _ => ?_))
      | exact ih0 _ _ _
      | exact LeO.none _
      | refine LeO.ite ?_ ?_
      | refine LeO.bind ?_ (fun _ => ?_)
set_option maxHeartbeats 8000000 in
set_option maxRecDepth 100000 in
theorem cornucopiabook_SameEntries.calls (k : Nat) (A0 : Option Addr) (c0 : Nat) (l0 : List (S29)) (A1 : Option Addr) (c1 : Nat) (l1 : List (S29)) (r : Bool) (w : World) (hr0 : Kd.C k29 w A0 l0.length l0) (hc0 : l0.length ≤ c0) (hr1 : Kd.C k29 w A1 l1.length l1) (hc1 : l1.length ≤ c1) (h : cornucopiabook_SameEntries.f k l0 l1 = some r) :
    Calls Try.prog 13 #[.slice A0 l0.length c0, .slice A1 l1.length c1] w fun e w' => e = .returned (.bool r) ∧ Drawn0 w w' := by
  have hu29 := Try.underlying29
  have HR0 := Aside0.mk hr0
  have HC0 := Aside0.mk hc0
  clear hr0 hc0
  have HR1 := Aside0.mk hr1
  have HC1 := Aside0.mk hc1
  clear hr1 hc1
  have H : (if (l0.length : Int) = (l1.length : Int) then (cornucopiabook_SameEntries.l0 k l0 l1 0) else (some false)) = some r := h
  clear h
  by_cases c3 : (l0.length : Int) = (l1.length : Int)
  · rw [if_pos c3] at H
    have c3b0 : ((l0.length : Int) == (l1.length : Int)) = true := beq_iff_eq.mpr c3
    have c3b1 : ((l0.length : Int) != (l1.length : Int)) = false := bne_eq_false_iff_eq.mpr c3
    have c3b2 : (l0.length == l1.length) = true := by first | simpa using c3 | (simp at c3 ⊢; omega)
    clear c3
    have H' := Aside0.mk H
    clear H
    go_enter Try.func13, Try.ntmps13
    go_wp2
    repeat (go_quiet (fail); try go_wp2)
    go_loopg [5] k (fun kq v5 w' => ∃ (x5_1 : Int), v5 = .int .i64 x5_1 ∧ Aside0 (cornucopiabook_SameEntries.l0 kq l0 l1 x5_1 = some r) ∧ Aside0 (kq ≤ k) ∧ Drawn0 w w')
    case atStart => exact ⟨(0), (by first | rfl | (simp; done) | (simp [*]; done)), H', ⟨Nat.le_refl _⟩, by repeat (first | exact Drawn0.refl _ | apply Drawn0.step)⟩
    case round =>
      clear H'
      try clear c1
      try clear p2
      try clear c3
      try clear c3b0
      try clear c3b1
      try clear c3b2
      obtain ⟨x5_1, rfl, HA, HK1, ⟨m1, rfl⟩⟩ := hrel
      cases gk with
      | zero => exact absurd HA.out (by simp [cornucopiabook_SameEntries.l0])
      | succ k1 =>
        have H := HA.out
        clear HA
        simp only [cornucopiabook_SameEntries.l0] at H
        by_cases c4 : x5_1 < (l0.length : Int)
        · rw [if_pos c4] at H
          have c4b0 : decide (x5_1 < (l0.length : Int)) = true := decide_eq_true c4
          clear c4
          by_cases c5 : 0 ≤ x5_1
          · rw [if_pos c5] at H
            have c5b0 : decide (0 ≤ x5_1) = true := decide_eq_true c5
            clear c5
            by_cases c6 : x5_1 < (l1.length : Int)
            · rw [if_pos c6] at H
              have c6b0 : decide (x5_1 < (l1.length : Int)) = true := decide_eq_true c6
              clear c6
              by_cases c7 : ((((rd_T29 l0 x5_1).f0).toList) == (((rd_T29 l1 x5_1).f0).toList) && (((rd_T29 l0 x5_1).f1) == ((rd_T29 l1 x5_1).f1) && (((rd_T29 l0 x5_1).f2) == ((rd_T29 l1 x5_1).f2) && ((((rd_T29 l0 x5_1).f3).toList) == (((rd_T29 l1 x5_1).f3).toList))))) = true
              · rw [if_pos c7] at H
                have c7b0 : ((((rd_T29 l0 x5_1).f0).toList) == (((rd_T29 l1 x5_1).f0).toList) && (((rd_T29 l0 x5_1).f1) == ((rd_T29 l1 x5_1).f1) && (((rd_T29 l0 x5_1).f2) == ((rd_T29 l1 x5_1).f2) && ((((rd_T29 l0 x5_1).f3).toList) == (((rd_T29 l1 x5_1).f3).toList))))) = true := c7
                (try (have c7b1 : decide ((((rd_T29 l0 x5_1).f0).toList) = (((rd_T29 l1 x5_1).f0).toList) && (((rd_T29 l0 x5_1).f1) == ((rd_T29 l1 x5_1).f1) && (((rd_T29 l0 x5_1).f2) == ((rd_T29 l1 x5_1).f2) && ((((rd_T29 l0 x5_1).f3).toList) == (((rd_T29 l1 x5_1).f3).toList))))) = true := by simpa using c7))
                (try (have c7b2 : ((((rd_T29 l0 x5_1).f0).toList) == (((rd_T29 l1 x5_1).f0).toList) && (((rd_T29 l0 x5_1).f1) == ((rd_T29 l1 x5_1).f1) && (((rd_T29 l0 x5_1).f2) == ((rd_T29 l1 x5_1).f2) && ((((rd_T29 l0 x5_1).f3).toList) == (((rd_T29 l1 x5_1).f3).toList))))) = true := by simpa using c7))
                clear c7
                have H' := Aside0.mk H
                clear H
                have p161 : 0 ≤ (x5_1 : Int) := of_decide_eq_true (by first | (with_reducible assumption) | assumption)
                have q161 : x5_1 < (l0.length : Int) := of_decide_eq_true (by first | (with_reducible assumption) | assumption)
                obtain ⟨ad161, e161, hx161_0, hx161_1, hx161_2, hx161_3⟩ := at_T29 HR0.out x5_1 p161 q161
                cases e161
                replace p161 := eq_true p161
                replace q161 := eq_true q161
                have p162 : 0 ≤ (x5_1 : Int) := of_decide_eq_true (by first | (with_reducible assumption) | assumption)
                have q162 : x5_1 < (l1.length : Int) := of_decide_eq_true (by first | (with_reducible assumption) | assumption)
                obtain ⟨ad162, e162, hx162_0, hx162_1, hx162_2, hx162_3⟩ := at_T29 HR1.out x5_1 p162 q162
                cases e162
                replace p162 := eq_true p162
                replace q162 := eq_true q162
                go_wp2
                repeat (go_quiet (fail); try go_wp2)
                go_roundg k1
                case measure => have := HK1.out; omega
                case rel => exact ⟨(wrap64 (x5_1 + 1)), (by first | rfl | (simp; done) | (simp [*]; done)), H', ⟨by have := HK1.out; omega⟩, by repeat (first | exact Drawn0.refl _ | apply Drawn0.step)⟩
              · rw [if_neg c7] at H
                have c7b0 : ((((rd_T29 l0 x5_1).f0).toList) == (((rd_T29 l1 x5_1).f0).toList) && (((rd_T29 l0 x5_1).f1) == ((rd_T29 l1 x5_1).f1) && (((rd_T29 l0 x5_1).f2) == ((rd_T29 l1 x5_1).f2) && ((((rd_T29 l0 x5_1).f3).toList) == (((rd_T29 l1 x5_1).f3).toList))))) = false := by simpa using c7
                (try (have c7b1 : decide ((((rd_T29 l0 x5_1).f0).toList) = (((rd_T29 l1 x5_1).f0).toList) && (((rd_T29 l0 x5_1).f1) == ((rd_T29 l1 x5_1).f1) && (((rd_T29 l0 x5_1).f2) == ((rd_T29 l1 x5_1).f2) && ((((rd_T29 l0 x5_1).f3).toList) == (((rd_T29 l1 x5_1).f3).toList))))) = false := by simpa using c7))
                (try (have c7b2 : ((((rd_T29 l0 x5_1).f0).toList) == (((rd_T29 l1 x5_1).f0).toList) && (((rd_T29 l0 x5_1).f1) == ((rd_T29 l1 x5_1).f1) && (((rd_T29 l0 x5_1).f2) == ((rd_T29 l1 x5_1).f2) && ((((rd_T29 l0 x5_1).f3).toList) == (((rd_T29 l1 x5_1).f3).toList))))) = false := by simpa using c7))
                (try (have c7b3 : ¬ ((((rd_T29 l0 x5_1).f0).toList) = (((rd_T29 l1 x5_1).f0).toList) && (((rd_T29 l0 x5_1).f1) == ((rd_T29 l1 x5_1).f1) && (((rd_T29 l0 x5_1).f2) == ((rd_T29 l1 x5_1).f2) && ((((rd_T29 l0 x5_1).f3).toList) == (((rd_T29 l1 x5_1).f3).toList))))) := by simpa using c7))
                clear c7
                obtain rfl := Option.some.inj H
                have p161 : 0 ≤ (x5_1 : Int) := of_decide_eq_true (by first | (with_reducible assumption) | assumption)
                have q161 : x5_1 < (l0.length : Int) := of_decide_eq_true (by first | (with_reducible assumption) | assumption)
                obtain ⟨ad161, e161, hx161_0, hx161_1, hx161_2, hx161_3⟩ := at_T29 HR0.out x5_1 p161 q161
                cases e161
                replace p161 := eq_true p161
                replace q161 := eq_true q161
                have p162 : 0 ≤ (x5_1 : Int) := of_decide_eq_true (by first | (with_reducible assumption) | assumption)
                have q162 : x5_1 < (l1.length : Int) := of_decide_eq_true (by first | (with_reducible assumption) | assumption)
                obtain ⟨ad162, e162, hx162_0, hx162_1, hx162_2, hx162_3⟩ := at_T29 HR1.out x5_1 p162 q162
                cases e162
                replace p162 := eq_true p162
                replace q162 := eq_true q162
                go_wp2
                repeat (go_quiet (fail); try go_wp2)
                go_ret
                exact ⟨by first | rfl | (simp; done) | (simp [*]; done), by repeat (first | exact Drawn0.refl _ | apply Drawn0.step)⟩
            · rw [if_neg c6] at H
              exact absurd H (by simp)
          · rw [if_neg c5] at H
            exact absurd H (by simp)
        · rw [if_neg c4] at H
          have c4b0 : decide (x5_1 < (l0.length : Int)) = false := decide_eq_false c4
          clear c4
          obtain rfl := Option.some.inj H
          go_wp2
          repeat (go_quiet (fail); try go_wp2)
          go_ret
          exact ⟨by first | rfl | (simp; done) | (simp [*]; done), by repeat (first | exact Drawn0.refl _ | apply Drawn0.step)⟩
  · rw [if_neg c3] at H
    have c3b0 : ((l0.length : Int) == (l1.length : Int)) = false := beq_eq_false_iff_ne.mpr c3
    have c3b1 : ((l0.length : Int) != (l1.length : Int)) = true := bne_iff_ne.mpr c3
    have c3b2 : (l0.length == l1.length) = false := by first | simpa using c3 | (simp at c3 ⊢; omega)
    obtain rfl := Option.some.inj H
    go_enter Try.func13, Try.ntmps13
    go_wp2
    repeat (go_quiet (fail); try go_wp2)
    go_ret
    exact ⟨by first | rfl | (simp; done) | (simp [*]; done), by repeat (first | exact Drawn0.refl _ | apply Drawn0.step)⟩
end Go.Proofs.Ytchgpcgolgcfdaa.PNum
end
