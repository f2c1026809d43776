/- Texts of this claim, put together and cut down to what is used (T4). -/
import Derived.Deep.RegionHeld3
import Derived.BigRegion
import Derived.Test.YtchgpcgolgcfdaaGreatMgT3
import Derived.Test.YtchgpcgolgcfdaaGreatMgT1
section
namespace Go.Proofs.YtchgpcgolgcfdaaGreat.PNum
open Go.RowKit Go.Proofs.YtchgpcgolgcfdaaGreatW.PrintWords Go.Proofs.YtchgpcgolgcfdaaGreatW.PrintLast Go.Proofs.YtchgpcgolgcfdaaGreatW.PrintMore
attribute [local go_sem] max2_int min2_int max_two min_two max_three min_three max_four min_four   -- for this text's walks alone
set_option linter.unusedVariables false
set_option linter.unusedSimpArgs false
def cornucopiabook_markEntries.l0 : Nat → Int → Int → Int → List (S32) → Int → Option ((List (S32)))
 | 0, _, _, _, _, _ => none
 | k + 1, x0, x1, x2, x7, x8 => if x8 < (wrap64 (x1 + x2)) then ((cornucopiabook_name.f x0 x8).bind fun t261 => (if x7.length < 2932031007402 then (cornucopiabook_markEntries.l0 k x0 x1 x2 (x7 ++ [(⟨t261, 0, 0, (⟨#[]⟩ : ByteArray)⟩ : S32)]) (wrap64 (x8 + 1))) else (none))) else (some x7)
def cornucopiabook_markEntries.f (k : Nat) (a0 : Int) (a1 : Int) (a2 : Int) : Option ((List (S32))) := cornucopiabook_markEntries.l0 k a0 a1 a2 ([] : List (S32)) a1
theorem cornucopiabook_markEntries.mono_l : ∀ k, (∀ y0 y1 y2 y3 y4, LeO (cornucopiabook_markEntries.l0 k y0 y1 y2 y3 y4) (cornucopiabook_markEntries.l0 (k + 1) y0 y1 y2 y3 y4))
 | 0 => fun _ _ _ _ _ r h => by simp [cornucopiabook_markEntries.l0] at h
 | k + 1 => by
  have ih0 := cornucopiabook_markEntries.mono_l k
  ·intro y0 y1 y2 y3 y4
   unfold cornucopiabook_markEntries.l0
   repeat' first
   | (with_reducible exact ih0 _ _ _ _ _)
   | (with_reducible exact LeO.refl _)
   | (with_reducible exact LeO.none _)
   | (with_reducible refine LeO.ite ?_ ?_)
   | (with_reducible refine LeO.bind ?_ (fun _ => ?_))
   | exact ih0 _ _ _ _ _
   | exact LeO.none _
   | refine LeO.ite ?_ ?_
   | refine LeO.bind ?_ (fun _ => ?_)
theorem cornucopiabook_markEntries.mono : ∀ a0 a1 a2 k, LeO (cornucopiabook_markEntries.f k a0 a1 a2) (cornucopiabook_markEntries.f (k + 1) a0 a1 a2) := by
 intro a0 a1 a2 k
 have ih0 := cornucopiabook_markEntries.mono_l k
 unfold cornucopiabook_markEntries.f
 repeat' first
   | (with_reducible exact ih0 _ _ _ _ _)
   | (with_reducible exact LeO.refl _)
   | (with_reducible exact LeO.none _)
   | (with_reducible refine LeO.ite ?_ ?_)
   | (with_reducible refine LeO.bind ?_ (fun _ => ?_))
   | exact ih0 _ _ _ _ _
   | exact LeO.none _
   | refine LeO.ite ?_ ?_
   | refine LeO.bind ?_ (fun _ => ?_)
set_option maxHeartbeats 8000000 in
set_option maxRecDepth 100000 in
theorem cornucopiabook_markEntries.calls (k : Nat) (a0 : Int) (a1 : Int) (a2 : Int) (r : List (S32)) (w : World) (h : cornucopiabook_markEntries.f k a0 a1 a2 = some r) :
  Calls Tryz.prog 219 #[.int .i64 a0, .int .i64 a1, .int .i64 a2] w fun e w' => ∃ v0_ : Value, e = .returned (v0_) ∧ Kd.R k32 32 w' w.heap.size (fun _ => True) v0_ r ∧ Below w.heap.size w w' := by
 have hu32 := Tryz.underlying32
 have HB := Aside0.mk (Below.refl w.heap.size w)
 have H : (cornucopiabook_markEntries.l0 k a0 a1 a2 ([] : List (S32)) a1) = some r := h
 clear h
 have H' := Aside0.mk H
 clear H
 go_enter Tryz.func219, Tryz.ntmps219
 go_wp2
 go_loopg [7, 8] k (fun kq v7 v8 w' => ∃ (x7_1 : List (S32)) (x8_1 : Int), v8 = .int .i64 x8_1 ∧ Aside0 (cornucopiabook_markEntries.l0 kq a0 a1 a2 x7_1 x8_1 = some r) ∧ Aside0 (kq ≤ k) ∧ Aside0 (Kd.R k32 32 w' w.heap.size (fun _ => True) v7 x7_1) ∧ Aside0 (Below w.heap.size w w'))
 case atStart => exact ⟨(([] : List (S32))), (a1), (by first | rfl | (simp; done) | (simp [*]; done)), H', ⟨Nat.le_refl _⟩, ⟨by first | exact Kd.R_nil _ _ _ _ _ | exact Kd.N_nil _ _ _ _ _ | exact Kd.V_nil _ _ _ _ _ | exact Kd.Q_nil _ _ _ _ _ | exact Kd.S_nil _ _ _ _ _⟩, ⟨by repeat (first | (with_reducible first | exact HB.out | apply below_alloc | apply pw_below_drewN | apply below_drew1) | exact HB.out)⟩⟩
 case round =>
  clear H'
  try clear c2
  try clear p2
  obtain ⟨x7_1, x8_1, rfl, HA, HK1, HO_7, HB⟩ := hrel
  cases gk with
  | zero => exact absurd HA.out (by simp [cornucopiabook_markEntries.l0])
  | succ k1 =>
   have H := HA.out
   clear HA
   simp only [cornucopiabook_markEntries.l0] at H
   by_cases c4 : x8_1 < (wrap64 (a1 + a2))
   ·rw [if_pos c4] at H
    have c4b0 : decide (x8_1 < (wrap64 (a1 + a2))) = true := decide_eq_true c4
    clear c4
    replace H := Option.bind_eq_some_iff.mp H
    obtain ⟨t261, A50, H⟩ := H
    replace H : (if x7_1.length < 2932031007402 then (cornucopiabook_markEntries.l0 k1 a0 a1 a2 (x7_1 ++ [(⟨t261, 0, 0, (⟨#[]⟩ : ByteArray)⟩ : S32)]) (wrap64 (x8_1 + 1))) else (none)) = some r := H
    have A5 := Aside0.mk A50
    clear A50
    by_cases c6 : x7_1.length < 2932031007402
    ·rw [if_pos c6] at H
     have LMc6 := Aside0.mk c6
     clear c6
     obtain ⟨y262, hy262⟩ : ∃ y_ : List (S32), y_ = (x7_1 ++ [(⟨t261, 0, 0, (⟨#[]⟩ : ByteArray)⟩ : S32)]) := ⟨_, rfl⟩
     replace H : (cornucopiabook_markEntries.l0 k1 a0 a1 a2 y262 (wrap64 (x8_1 + 1))) = some r := by first | (rw [hy262]; with_reducible exact H) | (have H2_ := (Option.bind_some _ _).symm.trans H; rw [hy262]; with_reducible exact H2_) | (have H2_ := (Option.bind_some _ _).symm.trans H; with_reducible exact H2_) | with_reducible exact H | (rw [hy262]; exact H) | exact H
     have Ny262 := Aside0.mk hy262
     clear hy262
     have H' := Aside0.mk H
     clear H
     go_wp2_with (first | ((with_reducible refine gate_callee (f := 249) rfl ?_); refine goesL_ (some 20) rfl rfl Tryz.func249 (by kernel_rfl) rfl #[.int .i64 a0, .int .i64 x8_1] rfl (by (try simp only [List.map_toArray, List.map_cons, List.map_nil]); first | done | rfl | (simp only [List.length_drop, List.length_take]; rfl)) ?_; (with_reducible refine (cornucopiabook_name.calls a0 x8_1 t261 _ A5.out).mono ?_); rintro e w7 ⟨rfl, hb⟩; refine ⟨_, rfl, ?_⟩; have n0_ := Aside0.mk (Kd.R_below (by (with_reducible repeat (first | apply Kd.R_alloc | apply Kd.R_drewN | apply Kd.R_drew)); exact HO_7.out) hb); have n1_ := Aside0.mk (below_step (by repeat (first | (with_reducible first | exact HB.out | apply below_alloc | apply pw_below_drewN | apply below_drew1) | exact HB.out)) hb); clear HO_7; clear HB; have HO_7 := n0_; have HB := n1_; clear n0_ n1_; (try clear hb); (try clear hb2); (try clear hk); (try clear hi)) | ((with_reducible refine gate_builtin (b := .append) (xs := #[.tmp 17, .tmp 22]) rfl ?_); at_builtin; refine Kd.R_append k32 (w0 := w) w.heap.size rfl (.tmp 17) (.tmp 22) 22 32 (.agg #[(.string ⟨#[]⟩), (.int .u64 0), (.int .i64 0), (.string ⟨#[]⟩)]) 48 rfl Tryz.underlying22 info32 rfl (by decide) (by omega) u7 x7_1 (⟨t261, 0, 0, (⟨#[]⟩ : ByteArray)⟩ : S32) [.string t261, .int .u64 0, .int .i64 0, .string (⟨#[]⟩ : ByteArray)] (fun _ => True) (fun _ => False) rfl rfl ?aP (fun _ hk => hk.elim) ?aF ?aO ?aB ?aS ?aL ?_; (case aP => exact k32_mkM _ _ _ (⟨t261, 0, 0, (⟨#[]⟩ : ByteArray)⟩ : S32)); (case aB => exact (by repeat (first | (with_reducible first | exact HB.out | apply below_alloc | apply pw_below_drewN | apply below_drew1) | exact HB.out))); (case aF => exact (fun _ _ => trivial)); (case aO => exact (by (with_reducible repeat (first | apply Kd.R_alloc | apply Kd.R_drewN | apply Kd.R_drew)); exact HO_7.out)); (case aS => exact (below_size (by repeat (first | (with_reducible first | exact HB.out | apply below_alloc | apply pw_below_drewN | apply below_drew1) | exact HB.out)))); (case aL => have := LMc6.out; omega); intro v263 w8 ho hb hg hat; rw [← Ny262.out] at ho; have n0_ := Aside0.mk (hb); have n1_ := Aside0.mk (ho); clear HB; clear HO_7; have HB := n0_; have HO264 := n1_; clear n0_ n1_; clear ho hb hg hat))
     go_roundg k1
     case measure => have := HK1.out; omega
     case rel => exact ⟨(y262), (wrap64 (x8_1 + 1)), (by first | rfl | (simp; done) | (simp [*]; done)), H', ⟨by have := HK1.out; omega⟩, ⟨by (with_reducible repeat (first | apply Kd.R_alloc | apply Kd.R_drewN | apply Kd.R_drew)); exact HO264.out⟩, ⟨by repeat (first | (with_reducible first | exact HB.out | apply below_alloc | apply pw_below_drewN | apply below_drew1) | exact HB.out)⟩⟩
    ·rw [if_neg c6] at H
     exact absurd H (by simp)
   ·rw [if_neg c4] at H
    have c4b0 : decide (x8_1 < (wrap64 (a1 + a2))) = false := decide_eq_false c4
    clear c4
    obtain rfl := Option.some.inj H
    go_wp2
    go_ret
    exact ⟨_, by first | rfl | (simp [errW_none, errW_some] <;> rfl) | (simp [*, errW_none, errW_some] <;> rfl), by (with_reducible repeat (first | apply Kd.R_alloc | apply Kd.R_drewN | apply Kd.R_drew)); exact HO_7.out, by repeat (first | (with_reducible first | exact HB.out | apply below_alloc | apply pw_below_drewN | apply below_drew1) | exact HB.out)⟩
def cornucopiabook_markPairs.l0 : Nat → Int → Int → Int → List (S184) → Int → Option ((List (S184)))
 | 0, _, _, _, _, _ => none
 | k + 1, x0, x1, x2, x7, x8 => if x8 < (wrap64 (x1 + x2)) then ((cornucopiabook_name.f x0 x8).bind fun t265 => (if x7.length < 4398046511104 then (cornucopiabook_markPairs.l0 k x0 x1 x2 (x7 ++ [(⟨t265, (⟨#[]⟩ : ByteArray)⟩ : S184)]) (wrap64 (x8 + 1))) else (none))) else (some x7)
def cornucopiabook_markPairs.f (k : Nat) (a0 : Int) (a1 : Int) (a2 : Int) : Option ((List (S184))) := cornucopiabook_markPairs.l0 k a0 a1 a2 ([] : List (S184)) a1
theorem cornucopiabook_markPairs.mono_l : ∀ k, (∀ y0 y1 y2 y3 y4, LeO (cornucopiabook_markPairs.l0 k y0 y1 y2 y3 y4) (cornucopiabook_markPairs.l0 (k + 1) y0 y1 y2 y3 y4))
 | 0 => fun _ _ _ _ _ r h => by simp [cornucopiabook_markPairs.l0] at h
 | k + 1 => by
  have ih0 := cornucopiabook_markPairs.mono_l k
  ·intro y0 y1 y2 y3 y4
   unfold cornucopiabook_markPairs.l0
   repeat' first
   | (with_reducible exact ih0 _ _ _ _ _)
   | (with_reducible exact LeO.refl _)
   | (with_reducible exact LeO.none _)
   | (with_reducible refine LeO.ite ?_ ?_)
   | (with_reducible refine LeO.bind ?_ (fun _ => ?_))
   | exact ih0 _ _ _ _ _
   | exact LeO.none _
   | refine LeO.ite ?_ ?_
   | refine LeO.bind ?_ (fun _ => ?_)
theorem cornucopiabook_markPairs.mono : ∀ a0 a1 a2 k, LeO (cornucopiabook_markPairs.f k a0 a1 a2) (cornucopiabook_markPairs.f (k + 1) a0 a1 a2) := by
 intro a0 a1 a2 k
 have ih0 := cornucopiabook_markPairs.mono_l k
 unfold cornucopiabook_markPairs.f
 repeat' first
   | (with_reducible exact ih0 _ _ _ _ _)
   | (with_reducible exact LeO.refl _)
   | (with_reducible exact LeO.none _)
   | (with_reducible refine LeO.ite ?_ ?_)
   | (with_reducible refine LeO.bind ?_ (fun _ => ?_))
   | exact ih0 _ _ _ _ _
   | exact LeO.none _
   | refine LeO.ite ?_ ?_
   | refine LeO.bind ?_ (fun _ => ?_)
set_option maxHeartbeats 8000000 in
set_option maxRecDepth 100000 in
theorem cornucopiabook_markPairs.calls (k : Nat) (a0 : Int) (a1 : Int) (a2 : Int) (r : List (S184)) (w : World) (h : cornucopiabook_markPairs.f k a0 a1 a2 = some r) :
  Calls Tryz.prog 220 #[.int .i64 a0, .int .i64 a1, .int .i64 a2] w fun e w' => ∃ v0_ : Value, e = .returned (v0_) ∧ Kd.R k184 184 w' w.heap.size (fun _ => True) v0_ r ∧ Below w.heap.size w w' := by
 have hu184 := Tryz.underlying184
 have HB := Aside0.mk (Below.refl w.heap.size w)
 have H : (cornucopiabook_markPairs.l0 k a0 a1 a2 ([] : List (S184)) a1) = some r := h
 clear h
 have H' := Aside0.mk H
 clear H
 go_enter Tryz.func220, Tryz.ntmps220
 go_wp2
 go_loopg [7, 8] k (fun kq v7 v8 w' => ∃ (x7_1 : List (S184)) (x8_1 : Int), v8 = .int .i64 x8_1 ∧ Aside0 (cornucopiabook_markPairs.l0 kq a0 a1 a2 x7_1 x8_1 = some r) ∧ Aside0 (kq ≤ k) ∧ Aside0 (Kd.R k184 184 w' w.heap.size (fun _ => True) v7 x7_1) ∧ Aside0 (Below w.heap.size w w'))
 case atStart => exact ⟨(([] : List (S184))), (a1), (by first | rfl | (simp; done) | (simp [*]; done)), H', ⟨Nat.le_refl _⟩, ⟨by first | exact Kd.R_nil _ _ _ _ _ | exact Kd.N_nil _ _ _ _ _ | exact Kd.V_nil _ _ _ _ _ | exact Kd.Q_nil _ _ _ _ _ | exact Kd.S_nil _ _ _ _ _⟩, ⟨by repeat (first | (with_reducible first | exact HB.out | apply below_alloc | apply pw_below_drewN | apply below_drew1) | exact HB.out)⟩⟩
 case round =>
  clear H'
  try clear c2
  try clear p2
  obtain ⟨x7_1, x8_1, rfl, HA, HK1, HO_7, HB⟩ := hrel
  cases gk with
  | zero => exact absurd HA.out (by simp [cornucopiabook_markPairs.l0])
  | succ k1 =>
   have H := HA.out
   clear HA
   simp only [cornucopiabook_markPairs.l0] at H
   by_cases c4 : x8_1 < (wrap64 (a1 + a2))
   ·rw [if_pos c4] at H
    have c4b0 : decide (x8_1 < (wrap64 (a1 + a2))) = true := decide_eq_true c4
    clear c4
    replace H := Option.bind_eq_some_iff.mp H
    obtain ⟨t265, A50, H⟩ := H
    replace H : (if x7_1.length < 4398046511104 then (cornucopiabook_markPairs.l0 k1 a0 a1 a2 (x7_1 ++ [(⟨t265, (⟨#[]⟩ : ByteArray)⟩ : S184)]) (wrap64 (x8_1 + 1))) else (none)) = some r := H
    have A5 := Aside0.mk A50
    clear A50
    by_cases c6 : x7_1.length < 4398046511104
    ·rw [if_pos c6] at H
     have LMc6 := Aside0.mk c6
     clear c6
     obtain ⟨y266, hy266⟩ : ∃ y_ : List (S184), y_ = (x7_1 ++ [(⟨t265, (⟨#[]⟩ : ByteArray)⟩ : S184)]) := ⟨_, rfl⟩
     replace H : (cornucopiabook_markPairs.l0 k1 a0 a1 a2 y266 (wrap64 (x8_1 + 1))) = some r := by first | (rw [hy266]; with_reducible exact H) | (have H2_ := (Option.bind_some _ _).symm.trans H; rw [hy266]; with_reducible exact H2_) | (have H2_ := (Option.bind_some _ _).symm.trans H; with_reducible exact H2_) | with_reducible exact H | (rw [hy266]; exact H) | exact H
     have Ny266 := Aside0.mk hy266
     clear hy266
     have H' := Aside0.mk H
     clear H
     go_wp2_with (first | ((with_reducible refine gate_callee (f := 249) rfl ?_); refine goesL_ (some 20) rfl rfl Tryz.func249 (by kernel_rfl) rfl #[.int .i64 a0, .int .i64 x8_1] rfl (by (try simp only [List.map_toArray, List.map_cons, List.map_nil]); first | done | rfl | (simp only [List.length_drop, List.length_take]; rfl)) ?_; (with_reducible refine (cornucopiabook_name.calls a0 x8_1 t265 _ A5.out).mono ?_); rintro e w7 ⟨rfl, hb⟩; refine ⟨_, rfl, ?_⟩; have n0_ := Aside0.mk (Kd.R_below (by (with_reducible repeat (first | apply Kd.R_alloc | apply Kd.R_drewN | apply Kd.R_drew)); exact HO_7.out) hb); have n1_ := Aside0.mk (below_step (by repeat (first | (with_reducible first | exact HB.out | apply below_alloc | apply pw_below_drewN | apply below_drew1) | exact HB.out)) hb); clear HO_7; clear HB; have HO_7 := n0_; have HB := n1_; clear n0_ n1_; (try clear hb); (try clear hb2); (try clear hk); (try clear hi)) | ((with_reducible refine gate_builtin (b := .append) (xs := #[.tmp 17, .tmp 22]) rfl ?_); at_builtin; refine Kd.R_append k184 (w0 := w) w.heap.size rfl (.tmp 17) (.tmp 22) 79 184 (.agg #[(.string ⟨#[]⟩), (.string ⟨#[]⟩)]) 32 rfl Tryz.underlying79 info184 rfl (by decide) (by omega) u7 x7_1 (⟨t265, (⟨#[]⟩ : ByteArray)⟩ : S184) [.string t265, .string (⟨#[]⟩ : ByteArray)] (fun _ => True) (fun _ => False) rfl rfl ?aP (fun _ hk => hk.elim) ?aF ?aO ?aB ?aS ?aL ?_; (case aP => exact k184_mkM _ _ _ (⟨t265, (⟨#[]⟩ : ByteArray)⟩ : S184)); (case aB => exact (by repeat (first | (with_reducible first | exact HB.out | apply below_alloc | apply pw_below_drewN | apply below_drew1) | exact HB.out))); (case aF => exact (fun _ _ => trivial)); (case aO => exact (by (with_reducible repeat (first | apply Kd.R_alloc | apply Kd.R_drewN | apply Kd.R_drew)); exact HO_7.out)); (case aS => exact (below_size (by repeat (first | (with_reducible first | exact HB.out | apply below_alloc | apply pw_below_drewN | apply below_drew1) | exact HB.out)))); (case aL => have := LMc6.out; omega); intro v267 w8 ho hb hg hat; rw [← Ny266.out] at ho; have n0_ := Aside0.mk (hb); have n1_ := Aside0.mk (ho); clear HB; clear HO_7; have HB := n0_; have HO268 := n1_; clear n0_ n1_; clear ho hb hg hat))
     go_roundg k1
     case measure => have := HK1.out; omega
     case rel => exact ⟨(y266), (wrap64 (x8_1 + 1)), (by first | rfl | (simp; done) | (simp [*]; done)), H', ⟨by have := HK1.out; omega⟩, ⟨by (with_reducible repeat (first | apply Kd.R_alloc | apply Kd.R_drewN | apply Kd.R_drew)); exact HO268.out⟩, ⟨by repeat (first | (with_reducible first | exact HB.out | apply below_alloc | apply pw_below_drewN | apply below_drew1) | exact HB.out)⟩⟩
    ·rw [if_neg c6] at H
     exact absurd H (by simp)
   ·rw [if_neg c4] at H
    have c4b0 : decide (x8_1 < (wrap64 (a1 + a2))) = false := decide_eq_false c4
    clear c4
    obtain rfl := Option.some.inj H
    go_wp2
    go_ret
    exact ⟨_, by first | rfl | (simp [errW_none, errW_some] <;> rfl) | (simp [*, errW_none, errW_some] <;> rfl), by (with_reducible repeat (first | apply Kd.R_alloc | apply Kd.R_drewN | apply Kd.R_drew)); exact HO_7.out, by repeat (first | (with_reducible first | exact HB.out | apply below_alloc | apply pw_below_drewN | apply below_drew1) | exact HB.out)⟩
end Go.Proofs.YtchgpcgolgcfdaaGreat.PNum
end
section
namespace Go.Proofs.YtchgpcgolgcfdaaGreat.PNum
open Go.RowKit Go.Proofs.YtchgpcgolgcfdaaGreatW.PrintWords Go.Proofs.YtchgpcgolgcfdaaGreatW.PrintLast Go.Proofs.YtchgpcgolgcfdaaGreatW.PrintMore
attribute [local go_sem] max2_int min2_int max_two min_two max_three min_three max_four min_four   -- for this text's walks alone
set_option linter.unusedVariables false
set_option linter.unusedSimpArgs false
def cornucopiabook_markedEntries.l0 : Nat → List (List (S32)) → Int → Option (Bool)
 | 0, _, _ => none
 | k + 1, x0, x3 => if x3 < (x0.length : Int) then (if 0 ≤ x3 then ((cornucopiabook_markEntries.f k x3 0 ((rd_L18 x0 x3).length : Int)).bind fun t303 => ((cornucopiabook_SameEntries.f k (rd_L18 x0 x3) t303).bind fun t306 => (if t306 = true then (cornucopiabook_markedEntries.l0 k x0 (wrap64 (x3 + 1))) else (some false)))) else (none)) else (some true)
def cornucopiabook_markedEntries.f (k : Nat) (l0 : List (List (S32))) : Option (Bool) := cornucopiabook_markedEntries.l0 k l0 0
theorem cornucopiabook_markedEntries.mono_l : ∀ k, (∀ y0 y1, LeO (cornucopiabook_markedEntries.l0 k y0 y1) (cornucopiabook_markedEntries.l0 (k + 1) y0 y1))
 | 0 => fun _ _ r h => by simp [cornucopiabook_markedEntries.l0] at h
 | k + 1 => by
  have ih0 := cornucopiabook_markedEntries.mono_l k
  ·intro y0 y1
   unfold cornucopiabook_markedEntries.l0
   repeat' first
   | (with_reducible exact ih0 _ _)
   | (with_reducible exact cornucopiabook_SameEntries.mono _ _ _)
   | (with_reducible exact cornucopiabook_markEntries.mono _ _ _ _)
   | (with_reducible exact LeO.refl _)
   | (with_reducible exact LeO.none _)
   | (with_reducible refine LeO.ite ?_ ?_)
   | (with_reducible refine LeO.bind ?_ (fun _ => ?_))
   | exact ih0 _ _
   | exact cornucopiabook_SameEntries.mono _ _ _
   | exact cornucopiabook_markEntries.mono _ _ _ _
   | exact LeO.none _
   | refine LeO.ite ?_ ?_
   | refine LeO.bind ?_ (fun _ => ?_)
theorem cornucopiabook_markedEntries.mono : ∀ a0 k, LeO (cornucopiabook_markedEntries.f k a0) (cornucopiabook_markedEntries.f (k + 1) a0) := by
 intro a0 k
 have ih0 := cornucopiabook_markedEntries.mono_l k
 unfold cornucopiabook_markedEntries.f
 repeat' first
   | (with_reducible exact ih0 _ _)
   | (with_reducible exact cornucopiabook_SameEntries.mono _ _ _)
   | (with_reducible exact cornucopiabook_markEntries.mono _ _ _ _)
   | (with_reducible exact LeO.refl _)
   | (with_reducible exact LeO.none _)
   | (with_reducible refine LeO.ite ?_ ?_)
   | (with_reducible refine LeO.bind ?_ (fun _ => ?_))
   | exact ih0 _ _
   | exact cornucopiabook_SameEntries.mono _ _ _
   | exact cornucopiabook_markEntries.mono _ _ _ _
   | exact LeO.none _
   | refine LeO.ite ?_ ?_
   | refine LeO.bind ?_ (fun _ => ?_)
def cornucopiabook_markedEntries.T4 : Bool × List (List Nat × List Nat) := (true, [([], []), ([], []), ([0, 1], [0, 1]), ([2], [2]), ([], []), ([], []), ([], []), ([5, 6], [5, 6]), ([7], [7]), ([8], [8]), ([4, 9], [4, 9]), ([3, 10, 10], [3, 10]), ([11], [11])])
def cornucopiabook_markedEntries.B4 : List Nat := [0, 0, 3, 7, 0, 0, 0, 96, 224, 480, 1008, 2047, 4095]
theorem cornucopiabook_markedEntries.tab4 : rtab .any (opsOf Tryz.f149 4) = cornucopiabook_markedEntries.T4 := by kernel_rfl
theorem cornucopiabook_markedEntries.bits4 : waitsOk cornucopiabook_markedEntries.T4.2 cornucopiabook_markedEntries.B4 = true := by kernel_rfl
set_option maxHeartbeats 8000000 in
set_option maxRecDepth 100000 in
theorem cornucopiabook_markedEntries.calls (k : Nat) (A0 : Option Addr) (c0 : Nat) (l0 : List (List (S32))) (r : Bool) (w : World) (hr0 : Kd.C (Kd.slice 32 k32) w A0 l0.length l0) (hc0 : l0.length ≤ c0) (h : cornucopiabook_markedEntries.f k l0 = some r) :
  Calls Tryz.prog 149 #[.slice A0 l0.length c0] w fun e w' => e = .returned (.bool r) ∧ Below w.heap.size w w' := by
 have HR0 := Aside0.mk hr0
 have HC0 := Aside0.mk hc0
 clear hr0 hc0
 have HB := Aside0.mk (Below.refl w.heap.size w)
 have H : (cornucopiabook_markedEntries.l0 k l0 0) = some r := h
 clear h
 have H' := Aside0.mk H
 clear H
 go_enter Tryz.func149, Tryz.ntmps149
 go_wp2
 go_loopg [3] k (fun kq v3 w' => ∃ (x3_1 : Int), v3 = .int .i64 x3_1 ∧ Aside0 (cornucopiabook_markedEntries.l0 kq l0 x3_1 = some r) ∧ Aside0 (kq ≤ k) ∧ Aside0 (Below w.heap.size w w'))
 case atStart => exact ⟨(0), (by first | rfl | (simp; done) | (simp [*]; done)), H', ⟨Nat.le_refl _⟩, ⟨by repeat (first | (with_reducible first | exact HB.out | apply below_alloc | apply pw_below_drewN | apply below_drew1) | exact HB.out)⟩⟩
 case round =>
  clear H'
  try clear c1
  obtain ⟨x3_1, rfl, HA, HK1, HB⟩ := hrel
  cases gk with
  | zero => exact absurd HA.out (by simp [cornucopiabook_markedEntries.l0])
  | succ k1 =>
   have H := HA.out
   clear HA
   simp only [cornucopiabook_markedEntries.l0] at H
   by_cases c2 : x3_1 < (l0.length : Int)
   ·rw [if_pos c2] at H
    have c2b0 : decide (x3_1 < (l0.length : Int)) = true := decide_eq_true c2
    clear c2
    by_cases c3 : 0 ≤ x3_1
    ·rw [if_pos c3] at H
     have c3b0 : decide (0 ≤ x3_1) = true := decide_eq_true c3
     clear c3
     replace H := Option.bind_eq_some_iff.mp H
     obtain ⟨t303, A40, H⟩ := H
     replace H : ((cornucopiabook_SameEntries.f k1 (rd_L18 l0 x3_1) t303).bind fun t306 => (if t306 = true then (cornucopiabook_markedEntries.l0 k1 l0 (wrap64 (x3_1 + 1))) else (some false))) = some r := H
     have A4 := Aside0.mk A40
     clear A40
     replace H := Option.bind_eq_some_iff.mp H
     obtain ⟨t306, A50, H⟩ := H
     replace H : (if t306 = true then (cornucopiabook_markedEntries.l0 k1 l0 (wrap64 (x3_1 + 1))) else (some false)) = some r := H
     have A5 := Aside0.mk A50
     clear A50
     by_cases c6 : t306 = true
     ·subst c6
      have H1 : (cornucopiabook_markedEntries.l0 k1 l0 (wrap64 (x3_1 + 1))) = some r := by rw [if_pos rfl] at H; exact H
      clear H
      have H := H1
      clear H1
      have H' := Aside0.mk H
      clear H
      try go_wp2
      have n0_ := Aside0.mk (below_drew1 HB.out)
      clear HB
      have HB := n0_
      clear n0_
      have p301 : 0 ≤ (x3_1 : Int) := of_decide_eq_true (by first | (with_reducible assumption) | assumption)
      have q301 : x3_1 < (l0.length : Int) := of_decide_eq_true (by first | (with_reducible assumption) | assumption)
      obtain ⟨ad301, A301_0, c301_0, e301, hx301_0, hl301_0, hi301_0⟩ := at_L18 HR0.out x3_1 p301 q301
      have hw301_0 := hx301_0
      cases e301
      replace hx301_0 := (HB.out.cell (World.block_lt_of_cell? w _ hx301_0)).trans hx301_0
      have HR301_0 := Aside0.mk hi301_0
      have HC301_0 := Aside0.mk hl301_0
      clear hi301_0 hl301_0
      replace p301 := eq_true p301
      replace q301 := eq_true q301
      have p302 : 0 ≤ (x3_1 : Int) := of_decide_eq_true (by first | (with_reducible assumption) | assumption)
      have q302 : x3_1 < (l0.length : Int) := of_decide_eq_true (by first | (with_reducible assumption) | assumption)
      obtain ⟨ad302, A302_0, c302_0, e302, hx302_0, hl302_0, hi302_0⟩ := at_L18 HR0.out x3_1 p302 q302
      have hw302_0 := hx302_0
      obtain rfl : ad301 = ad302 := (by injection e302)
      replace hx302_0 := (HB.out.cell (World.block_lt_of_cell? w _ hx302_0)).trans hx302_0
      have HR302_0 := Aside0.mk hi302_0
      have HC302_0 := Aside0.mk hl302_0
      clear hi302_0 hl302_0
      replace p302 := eq_true p302
      replace q302 := eq_true q302
      have ea_ := Option.some.inj (hx301_0.symm.trans hx302_0)
      injection ea_ with ea_ en_ ec_
      subst ea_
      subst ec_
      clear en_
      refine start_ (n := 13) (S := fun w' => w'.cell? (ad301.add (x3_1).toNat) = some (.slice A301_0 (rd_L18 l0 x3_1).length c301_0) ∧ w'.cell? (ad301.add (x3_1).toNat) = some (.slice A301_0 (rd_L18 l0 x3_1).length c301_0)) (ds := []) #[false, false, false, false, false, false, false, false, false, false, false, false, false] (by kernel_rfl) rfl rfl ⟨((HB.out.cell (World.block_lt_of_cell? w _ hw301_0)).trans hw301_0), ((HB.out.cell (World.block_lt_of_cell? w _ hw302_0)).trans hw302_0)⟩ (fun hHeld => ?_); refine with_tabW cornucopiabook_markedEntries.tab4 cornucopiabook_markedEntries.bits4 (fun HT_ HW_ => ?_)
      generalize wr.drew = w7 at HB HR301_0 HR302_0 hx301_0 hx302_0 hHeld ⊢
      refine pure_ (i := 0) (N := some 10) (v := ?_) (a' := ?_) #[true, false, false, false, false, false, false, false, false, false, false, false, false] rfl rfl (any_of HT_.out (by kernel_rfl)) (fun _ _ _ h => h) (Or.inl ⟨by rfl, ?_⟩) ?_ ?_
      rotate_left
      ·intro w'
       go_simp
       with_reducible rfl
      rotate_left
      ·simp only [Act.put, List.setIfInBounds_toArray, List.set_cons_zero, List.set_cons_succ, i64_w, i32_w]
       rfl
      refine pure_ (i := 1) (N := some 11) (v := ?_) (a' := ?_) #[true, true, false, false, false, false, false, false, false, false, false, false, false] rfl rfl (any_of HT_.out (by kernel_rfl)) (fun _ _ _ h => h) (Or.inl ⟨by rfl, ?_⟩) ?_ ?_
      rotate_left
      ·intro w'
       go_simp
       with_reducible rfl
      rotate_left
      ·simp only [Act.put, List.setIfInBounds_toArray, List.set_cons_zero, List.set_cons_succ, i64_w, i32_w]
       rfl
      refine pure_ (i := 2) (N := some 12) (v := ?_) (a' := ?_) #[true, true, true, false, false, false, false, false, false, false, false, false, false] rfl rfl (any_of HT_.out (by kernel_rfl)) (fun _ _ _ h => h) (Or.inl ⟨by rfl, ?_⟩) ?_ ?_
      rotate_left
      ·intro w'
       go_simp
       with_reducible rfl
      rotate_left
      ·simp only [Act.put, List.setIfInBounds_toArray, List.set_cons_zero, List.set_cons_succ, i64_w, i32_w]
       rfl
      refine pure_ (i := 4) (N := some 14) (v := ?_) (a' := ?_) #[true, true, true, false, true, false, false, false, false, false, false, false, false] rfl rfl (any_of HT_.out (by kernel_rfl)) (fun _ _ _ h => h) (Or.inl ⟨by rfl, ?_⟩) ?_ ?_
      rotate_left
      ·intro w'
       go_simp
       with_reducible rfl
      rotate_left
      ·simp only [Act.put, List.setIfInBounds_toArray, List.set_cons_zero, List.set_cons_succ, i64_w, i32_w]
       rfl
      refine pure_ (i := 5) (N := some 15) (v := ?_) (a' := ?_) #[true, true, true, false, true, true, false, false, false, false, false, false, false] rfl rfl (any_of HT_.out (by kernel_rfl)) (fun _ _ _ h => h) (Or.inl ⟨by rfl, ?_⟩) ?_ ?_
      rotate_left
      ·intro w'
       go_simp
       with_reducible rfl
      rotate_left
      ·simp only [Act.put, List.setIfInBounds_toArray, List.set_cons_zero, List.set_cons_succ, i64_w, i32_w]
       rfl
      refine pure_ (i := 6) (N := some 16) (v := ?_) (a' := ?_) #[true, true, true, false, true, true, true, false, false, false, false, false, false] rfl rfl (any_of HT_.out (by kernel_rfl)) (fun _ _ _ h => h) (Or.inl ⟨by rfl, ?_⟩) ?_ ?_
      rotate_left
      ·intro w'
       go_simp
       with_reducible rfl
      rotate_left
      ·simp only [Act.put, List.setIfInBounds_toArray, List.set_cons_zero, List.set_cons_succ, i64_w, i32_w]
       rfl
      refine pure_ (i := 7) (N := some 17) (v := ?_) (a' := ?_) #[true, true, true, false, true, true, true, true, false, false, false, false, false] rfl rfl (any_of HT_.out (by kernel_rfl)) (fun _ _ _ h => h) (Or.inl ⟨by rfl, ?_⟩) ?_ ?_
      rotate_left
      ·intro w'
       go_simp
       with_reducible rfl
      rotate_left
      ·simp only [Act.put, List.setIfInBounds_toArray, List.set_cons_zero, List.set_cons_succ, i64_w, i32_w]
       rfl
      refine take_ (i := 3) (N := some 13) (v := ?_) (a' := ?_) #[true, true, true, true, true, true, true, true, false, false, false, false, false] rfl rfl (take_ofW HT_.out HW_.out (by kernel_rfl)) (fun _ _ _ h => h) (Or.inl ⟨by rfl, ?_⟩) hHeld ?_ ?_
      rotate_left
      ·rintro w' ⟨s0, s1⟩
       go_simp
       with_reducible rfl
      rotate_left
      ·simp only [Act.put, List.setIfInBounds_toArray, List.set_cons_zero, List.set_cons_succ, i64_w, i32_w]
       rfl
      refine take_ (i := 8) (N := some 18) (v := ?_) (a' := ?_) #[true, true, true, true, true, true, true, true, true, false, false, false, false] rfl rfl (take_ofW HT_.out HW_.out (by kernel_rfl)) (fun _ _ _ h => h) (Or.inl ⟨by rfl, ?_⟩) hHeld ?_ ?_
      rotate_left
      ·rintro w' ⟨s0, s1⟩
       go_simp
       with_reducible rfl
      rotate_left
      ·simp only [Act.put, List.setIfInBounds_toArray, List.set_cons_zero, List.set_cons_succ, i64_w, i32_w]
       rfl
      refine pure_ (i := 9) (N := some 19) (v := ?_) (a' := ?_) #[true, true, true, true, true, true, true, true, true, true, false, false, false] rfl rfl (any_of HT_.out (by kernel_rfl)) (fun _ _ _ h => h) (Or.inl ⟨by rfl, ?_⟩) ?_ ?_
      rotate_left
      ·intro w'
       go_simp
       with_reducible rfl
      rotate_left
      ·simp only [Act.put, List.setIfInBounds_toArray, List.set_cons_zero, List.set_cons_succ, i64_w, i32_w]
       rfl
      refine one_ (i := 10) (N := some 20) #[true, true, true, true, true, true, true, true, true, true, true, false, false] rfl rfl (one_of HT_.out (by kernel_rfl)) (by decide) (fun K hK => ?_)
      refine goes_ Tryz.func219 (by kernel_rfl) rfl #[.int .i64 x3_1, .int .i64 0, .int .i64 ((rd_L18 l0 x3_1).length : Int)] (by rfl) rfl rfl (by (try simp only [List.map_toArray, List.map_cons, List.map_nil]); first | done | rfl | (simp only [List.length_drop, List.length_take]; rfl)) ?_
      with_reducible refine (cornucopiabook_markEntries.calls k1 x3_1 0 ((rd_L18 l0 x3_1).length : Int) t303 _ A4.out).mono ?_
      rintro e w8 ⟨v304, rfl, ho0, hb⟩
      refine ⟨_, rfl, ?_⟩
      have n0_ := Aside0.mk (Kd.R_lower ho0 (below_size (by repeat (first | (with_reducible first | exact HB.out | apply below_alloc | apply pw_below_drewN | apply below_drew1) | exact HB.out))))
      have n1_ := Aside0.mk (below_step (by repeat (first | (with_reducible first | exact HB.out | apply below_alloc | apply pw_below_drewN | apply below_drew1) | exact HB.out)) hb)
      clear HB
      have HO305 := n0_
      have HB := n1_
      clear n0_ n1_
      (try clear hb)
      (try clear hb2)
      (try clear hk)
      (try clear hi)
      (try clear ho0)
      obtain ⟨Ao9, co9, eo9⟩ := Kd.R_slice HO305.out
      (first | subst eo9 | (injection eo9 with f1_ f2_ f3_; have f4_ := f1_.symm; have f5_ := f3_.symm; clear f1_ f2_ f3_; subst f4_; subst f5_))
      refine hK.out _ _ ⟨((HB.out.cell (World.block_lt_of_cell? w _ hw301_0)).trans hw301_0), ((HB.out.cell (World.block_lt_of_cell? w _ hw302_0)).trans hw302_0)⟩ (fun hHeld => ?_)
      clear hK K
      refine norm_ (a' := ?_) ?_ ?_
      rotate_left
      ·show Act.put _ (some 20) _ = _
       simp only [Act.put, List.setIfInBounds_toArray, List.set_cons_zero, List.set_cons_succ, i64_w, i32_w]
       rfl
      refine one_ (i := 11) (N := some 21) #[true, true, true, true, true, true, true, true, true, true, true, true, false] rfl rfl (one_of HT_.out (by kernel_rfl)) (by decide) (fun K hK => ?_)
      refine goes_ Tryz.func19 (by kernel_rfl) rfl #[.slice A301_0 (rd_L18 l0 x3_1).length c301_0, .slice Ao9 t303.length co9] (by rfl) rfl rfl (by (try simp only [List.map_toArray, List.map_cons, List.map_nil]); first | done | rfl | (simp only [List.length_drop, List.length_take]; rfl)) ?_
      with_reducible refine (cornucopiabook_SameEntries.calls k1 _ _ (rd_L18 l0 x3_1) _ _ t303 true _ ?side1 ?side2 ?side3 ?side4 A5.out).mono ?_
      (case side1 => repeat (first | exact (Kd.C_below HR301_0.out HB.out) | (with_reducible refine Kd.C_alloc ?_ _) | (with_reducible refine Kd.C_drewN ?_ _) | (with_reducible refine Kd.C_drew ?_)))
      (case side2 => exact HC301_0.out)
      (case side3 => repeat (first | exact (Kd.R_reads' HO305.out).2.2 | (with_reducible refine Kd.C_alloc ?_ _) | (with_reducible refine Kd.C_drewN ?_ _) | (with_reducible refine Kd.C_drew ?_)))
      (case side4 => exact (Kd.R_reads' HO305.out).2.1)
      rintro e w' ⟨rfl, ⟨nd, rfl⟩⟩
      refine ⟨_, rfl, ?_⟩
      refine hK.out _ _ ⟨((HB.out.cell (World.block_lt_of_cell? w _ hw301_0)).trans hw301_0), ((HB.out.cell (World.block_lt_of_cell? w _ hw302_0)).trans hw302_0)⟩ (fun hHeld => ?_)
      clear hK K
      refine norm_ (a' := ?_) ?_ ?_
      rotate_left
      ·show Act.put _ (some 21) _ = _
       simp only [Act.put, List.setIfInBounds_toArray, List.set_cons_zero, List.set_cons_succ, i64_w, i32_w]
       rfl
      refine pure_ (i := 12) (N := some 22) (v := ?_) (a' := ?_) #[true, true, true, true, true, true, true, true, true, true, true, true, true] rfl rfl (any_of HT_.out (by kernel_rfl)) (fun _ _ _ h => h) (Or.inl ⟨by rfl, ?_⟩) ?_ ?_
      rotate_left
      ·intro w'
       go_simp
       with_reducible rfl
      rotate_left
      ·simp only [Act.put, List.setIfInBounds_toArray, List.set_cons_zero, List.set_cons_succ, i64_w, i32_w]
       rfl
      refine done_ (done_of HT_.out (by kernel_rfl)) ?_
      try go_wp2
      go_roundg k1
      case measure => have := HK1.out; omega
      case rel => exact ⟨(wrap64 (x3_1 + 1)), (by first | rfl | (simp; done) | (simp [*]; done)), H', ⟨by have := HK1.out; omega⟩, ⟨by repeat (first | (with_reducible first | exact HB.out | apply below_alloc | apply pw_below_drewN | apply below_drew1) | exact HB.out)⟩⟩
     ·replace c6 := Bool.eq_false_iff.mpr c6
      subst c6
      have H1 : (some false) = some r := by rw [if_neg (show ¬ (false = true) by decide)] at H; exact H
      clear H
      have H := H1
      clear H1
      obtain rfl := Option.some.inj H
      try go_wp2
      have n0_ := Aside0.mk (below_drew1 HB.out)
      clear HB
      have HB := n0_
      clear n0_
      have p301 : 0 ≤ (x3_1 : Int) := of_decide_eq_true (by first | (with_reducible assumption) | assumption)
      have q301 : x3_1 < (l0.length : Int) := of_decide_eq_true (by first | (with_reducible assumption) | assumption)
      obtain ⟨ad301, A301_0, c301_0, e301, hx301_0, hl301_0, hi301_0⟩ := at_L18 HR0.out x3_1 p301 q301
      have hw301_0 := hx301_0
      cases e301
      replace hx301_0 := (HB.out.cell (World.block_lt_of_cell? w _ hx301_0)).trans hx301_0
      have HR301_0 := Aside0.mk hi301_0
      have HC301_0 := Aside0.mk hl301_0
      clear hi301_0 hl301_0
      replace p301 := eq_true p301
      replace q301 := eq_true q301
      have p302 : 0 ≤ (x3_1 : Int) := of_decide_eq_true (by first | (with_reducible assumption) | assumption)
      have q302 : x3_1 < (l0.length : Int) := of_decide_eq_true (by first | (with_reducible assumption) | assumption)
      obtain ⟨ad302, A302_0, c302_0, e302, hx302_0, hl302_0, hi302_0⟩ := at_L18 HR0.out x3_1 p302 q302
      have hw302_0 := hx302_0
      obtain rfl : ad301 = ad302 := (by injection e302)
      replace hx302_0 := (HB.out.cell (World.block_lt_of_cell? w _ hx302_0)).trans hx302_0
      have HR302_0 := Aside0.mk hi302_0
      have HC302_0 := Aside0.mk hl302_0
      clear hi302_0 hl302_0
      replace p302 := eq_true p302
      replace q302 := eq_true q302
      have ea_ := Option.some.inj (hx301_0.symm.trans hx302_0)
      injection ea_ with ea_ en_ ec_
      subst ea_
      subst ec_
      clear en_
      refine start_ (n := 13) (S := fun w' => w'.cell? (ad301.add (x3_1).toNat) = some (.slice A301_0 (rd_L18 l0 x3_1).length c301_0) ∧ w'.cell? (ad301.add (x3_1).toNat) = some (.slice A301_0 (rd_L18 l0 x3_1).length c301_0)) (ds := []) #[false, false, false, false, false, false, false, false, false, false, false, false, false] (by kernel_rfl) rfl rfl ⟨((HB.out.cell (World.block_lt_of_cell? w _ hw301_0)).trans hw301_0), ((HB.out.cell (World.block_lt_of_cell? w _ hw302_0)).trans hw302_0)⟩ (fun hHeld => ?_); refine with_tabW cornucopiabook_markedEntries.tab4 cornucopiabook_markedEntries.bits4 (fun HT_ HW_ => ?_)
      generalize wr.drew = w10 at HB HR301_0 HR302_0 hx301_0 hx302_0 hHeld ⊢
      refine pure_ (i := 0) (N := some 10) (v := ?_) (a' := ?_) #[true, false, false, false, false, false, false, false, false, false, false, false, false] rfl rfl (any_of HT_.out (by kernel_rfl)) (fun _ _ _ h => h) (Or.inl ⟨by rfl, ?_⟩) ?_ ?_
      rotate_left
      ·intro w'
       go_simp
       with_reducible rfl
      rotate_left
      ·simp only [Act.put, List.setIfInBounds_toArray, List.set_cons_zero, List.set_cons_succ, i64_w, i32_w]
       rfl
      refine pure_ (i := 1) (N := some 11) (v := ?_) (a' := ?_) #[true, true, false, false, false, false, false, false, false, false, false, false, false] rfl rfl (any_of HT_.out (by kernel_rfl)) (fun _ _ _ h => h) (Or.inl ⟨by rfl, ?_⟩) ?_ ?_
      rotate_left
      ·intro w'
       go_simp
       with_reducible rfl
      rotate_left
      ·simp only [Act.put, List.setIfInBounds_toArray, List.set_cons_zero, List.set_cons_succ, i64_w, i32_w]
       rfl
      refine pure_ (i := 2) (N := some 12) (v := ?_) (a' := ?_) #[true, true, true, false, false, false, false, false, false, false, false, false, false] rfl rfl (any_of HT_.out (by kernel_rfl)) (fun _ _ _ h => h) (Or.inl ⟨by rfl, ?_⟩) ?_ ?_
      rotate_left
      ·intro w'
       go_simp
       with_reducible rfl
      rotate_left
      ·simp only [Act.put, List.setIfInBounds_toArray, List.set_cons_zero, List.set_cons_succ, i64_w, i32_w]
       rfl
      refine pure_ (i := 4) (N := some 14) (v := ?_) (a' := ?_) #[true, true, true, false, true, false, false, false, false, false, false, false, false] rfl rfl (any_of HT_.out (by kernel_rfl)) (fun _ _ _ h => h) (Or.inl ⟨by rfl, ?_⟩) ?_ ?_
      rotate_left
      ·intro w'
       go_simp
       with_reducible rfl
      rotate_left
      ·simp only [Act.put, List.setIfInBounds_toArray, List.set_cons_zero, List.set_cons_succ, i64_w, i32_w]
       rfl
      refine pure_ (i := 5) (N := some 15) (v := ?_) (a' := ?_) #[true, true, true, false, true, true, false, false, false, false, false, false, false] rfl rfl (any_of HT_.out (by kernel_rfl)) (fun _ _ _ h => h) (Or.inl ⟨by rfl, ?_⟩) ?_ ?_
      rotate_left
      ·intro w'
       go_simp
       with_reducible rfl
      rotate_left
      ·simp only [Act.put, List.setIfInBounds_toArray, List.set_cons_zero, List.set_cons_succ, i64_w, i32_w]
       rfl
      refine pure_ (i := 6) (N := some 16) (v := ?_) (a' := ?_) #[true, true, true, false, true, true, true, false, false, false, false, false, false] rfl rfl (any_of HT_.out (by kernel_rfl)) (fun _ _ _ h => h) (Or.inl ⟨by rfl, ?_⟩) ?_ ?_
      rotate_left
      ·intro w'
       go_simp
       with_reducible rfl
      rotate_left
      ·simp only [Act.put, List.setIfInBounds_toArray, List.set_cons_zero, List.set_cons_succ, i64_w, i32_w]
       rfl
      refine pure_ (i := 7) (N := some 17) (v := ?_) (a' := ?_) #[true, true, true, false, true, true, true, true, false, false, false, false, false] rfl rfl (any_of HT_.out (by kernel_rfl)) (fun _ _ _ h => h) (Or.inl ⟨by rfl, ?_⟩) ?_ ?_
      rotate_left
      ·intro w'
       go_simp
       with_reducible rfl
      rotate_left
      ·simp only [Act.put, List.setIfInBounds_toArray, List.set_cons_zero, List.set_cons_succ, i64_w, i32_w]
       rfl
      refine take_ (i := 3) (N := some 13) (v := ?_) (a' := ?_) #[true, true, true, true, true, true, true, true, false, false, false, false, false] rfl rfl (take_ofW HT_.out HW_.out (by kernel_rfl)) (fun _ _ _ h => h) (Or.inl ⟨by rfl, ?_⟩) hHeld ?_ ?_
      rotate_left
      ·rintro w' ⟨s0, s1⟩
       go_simp
       with_reducible rfl
      rotate_left
      ·simp only [Act.put, List.setIfInBounds_toArray, List.set_cons_zero, List.set_cons_succ, i64_w, i32_w]
       rfl
      refine take_ (i := 8) (N := some 18) (v := ?_) (a' := ?_) #[true, true, true, true, true, true, true, true, true, false, false, false, false] rfl rfl (take_ofW HT_.out HW_.out (by kernel_rfl)) (fun _ _ _ h => h) (Or.inl ⟨by rfl, ?_⟩) hHeld ?_ ?_
      rotate_left
      ·rintro w' ⟨s0, s1⟩
       go_simp
       with_reducible rfl
      rotate_left
      ·simp only [Act.put, List.setIfInBounds_toArray, List.set_cons_zero, List.set_cons_succ, i64_w, i32_w]
       rfl
      refine pure_ (i := 9) (N := some 19) (v := ?_) (a' := ?_) #[true, true, true, true, true, true, true, true, true, true, false, false, false] rfl rfl (any_of HT_.out (by kernel_rfl)) (fun _ _ _ h => h) (Or.inl ⟨by rfl, ?_⟩) ?_ ?_
      rotate_left
      ·intro w'
       go_simp
       with_reducible rfl
      rotate_left
      ·simp only [Act.put, List.setIfInBounds_toArray, List.set_cons_zero, List.set_cons_succ, i64_w, i32_w]
       rfl
      refine one_ (i := 10) (N := some 20) #[true, true, true, true, true, true, true, true, true, true, true, false, false] rfl rfl (one_of HT_.out (by kernel_rfl)) (by decide) (fun K hK => ?_)
      refine goes_ Tryz.func219 (by kernel_rfl) rfl #[.int .i64 x3_1, .int .i64 0, .int .i64 ((rd_L18 l0 x3_1).length : Int)] (by rfl) rfl rfl (by (try simp only [List.map_toArray, List.map_cons, List.map_nil]); first | done | rfl | (simp only [List.length_drop, List.length_take]; rfl)) ?_
      with_reducible refine (cornucopiabook_markEntries.calls k1 x3_1 0 ((rd_L18 l0 x3_1).length : Int) t303 _ A4.out).mono ?_
      rintro e w11 ⟨v304, rfl, ho0, hb⟩
      refine ⟨_, rfl, ?_⟩
      have n0_ := Aside0.mk (Kd.R_lower ho0 (below_size (by repeat (first | (with_reducible first | exact HB.out | apply below_alloc | apply pw_below_drewN | apply below_drew1) | exact HB.out))))
      have n1_ := Aside0.mk (below_step (by repeat (first | (with_reducible first | exact HB.out | apply below_alloc | apply pw_below_drewN | apply below_drew1) | exact HB.out)) hb)
      clear HB
      have HO305 := n0_
      have HB := n1_
      clear n0_ n1_
      (try clear hb)
      (try clear hb2)
      (try clear hk)
      (try clear hi)
      (try clear ho0)
      obtain ⟨Ao12, co12, eo12⟩ := Kd.R_slice HO305.out
      (first | subst eo12 | (injection eo12 with f1_ f2_ f3_; have f4_ := f1_.symm; have f5_ := f3_.symm; clear f1_ f2_ f3_; subst f4_; subst f5_))
      refine hK.out _ _ ⟨((HB.out.cell (World.block_lt_of_cell? w _ hw301_0)).trans hw301_0), ((HB.out.cell (World.block_lt_of_cell? w _ hw302_0)).trans hw302_0)⟩ (fun hHeld => ?_)
      clear hK K
      refine norm_ (a' := ?_) ?_ ?_
      rotate_left
      ·show Act.put _ (some 20) _ = _
       simp only [Act.put, List.setIfInBounds_toArray, List.set_cons_zero, List.set_cons_succ, i64_w, i32_w]
       rfl
      refine one_ (i := 11) (N := some 21) #[true, true, true, true, true, true, true, true, true, true, true, true, false] rfl rfl (one_of HT_.out (by kernel_rfl)) (by decide) (fun K hK => ?_)
      refine goes_ Tryz.func19 (by kernel_rfl) rfl #[.slice A301_0 (rd_L18 l0 x3_1).length c301_0, .slice Ao12 t303.length co12] (by rfl) rfl rfl (by (try simp only [List.map_toArray, List.map_cons, List.map_nil]); first | done | rfl | (simp only [List.length_drop, List.length_take]; rfl)) ?_
      with_reducible refine (cornucopiabook_SameEntries.calls k1 _ _ (rd_L18 l0 x3_1) _ _ t303 false _ ?side1 ?side2 ?side3 ?side4 A5.out).mono ?_
      (case side1 => repeat (first | exact (Kd.C_below HR301_0.out HB.out) | (with_reducible refine Kd.C_alloc ?_ _) | (with_reducible refine Kd.C_drewN ?_ _) | (with_reducible refine Kd.C_drew ?_)))
      (case side2 => exact HC301_0.out)
      (case side3 => repeat (first | exact (Kd.R_reads' HO305.out).2.2 | (with_reducible refine Kd.C_alloc ?_ _) | (with_reducible refine Kd.C_drewN ?_ _) | (with_reducible refine Kd.C_drew ?_)))
      (case side4 => exact (Kd.R_reads' HO305.out).2.1)
      rintro e w' ⟨rfl, ⟨nd, rfl⟩⟩
      refine ⟨_, rfl, ?_⟩
      refine hK.out _ _ ⟨((HB.out.cell (World.block_lt_of_cell? w _ hw301_0)).trans hw301_0), ((HB.out.cell (World.block_lt_of_cell? w _ hw302_0)).trans hw302_0)⟩ (fun hHeld => ?_)
      clear hK K
      refine norm_ (a' := ?_) ?_ ?_
      rotate_left
      ·show Act.put _ (some 21) _ = _
       simp only [Act.put, List.setIfInBounds_toArray, List.set_cons_zero, List.set_cons_succ, i64_w, i32_w]
       rfl
      refine pure_ (i := 12) (N := some 22) (v := ?_) (a' := ?_) #[true, true, true, true, true, true, true, true, true, true, true, true, true] rfl rfl (any_of HT_.out (by kernel_rfl)) (fun _ _ _ h => h) (Or.inl ⟨by rfl, ?_⟩) ?_ ?_
      rotate_left
      ·intro w'
       go_simp
       with_reducible rfl
      rotate_left
      ·simp only [Act.put, List.setIfInBounds_toArray, List.set_cons_zero, List.set_cons_succ, i64_w, i32_w]
       rfl
      refine done_ (done_of HT_.out (by kernel_rfl)) ?_
      try go_wp2
      go_ret
      exact ⟨by first | rfl | (simp [errW_none, errW_some] <;> rfl) | (simp [*, errW_none, errW_some] <;> rfl), by repeat (first | (with_reducible first | exact HB.out | apply below_alloc | apply pw_below_drewN | apply below_drew1) | exact HB.out)⟩
    ·rw [if_neg c3] at H
     exact absurd H (by simp)
   ·rw [if_neg c2] at H
    have c2b0 : decide (x3_1 < (l0.length : Int)) = false := decide_eq_false c2
    clear c2
    obtain rfl := Option.some.inj H
    go_wp2
    go_ret
    exact ⟨by first | rfl | (simp [errW_none, errW_some] <;> rfl) | (simp [*, errW_none, errW_some] <;> rfl), by repeat (first | (with_reducible first | exact HB.out | apply below_alloc | apply pw_below_drewN | apply below_drew1) | exact HB.out)⟩
end Go.Proofs.YtchgpcgolgcfdaaGreat.PNum
end
section
namespace Go.Proofs.YtchgpcgolgcfdaaGreat.BkEntries
open Go Go.RowKit Go.Proofs.YtchgpcgolgcfdaaGreat.PNum Go.Proofs.YtchgpcgolgcfdaaGreat.BkW Go.Proofs.YtchgpcgolgcfdaaGreatW.PrintWords Go.Proofs.YtchgpcgolgcfdaaGreatW.PrintLast Go.Proofs.YtchgpcgolgcfdaaGreatW.PrintMore Go.Proofs.YtchgpcgolgcfdaaGreatW.Pu
set_option linter.unusedVariables false
set_option linter.unusedSimpArgs false
abbrev S := S32
def enc (x : S) : List Value := [.string x.f0, .int .u64 x.f1, .int .i64 x.f2, .string x.f3]
theorem flat : Flat k32 enc := ⟨fun _ => rfl, fun h => k32_openM h, fun w x => k32_mk w x, fun h => k32_open h⟩
def nm (i k : Int) : ByteArray := (cornucopiabook_name.f i k).getD ⟨#[]⟩
theorem nm_ev (i k : Int) : cornucopiabook_name.f i k = some (nm i k) := by unfold nm cornucopiabook_name.f; rfl
def mk (i k : Int) : S := ⟨nm i k, 0, 0, ⟨#[]⟩⟩
def marks (i f : Int) (n : Nat) : List S := (List.range' 0 n).map fun j : Nat => mk i (f + (j : Int))
theorem marks_len (i f : Int) (n : Nat) : (marks i f n).length = n := by simp [marks]
theorem marks_at {i f : Int} {n j : Nat} (h : j < n) : (marks i f n)[j]? = some (mk i (f + (j : Int))) := by simp [marks, h]
theorem marks_add (i : Int) (n m : Nat) : marks i 0 n ++ marks i (n : Int) m = marks i 0 (n + m) := by
 apply List.ext_getElem?
 intro j
 by_cases h1 : j < n
 ·rw [List.getElem?_append_left (by rw [marks_len]; exact h1), marks_at h1, marks_at (by omega)]
 ·rw [List.getElem?_append_right (by rw [marks_len]; omega), marks_len]
  by_cases h2 : j < n + m
  ·rw [marks_at (by omega), marks_at h2]
   congr 2
   omega
  ·rw [List.getElem?_eq_none (by rw [marks_len]; omega), List.getElem?_eq_none (by rw [marks_len]; omega)]
theorem mark_l (i f : Int) (n : Nat) (hf : 0 ≤ f ∧ f + n ≤ 1000000000) : ∀ (d j : Nat) (acc : List S), j + d = n → acc.length = j → ∀ k, d < k → cornucopiabook_markEntries.l0 k i f n acc (f + (j : Int)) = some (acc ++ (List.range' j d).map fun q : Nat => mk i (f + (q : Int)))
 | 0, j, acc, hj, ha, k, hk => by
  obtain ⟨k, rfl⟩ : ∃ m, k = m + 1 := ⟨k - 1, by omega⟩
  rw [cornucopiabook_markEntries.l0, if_neg (by rw [wrap64_id (by omega)]; omega)]
  simp
 | d + 1, j, acc, hj, ha, k, hk => by
  obtain ⟨k, rfl⟩ : ∃ m, k = m + 1 := ⟨k - 1, by omega⟩
  rw [cornucopiabook_markEntries.l0, if_pos (by rw [wrap64_id (by omega)]; omega)]
  rw [nm_ev]; simp only [Option.bind_some]; rw [if_pos (by omega), wrap64_id (x := f + (j : Int) + 1) (by omega)]
  have ih := mark_l i f n hf d (j + 1) (acc ++ [mk i (f + (j : Int))]) (by omega) (by simp [ha]) k (by omega)
  rw [show f + (j : Int) + 1 = f + ((j + 1 : Nat) : Int) from by omega]
  refine Eq.trans ih ?_
  rw [List.append_assoc, List.range'_succ]
  rfl
theorem mark_ev (i f : Int) (n : Nat) (hf : 0 ≤ f ∧ f + n ≤ 1000000000) {k : Nat} (hk : n < k) : cornucopiabook_markEntries.f k i f n = some (marks i f n) := by
 have h := mark_l i f n hf n 0 [] (by omega) rfl k hk
 rw [show f + ((0 : Nat) : Int) = f from by omega, List.nil_append] at h
 exact h
theorem same_l (l : List S) (hl : l.length ≤ 1000000) : ∀ (d i : Nat), i + d = l.length → ∀ k, d < k → cornucopiabook_SameEntries.l0 k l l (i : Int) = some true
 | 0, i, hi, k, hk => by
  obtain ⟨k, rfl⟩ : ∃ m, k = m + 1 := ⟨k - 1, by omega⟩
  rw [cornucopiabook_SameEntries.l0, if_neg (by omega)]
 | d + 1, i, hi, k, hk => by
  obtain ⟨k, rfl⟩ : ∃ m, k = m + 1 := ⟨k - 1, by omega⟩
  rw [cornucopiabook_SameEntries.l0, if_pos (by omega), if_pos (by omega), if_pos (by omega), if_pos (by simp), wrap64_id (by omega)]
  exact same_l l hl d (i + 1) (by omega) k (by omega)
theorem same_ev (l : List S) (hl : l.length ≤ 1000000) {k : Nat} (hk : l.length < k) : cornucopiabook_SameEntries.f k l l = some true := by
 rw [cornucopiabook_SameEntries.f, if_pos rfl]
 exact same_l l hl l.length 0 (by omega) k hk
theorem copy_ev (l : List S) (hl : l.length ≤ 1000000) : cornucopiabook_copyEntries.f l = some l := by
 unfold cornucopiabook_copyEntries.f
 rw [if_pos (by simp; omega)]
 simp
theorem marked_l (ls : List (List S)) (N : Nat) (hl : ls.length ≤ 1000000) (hm : ∀ (j : Nat) (l : List S), ls[j]? = some l → l.length ≤ N ∧ l = marks j 0 l.length) (hN : N ≤ 1000000) : ∀ (d i : Nat), i + d = ls.length → ∀ k, N + d < k → cornucopiabook_markedEntries.l0 k ls (i : Int) = some true
 | 0, i, hi, k, hk => by
  obtain ⟨k, rfl⟩ : ∃ m, k = m + 1 := ⟨k - 1, by omega⟩
  rw [cornucopiabook_markedEntries.l0, if_neg (by omega)]
 | d + 1, i, hi, k, hk => by
  obtain ⟨k, rfl⟩ : ∃ m, k = m + 1 := ⟨k - 1, by omega⟩
  have hi2 : i < ls.length := by omega
  have e : rd_L18 ls (i : Int) = ls[i] := by
   unfold rd_L18
   simp [hi2]
  obtain ⟨h1, h2⟩ := hm i _ (List.getElem?_eq_getElem hi2)
  rw [cornucopiabook_markedEntries.l0, if_pos (by omega), if_pos (by omega), e, mark_ev (i : Int) 0 ls[i].length (by omega) (by omega)]
  simp only [Option.bind_some]
  rw [← h2, same_ev _ (by omega) (by omega)]
  simp only [Option.bind_some]
  rw [if_pos trivial, wrap64_id (by omega)]
  exact marked_l ls N hl hm hN d (i + 1) (by omega) k (by omega)
theorem marked_ev (ls : List (List S)) (N : Nat) (hl : ls.length ≤ 1000000) (hm : ∀ (j : Nat) (l : List S), ls[j]? = some l → l.length ≤ N ∧ l = marks j 0 l.length) (hN : N ≤ 1000000) : cornucopiabook_markedEntries.f (N + ls.length + 1) ls = some true := marked_l ls N hl hm hN ls.length 0 (by omega) _ (by omega)
theorem one_slice (A : Option Addr) (n c : Nat) : ∀ u ∈ [Value.slice A n c], u.oneCell' = true := by simp [Value.oneCell']
theorem infoS : (Tryz.prog.info? 22).map (fun i => (i.zero, i.size, i.bytes)) = some (some (.slice none 0 0), 1, 24) := by kernel_rfl
theorem infoE : (Tryz.prog.info? 32).map (fun i => (i.zero, i.size, i.bytes)) = some (some (.agg #[.string ⟨#[]⟩, .int .u64 0, .int .i64 0, .string ⟨#[]⟩]), 4, 48) := by kernel_rfl
theorem neSE : (22 : TypeId) ≠ 32 := by decide
theorem neBS : (56 : TypeId) ≠ 22 := by decide
theorem neBE : (56 : TypeId) ≠ 32 := by decide
theorem ne_of {w : World} {g : Nat} {cs : Array Value} {t e : TypeId} {v : Value} {base n sz : Nat} {ys : List Value} (hg : w.heap[g]? = some (.cells cs t (0, 0))) (h : w.ownsRow base e sz v n ys) (hne : t ≠ e) : some g ≠ v.ownBlock := own_ne h hg (fun z => hne z.symm)
set_option maxHeartbeats 8000000 in
set_option maxRecDepth 100000 in
theorem keep_calls (w0 w : World) (g : Nat) (cs : Array Value) (p q : Value) (es : List (Ent S)) (A : Option Addr) (c : Nat) (xs : List S)
  (hg : w.heap[g]? = some (.cells cs 56 (0, 0))) (hp : cs[6]? = some p) (hq : cs[7]? = some q) (hK : Kept enc 4 22 32 w w0.heap.size p q es) (hB : Below w0.heap.size w0 w) (hgb : w0.heap.size ≤ g)
  (hv : Rw w 32 4 (.slice A xs.length c) xs.length (encL enc xs)) (hvb : ∀ k, (Value.slice A xs.length c).ownBlock = some k → w0.heap.size ≤ k) (hva : ∀ x ∈ es, ap x.v (.slice A xs.length c)) (hx : xs.length ≤ 1000000) (hn : es.length < 250) :
  Calls Tryz.prog 18 #[.pointer (some ⟨g, 0, none⟩), .slice A xs.length c] w fun e w' => e = .returned (.tuple #[]) ∧ ∃ p' q' u, w'.heap[g]? = some (.cells ((cs.setIfInBounds 6 p').setIfInBounds 7 q') 56 (0, 0)) ∧ Kept enc 4 22 32 w' w0.heap.size p' q' (es ++ [⟨.slice A xs.length c, u, xs⟩]) ∧ Below w0.heap.size w0 w' ∧ Still [56, 22] w w' ∧ w.heap.size ≤ w'.heap.size ∧ Frm w w' g p q ∧ NewOr w p p' ∧ NewOr w q q' := by
 obtain ⟨Ap, cp, rfl⟩ := own_slice hK.rp
 obtain ⟨Aq, cq, rfl⟩ := own_slice hK.rq
 have HG := Aside0.mk hg
 have HQ := Aside0.mk hq
 have HK := Aside0.mk hK
 have HB := Aside0.mk hB
 have HGB := Aside0.mk hgb
 have HV := Aside0.mk hv
 have HVB := Aside0.mk hvb
 have HVA := Aside0.mk hva
 have HX := Aside0.mk hx
 have hlt : g < w.heap.size := blk_lt hg
 have c6 : w.cell? ⟨g, 6, none⟩ = some (.slice Ap es.length cp) := (blk_cell hg 6).trans hp
 have f6 : w.frozen? ⟨g, 6, none⟩ = false := blk_frozen hg 6
 have t0 : decide ((es.length : Int) < 250) = true := decide_eq_true (by omega)
 have HN := Aside0.mk hn
 have HNb : Aside0 ((es.length + 1) * 24 ≤ 140737488355328) := ⟨by omega⟩
 have HP := Aside0.mk hp
 clear hg hq hK hB hgb hv hvb hva hx hn hp
 go_enter Tryz.func18, Tryz.ntmps18
 go_wp2_with (first
  | ((with_reducible refine gate_builtin (b := .append) (xs := #[.tmp 14, .tmp 16]) rfl ?_); at_builtin; refine print_append_cells (w0 := w0) w0.heap.size rfl (.tmp 14) (.tmp 16) 44 22 (.slice none 0 0) 1 24 rfl Tryz.underlying44 infoS rfl ?a1 ?a2 (.slice Ap es.length cp) es.length (es.map (·.v)) [.slice A xs.length c] rfl rfl rfl ?a3 HK.out.rp HB.out HB.out.size ?aL ?_; (case a1 => decide); (case a2 => decide); (case a3 => exact one_slice _ _ _); (case aL => have := HN.out; omega); intro p1 w1 ho1 hb1 hg1 hat1; obtain ⟨A1, c1, rfl⟩ := own_slice ho1; have hblk1 := (hg1.block g hlt (ne_of HG.out HK.out.rp neBS)).trans HG.out; have HBL1 := Aside0.mk hblk1; have c6' : w1.cell? ⟨g, 6, none⟩ = some (.slice Ap es.length cp) := (blk_cell hblk1 6).trans HP.out; have f6' : w1.frozen? ⟨g, 6, none⟩ = false := blk_frozen hblk1 6; have HH1 := Aside0.mk (HK.out.step1 neSE HV.out HVB.out HVA.out ho1 hg1 hat1); have HB1 := Aside0.mk hb1; have HS1 : Aside0 (Still [56, 22] w w1) := ⟨Still.of_grown hg1 (fun k hk => by obtain ⟨cur, hc⟩ := own_typed HK.out.rp k hk; exact ⟨cur, 22, by simp, hc⟩)⟩; have HZ1 := Aside0.mk hg1.size; have HF1 : Aside0 (Frm w w1 g (.slice Ap es.length cp) (.slice Aq es.length cq)) := ⟨Frm.start hg1⟩; have HN1 : Aside0 (NewOr w (.slice Ap es.length cp) (.slice A1 (es.length + 1) c1)) := ⟨NewOr.of hat1⟩; clear ho1 hb1 hg1 hat1 hblk1 c6 f6))
 have HBL2 : Aside0 ((w1.setCell ⟨g, 6, none⟩ (.slice A1 (es.length + 1) c1)).heap[g]? = some (.cells (cs.setIfInBounds 6 (.slice A1 (es.length + 1) c1)) 56 (0, 0))) := ⟨blk_set HBL1.out _ _⟩
 have HH2 : Aside0 (Half enc 4 22 32 (w1.setCell ⟨g, 6, none⟩ (.slice A1 (es.length + 1) c1)) w0.heap.size (.slice A1 (es.length + 1) c1) (.slice Aq es.length cq) es (.slice A xs.length c) xs) := ⟨HH1.out.still (T := [56]) (Still.of_far (g := g) (fun k hk => Below.heap_setCell _ _ _ k hk) ⟨_, _, by simp, HBL1.out⟩) (by simp [neBS.symm]) (by simp [neBE.symm])⟩
 have HB2 : Aside0 (Below w0.heap.size w0 (w1.setCell ⟨g, 6, none⟩ (.slice A1 (es.length + 1) c1))) := ⟨HB1.out.setCell HGB.out _⟩
 have HS2 : Aside0 (Still [56, 22] w (w1.setCell ⟨g, 6, none⟩ (.slice A1 (es.length + 1) c1))) := ⟨HS1.out.trans HZ1.out (Still.of_far (g := g) (fun k hk => Below.heap_setCell _ _ _ k hk) ⟨_, 56, by simp, HBL1.out⟩)⟩
 have HZ2 : Aside0 (w.heap.size ≤ (w1.setCell ⟨g, 6, none⟩ (.slice A1 (es.length + 1) c1)).heap.size) := ⟨by rw [World.size_setCell]; exact HZ1.out⟩
 have HQ2 : Aside0 ((cs.setIfInBounds 6 (.slice A1 (es.length + 1) c1))[7]? = some (.slice Aq es.length cq)) := ⟨by rw [Array.getElem?_setIfInBounds_ne (by decide)]; exact HQ.out⟩
 have HF2 : Aside0 (Frm w (w1.setCell ⟨g, 6, none⟩ (.slice A1 (es.length + 1) c1)) g (.slice Ap es.length cp) (.slice Aq es.length cq)) := ⟨HF1.out.far (fun k hk => Below.heap_setCell _ _ _ k hk)⟩
 clear HF1 HH1 HB1 HS1 HZ1 HBL1 c6' f6'
 generalize w1.setCell ⟨g, 6, none⟩ (.slice A1 (es.length + 1) c1) = w2 at *
 have hC2 : Aside0 (Kd.C k32 w2.drew A xs.length xs) := ⟨flat.to_C (HH2.out.below (below_drew (Below.refl _ w2))).ev.1 rfl⟩
 have hcc : Aside0 (xs.length ≤ c) := ⟨by obtain ⟨A', c', e, h⟩ := HV.out.slice; injection e with _ _ e; omega⟩
 have c7 : w2.cell? ⟨g, 7, none⟩ = some (.slice Aq es.length cq) := (blk_cell HBL2.out 7).trans HQ2.out
 have f7 : w2.frozen? ⟨g, 7, none⟩ = false := blk_frozen HBL2.out 7
 go_region_law (first
  | (refine goes_ Tryz.func101 (by kernel_rfl) rfl #[.slice A xs.length c] (by rfl) rfl rfl ?_ ?_; (next => first | rfl | (simp [Act.eval, Act.put]; done)); refine (cornucopiabook_copyEntries.calls A c xs xs _ hC2.out hcc.out (copy_ev xs HX.out)).mono ?_; rintro e w3 ⟨u, rfl, hr, hb⟩; refine ⟨_, rfl, ?_⟩; obtain ⟨Au, cu, rfl⟩ := Kd.R_slice hr; have HBL3 := Aside0.mk (blk_below (blk_drew HBL2.out) hb); have HU3 := Aside0.mk (flat.of_R hr); have HH3 := Aside0.mk ((HH2.out.below (below_drew (Below.refl _ w2))).below hb); have HB3 := Aside0.mk (below_step (below_drew HB2.out) hb); have HS3 := Aside0.mk ((HS2.out.below HZ2.out (below_drew (Below.refl _ w2))).below HZ2.out hb); have HZ3 := Aside0.mk hb.size; have HF3 := Aside0.mk ((HF2.out.below HZ2.out (below_drew (Below.refl _ w2))).below HZ2.out hb); have hlt3 : g < w3.heap.size := blk_lt HBL3.out; have c73 : w3.cell? ⟨g, 7, none⟩ = some (.slice Aq es.length cq) := (blk_cell HBL3.out 7).trans HQ2.out; have f73 : w3.frozen? ⟨g, 7, none⟩ = false := blk_frozen HBL3.out 7; clear hr hb)
  | (refine step_append_cells (w0 := w0) w0.heap.size (by rfl) (.tmp 24) (.tmp 27) 44 22 (.slice none 0 0) 1 24 (by rfl) Tryz.underlying44 infoS rfl (by decide) (by decide) (.slice Aq es.length cq) es.length (es.map (·.u)) [.slice Au xs.length cu] ?_ ?_ rfl (one_slice _ _ _) HH3.out.rq HB3.out HB3.out.size HNb.out ?_; (next => first | rfl | (simp [Act.eval, Act.put]; done)); (next => first | rfl | (simp [Act.eval, Act.put]; done)); intro q1 w4 ho4 hb4 hg4 hat4; obtain ⟨A4, c4, rfl⟩ := own_slice ho4; have HBL4 := Aside0.mk ((hg4.block g (blk_lt HBL3.out) (ne_of HBL3.out HH3.out.rq neBS)).trans HBL3.out); have c74 : w4.cell? ⟨g, 7, none⟩ = some (.slice Aq es.length cq) := (blk_cell HBL4.out 7).trans HQ2.out; have f74 : w4.frozen? ⟨g, 7, none⟩ = false := blk_frozen HBL4.out 7; have HK4 := Aside0.mk (HH3.out.step2 neSE HU3.out ho4 hg4 hat4); have HB4 := Aside0.mk hb4; have HS4 : Aside0 (Still [56, 22] w w4) := ⟨HS3.out.trans (Nat.le_trans HZ2.out HZ3.out) (Still.of_grown hg4 (fun k hk => by obtain ⟨cur, hc⟩ := own_typed HH3.out.rq k hk; exact ⟨cur, 22, by simp, hc⟩))⟩; have HZ4 : Aside0 (w.heap.size ≤ w4.heap.size) := ⟨Nat.le_trans (Nat.le_trans HZ2.out HZ3.out) hg4.size⟩; have HF4 : Aside0 (Frm w w4 g (.slice Ap es.length cp) (.slice Aq es.length cq)) := ⟨HF3.out.grown (Nat.le_trans HZ2.out HZ3.out) hg4⟩; have HN4 : Aside0 (NewOr w (.slice Aq es.length cq) (.slice A4 (es.length + 1) c4)) := ⟨(NewOr.of hat4).mono (Nat.le_trans HZ2.out HZ3.out)⟩; clear ho4 hg4 hb4 hat4))
 all_goals
  go_end0
  exact ⟨rfl, _, _, _, blk_set HBL4.out _ _, HK4.out.still (T := [56]) (Still.of_far (g := g) (fun k hk => Below.heap_setCell _ _ _ k hk) ⟨_, _, by simp, HBL4.out⟩) (by simp [neBS.symm]) (by simp [neBE.symm]), HB4.out.setCell HGB.out _, HS4.out.trans HZ4.out (Still.of_far (g := g) (fun k hk => Below.heap_setCell _ _ _ k hk) ⟨_, 56, by simp, HBL4.out⟩), by rw [World.size_setCell]; exact HZ4.out, HF4.out.far (fun k hk => Below.heap_setCell _ _ _ k hk), HN1.out, HN4.out⟩
set_option maxHeartbeats 8000000 in
set_option maxRecDepth 100000 in
theorem keep_full (w : World) (g : Nat) (cs : Array Value) (v : Value) (Ap : Option Addr) (n cp : Nat) (hg : w.heap[g]? = some (.cells cs 56 (0, 0))) (hp : cs[6]? = some (.slice Ap n cp)) (hn : ¬ n < 250) :
  Calls Tryz.prog 18 #[.pointer (some ⟨g, 0, none⟩), v] w fun e w' => e = .returned (.tuple #[]) ∧ w' = w := by
 have hlt : g < w.heap.size := blk_lt hg
 have c6 : w.cell? ⟨g, 6, none⟩ = some (.slice Ap n cp) := (blk_cell hg 6).trans hp
 have t0 : decide ((n : Int) < 250) = false := decide_eq_false (by omega)
 have t1 : decide (n < 250) = false := decide_eq_false hn
 clear hg hp hn
 go_enter Tryz.func18, Tryz.ntmps18
 go_wp2_with (fail)
 go_end0
 exact ⟨rfl, rfl⟩
theorem row_at {w : World} {base n j : Nat} {v : Value} {xs : List Value} (h : w.ownsRow base 22 1 v n xs) (hj : j < n) : ∃ gp c, v = .slice (some ⟨gp, 0, none⟩) n c ∧ (∃ cur, w.heap[gp]? = some (.cells cur 22 (0, 0))) ∧ ∀ u, xs[j]? = some u → w.cell? ⟨gp, j, none⟩ = some u := by
 rcases h.2 with ⟨_, h0⟩ | ⟨gp, c, cur, hv, _, hh, _, _, _, ht⟩
 ·omega
 ·refine ⟨gp, c, hv, ⟨cur, hh⟩, fun u hu => ?_⟩
  rw [blk_cell hh, ← Array.getElem?_toList]
  rw [← ht, List.getElem?_take] at hu
  split at hu
  ·exact hu
  ·cases hu
theorem same_quiet (V : World) (n : Nat) (A : Option Addr) (c : Nat) (xs : List S) (A' : Option Addr) (c' : Nat) (h1 : Kd.C k32 (V.drewN n) A xs.length xs) (hc1 : xs.length ≤ c) (h2 : Kd.C k32 (V.drewN n) A' xs.length xs) (hc2 : xs.length ≤ c') (hx : xs.length ≤ 1000000) :
  Calls Tryz.prog 19 #[.slice A xs.length c, .slice A' xs.length c'] (V.drewN n) fun e w'' => e = .returned (.bool true) ∧ ∃ m, w'' = V.drewN m :=
 Calls.quiet_of ((cornucopiabook_SameEntries.calls (xs.length + 1) A c xs A' c' xs true _ h1 hc1 h2 hc2 (same_ev xs hx (Nat.lt_succ_self _))).mono (fun e w' hh => ⟨hh.1, by obtain ⟨_, nd, h3⟩ := hh; exact ⟨nd, h3⟩⟩))
set_option maxHeartbeats 8000000 in
set_option maxRecDepth 100000 in
theorem still_calls (w : World) (base g : Nat) (cs : Array Value) (p q : Value) (es : List (Ent S)) (hg : w.heap[g]? = some (.cells cs 56 (0, 0))) (hp : cs[6]? = some p) (hq : cs[7]? = some q)
  (hK : Kept enc 4 22 32 w base p q es) (hx : ∀ x ∈ es, x.xs.length ≤ 1000000) (hn : es.length ≤ 1000000) :
  Calls Tryz.prog 107 #[.pointer (some ⟨g, 0, none⟩)] w fun e w' => e = .returned (.bool true) ∧ Drawn0 w w' := by
 obtain ⟨Ap, cp, rfl⟩ := own_slice hK.rp
 obtain ⟨Aq, cq, rfl⟩ := own_slice hK.rq
 have HG := Aside0.mk hg
 have HP := Aside0.mk hp
 have HQ := Aside0.mk hq
 have HK := Aside0.mk hK
 have HX := Aside0.mk hx
 clear hg hp hq hK hx
 go_enter Tryz.func107, Tryz.ntmps107
 go_wp2_with (fail)
 go_loopw [3] (fun v3 w' => ∃ j : Nat, v3 = .int .i64 j ∧ j ≤ es.length ∧ Aside0 (Drawn0 w w')) (fun v3 _ => es.length - (intOf v3).toNat)
 case atStart => exact ⟨0, rfl, Nat.zero_le _, ⟨Drawn0.refl w⟩⟩
 case round =>
  obtain ⟨j, rfl, hj, HD⟩ := hrel
  have HGR : Aside0 (wr.heap[g]? = some (.cells cs 56 (0, 0))) := ⟨blk_below HG.out HD.out.below⟩
  have HKR : Aside0 (Kept enc 4 22 32 wr base (.slice Ap es.length cp) (.slice Aq es.length cq) es) := ⟨HK.out.below HD.out.below⟩
  have c6 : wr.cell? ⟨g, 6, none⟩ = some (.slice Ap es.length cp) := (blk_cell HGR.out 6).trans HP.out
  have c7 : wr.cell? ⟨g, 7, none⟩ = some (.slice Aq es.length cq) := (blk_cell HGR.out 7).trans HQ.out
  by_cases hlt : j < es.length
  ·have p0 : (0 : Int) ≤ (j : Int) := Int.natCast_nonneg _
   have q0 : (j : Int) < (es.length : Int) := Int.ofNat_lt.mpr hlt
   have t0 : decide ((j : Int) < (es.length : Int)) = true := decide_eq_true q0
   obtain ⟨gp, cp', e1, _, hp1⟩ := row_at HKR.out.rp hlt
   obtain ⟨gq, cq', e2, _, hq1⟩ := row_at HKR.out.rq hlt
   injection e1 with e1 _ _
   injection e2 with e2 _ _
   subst e1; subst e2
   have hem := List.getElem_mem hlt
   obtain ⟨A1, c1, ev, hc1⟩ := (HKR.out.el _ hem).1.slice
   obtain ⟨A2, c2, eu, hc2⟩ := (HKR.out.el _ hem).2.1.slice
   have y1 : wr.cell? ⟨gp, j, none⟩ = some (.slice A1 es[j].xs.length c1) := by rw [← ev]; exact hp1 _ (by rw [List.getElem?_map, List.getElem?_eq_getElem hlt]; rfl)
   have y2 : wr.cell? ⟨gq, j, none⟩ = some (.slice A2 es[j].xs.length c2) := by rw [← eu]; exact hq1 _ (by rw [List.getElem?_map, List.getElem?_eq_getElem hlt]; rfl)
   have HC1 : Aside0 (Kd.C k32 wr A1 es[j].xs.length es[j].xs) := ⟨flat.to_C (by rw [← ev]; exact (HKR.out.el _ hem).1) rfl⟩
   have HC2 : Aside0 (Kd.C k32 wr A2 es[j].xs.length es[j].xs) := ⟨flat.to_C (by rw [← eu]; exact (HKR.out.el _ hem).2.1) rfl⟩
   have HL1 := Aside0.mk hc1
   have HL2 := Aside0.mk hc2
   have HLX := Aside0.mk (HX.out _ hem)
   clear hp1 hq1 hem ev eu hc1 hc2
   generalize es[j].xs = xs at *
   go_wp2_with (fail)
   go_quiet ((go_at_call 19; exact same_quiet wr _ _ _ _ _ _ (Kd.C_drewN HC1.out _) HL1.out (Kd.C_drewN HC2.out _) HL2.out HLX.out))
   go_wp2_with (fail)
   go_roundw
   case rel => exact ⟨j + 1, by go_num, by omega, ⟨HD.out.step _⟩⟩
   case measure => simp [intOf]; omega
  ·obtain rfl : j = es.length := by omega
   have t0 : decide ((es.length : Int) < (es.length : Int)) = false := decide_eq_false (by omega)
   go_wp2_with (fail)
   go_ret
   exact ⟨rfl, HD.out⟩
def stg (X : Nat → List S) (j : Nat) : Nat → List S := fun i => if i < j then marks i 0 (X i).length else X i
theorem stg_len (X : Nat → List S) (j i : Nat) : (stg X j i).length = (X i).length := by
 unfold stg
 split
 ·rw [marks_len]
 ·rfl
def amid (X : Nat → List S) (j m : Nat) : Nat → List S := fun i => if i = j then (marks j 0 (X j).length).take m ++ (X j).drop m else stg X j i
theorem amid_zero (X : Nat → List S) (j i : Nat) : amid X j 0 i = stg X j i := by
 unfold amid
 split
 ·rename_i h
  subst h
  simp [stg]
 ·rfl
theorem amid_full (X : Nat → List S) (j i : Nat) : amid X j (X j).length i = stg X (j + 1) i := by
 unfold amid
 by_cases h : i = j
 ·subst h
  rw [if_pos rfl, List.take_of_length_le (by rw [marks_len]; exact Nat.le_refl _), List.drop_length]
  simp [stg]
 ·rw [if_neg h]
  unfold stg
  by_cases h2 : i < j
  ·rw [if_pos h2, if_pos (by omega)]
  ·rw [if_neg h2, if_neg (by omega)]
theorem amid_len (X : Nat → List S) (j m i : Nat) (hm : m ≤ (X j).length) : (amid X j m i).length = (X i).length := by
 unfold amid
 split
 ·rename_i h
  subst h
  rw [List.length_append, List.length_take, marks_len, List.length_drop]
  omega
 ·exact stg_len X j i
theorem amid_step (X : Nat → List S) (j m i : Nat) (hm : m < (X j).length) : (if i = j then (amid X j m j).set m (mk (j : Int) (m : Int)) else amid X j m i) = amid X j (m + 1) i := by
 by_cases h : i = j
 ·subst h
  rw [if_pos rfl]
  unfold amid
  rw [if_pos rfl, if_pos rfl]
  have hl : ((marks i 0 (X i).length).take m).length = m := by rw [List.length_take, marks_len]; omega
  rw [List.set_append_right _ _ (by omega), hl, Nat.sub_self, List.drop_eq_getElem_cons hm, List.set_cons_zero]
  have h2 := marks_at (i := (i : Int)) (f := 0) hm
  obtain ⟨h3, h4⟩ := List.getElem?_eq_some_iff.1 h2
  rw [List.take_succ_eq_append_getElem h3, h4, List.append_assoc]
  simp
 ·rw [if_neg h]
  unfold amid
  rw [if_neg h, if_neg h]
set_option maxHeartbeats 8000000 in
set_option maxRecDepth 100000 in
theorem put_calls (w0 w : World) (g : Nat) (cs : Array Value) (p : Value) (vs : List Value) (X : Nat → List S) (hg : w.heap[g]? = some (.cells cs 56 (0, 0))) (hp : cs[6]? = some p)
  (hH : Held enc 4 22 32 w w0.heap.size p vs X) (hB : Below w0.heap.size w0 w) (hx : ∀ i, i < vs.length → (X i).length ≤ 1000000) (hn : vs.length ≤ 1000000) :
  Calls Tryz.prog 123 #[.pointer (some ⟨g, 0, none⟩)] w fun e w' => e = .returned (.tuple #[]) ∧ Held enc 4 22 32 w' w0.heap.size p vs (fun i => marks i 0 (X i).length) ∧ Below w0.heap.size w0 w' ∧ Still [32] w w' ∧ w.heap.size ≤ w'.heap.size := by
 obtain ⟨Ap, cp, rfl⟩ := own_slice hH.rp
 have HG := Aside0.mk hg
 have HP := Aside0.mk hp
 have HX := Aside0.mk hx
 have HH : Aside0 (Held enc 4 22 32 w w0.heap.size (.slice Ap vs.length cp) vs (stg X 0)) := ⟨hH.congr (fun i _ => by simp [stg])⟩
 have HB := Aside0.mk hB
 have HS : Aside0 (Still [32] w w) := ⟨Still.refl _ _⟩
 have HZ : Aside0 (w.heap.size ≤ w.heap.size) := ⟨Nat.le_refl _⟩
 clear hg hp hx hH hB
 go_enter Tryz.func123, Tryz.ntmps123
 go_wp2_with (fail)
 go_loopw [2] (fun v2 w' => ∃ j : Nat, v2 = .int .i64 j ∧ j ≤ vs.length ∧ Aside0 (Held enc 4 22 32 w' w0.heap.size (.slice Ap vs.length cp) vs (stg X j)) ∧ Aside0 (Below w0.heap.size w0 w') ∧ Aside0 (Still [32] w w') ∧ Aside0 (w.heap.size ≤ w'.heap.size)) (fun v2 _ => vs.length - (intOf v2).toNat)
 case atStart => exact ⟨0, rfl, Nat.zero_le _, HH, HB, HS, HZ⟩
 case round =>
  clear HH HB HS HZ
  obtain ⟨j, rfl, hj, HH, HB, HS, HZ⟩ := hrel
  have HGR : Aside0 (wr.heap[g]? = some (.cells cs 56 (0, 0))) := ⟨HS.out.blk HG.out (by simp [neBE])⟩
  have c6 : wr.cell? ⟨g, 6, none⟩ = some (.slice Ap vs.length cp) := (blk_cell HGR.out 6).trans HP.out
  by_cases hlt : j < vs.length
  ·have p0 : (0 : Int) ≤ (j : Int) := Int.natCast_nonneg _
   have q0 : (j : Int) < (vs.length : Int) := Int.ofNat_lt.mpr hlt
   have t0 : decide ((j : Int) < (vs.length : Int)) = true := decide_eq_true q0
   obtain ⟨gp, cp_, e1, _, hp1⟩ := row_at HH.out.rp hlt
   injection e1 with e1 _ e3
   subst e1; subst e3
   have hvj := List.getElem?_eq_getElem hlt
   have hrj := (HH.out.el _ _ hvj).1
   rw [stg_len] at hrj
   obtain ⟨A1, c1, ev, hc1⟩ := hrj.slice
   have y1 : wr.cell? ⟨gp, j, none⟩ = some (.slice A1 (X j).length c1) := by rw [← ev]; exact hp1 _ hvj
   rw [ev] at hvj
   have HVJ := Aside0.mk hvj
   have HLX := Aside0.mk (HX.out j hlt)
   have HLT := Aside0.mk hlt
   have hpn : (X j).length ≤ 9223372036854775807 := by have := HLX.out; omega
   clear hp1 hrj ev hc1 hvj
   go_wp2_with (first
    | (go_at_call 219; refine (cornucopiabook_markEntries.calls ((X j).length + 1) (j : Int) 0 ((X j).length : Int) _ _ (mark_ev (j : Int) 0 (X j).length (by have := HLX.out; omega) (Nat.lt_succ_self _))).mono ?_; rintro e w1 ⟨m, rfl, hr, hb⟩; obtain ⟨Am, cm, em⟩ := Kd.R_slice hr; rw [marks_len] at em; subst em; have hrw := flat.of_R hr; rw [marks_len] at hrw; have HM1 := Aside0.mk hrw; clear hrw; have HMB : Aside0 (ap (Value.slice Am (X j).length cm) (.slice A1 (X j).length c1)) := ⟨fun k hk1 hk2 => by have h1 := Kd.R_base hr k hk1; have h2 := (HH.out.el _ _ HVJ.out).1.lt k hk2; omega⟩; have n0_ := Aside0.mk (HH.out.below hb); have n1_ := Aside0.mk (below_step HB.out hb); have n2_ := Aside0.mk (HS.out.below HZ.out hb); have n3_ := Aside0.mk (Nat.le_trans HZ.out hb.size); clear hr hb HH HB HS HZ; have HH := n0_; have HB := n1_; have HS := n2_; have HZ := n3_; clear n0_ n1_ n2_ n3_))
   have HH1 : Aside0 (Held enc 4 22 32 w1 w0.heap.size (.slice (some ⟨gp, 0, none⟩) vs.length cp) vs (amid X j 0)) := ⟨HH.out.congr (fun i _ => (amid_zero X j i).symm)⟩
   clear HH c6 y1
   go_loopw [4] (fun v4 w' => ∃ q : Nat, v4 = .int .i64 q ∧ q ≤ (X j).length ∧ Aside0 (Held enc 4 22 32 w' w0.heap.size (.slice (some ⟨gp, 0, none⟩) vs.length cp) vs (amid X j q)) ∧ Aside0 (Rw w' 32 4 (.slice Am (X j).length cm) (X j).length (encL enc (marks (j : Int) 0 (X j).length))) ∧ Aside0 (Below w0.heap.size w0 w') ∧ Aside0 (Still [32] w w') ∧ Aside0 (w.heap.size ≤ w'.heap.size)) (fun v4 _ => (X j).length - (intOf v4).toNat)
   case atStart => exact ⟨0, rfl, Nat.zero_le _, HH1, HM1, HB, HS, HZ⟩
   case round =>
    clear HH1 HM1 HB HS HZ HGR
    obtain ⟨q, rfl, hq, HH, HM, HB, HS, HZ⟩ := hrel
    have HGR : Aside0 (wr.heap[g]? = some (.cells cs 56 (0, 0))) := ⟨HS.out.blk HG.out (by simp [neBE])⟩
    have c6 : wr.cell? ⟨g, 6, none⟩ = some (.slice (some ⟨gp, 0, none⟩) vs.length cp) := (blk_cell HGR.out 6).trans HP.out
    by_cases hql : q < (X j).length
    ·have pq : (0 : Int) ≤ (q : Int) := Int.natCast_nonneg _
     have qq : (q : Int) < ((X j).length : Int) := Int.ofNat_lt.mpr hql
     have t1 : decide ((q : Int) < ((X j).length : Int)) = true := decide_eq_true qq
     obtain ⟨gp2, cp2, e2, _, hp2⟩ := row_at HH.out.rp hlt
     injection e2 with e2 _ e4
     injection e2 with e2
     injection e2 with e2
     subst e2; subst e4
     have y1 : wr.cell? ⟨gp, j, none⟩ = some (.slice A1 (X j).length c1) := hp2 _ HVJ.out
     have hrv := (HH.out.el _ _ HVJ.out).1
     have hal := amid_len X j q j hq
     rw [hal] at hrv
     obtain ⟨gv, ov, cv, ev, hcv, hfv, hcells⟩ := hrv.form (by omega)
     injection ev with ev _ ev2
     subst ev; subst ev2
     obtain ⟨gm, om, cm2, em, hcm, hfm, hmcells⟩ := HM.out.form (by omega)
     injection em with em _ em2
     subst em; subst em2
     have hx0 : (amid X j q j)[q]? = some ((amid X j q j)[q]'(by omega)) := List.getElem?_eq_getElem (by omega)
     have hm0 := marks_at (i := (j : Int)) (f := 0) hql
     rw [Int.zero_add] at hm0
     generalize (amid X j q j)[q]'(by omega) = x0 at hx0
     have zv0 : wr.cell? ⟨gv, ov + q * 4, none⟩ = some (.string x0.f0) := by have h := hcells (q * 4 + 0) _ (flat.cell hx0 (i := 0) rfl); simpa [Nat.add_assoc] using h
     have zf0 : wr.frozen? ⟨gv, ov + q * 4, none⟩ = false := hfv _
     have zm0 : wr.cell? ⟨gm, om + q * 4, none⟩ = some (.string (mk (j : Int) (q : Int)).f0) := by have h := hmcells (q * 4 + 0) _ (flat.cell hm0 (i := 0) rfl); simpa [Nat.add_assoc] using h
     have zv1 : wr.cell? ⟨gv, ov + q * 4 + 1, none⟩ = some (.int .u64 x0.f1) := by have h := hcells (q * 4 + 1) _ (flat.cell hx0 (i := 1) rfl); simpa [Nat.add_assoc] using h
     have zf1 : wr.frozen? ⟨gv, ov + q * 4 + 1, none⟩ = false := hfv _
     have zm1 : wr.cell? ⟨gm, om + q * 4 + 1, none⟩ = some (.int .u64 (mk (j : Int) (q : Int)).f1) := by have h := hmcells (q * 4 + 1) _ (flat.cell hm0 (i := 1) rfl); simpa [Nat.add_assoc] using h
     have zv2 : wr.cell? ⟨gv, ov + q * 4 + 2, none⟩ = some (.int .i64 x0.f2) := by have h := hcells (q * 4 + 2) _ (flat.cell hx0 (i := 2) rfl); simpa [Nat.add_assoc] using h
     have zf2 : wr.frozen? ⟨gv, ov + q * 4 + 2, none⟩ = false := hfv _
     have zm2 : wr.cell? ⟨gm, om + q * 4 + 2, none⟩ = some (.int .i64 (mk (j : Int) (q : Int)).f2) := by have h := hmcells (q * 4 + 2) _ (flat.cell hm0 (i := 2) rfl); simpa [Nat.add_assoc] using h
     have zv3 : wr.cell? ⟨gv, ov + q * 4 + 3, none⟩ = some (.string x0.f3) := by have h := hcells (q * 4 + 3) _ (flat.cell hx0 (i := 3) rfl); simpa [Nat.add_assoc] using h
     have zf3 : wr.frozen? ⟨gv, ov + q * 4 + 3, none⟩ = false := hfv _
     have zm3 : wr.cell? ⟨gm, om + q * 4 + 3, none⟩ = some (.string (mk (j : Int) (q : Int)).f3) := by have h := hmcells (q * 4 + 3) _ (flat.cell hm0 (i := 3) rfl); simpa [Nat.add_assoc] using h
     clear hcells hmcells hx0 hm0 hp2 hrv hal
     have HQL := Aside0.mk hql
     go_wp2_with (fail)
     go_region
     have hW : ((((wr).setCell ⟨gv, ov + q * 4, none⟩ (.string (mk (j : Int) (q : Int)).f0)).setCell ⟨gv, ov + q * 4 + 1, none⟩ (.int .u64 (mk (j : Int) (q : Int)).f1)).setCell ⟨gv, ov + q * 4 + 2, none⟩ (.int .i64 (mk (j : Int) (q : Int)).f2)).setCell ⟨gv, ov + q * 4 + 3, none⟩ (.string (mk (j : Int) (q : Int)).f3) = wr.setCells gv (ov + q * 4) (enc (mk (j : Int) (q : Int))) := rfl
     rw [hW]
     clear hW zv0 zf0 zm0 zv1 zf1 zm1 zv2 zf2 zm2 zv3 zf3 zm3 c6 y1
     have HBV : Aside0 (w0.heap.size ≤ gv) := ⟨(HH.out.el _ _ HVJ.out).2 gv rfl⟩
     have HTV : Aside0 (∃ cur, wr.heap[gv]? = some (.cells cur 32 (0, 0))) := ⟨(HH.out.el _ _ HVJ.out).1.typed gv rfl⟩
     have n0_ : Aside0 (Held enc 4 22 32 (wr.setCells gv (ov + q * 4) (enc (mk (j : Int) (q : Int)))) w0.heap.size (.slice (some ⟨gp, 0, none⟩) vs.length cp) vs (amid X j (q + 1))) := ⟨(HH.out.put flat neSE HVJ.out (by rw [amid_len X j q j (Nat.le_of_lt HQL.out)]; exact HQL.out) (mk (j : Int) (q : Int))).congr (fun i _ => amid_step X j q i HQL.out)⟩
     have n1_ : Aside0 (Rw (wr.setCells gv (ov + q * 4) (enc (mk (j : Int) (q : Int)))) 32 4 (.slice (some ⟨gm, om, none⟩) (X j).length cm) (X j).length (encL enc (marks (j : Int) 0 (X j).length))) := ⟨HM.out.move (fun k hk => setCells_far _ _ k (fun e => HMB.out k hk (by rw [e]; rfl)))⟩
     have n2_ := Aside0.mk (below_setCells (o := ov + q * 4) (vs := enc (mk (j : Int) (q : Int))) HB.out HBV.out)
     have n3_ : Aside0 (Still [32] w (wr.setCells gv (ov + q * 4) (enc (mk (j : Int) (q : Int))))) := ⟨by obtain ⟨cur, hc⟩ := HTV.out; exact HS.out.trans HZ.out (still_setCells hc (by simp))⟩
     have n4_ : Aside0 (w.heap.size ≤ (wr.setCells gv (ov + q * 4) (enc (mk (j : Int) (q : Int)))).heap.size) := ⟨by rw [size_setCells]; exact HZ.out⟩
     clear HH HM HB HS HZ HBV HTV HGR
     generalize wr.setCells gv (ov + q * 4) (enc (mk (j : Int) (q : Int))) = w5 at *
     go_wp2_with (fail)
     go_roundw
     case rel => exact ⟨q + 1, by go_num, by omega, ⟨n0_.out.below (below_drew (Below.refl _ w5))⟩, ⟨n1_.out.below (below_drew (Below.refl _ w5))⟩, ⟨below_drew n2_.out⟩, ⟨n3_.out.below n4_.out (below_drew (Below.refl _ w5))⟩, n4_⟩
     case measure => simp [intOf]; omega
    ·obtain rfl : q = (X j).length := by omega
     have t1 : decide (((X j).length : Int) < ((X j).length : Int)) = false := decide_eq_false (by omega)
     go_wp2_with (fail)
     go_roundw
     case rel => exact ⟨j + 1, by go_num, by omega, ⟨by have h := HH.out.congr (fun i _ => amid_full X j i); exact h⟩, HB, HS, HZ⟩
     case measure => simp [intOf]; omega
  ·obtain rfl : j = vs.length := by omega
   have t0 : decide ((vs.length : Int) < (vs.length : Int)) = false := decide_eq_false (by omega)
   go_wp2_with (fail)
   go_end0
   exact ⟨rfl, HH.out.congr (fun i hi => by unfold stg; rw [if_pos hi]), HB.out, HS.out, HZ.out⟩
abbrev grown (X : Nat → List S) (i : Nat) : List S := marks i 0 ((X i).length + 72)
structure GrO (w : World) (base b0 : Nat) (p : Value) (vs : List Value) (X : Nat → List S) (out : Value) (ws : List Value) : Prop where
 H : Held enc 4 22 32 w base p vs X
 o : w.ownsRow b0 22 1 out ws.length ws
 W : ∀ (i : Nat) (u : Value), ws[i]? = some u → Rw w 32 4 u (grown X i).length (encL enc (grown X i)) ∧ ∀ k, u.ownBlock = some k → base ≤ k
 wv : ∀ (i : Nat) (u : Value) (m : Nat) (v : Value), ws[i]? = some u → vs[m]? = some v → ws.length ≤ m → ap u v
 op : ∀ k, p.ownBlock = some k → k < b0
structure Grw (w : World) (base b0 : Nat) (p : Value) (vs : List Value) (X : Nat → List S) (out : Value) (ws : List Value) (l : Value) (n : Nat) : Prop where
 H : Held enc 4 22 32 w base p vs X
 o : w.ownsRow b0 22 1 out ws.length ws
 W : ∀ (i : Nat) (u : Value), ws[i]? = some u → Rw w 32 4 u (grown X i).length (encL enc (grown X i)) ∧ ∀ k, u.ownBlock = some k → base ≤ k
 L : Rw w 32 4 l (marks ws.length 0 n).length (encL enc (marks ws.length 0 n)) ∧ ∀ k, l.ownBlock = some k → base ≤ k
 ln : (X ws.length).length ≤ n
 lv : ∀ v, vs[ws.length]? = some v → ap l v ∨ ∃ A c, v = .slice A (X ws.length).length c ∧ l = .slice A n c
 lo : ∀ (m : Nat) (v : Value), m ≠ ws.length → vs[m]? = some v → ap v l
 lw : ∀ (i : Nat) (u : Value), ws[i]? = some u → ap u l
 wv : ∀ (i : Nat) (u : Value) (m : Nat) (v : Value), ws[i]? = some u → vs[m]? = some v → ws.length < m → ap u v
 op : ∀ k, p.ownBlock = some k → k < b0
section
variable {w w1 : World} {base b0 n : Nat} {p out l l1 : Value} {vs ws : List Value} {X : Nat → List S}
theorem GrO.still (h : GrO w base b0 p vs X out ws) {T : List TypeId} (hs : Still T w w1) (h1 : 22 ∉ T) (h2 : 32 ∉ T) : GrO w1 base b0 p vs X out ws :=
 ⟨h.H.still hs h1 h2, hs.own h.o h1, fun i u hu => ⟨hs.rw_ (h.W i u hu).1 h2, (h.W i u hu).2⟩, h.wv, h.op⟩
theorem GrO.below (h : GrO w base b0 p vs X out ws) (hb : Below w.heap.size w w1) : GrO w1 base b0 p vs X out ws := h.still (T := []) (Still.of_below hb) (by simp) (by simp)
theorem Grw.below (h : Grw w base b0 p vs X out ws l n) (hb : Below w.heap.size w w1) : Grw w1 base b0 p vs X out ws l n :=
 ⟨h.H.below hb, pw_own_below h.o hb, fun i u hu => ⟨(h.W i u hu).1.below hb, (h.W i u hu).2⟩, ⟨h.L.1.below hb, h.L.2⟩, h.ln, h.lv, h.lo, h.lw, h.wv, h.op⟩
theorem GrO.start (h : GrO w base b0 p vs X out ws) (hX : ∀ i, i < vs.length → X i = marks i 0 (X i).length) {v : Value} (hv : vs[ws.length]? = some v) : Grw w base b0 p vs X out ws v (X ws.length).length := by
 have hlt := (List.getElem?_eq_some_iff.1 hv).1
 have hx := hX _ hlt
 obtain ⟨hr, hb⟩ := h.H.el _ _ hv
 obtain ⟨A, c, e, _⟩ := hr.slice
 refine ⟨h.H, h.o, h.W, ⟨?_, hb⟩, Nat.le_refl _, fun v' hv' => ?_, fun m v' hm hv' => ap_of h.H.dv hv' hv hm, fun i u hu => h.wv i u _ v hu hv (Nat.le_refl _), fun i u m v' hu hv' hm => h.wv i u m v' hu hv' (Nat.le_of_lt hm), h.op⟩
 ·rw [← hx]
  exact hr
 ·rw [hv] at hv'
  injection hv' with hv'
  subst hv'
  exact .inr ⟨A, c, e, e⟩
theorem ap_fresh {v : Value} {m : Nat} {cs : List Value} (h : Rw w 32 4 v m cs) (hat : ∃ b, l1.ownBlock = some b ∧ w.heap.size ≤ b) : ap v l1 := fun k hk hk2 => by
 obtain ⟨b, hb, hle⟩ := hat
 have := h.lt k hk
 rw [hb] at hk2
 injection hk2 with hk2
 omega
theorem Grw.step (h : Grw w base b0 p vs X out ws l n) {m : Nat} (hbase : base ≤ w.heap.size) (h1 : Rw w1 32 4 l1 (marks ws.length 0 n ++ marks ws.length (n : Int) m).length (encL enc (marks ws.length 0 n ++ marks ws.length (n : Int) m)))
  (h2 : Rw w1 32 4 l (marks ws.length 0 n).length (encL enc (marks ws.length 0 n))) (hg : w.grownBy w1 l.ownBlock) (hat : (∃ A c, l = .slice A (marks ws.length 0 n).length c ∧ l1 = .slice A ((marks ws.length 0 n).length + m) c) ∨ ∃ b, l1.ownBlock = some b ∧ w.heap.size ≤ b)
  (hX : ∀ i, i < vs.length → X i = marks i 0 (X i).length) : Grw w1 base b0 p vs X out ws l1 (n + m) := by
 rw [marks_add] at h1
 rw [marks_len] at hat
 have apl : ∀ {v : Value} {q : Nat} {cs : List Value}, Rw w 32 4 v q cs → ap v l → ap v l1 := by
  intro v q cs hv ha
  rcases hat with ⟨A, c, e1, e2⟩ | hat
  ·subst e1; subst e2
   exact fun k hk hk2 => ha k hk ((own_sl A n c (n + m) c).trans hk2)
  ·exact ap_fresh hv hat
 have rp' : ∀ {b q : Nat} {v : Value} {ys : List Value}, w.ownsRow b 22 1 v q ys → w1.ownsRow b 22 1 v q ys := by
  intro b q v ys hv
  refine own_other hv hg ?_
  cases e : v.ownBlock with
  | none => exact .inl rfl
  | some k =>
   right
   intro e2
   obtain ⟨c1, hc1⟩ := own_typed hv k e
   obtain ⟨c2, hc2⟩ := h.L.1.typed k e2.symm
   rw [hc1] at hc2
   injection hc2 with hc2
   injection hc2 with _ hc2
   exact neSE hc2
 refine ⟨⟨rp' h.H.rp, fun i v hv => ⟨?_, (h.H.el i v hv).2⟩, h.H.dv⟩, rp' h.o, fun i u hu => ⟨(h.W i u hu).1.grown hg (h.lw i u hu).ne, (h.W i u hu).2⟩, ⟨h1, fun k hk => ?_⟩, Nat.le_trans h.ln (Nat.le_add_right _ _), fun v hv => ?_, fun q v hq hv => apl (h.H.el q v hv).1 (h.lo q v hq hv), fun i u hu => apl (h.W i u hu).1 (h.lw i u hu), h.wv, h.op⟩
 ·by_cases hi : i = ws.length
  ·subst hi
   rcases h.lv v hv with ha | ⟨A, c, e1, e2⟩
   ·exact (h.H.el _ v hv).1.grown hg ha.symm.ne
   ·subst e1
    rw [e2] at h2
    rw [marks_len] at h2
    have h3 := h2.take h.ln
    have h4 : (encL enc (marks ws.length 0 n)).take ((X ws.length).length * 4) = encL enc (X ws.length) := by
     have h5 := marks_add ws.length (X ws.length).length (n - (X ws.length).length)
     rw [show (X ws.length).length + (n - (X ws.length).length) = n from by have := h.ln; omega] at h5
     rw [← h5, encL_append, ← hX _ (List.getElem?_eq_some_iff.1 hv).1]
     exact List.take_left' (flat.lenL _)
    rw [h4] at h3
    exact h3
  ·exact (h.H.el i v hv).1.grown hg (h.lo i v hi hv).ne
 ·rcases hat with ⟨A, c, e1, e2⟩ | ⟨b, hb, hle⟩
  ·subst e1; subst e2
   exact h.L.2 k ((own_sl A n c (n + m) c).trans hk)
  ·rw [hb] at hk
   injection hk with hk
   omega
 ·rcases hat with ⟨A, c, e1, e2⟩ | hat
  ·subst e2
   rcases h.lv v hv with ha | ⟨A', c', e3, e4⟩
   ·subst e1
    exact .inl (fun k hk hk2 => ha k ((own_sl A n c (n + m) c).trans hk) hk2)
   ·right
    rw [e4] at e1
    injection e1 with e5 _ e6
    subst e5; subst e6
    exact ⟨A', c', e3, rfl⟩
  ·exact .inl (ap_fresh (h.H.el _ v hv).1 hat).symm
theorem Grw.fin (h : Grw w base b0 p vs X out ws l ((X ws.length).length + 72)) {out1 : Value} (ho : w1.ownsRow b0 22 1 out1 (ws.length + 1) (ws ++ [l])) (hg : w.grownBy w1 out.ownBlock) : GrO w1 base b0 p vs X out1 (ws ++ [l]) := by
 have hne : p.ownBlock = none ∨ p.ownBlock ≠ out.ownBlock := by
  cases e : p.ownBlock with
  | none => exact .inl rfl
  | some k =>
   right
   intro e2
   have h1 := h.op k e
   have h2 := own_base h.o k e2.symm
   omega
 refine ⟨⟨own_other h.H.rp hg hne, fun i v hv => ⟨rw_over (h.H.el i v hv).1 h.o hg neSE, (h.H.el i v hv).2⟩, h.H.dv⟩, by simpa using ho, fun i u hu => ?_, fun i u m v hu hv hm => ?_, h.op⟩
 ·by_cases hi : i < ws.length
  ·rw [List.getElem?_append_left hi] at hu
   exact ⟨rw_over (h.W i u hu).1 h.o hg neSE, (h.W i u hu).2⟩
  ·have hi2 : i = ws.length := by
    have := (List.getElem?_eq_some_iff.1 hu).1
    simp at this
    omega
   subst hi2
   have hu2 : l = u := by simpa using hu
   subst hu2
   exact ⟨rw_over h.L.1 h.o hg neSE, h.L.2⟩
 ·rw [List.length_append, List.length_singleton] at hm
  by_cases hi : i < ws.length
  ·rw [List.getElem?_append_left hi] at hu
   exact h.wv i u m v hu hv (by omega)
  ·have hi2 : i = ws.length := by
    have := (List.getElem?_eq_some_iff.1 hu).1
    simp at this
    omega
   subst hi2
   have hu2 : l = u := by simpa using hu
   subst hu2
   exact (h.lo m v (by omega) hv).symm
end
set_option maxHeartbeats 8000000 in
set_option maxRecDepth 100000 in
theorem grow_calls (w0 w : World) (g : Nat) (cs : Array Value) (p : Value) (vs : List Value) (X : Nat → List S) (hg : w.heap[g]? = some (.cells cs 56 (0, 0))) (hp : cs[6]? = some p)
  (hH : Held enc 4 22 32 w w0.heap.size p vs X) (hX : ∀ i, i < vs.length → X i = marks i 0 (X i).length) (hB : Below w0.heap.size w0 w) (hx : ∀ i, i < vs.length → (X i).length ≤ 1000000) (hn : vs.length ≤ 1000000) :
  Calls Tryz.prog 135 #[.pointer (some ⟨g, 0, none⟩)] w fun e w' => ∃ out ws, e = .returned out ∧ ws.length = vs.length ∧ GrO w' w0.heap.size w.heap.size p vs X out ws ∧ Below w0.heap.size w0 w' ∧ Still [32] w w' ∧ w.heap.size ≤ w'.heap.size := by
 obtain ⟨Ap, cp, rfl⟩ := own_slice hH.rp
 have HG := Aside0.mk hg
 have HP := Aside0.mk hp
 have HX := Aside0.mk hx
 have HXM := Aside0.mk hX
 have HO : Aside0 (GrO w w0.heap.size w.heap.size (.slice Ap vs.length cp) vs X (.slice none 0 0) []) := ⟨⟨hH, own_nil _ _ _ _, fun i u hu => by simp at hu, fun i u m v hu => by simp at hu, fun k hk => own_lt hH.rp k hk⟩⟩
 have HB := Aside0.mk hB
 have HB00 := Aside0.mk hB
 have HS : Aside0 (Still [32] w w) := ⟨Still.refl _ _⟩
 have HZ : Aside0 (w.heap.size ≤ w.heap.size) := ⟨Nat.le_refl _⟩
 clear hg hp hx hH hB hX
 go_enter Tryz.func135, Tryz.ntmps135
 go_wp2_with (fail)
 go_loopw [3, 4] (fun v3 v4 w' => ∃ (j : Nat) (ws : List Value) (Ao : Option Addr) (co : Nat), v3 = .slice Ao j co ∧ v4 = .int .i64 j ∧ Aside0 (ws.length = j) ∧ j ≤ vs.length ∧ Aside0 (GrO w' w0.heap.size w.heap.size (.slice Ap vs.length cp) vs X (.slice Ao j co) ws) ∧ Aside0 (Below w0.heap.size w0 w') ∧ Aside0 (Still [32] w w') ∧ Aside0 (w.heap.size ≤ w'.heap.size)) (fun _ v4 _ => vs.length - (intOf v4).toNat)
 case atStart => exact ⟨0, [], none, 0, rfl, rfl, ⟨rfl⟩, Nat.zero_le _, HO, HB, HS, HZ⟩
 case round =>
  clear HO HB HS HZ
  obtain ⟨j, ws, Ao, co, rfl, rfl, HWL, hj, HO, HB, HS, HZ⟩ := hrel
  have HGR : Aside0 (wr.heap[g]? = some (.cells cs 56 (0, 0))) := ⟨HS.out.blk HG.out (by simp [neBE])⟩
  have c6 : wr.cell? ⟨g, 6, none⟩ = some (.slice Ap vs.length cp) := (blk_cell HGR.out 6).trans HP.out
  by_cases hlt : j < vs.length
  ·have p0 : (0 : Int) ≤ (j : Int) := Int.natCast_nonneg _
   have q0 : (j : Int) < (vs.length : Int) := Int.ofNat_lt.mpr hlt
   have t0 : decide ((j : Int) < (vs.length : Int)) = true := decide_eq_true q0
   obtain ⟨gp, cp_, e1, _, hp1⟩ := row_at HO.out.H.rp hlt
   injection e1 with e1 _ e3
   subst e1; subst e3
   have hvj := List.getElem?_eq_getElem hlt
   obtain ⟨A1, c1, ev, hc1⟩ := (HO.out.H.el _ _ hvj).1.slice
   have y1 : wr.cell? ⟨gp, j, none⟩ = some (.slice A1 (X j).length c1) := by rw [← ev]; exact hp1 _ hvj
   rw [ev] at hvj
   obtain ⟨nj, hnj⟩ : ∃ nj, nj = (X j).length := ⟨_, rfl⟩
   have HNJ := Aside0.mk hnj
   have HLT := Aside0.mk hlt
   have HNV := Aside0.mk hn
   have HLX : Aside0 (nj ≤ 1000000) := ⟨by rw [hnj]; exact HX.out j hlt⟩
   have HGW : Aside0 (Grw wr w0.heap.size w.heap.size (.slice (some ⟨gp, 0, none⟩) vs.length cp) vs X (.slice Ao j co) ws (.slice A1 nj c1) nj) := ⟨by have h := HO.out.start HXM.out (v := .slice A1 (X j).length c1) (by rw [HWL.out]; exact hvj); rw [HWL.out, ← hnj] at h; exact h⟩
   rw [← hnj] at y1
   clear hp1 ev hc1 hvj hnj HO
   go_wp2_with (fail)
   go_loopw [5, 6] (fun v5 v6 w' => ∃ (t n : Nat) (Al : Option Addr) (cl : Nat), v5 = .slice Al n cl ∧ v6 = .int .i64 t ∧ t ≤ 12 ∧ Aside0 (n = nj + t) ∧ Aside0 (Grw w' w0.heap.size w.heap.size (.slice (some ⟨gp, 0, none⟩) vs.length cp) vs X (.slice Ao j co) ws (.slice Al n cl) n) ∧ Aside0 (Below w0.heap.size w0 w') ∧ Aside0 (Still [32] w w') ∧ Aside0 (w.heap.size ≤ w'.heap.size)) (fun _ v6 _ => 12 - (intOf v6).toNat)
   case atStart => exact ⟨0, nj, A1, c1, rfl, rfl, Nat.zero_le _, ⟨rfl⟩, HGW, HB, HS, HZ⟩
   case round =>
    clear HGW HB HS HZ HGR c6 y1
    obtain ⟨t, n, Al, cl, rfl, rfl, ht, HN, HGW, HB, HS, HZ⟩ := hrel
    by_cases ht2 : t < 12
    ·have t1 : decide ((t : Int) < 12) = true := decide_eq_true (by omega)
     have HT := Aside0.mk ht2
     have hn2 : n ≤ 9223372036854775807 := by have := HN.out; have := HLX.out; omega
     clear ht2
     go_wp2_with (first
      | (go_at_call 219; refine (cornucopiabook_markEntries.calls 2 (j : Int) (n : Int) 1 _ _ (mark_ev (j : Int) (n : Int) 1 (by have := HN.out; have := HLX.out; have := HT.out; omega) (by omega))).mono ?_; rintro e w1 ⟨m, rfl, hr, hb⟩; obtain ⟨Am, cm, em⟩ := Kd.R_slice hr; rw [marks_len] at em; subst em; have HM1 := Aside0.mk (Kd.R_reads' hr).2.2; have n0_ := Aside0.mk (HGW.out.below hb); have n1_ := Aside0.mk (below_step HB.out hb); have n2_ := Aside0.mk (HS.out.below HZ.out hb); have n3_ := Aside0.mk (Nat.le_trans HZ.out hb.size); clear hr hb HGW HB HS HZ; have HGW := n0_; have HB := n1_; have HS := n2_; have HZ := n3_; clear n0_ n1_ n2_ n3_)
      | ((with_reducible refine gate_builtin (b := .append) (xs := #[.tmp 27, .tmp 31]) rfl ?_); at_builtin; refine wp_append_rw flat rfl (.tmp 27) (.tmp 31) 22 32 (.agg #[.string ⟨#[]⟩, .int .u64 0, .int .i64 0, .string ⟨#[]⟩]) 48 rfl Tryz.underlying22 infoE ?a1 ?a2 (.slice Al n cl) (marks ws.length 0 n) (marks (j : Int) (n : Int) 1) Am 1 cm rfl rfl ?a3 ?a4 ?a5 ?a6 ?a7 ?_; (case a1 => rfl); (case a2 => decide); (case a3 => exact HGW.out.L.1); (case a4 => have h := HM1.out; rw [marks_len] at h; exact h); (case a5 => decide); (case a6 => rw [marks_len]; have := HN.out; have := HLX.out; have := HT.out; omega); (case a7 => rw [marks_len]; unfold maxLen; have := HN.out; have := HLX.out; have := HT.out; omega); intro l1 w2 hl1 hl0 hgr hat; have g0 := HGW.out.step (m := 1) (l1 := l1) (w1 := w2) HB.out.size (by have h := hl1; rw [show (j : Int) = (ws.length : Int) from by rw [HWL.out]] at h; exact h) hl0 hgr hat HXM.out; obtain ⟨Al2, cl2, el, _⟩ := g0.L.1.slice; rw [marks_len] at el; subst el; have n0_ := Aside0.mk g0; have n1_ := Aside0.mk (HB.out.grown hgr HB.out.size (fun k hk => HGW.out.L.2 k hk)); have n2_ : Aside0 (Still [32] w w2) := ⟨HS.out.trans HZ.out (Still.of_grown hgr (fun k hk => by obtain ⟨cur, hc⟩ := HGW.out.L.1.typed k hk; exact ⟨cur, 32, by simp, hc⟩))⟩; have n3_ := Aside0.mk (Nat.le_trans HZ.out hgr.size); clear hl1 hl0 hgr hat g0 HGW HB HS HZ HM1; have HGW := n0_; have HB := n1_; have HS := n2_; have HZ := n3_; clear n0_ n1_ n2_ n3_))
     go_roundw
     case rel => exact ⟨t + 1, n + 1, Al2, cl2, rfl, by go_num, by have := HT.out; omega, ⟨by have := HN.out; omega⟩, HGW, HB, HS, HZ⟩
     case measure => simp [intOf]; have := HT.out; omega
    ·obtain rfl : t = 12 := by omega
     have t1 : decide ((12 : Int) < 12) = false := by decide
     have t1' : decide (((12 : Nat) : Int) < 12) = false := by decide
     have HT := Aside0.mk ht
     have hn2 : n ≤ 9223372036854775807 := by have := HN.out; have := HLX.out; omega
     have HTI := Aside0.mk q0
     clear ht2 ht
     go_wp2_with (first
      | (go_at_call 219; refine (cornucopiabook_markEntries.calls 61 (j : Int) (n : Int) 60 _ _ (mark_ev (j : Int) (n : Int) 60 (by have := HN.out; have := HLX.out; have := HT.out; omega) (by omega))).mono ?_; rintro e w1 ⟨m, rfl, hr, hb⟩; obtain ⟨Am, cm, em⟩ := Kd.R_slice hr; rw [marks_len] at em; subst em; have HM1 := Aside0.mk (Kd.R_reads' hr).2.2; have n0_ := Aside0.mk (HGW.out.below hb); have n1_ := Aside0.mk (below_step HB.out hb); have n2_ := Aside0.mk (HS.out.below HZ.out hb); have n3_ := Aside0.mk (Nat.le_trans HZ.out hb.size); clear hr hb HGW HB HS HZ; have HGW := n0_; have HB := n1_; have HS := n2_; have HZ := n3_; clear n0_ n1_ n2_ n3_)
      | ((with_reducible refine gate_builtin (b := .append) (xs := #[.tmp 34, .tmp 38]) rfl ?_); at_builtin; refine wp_append_rw flat rfl (.tmp 34) (.tmp 38) 22 32 (.agg #[.string ⟨#[]⟩, .int .u64 0, .int .i64 0, .string ⟨#[]⟩]) 48 rfl Tryz.underlying22 infoE ?a1 ?a2 (.slice Al n cl) (marks ws.length 0 n) (marks (j : Int) (n : Int) 60) Am 60 cm rfl rfl ?a3 ?a4 ?a5 ?a6 ?a7 ?_; (case a1 => rfl); (case a2 => decide); (case a3 => exact HGW.out.L.1); (case a4 => have h := HM1.out; rw [marks_len] at h; exact h); (case a5 => decide); (case a6 => rw [marks_len]; have := HN.out; have := HLX.out; have := HT.out; omega); (case a7 => rw [marks_len]; unfold maxLen; have := HN.out; have := HLX.out; have := HT.out; omega); intro l1 w2 hl1 hl0 hgr hat; have g0 := HGW.out.step (m := 60) (l1 := l1) (w1 := w2) HB.out.size (by have h := hl1; rw [show (j : Int) = (ws.length : Int) from by rw [HWL.out]] at h; exact h) hl0 hgr hat HXM.out; obtain ⟨Al2, cl2, el, _⟩ := g0.L.1.slice; rw [marks_len] at el; subst el; have n0_ := Aside0.mk g0; have n1_ := Aside0.mk (HB.out.grown hgr HB.out.size (fun k hk => HGW.out.L.2 k hk)); have n2_ : Aside0 (Still [32] w w2) := ⟨HS.out.trans HZ.out (Still.of_grown hgr (fun k hk => by obtain ⟨cur, hc⟩ := HGW.out.L.1.typed k hk; exact ⟨cur, 32, by simp, hc⟩))⟩; have n3_ := Aside0.mk (Nat.le_trans HZ.out hgr.size); clear hl1 hl0 hgr hat g0 HGW HB HS HZ HM1; have HGW := n0_; have HB := n1_; have HS := n2_; have HZ := n3_; clear n0_ n1_ n2_ n3_)
      | ((with_reducible refine gate_builtin (b := .append) (xs := #[.tmp 33, .tmp 40]) rfl ?_); at_builtin; refine print_append_cells w.heap.size rfl (.tmp 33) (.tmp 40) 44 22 (.slice none 0 0) 1 24 rfl Tryz.underlying44 infoS rfl ?b1 ?b2 (.slice Ao j co) ws.length ws [.slice Al2 (n + 60) cl2] rfl rfl rfl ?b3 HGW.out.o (Below.refl _ _) HZ.out ?bL ?_; (case b1 => decide); (case b2 => decide); (case b3 => exact one_slice _ _ _); (case bL => rw [HWL.out]; have := HLT.out; have := HNV.out; omega); intro out1 w3 ho1 hb1 hg1 hat1; have ho2 := ho1; rw [HWL.out] at ho2; obtain ⟨A3, c3, rfl⟩ := own_slice ho2; have h1 := HN.out; have h2 := HNJ.out; have e72 : n + 60 = (X ws.length).length + 72 := (by rw [HWL.out]; omega); clear h1 h2; have h9 := HGW.out; rw [e72] at h9 ho1; have n0_ := Aside0.mk (h9.fin ho1 hg1); have n1_ := Aside0.mk (HB.out.grown hg1 HB.out.size (fun k hk => Nat.le_trans HB00.out.size (own_base h9.o k hk))); have n2_ := Aside0.mk (HS.out.grown_new HZ.out hg1 (fun k hk => own_base h9.o k hk)); have n3_ := Aside0.mk (Nat.le_trans HZ.out hg1.size); clear ho1 ho2 hb1 hg1 hat1 e72 h9 HGW HB HS HZ; have HGW := n0_; have HB := n1_; have HS := n2_; have HZ := n3_; clear n0_ n1_ n2_ n3_))
     go_roundw
     case rel => exact ⟨j + 1, _, A3, c3, rfl, by go_num, ⟨by rw [List.length_append, HWL.out]; rfl⟩, by have := HLT.out; omega, HGW, HB, HS, HZ⟩
     case measure => simp [intOf]; have := HLT.out; omega
  ·obtain rfl : j = vs.length := by omega
   have t0 : decide ((vs.length : Int) < (vs.length : Int)) = false := decide_eq_false (by omega)
   go_wp2_with (fail)
   go_ret
   exact ⟨_, ws, rfl, HWL.out, HO.out, HB.out, HS.out, HZ.out⟩
end Go.Proofs.YtchgpcgolgcfdaaGreat.BkEntries
end
section
namespace Go.Proofs.YtchgpcgolgcfdaaGreat.PNum
open Go.RowKit Go.Proofs.YtchgpcgolgcfdaaGreatW.PrintWords Go.Proofs.YtchgpcgolgcfdaaGreatW.PrintLast Go.Proofs.YtchgpcgolgcfdaaGreatW.PrintMore
attribute [local go_sem] max2_int min2_int max_two min_two max_three min_three max_four min_four   -- for this text's walks alone
set_option linter.unusedVariables false
set_option linter.unusedSimpArgs false
theorem eqA141 (d : Nat) (w : World) (x0 y0 : ByteArray) (x1 y1 : ByteArray) (x2 y2 : Bool) :
  (Op.equalIn (d + 2) 141 (.agg #[.string x0, .string x1, .bool x2]) (.agg #[.string y0, .string y1, .bool y2])).run Tryz.prog w = .ok (x0.toList == y0.toList && (x1.toList == y1.toList && (x2 == y2))) w := by
 refine eqA_of Tryz.underlying141 (by kernel_rfl) ?_
 refine eqf_cons (by rfl) (by go_simp; rfl) (by go_simp; rfl) (by go_simp) ?_
 refine eqf_cons (by rfl) (by go_simp; rfl) (by go_simp; rfl) (by go_simp) ?_
 exact eqf_last (by rfl) (by go_simp; rfl) (by go_simp; rfl) (by go_simp)
end Go.Proofs.YtchgpcgolgcfdaaGreat.PNum
end
section
namespace Go.Proofs.YtchgpcgolgcfdaaGreat.PNum
open Go.RowKit Go.Proofs.YtchgpcgolgcfdaaGreatW.PrintWords Go.Proofs.YtchgpcgolgcfdaaGreatW.PrintLast Go.Proofs.YtchgpcgolgcfdaaGreatW.PrintMore
attribute [local go_sem] max2_int min2_int max_two min_two max_three min_three max_four min_four   -- for this text's walks alone
set_option linter.unusedVariables false
set_option linter.unusedSimpArgs false
theorem eqA184 (d : Nat) (w : World) (x0 y0 : ByteArray) (x1 y1 : ByteArray) :
  (Op.equalIn (d + 2) 184 (.agg #[.string x0, .string x1]) (.agg #[.string y0, .string y1])).run Tryz.prog w = .ok (x0.toList == y0.toList && (x1.toList == y1.toList)) w := by
 refine eqA_of Tryz.underlying184 (by kernel_rfl) ?_
 refine eqf_cons (by rfl) (by go_simp; rfl) (by go_simp; rfl) (by go_simp) ?_
 exact eqf_last (by rfl) (by go_simp; rfl) (by go_simp; rfl) (by go_simp)
end Go.Proofs.YtchgpcgolgcfdaaGreat.PNum
end
section
namespace Go.Proofs.YtchgpcgolgcfdaaGreat.PNum
open Go.RowKit Go.Proofs.YtchgpcgolgcfdaaGreatW.PrintWords Go.Proofs.YtchgpcgolgcfdaaGreatW.PrintLast Go.Proofs.YtchgpcgolgcfdaaGreatW.PrintMore
attribute [local go_sem] max2_int min2_int max_two min_two max_three min_three max_four min_four   -- for this text's walks alone
set_option linter.unusedVariables false
set_option linter.unusedSimpArgs false
attribute [local go_sem high] eqA141 eqA184
def cornucopiabook_SamePairs.l0 : Nat → List (S184) → List (S184) → Int → Option (Bool)
 | 0, _, _, _ => none
 | k + 1, x0, x1, x5 => if x5 < (x0.length : Int) then (if 0 ≤ x5 then (if x5 < (x1.length : Int) then (if ((((rd_T184 x0 x5).f0).toList) == (((rd_T184 x1 x5).f0).toList) && ((((rd_T184 x0 x5).f1).toList) == (((rd_T184 x1 x5).f1).toList))) = true then (cornucopiabook_SamePairs.l0 k x0 x1 (wrap64 (x5 + 1))) else (some false)) else (none)) else (none)) else (some true)
def cornucopiabook_SamePairs.f (k : Nat) (l0 : List (S184)) (l1 : List (S184)) : Option (Bool) := if (l0.length : Int) = (l1.length : Int) then (cornucopiabook_SamePairs.l0 k l0 l1 0) else (some false)
theorem cornucopiabook_SamePairs.mono_l : ∀ k, (∀ y0 y1 y2, LeO (cornucopiabook_SamePairs.l0 k y0 y1 y2) (cornucopiabook_SamePairs.l0 (k + 1) y0 y1 y2))
 | 0 => fun _ _ _ r h => by simp [cornucopiabook_SamePairs.l0] at h
 | k + 1 => by
  have ih0 := cornucopiabook_SamePairs.mono_l k
  ·intro y0 y1 y2
   unfold cornucopiabook_SamePairs.l0
   repeat' first
   | (with_reducible exact ih0 _ _ _)
   | (with_reducible exact LeO.refl _)
   | (with_reducible exact LeO.none _)
   | (with_reducible refine LeO.ite ?_ ?_)
   | (with_reducible refine LeO.bind ?_ (fun _ => ?_))
   | exact ih0 _ _ _
   | exact LeO.none _
   | refine LeO.ite ?_ ?_
   | refine LeO.bind ?_ (fun _ => ?_)
theorem cornucopiabook_SamePairs.mono : ∀ a0 a1 k, LeO (cornucopiabook_SamePairs.f k a0 a1) (cornucopiabook_SamePairs.f (k + 1) a0 a1) := by
 intro a0 a1 k
 have ih0 := cornucopiabook_SamePairs.mono_l k
 unfold cornucopiabook_SamePairs.f
 repeat' first
   | (with_reducible exact ih0 _ _ _)
   | (with_reducible exact LeO.refl _)
   | (with_reducible exact LeO.none _)
   | (with_reducible refine LeO.ite ?_ ?_)
   | (with_reducible refine LeO.bind ?_ (fun _ => ?_))
   | exact ih0 _ _ _
   | exact LeO.none _
   | refine LeO.ite ?_ ?_
   | refine LeO.bind ?_ (fun _ => ?_)
set_option maxHeartbeats 8000000 in
set_option maxRecDepth 100000 in
theorem cornucopiabook_SamePairs.calls (k : Nat) (A0 : Option Addr) (c0 : Nat) (l0 : List (S184)) (A1 : Option Addr) (c1 : Nat) (l1 : List (S184)) (r : Bool) (w : World) (hr0 : Kd.C k184 w A0 l0.length l0) (hc0 : l0.length ≤ c0) (hr1 : Kd.C k184 w A1 l1.length l1) (hc1 : l1.length ≤ c1) (h : cornucopiabook_SamePairs.f k l0 l1 = some r) :
  Calls Tryz.prog 37 #[.slice A0 l0.length c0, .slice A1 l1.length c1] w fun e w' => e = .returned (.bool r) ∧ Drawn0 w w' := by
 have hu184 := Tryz.underlying184
 have HR0 := Aside0.mk hr0
 have HC0 := Aside0.mk hc0
 clear hr0 hc0
 have HR1 := Aside0.mk hr1
 have HC1 := Aside0.mk hc1
 clear hr1 hc1
 have H : (if (l0.length : Int) = (l1.length : Int) then (cornucopiabook_SamePairs.l0 k l0 l1 0) else (some false)) = some r := h
 clear h
 by_cases c3 : (l0.length : Int) = (l1.length : Int)
 ·rw [if_pos c3] at H
  have c3b0 : ((l0.length : Int) == (l1.length : Int)) = true := beq_iff_eq.mpr c3
  have c3b1 : ((l0.length : Int) != (l1.length : Int)) = false := bne_eq_false_iff_eq.mpr c3
  have c3b2 : (l0.length == l1.length) = true := by first | simpa using c3 | (simp at c3 ⊢; omega)
  clear c3
  have H' := Aside0.mk H
  clear H
  go_enter Tryz.func37, Tryz.ntmps37
  go_wp2
  repeat (go_quiet (fail); try go_wp2)
  go_loopg [5] k (fun kq v5 w' => ∃ (x5_1 : Int), v5 = .int .i64 x5_1 ∧ Aside0 (cornucopiabook_SamePairs.l0 kq l0 l1 x5_1 = some r) ∧ Aside0 (kq ≤ k) ∧ Drawn0 w w')
  case atStart => exact ⟨(0), (by first | rfl | (simp; done) | (simp [*]; done)), H', ⟨Nat.le_refl _⟩, by repeat (first | exact Drawn0.refl _ | apply Drawn0.step)⟩
  case round =>
   clear H'
   try clear c1
   try clear p2
   try clear c3
   try clear c3b0
   try clear c3b1
   try clear c3b2
   obtain ⟨x5_1, rfl, HA, HK1, ⟨m1, rfl⟩⟩ := hrel
   cases gk with
   | zero => exact absurd HA.out (by simp [cornucopiabook_SamePairs.l0])
   | succ k1 =>
    have H := HA.out
    clear HA
    simp only [cornucopiabook_SamePairs.l0] at H
    by_cases c4 : x5_1 < (l0.length : Int)
    ·rw [if_pos c4] at H
     have c4b0 : decide (x5_1 < (l0.length : Int)) = true := decide_eq_true c4
     clear c4
     by_cases c5 : 0 ≤ x5_1
     ·rw [if_pos c5] at H
      have c5b0 : decide (0 ≤ x5_1) = true := decide_eq_true c5
      clear c5
      by_cases c6 : x5_1 < (l1.length : Int)
      ·rw [if_pos c6] at H
       have c6b0 : decide (x5_1 < (l1.length : Int)) = true := decide_eq_true c6
       clear c6
       by_cases c7 : ((((rd_T184 l0 x5_1).f0).toList) == (((rd_T184 l1 x5_1).f0).toList) && ((((rd_T184 l0 x5_1).f1).toList) == (((rd_T184 l1 x5_1).f1).toList))) = true
       ·rw [if_pos c7] at H
        have c7b0 : ((((rd_T184 l0 x5_1).f0).toList) == (((rd_T184 l1 x5_1).f0).toList) && ((((rd_T184 l0 x5_1).f1).toList) == (((rd_T184 l1 x5_1).f1).toList))) = true := c7
        (try (have c7b1 : decide ((((rd_T184 l0 x5_1).f0).toList) = (((rd_T184 l1 x5_1).f0).toList) && ((((rd_T184 l0 x5_1).f1).toList) == (((rd_T184 l1 x5_1).f1).toList))) = true := by simpa using c7))
        (try (have c7b2 : ((((rd_T184 l0 x5_1).f0).toList) == (((rd_T184 l1 x5_1).f0).toList) && ((((rd_T184 l0 x5_1).f1).toList) == (((rd_T184 l1 x5_1).f1).toList))) = true := by simpa using c7))
        clear c7
        have H' := Aside0.mk H
        clear H
        have p217 : 0 ≤ (x5_1 : Int) := of_decide_eq_true (by first | (with_reducible assumption) | assumption)
        have q217 : x5_1 < (l0.length : Int) := of_decide_eq_true (by first | (with_reducible assumption) | assumption)
        obtain ⟨ad217, e217, hx217_0, hx217_1⟩ := at_T184 HR0.out x5_1 p217 q217
        cases e217
        replace p217 := eq_true p217
        replace q217 := eq_true q217
        have p218 : 0 ≤ (x5_1 : Int) := of_decide_eq_true (by first | (with_reducible assumption) | assumption)
        have q218 : x5_1 < (l1.length : Int) := of_decide_eq_true (by first | (with_reducible assumption) | assumption)
        obtain ⟨ad218, e218, hx218_0, hx218_1⟩ := at_T184 HR1.out x5_1 p218 q218
        cases e218
        replace p218 := eq_true p218
        replace q218 := eq_true q218
        go_wp2
        repeat (go_quiet (fail); try go_wp2)
        go_roundg k1
        case measure => have := HK1.out; omega
        case rel => exact ⟨(wrap64 (x5_1 + 1)), (by first | rfl | (simp; done) | (simp [*]; done)), H', ⟨by have := HK1.out; omega⟩, by repeat (first | exact Drawn0.refl _ | apply Drawn0.step)⟩
       ·rw [if_neg c7] at H
        have c7b0 : ((((rd_T184 l0 x5_1).f0).toList) == (((rd_T184 l1 x5_1).f0).toList) && ((((rd_T184 l0 x5_1).f1).toList) == (((rd_T184 l1 x5_1).f1).toList))) = false := by simpa using c7
        (try (have c7b1 : decide ((((rd_T184 l0 x5_1).f0).toList) = (((rd_T184 l1 x5_1).f0).toList) && ((((rd_T184 l0 x5_1).f1).toList) == (((rd_T184 l1 x5_1).f1).toList))) = false := by simpa using c7))
        (try (have c7b2 : ((((rd_T184 l0 x5_1).f0).toList) == (((rd_T184 l1 x5_1).f0).toList) && ((((rd_T184 l0 x5_1).f1).toList) == (((rd_T184 l1 x5_1).f1).toList))) = false := by simpa using c7))
        (try (have c7b3 : ¬ ((((rd_T184 l0 x5_1).f0).toList) = (((rd_T184 l1 x5_1).f0).toList) && ((((rd_T184 l0 x5_1).f1).toList) == (((rd_T184 l1 x5_1).f1).toList))) := by simpa using c7))
        clear c7
        obtain rfl := Option.some.inj H
        have p217 : 0 ≤ (x5_1 : Int) := of_decide_eq_true (by first | (with_reducible assumption) | assumption)
        have q217 : x5_1 < (l0.length : Int) := of_decide_eq_true (by first | (with_reducible assumption) | assumption)
        obtain ⟨ad217, e217, hx217_0, hx217_1⟩ := at_T184 HR0.out x5_1 p217 q217
        cases e217
        replace p217 := eq_true p217
        replace q217 := eq_true q217
        have p218 : 0 ≤ (x5_1 : Int) := of_decide_eq_true (by first | (with_reducible assumption) | assumption)
        have q218 : x5_1 < (l1.length : Int) := of_decide_eq_true (by first | (with_reducible assumption) | assumption)
        obtain ⟨ad218, e218, hx218_0, hx218_1⟩ := at_T184 HR1.out x5_1 p218 q218
        cases e218
        replace p218 := eq_true p218
        replace q218 := eq_true q218
        go_wp2
        repeat (go_quiet (fail); try go_wp2)
        go_ret
        exact ⟨by first | rfl | (simp; done) | (simp [*]; done), by repeat (first | exact Drawn0.refl _ | apply Drawn0.step)⟩
      ·rw [if_neg c6] at H
       exact absurd H (by simp)
     ·rw [if_neg c5] at H
      exact absurd H (by simp)
    ·rw [if_neg c4] at H
     have c4b0 : decide (x5_1 < (l0.length : Int)) = false := decide_eq_false c4
     clear c4
     obtain rfl := Option.some.inj H
     go_wp2
     repeat (go_quiet (fail); try go_wp2)
     go_ret
     exact ⟨by first | rfl | (simp; done) | (simp [*]; done), by repeat (first | exact Drawn0.refl _ | apply Drawn0.step)⟩
 ·rw [if_neg c3] at H
  have c3b0 : ((l0.length : Int) == (l1.length : Int)) = false := beq_eq_false_iff_ne.mpr c3
  have c3b1 : ((l0.length : Int) != (l1.length : Int)) = true := bne_iff_ne.mpr c3
  have c3b2 : (l0.length == l1.length) = false := by first | simpa using c3 | (simp at c3 ⊢; omega)
  obtain rfl := Option.some.inj H
  go_enter Tryz.func37, Tryz.ntmps37
  go_wp2
  repeat (go_quiet (fail); try go_wp2)
  go_ret
  exact ⟨by first | rfl | (simp; done) | (simp [*]; done), by repeat (first | exact Drawn0.refl _ | apply Drawn0.step)⟩
end Go.Proofs.YtchgpcgolgcfdaaGreat.PNum
end
section
namespace Go.Proofs.YtchgpcgolgcfdaaGreat.PNum
open Go.RowKit Go.Proofs.YtchgpcgolgcfdaaGreatW.PrintWords Go.Proofs.YtchgpcgolgcfdaaGreatW.PrintLast Go.Proofs.YtchgpcgolgcfdaaGreatW.PrintMore
attribute [local go_sem] max2_int min2_int max_two min_two max_three min_three max_four min_four   -- for this text's walks alone
set_option linter.unusedVariables false
set_option linter.unusedSimpArgs false
def cornucopiabook_markedPairs.l0 : Nat → List (List (S184)) → Int → Option (Bool)
 | 0, _, _ => none
 | k + 1, x0, x3 => if x3 < (x0.length : Int) then (if 0 ≤ x3 then ((cornucopiabook_markPairs.f k x3 0 ((rd_L19 x0 x3).length : Int)).bind fun t309 => ((cornucopiabook_SamePairs.f k (rd_L19 x0 x3) t309).bind fun t312 => (if t312 = true then (cornucopiabook_markedPairs.l0 k x0 (wrap64 (x3 + 1))) else (some false)))) else (none)) else (some true)
def cornucopiabook_markedPairs.f (k : Nat) (l0 : List (List (S184))) : Option (Bool) := cornucopiabook_markedPairs.l0 k l0 0
theorem cornucopiabook_markedPairs.mono_l : ∀ k, (∀ y0 y1, LeO (cornucopiabook_markedPairs.l0 k y0 y1) (cornucopiabook_markedPairs.l0 (k + 1) y0 y1))
 | 0 => fun _ _ r h => by simp [cornucopiabook_markedPairs.l0] at h
 | k + 1 => by
  have ih0 := cornucopiabook_markedPairs.mono_l k
  ·intro y0 y1
   unfold cornucopiabook_markedPairs.l0
   repeat' first
   | (with_reducible exact ih0 _ _)
   | (with_reducible exact cornucopiabook_SamePairs.mono _ _ _)
   | (with_reducible exact cornucopiabook_markPairs.mono _ _ _ _)
   | (with_reducible exact LeO.refl _)
   | (with_reducible exact LeO.none _)
   | (with_reducible refine LeO.ite ?_ ?_)
   | (with_reducible refine LeO.bind ?_ (fun _ => ?_))
   | exact ih0 _ _
   | exact cornucopiabook_SamePairs.mono _ _ _
   | exact cornucopiabook_markPairs.mono _ _ _ _
   | exact LeO.none _
   | refine LeO.ite ?_ ?_
   | refine LeO.bind ?_ (fun _ => ?_)
theorem cornucopiabook_markedPairs.mono : ∀ a0 k, LeO (cornucopiabook_markedPairs.f k a0) (cornucopiabook_markedPairs.f (k + 1) a0) := by
 intro a0 k
 have ih0 := cornucopiabook_markedPairs.mono_l k
 unfold cornucopiabook_markedPairs.f
 repeat' first
   | (with_reducible exact ih0 _ _)
   | (with_reducible exact cornucopiabook_SamePairs.mono _ _ _)
   | (with_reducible exact cornucopiabook_markPairs.mono _ _ _ _)
   | (with_reducible exact LeO.refl _)
   | (with_reducible exact LeO.none _)
   | (with_reducible refine LeO.ite ?_ ?_)
   | (with_reducible refine LeO.bind ?_ (fun _ => ?_))
   | exact ih0 _ _
   | exact cornucopiabook_SamePairs.mono _ _ _
   | exact cornucopiabook_markPairs.mono _ _ _ _
   | exact LeO.none _
   | refine LeO.ite ?_ ?_
   | refine LeO.bind ?_ (fun _ => ?_)
def cornucopiabook_markedPairs.T4 : Bool × List (List Nat × List Nat) := (true, [([], []), ([], []), ([0, 1], [0, 1]), ([2], [2]), ([], []), ([], []), ([], []), ([5, 6], [5, 6]), ([7], [7]), ([8], [8]), ([4, 9], [4, 9]), ([3, 10, 10], [3, 10]), ([11], [11])])
def cornucopiabook_markedPairs.B4 : List Nat := [0, 0, 3, 7, 0, 0, 0, 96, 224, 480, 1008, 2047, 4095]
theorem cornucopiabook_markedPairs.tab4 : rtab .any (opsOf Tryz.f150 4) = cornucopiabook_markedPairs.T4 := by kernel_rfl
theorem cornucopiabook_markedPairs.bits4 : waitsOk cornucopiabook_markedPairs.T4.2 cornucopiabook_markedPairs.B4 = true := by kernel_rfl
set_option maxHeartbeats 8000000 in
set_option maxRecDepth 100000 in
theorem cornucopiabook_markedPairs.calls (k : Nat) (A0 : Option Addr) (c0 : Nat) (l0 : List (List (S184))) (r : Bool) (w : World) (hr0 : Kd.C (Kd.slice 184 k184) w A0 l0.length l0) (hc0 : l0.length ≤ c0) (h : cornucopiabook_markedPairs.f k l0 = some r) :
  Calls Tryz.prog 150 #[.slice A0 l0.length c0] w fun e w' => e = .returned (.bool r) ∧ Below w.heap.size w w' := by
 have HR0 := Aside0.mk hr0
 have HC0 := Aside0.mk hc0
 clear hr0 hc0
 have HB := Aside0.mk (Below.refl w.heap.size w)
 have H : (cornucopiabook_markedPairs.l0 k l0 0) = some r := h
 clear h
 have H' := Aside0.mk H
 clear H
 go_enter Tryz.func150, Tryz.ntmps150
 go_wp2
 go_loopg [3] k (fun kq v3 w' => ∃ (x3_1 : Int), v3 = .int .i64 x3_1 ∧ Aside0 (cornucopiabook_markedPairs.l0 kq l0 x3_1 = some r) ∧ Aside0 (kq ≤ k) ∧ Aside0 (Below w.heap.size w w'))
 case atStart => exact ⟨(0), (by first | rfl | (simp; done) | (simp [*]; done)), H', ⟨Nat.le_refl _⟩, ⟨by repeat (first | (with_reducible first | exact HB.out | apply below_alloc | apply pw_below_drewN | apply below_drew1) | exact HB.out)⟩⟩
 case round =>
  clear H'
  try clear c1
  obtain ⟨x3_1, rfl, HA, HK1, HB⟩ := hrel
  cases gk with
  | zero => exact absurd HA.out (by simp [cornucopiabook_markedPairs.l0])
  | succ k1 =>
   have H := HA.out
   clear HA
   simp only [cornucopiabook_markedPairs.l0] at H
   by_cases c2 : x3_1 < (l0.length : Int)
   ·rw [if_pos c2] at H
    have c2b0 : decide (x3_1 < (l0.length : Int)) = true := decide_eq_true c2
    clear c2
    by_cases c3 : 0 ≤ x3_1
    ·rw [if_pos c3] at H
     have c3b0 : decide (0 ≤ x3_1) = true := decide_eq_true c3
     clear c3
     replace H := Option.bind_eq_some_iff.mp H
     obtain ⟨t309, A40, H⟩ := H
     replace H : ((cornucopiabook_SamePairs.f k1 (rd_L19 l0 x3_1) t309).bind fun t312 => (if t312 = true then (cornucopiabook_markedPairs.l0 k1 l0 (wrap64 (x3_1 + 1))) else (some false))) = some r := H
     have A4 := Aside0.mk A40
     clear A40
     replace H := Option.bind_eq_some_iff.mp H
     obtain ⟨t312, A50, H⟩ := H
     replace H : (if t312 = true then (cornucopiabook_markedPairs.l0 k1 l0 (wrap64 (x3_1 + 1))) else (some false)) = some r := H
     have A5 := Aside0.mk A50
     clear A50
     by_cases c6 : t312 = true
     ·subst c6
      have H1 : (cornucopiabook_markedPairs.l0 k1 l0 (wrap64 (x3_1 + 1))) = some r := by rw [if_pos rfl] at H; exact H
      clear H
      have H := H1
      clear H1
      have H' := Aside0.mk H
      clear H
      try go_wp2
      have n0_ := Aside0.mk (below_drew1 HB.out)
      clear HB
      have HB := n0_
      clear n0_
      have p307 : 0 ≤ (x3_1 : Int) := of_decide_eq_true (by first | (with_reducible assumption) | assumption)
      have q307 : x3_1 < (l0.length : Int) := of_decide_eq_true (by first | (with_reducible assumption) | assumption)
      obtain ⟨ad307, A307_0, c307_0, e307, hx307_0, hl307_0, hi307_0⟩ := at_L19 HR0.out x3_1 p307 q307
      have hw307_0 := hx307_0
      cases e307
      replace hx307_0 := (HB.out.cell (World.block_lt_of_cell? w _ hx307_0)).trans hx307_0
      have HR307_0 := Aside0.mk hi307_0
      have HC307_0 := Aside0.mk hl307_0
      clear hi307_0 hl307_0
      replace p307 := eq_true p307
      replace q307 := eq_true q307
      have p308 : 0 ≤ (x3_1 : Int) := of_decide_eq_true (by first | (with_reducible assumption) | assumption)
      have q308 : x3_1 < (l0.length : Int) := of_decide_eq_true (by first | (with_reducible assumption) | assumption)
      obtain ⟨ad308, A308_0, c308_0, e308, hx308_0, hl308_0, hi308_0⟩ := at_L19 HR0.out x3_1 p308 q308
      have hw308_0 := hx308_0
      obtain rfl : ad307 = ad308 := (by injection e308)
      replace hx308_0 := (HB.out.cell (World.block_lt_of_cell? w _ hx308_0)).trans hx308_0
      have HR308_0 := Aside0.mk hi308_0
      have HC308_0 := Aside0.mk hl308_0
      clear hi308_0 hl308_0
      replace p308 := eq_true p308
      replace q308 := eq_true q308
      have ea_ := Option.some.inj (hx307_0.symm.trans hx308_0)
      injection ea_ with ea_ en_ ec_
      subst ea_
      subst ec_
      clear en_
      refine start_ (n := 13) (S := fun w' => w'.cell? (ad307.add (x3_1).toNat) = some (.slice A307_0 (rd_L19 l0 x3_1).length c307_0) ∧ w'.cell? (ad307.add (x3_1).toNat) = some (.slice A307_0 (rd_L19 l0 x3_1).length c307_0)) (ds := []) #[false, false, false, false, false, false, false, false, false, false, false, false, false] (by kernel_rfl) rfl rfl ⟨((HB.out.cell (World.block_lt_of_cell? w _ hw307_0)).trans hw307_0), ((HB.out.cell (World.block_lt_of_cell? w _ hw308_0)).trans hw308_0)⟩ (fun hHeld => ?_); refine with_tabW cornucopiabook_markedPairs.tab4 cornucopiabook_markedPairs.bits4 (fun HT_ HW_ => ?_)
      generalize wr.drew = w7 at HB HR307_0 HR308_0 hx307_0 hx308_0 hHeld ⊢
      refine pure_ (i := 0) (N := some 10) (v := ?_) (a' := ?_) #[true, false, false, false, false, false, false, false, false, false, false, false, false] rfl rfl (any_of HT_.out (by kernel_rfl)) (fun _ _ _ h => h) (Or.inl ⟨by rfl, ?_⟩) ?_ ?_
      rotate_left
      ·intro w'
       go_simp
       with_reducible rfl
      rotate_left
      ·simp only [Act.put, List.setIfInBounds_toArray, List.set_cons_zero, List.set_cons_succ, i64_w, i32_w]
       rfl
      refine pure_ (i := 1) (N := some 11) (v := ?_) (a' := ?_) #[true, true, false, false, false, false, false, false, false, false, false, false, false] rfl rfl (any_of HT_.out (by kernel_rfl)) (fun _ _ _ h => h) (Or.inl ⟨by rfl, ?_⟩) ?_ ?_
      rotate_left
      ·intro w'
       go_simp
       with_reducible rfl
      rotate_left
      ·simp only [Act.put, List.setIfInBounds_toArray, List.set_cons_zero, List.set_cons_succ, i64_w, i32_w]
       rfl
      refine pure_ (i := 2) (N := some 12) (v := ?_) (a' := ?_) #[true, true, true, false, false, false, false, false, false, false, false, false, false] rfl rfl (any_of HT_.out (by kernel_rfl)) (fun _ _ _ h => h) (Or.inl ⟨by rfl, ?_⟩) ?_ ?_
      rotate_left
      ·intro w'
       go_simp
       with_reducible rfl
      rotate_left
      ·simp only [Act.put, List.setIfInBounds_toArray, List.set_cons_zero, List.set_cons_succ, i64_w, i32_w]
       rfl
      refine pure_ (i := 4) (N := some 14) (v := ?_) (a' := ?_) #[true, true, true, false, true, false, false, false, false, false, false, false, false] rfl rfl (any_of HT_.out (by kernel_rfl)) (fun _ _ _ h => h) (Or.inl ⟨by rfl, ?_⟩) ?_ ?_
      rotate_left
      ·intro w'
       go_simp
       with_reducible rfl
      rotate_left
      ·simp only [Act.put, List.setIfInBounds_toArray, List.set_cons_zero, List.set_cons_succ, i64_w, i32_w]
       rfl
      refine pure_ (i := 5) (N := some 15) (v := ?_) (a' := ?_) #[true, true, true, false, true, true, false, false, false, false, false, false, false] rfl rfl (any_of HT_.out (by kernel_rfl)) (fun _ _ _ h => h) (Or.inl ⟨by rfl, ?_⟩) ?_ ?_
      rotate_left
      ·intro w'
       go_simp
       with_reducible rfl
      rotate_left
      ·simp only [Act.put, List.setIfInBounds_toArray, List.set_cons_zero, List.set_cons_succ, i64_w, i32_w]
       rfl
      refine pure_ (i := 6) (N := some 16) (v := ?_) (a' := ?_) #[true, true, true, false, true, true, true, false, false, false, false, false, false] rfl rfl (any_of HT_.out (by kernel_rfl)) (fun _ _ _ h => h) (Or.inl ⟨by rfl, ?_⟩) ?_ ?_
      rotate_left
      ·intro w'
       go_simp
       with_reducible rfl
      rotate_left
      ·simp only [Act.put, List.setIfInBounds_toArray, List.set_cons_zero, List.set_cons_succ, i64_w, i32_w]
       rfl
      refine pure_ (i := 7) (N := some 17) (v := ?_) (a' := ?_) #[true, true, true, false, true, true, true, true, false, false, false, false, false] rfl rfl (any_of HT_.out (by kernel_rfl)) (fun _ _ _ h => h) (Or.inl ⟨by rfl, ?_⟩) ?_ ?_
      rotate_left
      ·intro w'
       go_simp
       with_reducible rfl
      rotate_left
      ·simp only [Act.put, List.setIfInBounds_toArray, List.set_cons_zero, List.set_cons_succ, i64_w, i32_w]
       rfl
      refine take_ (i := 3) (N := some 13) (v := ?_) (a' := ?_) #[true, true, true, true, true, true, true, true, false, false, false, false, false] rfl rfl (take_ofW HT_.out HW_.out (by kernel_rfl)) (fun _ _ _ h => h) (Or.inl ⟨by rfl, ?_⟩) hHeld ?_ ?_
      rotate_left
      ·rintro w' ⟨s0, s1⟩
       go_simp
       with_reducible rfl
      rotate_left
      ·simp only [Act.put, List.setIfInBounds_toArray, List.set_cons_zero, List.set_cons_succ, i64_w, i32_w]
       rfl
      refine take_ (i := 8) (N := some 18) (v := ?_) (a' := ?_) #[true, true, true, true, true, true, true, true, true, false, false, false, false] rfl rfl (take_ofW HT_.out HW_.out (by kernel_rfl)) (fun _ _ _ h => h) (Or.inl ⟨by rfl, ?_⟩) hHeld ?_ ?_
      rotate_left
      ·rintro w' ⟨s0, s1⟩
       go_simp
       with_reducible rfl
      rotate_left
      ·simp only [Act.put, List.setIfInBounds_toArray, List.set_cons_zero, List.set_cons_succ, i64_w, i32_w]
       rfl
      refine pure_ (i := 9) (N := some 19) (v := ?_) (a' := ?_) #[true, true, true, true, true, true, true, true, true, true, false, false, false] rfl rfl (any_of HT_.out (by kernel_rfl)) (fun _ _ _ h => h) (Or.inl ⟨by rfl, ?_⟩) ?_ ?_
      rotate_left
      ·intro w'
       go_simp
       with_reducible rfl
      rotate_left
      ·simp only [Act.put, List.setIfInBounds_toArray, List.set_cons_zero, List.set_cons_succ, i64_w, i32_w]
       rfl
      refine one_ (i := 10) (N := some 20) #[true, true, true, true, true, true, true, true, true, true, true, false, false] rfl rfl (one_of HT_.out (by kernel_rfl)) (by decide) (fun K hK => ?_)
      refine goes_ Tryz.func220 (by kernel_rfl) rfl #[.int .i64 x3_1, .int .i64 0, .int .i64 ((rd_L19 l0 x3_1).length : Int)] (by rfl) rfl rfl (by (try simp only [List.map_toArray, List.map_cons, List.map_nil]); first | done | rfl | (simp only [List.length_drop, List.length_take]; rfl)) ?_
      with_reducible refine (cornucopiabook_markPairs.calls k1 x3_1 0 ((rd_L19 l0 x3_1).length : Int) t309 _ A4.out).mono ?_
      rintro e w8 ⟨v310, rfl, ho0, hb⟩
      refine ⟨_, rfl, ?_⟩
      have n0_ := Aside0.mk (Kd.R_lower ho0 (below_size (by repeat (first | (with_reducible first | exact HB.out | apply below_alloc | apply pw_below_drewN | apply below_drew1) | exact HB.out))))
      have n1_ := Aside0.mk (below_step (by repeat (first | (with_reducible first | exact HB.out | apply below_alloc | apply pw_below_drewN | apply below_drew1) | exact HB.out)) hb)
      clear HB
      have HO311 := n0_
      have HB := n1_
      clear n0_ n1_
      (try clear hb)
      (try clear hb2)
      (try clear hk)
      (try clear hi)
      (try clear ho0)
      obtain ⟨Ao9, co9, eo9⟩ := Kd.R_slice HO311.out
      (first | subst eo9 | (injection eo9 with f1_ f2_ f3_; have f4_ := f1_.symm; have f5_ := f3_.symm; clear f1_ f2_ f3_; subst f4_; subst f5_))
      refine hK.out _ _ ⟨((HB.out.cell (World.block_lt_of_cell? w _ hw307_0)).trans hw307_0), ((HB.out.cell (World.block_lt_of_cell? w _ hw308_0)).trans hw308_0)⟩ (fun hHeld => ?_)
      clear hK K
      refine norm_ (a' := ?_) ?_ ?_
      rotate_left
      ·show Act.put _ (some 20) _ = _
       simp only [Act.put, List.setIfInBounds_toArray, List.set_cons_zero, List.set_cons_succ, i64_w, i32_w]
       rfl
      refine one_ (i := 11) (N := some 21) #[true, true, true, true, true, true, true, true, true, true, true, true, false] rfl rfl (one_of HT_.out (by kernel_rfl)) (by decide) (fun K hK => ?_)
      refine goes_ Tryz.func37 (by kernel_rfl) rfl #[.slice A307_0 (rd_L19 l0 x3_1).length c307_0, .slice Ao9 t309.length co9] (by rfl) rfl rfl (by (try simp only [List.map_toArray, List.map_cons, List.map_nil]); first | done | rfl | (simp only [List.length_drop, List.length_take]; rfl)) ?_
      with_reducible refine (cornucopiabook_SamePairs.calls k1 _ _ (rd_L19 l0 x3_1) _ _ t309 true _ ?side1 ?side2 ?side3 ?side4 A5.out).mono ?_
      (case side1 => repeat (first | exact (Kd.C_below HR307_0.out HB.out) | (with_reducible refine Kd.C_alloc ?_ _) | (with_reducible refine Kd.C_drewN ?_ _) | (with_reducible refine Kd.C_drew ?_)))
      (case side2 => exact HC307_0.out)
      (case side3 => repeat (first | exact (Kd.R_reads' HO311.out).2.2 | (with_reducible refine Kd.C_alloc ?_ _) | (with_reducible refine Kd.C_drewN ?_ _) | (with_reducible refine Kd.C_drew ?_)))
      (case side4 => exact (Kd.R_reads' HO311.out).2.1)
      rintro e w' ⟨rfl, ⟨nd, rfl⟩⟩
      refine ⟨_, rfl, ?_⟩
      refine hK.out _ _ ⟨((HB.out.cell (World.block_lt_of_cell? w _ hw307_0)).trans hw307_0), ((HB.out.cell (World.block_lt_of_cell? w _ hw308_0)).trans hw308_0)⟩ (fun hHeld => ?_)
      clear hK K
      refine norm_ (a' := ?_) ?_ ?_
      rotate_left
      ·show Act.put _ (some 21) _ = _
       simp only [Act.put, List.setIfInBounds_toArray, List.set_cons_zero, List.set_cons_succ, i64_w, i32_w]
       rfl
      refine pure_ (i := 12) (N := some 22) (v := ?_) (a' := ?_) #[true, true, true, true, true, true, true, true, true, true, true, true, true] rfl rfl (any_of HT_.out (by kernel_rfl)) (fun _ _ _ h => h) (Or.inl ⟨by rfl, ?_⟩) ?_ ?_
      rotate_left
      ·intro w'
       go_simp
       with_reducible rfl
      rotate_left
      ·simp only [Act.put, List.setIfInBounds_toArray, List.set_cons_zero, List.set_cons_succ, i64_w, i32_w]
       rfl
      refine done_ (done_of HT_.out (by kernel_rfl)) ?_
      try go_wp2
      go_roundg k1
      case measure => have := HK1.out; omega
      case rel => exact ⟨(wrap64 (x3_1 + 1)), (by first | rfl | (simp; done) | (simp [*]; done)), H', ⟨by have := HK1.out; omega⟩, ⟨by repeat (first | (with_reducible first | exact HB.out | apply below_alloc | apply pw_below_drewN | apply below_drew1) | exact HB.out)⟩⟩
     ·replace c6 := Bool.eq_false_iff.mpr c6
      subst c6
      have H1 : (some false) = some r := by rw [if_neg (show ¬ (false = true) by decide)] at H; exact H
      clear H
      have H := H1
      clear H1
      obtain rfl := Option.some.inj H
      try go_wp2
      have n0_ := Aside0.mk (below_drew1 HB.out)
      clear HB
      have HB := n0_
      clear n0_
      have p307 : 0 ≤ (x3_1 : Int) := of_decide_eq_true (by first | (with_reducible assumption) | assumption)
      have q307 : x3_1 < (l0.length : Int) := of_decide_eq_true (by first | (with_reducible assumption) | assumption)
      obtain ⟨ad307, A307_0, c307_0, e307, hx307_0, hl307_0, hi307_0⟩ := at_L19 HR0.out x3_1 p307 q307
      have hw307_0 := hx307_0
      cases e307
      replace hx307_0 := (HB.out.cell (World.block_lt_of_cell? w _ hx307_0)).trans hx307_0
      have HR307_0 := Aside0.mk hi307_0
      have HC307_0 := Aside0.mk hl307_0
      clear hi307_0 hl307_0
      replace p307 := eq_true p307
      replace q307 := eq_true q307
      have p308 : 0 ≤ (x3_1 : Int) := of_decide_eq_true (by first | (with_reducible assumption) | assumption)
      have q308 : x3_1 < (l0.length : Int) := of_decide_eq_true (by first | (with_reducible assumption) | assumption)
      obtain ⟨ad308, A308_0, c308_0, e308, hx308_0, hl308_0, hi308_0⟩ := at_L19 HR0.out x3_1 p308 q308
      have hw308_0 := hx308_0
      obtain rfl : ad307 = ad308 := (by injection e308)
      replace hx308_0 := (HB.out.cell (World.block_lt_of_cell? w _ hx308_0)).trans hx308_0
      have HR308_0 := Aside0.mk hi308_0
      have HC308_0 := Aside0.mk hl308_0
      clear hi308_0 hl308_0
      replace p308 := eq_true p308
      replace q308 := eq_true q308
      have ea_ := Option.some.inj (hx307_0.symm.trans hx308_0)
      injection ea_ with ea_ en_ ec_
      subst ea_
      subst ec_
      clear en_
      refine start_ (n := 13) (S := fun w' => w'.cell? (ad307.add (x3_1).toNat) = some (.slice A307_0 (rd_L19 l0 x3_1).length c307_0) ∧ w'.cell? (ad307.add (x3_1).toNat) = some (.slice A307_0 (rd_L19 l0 x3_1).length c307_0)) (ds := []) #[false, false, false, false, false, false, false, false, false, false, false, false, false] (by kernel_rfl) rfl rfl ⟨((HB.out.cell (World.block_lt_of_cell? w _ hw307_0)).trans hw307_0), ((HB.out.cell (World.block_lt_of_cell? w _ hw308_0)).trans hw308_0)⟩ (fun hHeld => ?_); refine with_tabW cornucopiabook_markedPairs.tab4 cornucopiabook_markedPairs.bits4 (fun HT_ HW_ => ?_)
      generalize wr.drew = w10 at HB HR307_0 HR308_0 hx307_0 hx308_0 hHeld ⊢
      refine pure_ (i := 0) (N := some 10) (v := ?_) (a' := ?_) #[true, false, false, false, false, false, false, false, false, false, false, false, false] rfl rfl (any_of HT_.out (by kernel_rfl)) (fun _ _ _ h => h) (Or.inl ⟨by rfl, ?_⟩) ?_ ?_
      rotate_left
      ·intro w'
       go_simp
       with_reducible rfl
      rotate_left
      ·simp only [Act.put, List.setIfInBounds_toArray, List.set_cons_zero, List.set_cons_succ, i64_w, i32_w]
       rfl
      refine pure_ (i := 1) (N := some 11) (v := ?_) (a' := ?_) #[true, true, false, false, false, false, false, false, false, false, false, false, false] rfl rfl (any_of HT_.out (by kernel_rfl)) (fun _ _ _ h => h) (Or.inl ⟨by rfl, ?_⟩) ?_ ?_
      rotate_left
      ·intro w'
       go_simp
       with_reducible rfl
      rotate_left
      ·simp only [Act.put, List.setIfInBounds_toArray, List.set_cons_zero, List.set_cons_succ, i64_w, i32_w]
       rfl
      refine pure_ (i := 2) (N := some 12) (v := ?_) (a' := ?_) #[true, true, true, false, false, false, false, false, false, false, false, false, false] rfl rfl (any_of HT_.out (by kernel_rfl)) (fun _ _ _ h => h) (Or.inl ⟨by rfl, ?_⟩) ?_ ?_
      rotate_left
      ·intro w'
       go_simp
       with_reducible rfl
      rotate_left
      ·simp only [Act.put, List.setIfInBounds_toArray, List.set_cons_zero, List.set_cons_succ, i64_w, i32_w]
       rfl
      refine pure_ (i := 4) (N := some 14) (v := ?_) (a' := ?_) #[true, true, true, false, true, false, false, false, false, false, false, false, false] rfl rfl (any_of HT_.out (by kernel_rfl)) (fun _ _ _ h => h) (Or.inl ⟨by rfl, ?_⟩) ?_ ?_
      rotate_left
      ·intro w'
       go_simp
       with_reducible rfl
      rotate_left
      ·simp only [Act.put, List.setIfInBounds_toArray, List.set_cons_zero, List.set_cons_succ, i64_w, i32_w]
       rfl
      refine pure_ (i := 5) (N := some 15) (v := ?_) (a' := ?_) #[true, true, true, false, true, true, false, false, false, false, false, false, false] rfl rfl (any_of HT_.out (by kernel_rfl)) (fun _ _ _ h => h) (Or.inl ⟨by rfl, ?_⟩) ?_ ?_
      rotate_left
      ·intro w'
       go_simp
       with_reducible rfl
      rotate_left
      ·simp only [Act.put, List.setIfInBounds_toArray, List.set_cons_zero, List.set_cons_succ, i64_w, i32_w]
       rfl
      refine pure_ (i := 6) (N := some 16) (v := ?_) (a' := ?_) #[true, true, true, false, true, true, true, false, false, false, false, false, false] rfl rfl (any_of HT_.out (by kernel_rfl)) (fun _ _ _ h => h) (Or.inl ⟨by rfl, ?_⟩) ?_ ?_
      rotate_left
      ·intro w'
       go_simp
       with_reducible rfl
      rotate_left
      ·simp only [Act.put, List.setIfInBounds_toArray, List.set_cons_zero, List.set_cons_succ, i64_w, i32_w]
       rfl
      refine pure_ (i := 7) (N := some 17) (v := ?_) (a' := ?_) #[true, true, true, false, true, true, true, true, false, false, false, false, false] rfl rfl (any_of HT_.out (by kernel_rfl)) (fun _ _ _ h => h) (Or.inl ⟨by rfl, ?_⟩) ?_ ?_
      rotate_left
      ·intro w'
       go_simp
       with_reducible rfl
      rotate_left
      ·simp only [Act.put, List.setIfInBounds_toArray, List.set_cons_zero, List.set_cons_succ, i64_w, i32_w]
       rfl
      refine take_ (i := 3) (N := some 13) (v := ?_) (a' := ?_) #[true, true, true, true, true, true, true, true, false, false, false, false, false] rfl rfl (take_ofW HT_.out HW_.out (by kernel_rfl)) (fun _ _ _ h => h) (Or.inl ⟨by rfl, ?_⟩) hHeld ?_ ?_
      rotate_left
      ·rintro w' ⟨s0, s1⟩
       go_simp
       with_reducible rfl
      rotate_left
      ·simp only [Act.put, List.setIfInBounds_toArray, List.set_cons_zero, List.set_cons_succ, i64_w, i32_w]
       rfl
      refine take_ (i := 8) (N := some 18) (v := ?_) (a' := ?_) #[true, true, true, true, true, true, true, true, true, false, false, false, false] rfl rfl (take_ofW HT_.out HW_.out (by kernel_rfl)) (fun _ _ _ h => h) (Or.inl ⟨by rfl, ?_⟩) hHeld ?_ ?_
      rotate_left
      ·rintro w' ⟨s0, s1⟩
       go_simp
       with_reducible rfl
      rotate_left
      ·simp only [Act.put, List.setIfInBounds_toArray, List.set_cons_zero, List.set_cons_succ, i64_w, i32_w]
       rfl
      refine pure_ (i := 9) (N := some 19) (v := ?_) (a' := ?_) #[true, true, true, true, true, true, true, true, true, true, false, false, false] rfl rfl (any_of HT_.out (by kernel_rfl)) (fun _ _ _ h => h) (Or.inl ⟨by rfl, ?_⟩) ?_ ?_
      rotate_left
      ·intro w'
       go_simp
       with_reducible rfl
      rotate_left
      ·simp only [Act.put, List.setIfInBounds_toArray, List.set_cons_zero, List.set_cons_succ, i64_w, i32_w]
       rfl
      refine one_ (i := 10) (N := some 20) #[true, true, true, true, true, true, true, true, true, true, true, false, false] rfl rfl (one_of HT_.out (by kernel_rfl)) (by decide) (fun K hK => ?_)
      refine goes_ Tryz.func220 (by kernel_rfl) rfl #[.int .i64 x3_1, .int .i64 0, .int .i64 ((rd_L19 l0 x3_1).length : Int)] (by rfl) rfl rfl (by (try simp only [List.map_toArray, List.map_cons, List.map_nil]); first | done | rfl | (simp only [List.length_drop, List.length_take]; rfl)) ?_
      with_reducible refine (cornucopiabook_markPairs.calls k1 x3_1 0 ((rd_L19 l0 x3_1).length : Int) t309 _ A4.out).mono ?_
      rintro e w11 ⟨v310, rfl, ho0, hb⟩
      refine ⟨_, rfl, ?_⟩
      have n0_ := Aside0.mk (Kd.R_lower ho0 (below_size (by repeat (first | (with_reducible first | exact HB.out | apply below_alloc | apply pw_below_drewN | apply below_drew1) | exact HB.out))))
      have n1_ := Aside0.mk (below_step (by repeat (first | (with_reducible first | exact HB.out | apply below_alloc | apply pw_below_drewN | apply below_drew1) | exact HB.out)) hb)
      clear HB
      have HO311 := n0_
      have HB := n1_
      clear n0_ n1_
      (try clear hb)
      (try clear hb2)
      (try clear hk)
      (try clear hi)
      (try clear ho0)
      obtain ⟨Ao12, co12, eo12⟩ := Kd.R_slice HO311.out
      (first | subst eo12 | (injection eo12 with f1_ f2_ f3_; have f4_ := f1_.symm; have f5_ := f3_.symm; clear f1_ f2_ f3_; subst f4_; subst f5_))
      refine hK.out _ _ ⟨((HB.out.cell (World.block_lt_of_cell? w _ hw307_0)).trans hw307_0), ((HB.out.cell (World.block_lt_of_cell? w _ hw308_0)).trans hw308_0)⟩ (fun hHeld => ?_)
      clear hK K
      refine norm_ (a' := ?_) ?_ ?_
      rotate_left
      ·show Act.put _ (some 20) _ = _
       simp only [Act.put, List.setIfInBounds_toArray, List.set_cons_zero, List.set_cons_succ, i64_w, i32_w]
       rfl
      refine one_ (i := 11) (N := some 21) #[true, true, true, true, true, true, true, true, true, true, true, true, false] rfl rfl (one_of HT_.out (by kernel_rfl)) (by decide) (fun K hK => ?_)
      refine goes_ Tryz.func37 (by kernel_rfl) rfl #[.slice A307_0 (rd_L19 l0 x3_1).length c307_0, .slice Ao12 t309.length co12] (by rfl) rfl rfl (by (try simp only [List.map_toArray, List.map_cons, List.map_nil]); first | done | rfl | (simp only [List.length_drop, List.length_take]; rfl)) ?_
      with_reducible refine (cornucopiabook_SamePairs.calls k1 _ _ (rd_L19 l0 x3_1) _ _ t309 false _ ?side1 ?side2 ?side3 ?side4 A5.out).mono ?_
      (case side1 => repeat (first | exact (Kd.C_below HR307_0.out HB.out) | (with_reducible refine Kd.C_alloc ?_ _) | (with_reducible refine Kd.C_drewN ?_ _) | (with_reducible refine Kd.C_drew ?_)))
      (case side2 => exact HC307_0.out)
      (case side3 => repeat (first | exact (Kd.R_reads' HO311.out).2.2 | (with_reducible refine Kd.C_alloc ?_ _) | (with_reducible refine Kd.C_drewN ?_ _) | (with_reducible refine Kd.C_drew ?_)))
      (case side4 => exact (Kd.R_reads' HO311.out).2.1)
      rintro e w' ⟨rfl, ⟨nd, rfl⟩⟩
      refine ⟨_, rfl, ?_⟩
      refine hK.out _ _ ⟨((HB.out.cell (World.block_lt_of_cell? w _ hw307_0)).trans hw307_0), ((HB.out.cell (World.block_lt_of_cell? w _ hw308_0)).trans hw308_0)⟩ (fun hHeld => ?_)
      clear hK K
      refine norm_ (a' := ?_) ?_ ?_
      rotate_left
      ·show Act.put _ (some 21) _ = _
       simp only [Act.put, List.setIfInBounds_toArray, List.set_cons_zero, List.set_cons_succ, i64_w, i32_w]
       rfl
      refine pure_ (i := 12) (N := some 22) (v := ?_) (a' := ?_) #[true, true, true, true, true, true, true, true, true, true, true, true, true] rfl rfl (any_of HT_.out (by kernel_rfl)) (fun _ _ _ h => h) (Or.inl ⟨by rfl, ?_⟩) ?_ ?_
      rotate_left
      ·intro w'
       go_simp
       with_reducible rfl
      rotate_left
      ·simp only [Act.put, List.setIfInBounds_toArray, List.set_cons_zero, List.set_cons_succ, i64_w, i32_w]
       rfl
      refine done_ (done_of HT_.out (by kernel_rfl)) ?_
      try go_wp2
      go_ret
      exact ⟨by first | rfl | (simp [errW_none, errW_some] <;> rfl) | (simp [*, errW_none, errW_some] <;> rfl), by repeat (first | (with_reducible first | exact HB.out | apply below_alloc | apply pw_below_drewN | apply below_drew1) | exact HB.out)⟩
    ·rw [if_neg c3] at H
     exact absurd H (by simp)
   ·rw [if_neg c2] at H
    have c2b0 : decide (x3_1 < (l0.length : Int)) = false := decide_eq_false c2
    clear c2
    obtain rfl := Option.some.inj H
    go_wp2
    go_ret
    exact ⟨by first | rfl | (simp [errW_none, errW_some] <;> rfl) | (simp [*, errW_none, errW_some] <;> rfl), by repeat (first | (with_reducible first | exact HB.out | apply below_alloc | apply pw_below_drewN | apply below_drew1) | exact HB.out)⟩
end Go.Proofs.YtchgpcgolgcfdaaGreat.PNum
end
section
namespace Go.Proofs.YtchgpcgolgcfdaaGreat.PNum
open Go.RowKit Go.Proofs.YtchgpcgolgcfdaaGreatW.PrintWords Go.Proofs.YtchgpcgolgcfdaaGreatW.PrintLast Go.Proofs.YtchgpcgolgcfdaaGreatW.PrintMore
attribute [local go_sem] max2_int min2_int max_two min_two max_three min_three max_four min_four   -- for this text's walks alone
set_option linter.unusedVariables false
set_option linter.unusedSimpArgs false
def cornucopiabook_LentEntries.f (l0 : List (S32)) : Option ((List (S32))) := if ([] : List (S32)).length + l0.length < 2932031007402 then ((some (([] : List (S32)) ++ l0 : List (S32))).bind fun y383 => (if y383.length < 2932031007402 then ((some (y383 ++ [(⟨(⟨#[109, 97, 114, 107]⟩ : ByteArray), 0, 0, (⟨#[]⟩ : ByteArray)⟩ : S32)] : List (S32))).bind fun y386 => (if 0 ≤ (l0.length : Int) then (if (l0.length : Int) ≤ (y386.length : Int) then (some (y386.take ((l0.length : Int) : Int).toNat)) else (none)) else (none))) else (none))) else (none)
set_option maxHeartbeats 8000000 in
set_option maxRecDepth 100000 in
theorem cornucopiabook_LentEntries.calls (A0 : Option Addr) (c0 : Nat) (l0 : List (S32)) (r : List (S32)) (w : World) (hr0 : Kd.C k32 w A0 l0.length l0) (hc0 : l0.length ≤ c0) (h : cornucopiabook_LentEntries.f l0 = some r) :
  Calls Tryz.prog 32 #[.slice A0 l0.length c0] w fun e w' => ∃ v0_ : Value, e = .returned (v0_) ∧ Lent.RM k32 (⟨(⟨#[109, 97, 114, 107]⟩ : ByteArray), (0 : Int), (0 : Int), (⟨#[]⟩ : ByteArray)⟩ : S32) 32 w' w.heap.size (fun _ => True) v0_ r ∧ Below w.heap.size w w' := by
 have hu32 := Tryz.underlying32
 have HR0 := Aside0.mk hr0
 have HC0 := Aside0.mk hc0
 clear hr0 hc0
 have HB := Aside0.mk (Below.refl w.heap.size w)
 have H : (if ([] : List (S32)).length + l0.length < 2932031007402 then ((some (([] : List (S32)) ++ l0 : List (S32))).bind fun y383 => (if y383.length < 2932031007402 then ((some (y383 ++ [(⟨(⟨#[109, 97, 114, 107]⟩ : ByteArray), 0, 0, (⟨#[]⟩ : ByteArray)⟩ : S32)] : List (S32))).bind fun y386 => (if 0 ≤ (l0.length : Int) then (if (l0.length : Int) ≤ (y386.length : Int) then (some (y386.take ((l0.length : Int) : Int).toNat)) else (none)) else (none))) else (none))) else (none)) = some r := h
 clear h
 by_cases c2 : ([] : List (S32)).length + l0.length < 2932031007402
 ·rw [if_pos c2] at H
  have LMc2 := Aside0.mk c2
  clear c2
  obtain ⟨y383, hy383⟩ : ∃ y_ : List (S32), y_ = (([] : List (S32)) ++ l0) := ⟨_, rfl⟩
  replace H : (if y383.length < 2932031007402 then ((some (y383 ++ [(⟨(⟨#[109, 97, 114, 107]⟩ : ByteArray), 0, 0, (⟨#[]⟩ : ByteArray)⟩ : S32)] : List (S32))).bind fun y386 => (if 0 ≤ (l0.length : Int) then (if (l0.length : Int) ≤ (y386.length : Int) then (some (y386.take ((l0.length : Int) : Int).toNat)) else (none)) else (none))) else (none)) = some r := by first | (rw [hy383]; with_reducible exact H) | (have H2_ := (Option.bind_some _ _).symm.trans H; rw [hy383]; with_reducible exact H2_) | (have H2_ := (Option.bind_some _ _).symm.trans H; with_reducible exact H2_) | with_reducible exact H | (rw [hy383]; exact H) | exact H
  have Ny383 := Aside0.mk hy383
  clear hy383
  by_cases c3 : y383.length < 2932031007402
  ·rw [if_pos c3] at H
   have LMc3 := Aside0.mk c3
   clear c3
   obtain ⟨y386, hy386⟩ : ∃ y_ : List (S32), y_ = (y383 ++ [(⟨(⟨#[109, 97, 114, 107]⟩ : ByteArray), 0, 0, (⟨#[]⟩ : ByteArray)⟩ : S32)]) := ⟨_, rfl⟩
   replace H : (if 0 ≤ (l0.length : Int) then (if (l0.length : Int) ≤ (y386.length : Int) then (some (y386.take ((l0.length : Int) : Int).toNat)) else (none)) else (none)) = some r := by first | (rw [hy386]; with_reducible exact H) | (have H2_ := (Option.bind_some _ _).symm.trans H; rw [hy386]; with_reducible exact H2_) | (have H2_ := (Option.bind_some _ _).symm.trans H; with_reducible exact H2_) | with_reducible exact H | (rw [hy386]; exact H) | exact H
   have Ny386 := Aside0.mk hy386
   clear hy386
   by_cases c4 : 0 ≤ (l0.length : Int)
   ·rw [if_pos c4] at H
    have c4b0 := eq_true c4
    have c4b1 : decide (0 ≤ (l0.length : Int)) = true := decide_eq_true c4
    clear c4
    by_cases c5 : (l0.length : Int) ≤ (y386.length : Int)
    ·rw [if_pos c5] at H
     have c5b0 := eq_true c5
     have c5b1 : decide ((l0.length : Int) ≤ (y386.length : Int)) = true := decide_eq_true c5
     clear c5
     obtain ⟨y389, hy389⟩ : ∃ y_ : List (S32), y_ = (y386.take ((l0.length : Int) : Int).toNat) := ⟨_, rfl⟩
     replace H : (some y389) = some r := by first | (rw [hy389]; with_reducible exact H) | (have H2_ := (Option.bind_some _ _).symm.trans H; rw [hy389]; with_reducible exact H2_) | (have H2_ := (Option.bind_some _ _).symm.trans H; with_reducible exact H2_) | with_reducible exact H | (rw [hy389]; exact H) | exact H
     have Ny389 := Aside0.mk hy389
     clear hy389
     obtain rfl := Option.some.inj H
     go_enter Tryz.func32, Tryz.ntmps32
     go_wp2_with (first | ((with_reducible refine gate_builtin (b := .append) (xs := #[.const (.slice none 0 0), .tmp 3]) rfl ?_); at_builtin; refine Kd.R_append_rows k32 (w0 := w) w.heap.size rfl (.const (.slice none 0 0)) (.tmp 3) 22 32 (.agg #[(.string ⟨#[]⟩), (.int .u64 0), (.int .i64 0), (.string ⟨#[]⟩)]) 48 rfl Tryz.underlying22 info32 rfl (by decide) (by omega) (.slice none 0 0) ([] : List (S32)) l0 _ _ _ (fun _ => True) (fun _ => False) rfl rfl ?aO ?aR (fun _ _ h => h) (fun _ h => h.elim) ?aF ?aB ?aS ?aL ?_; (case aR => repeat (first | exact HR0.out | (with_reducible refine Kd.C_alloc ?_ _) | (with_reducible refine Kd.C_drewN ?_ _) | (with_reducible refine Kd.C_drew ?_))); (case aB => exact (by repeat (first | (with_reducible first | exact HB.out | apply below_alloc | apply pw_below_drewN | apply below_drew1) | exact HB.out))); (case aF => exact (fun _ _ => trivial)); (case aO => exact ((Kd.R_nil _ _ _ _ (fun _ => True)))); (case aS => exact (below_size (by repeat (first | (with_reducible first | exact HB.out | apply below_alloc | apply pw_below_drewN | apply below_drew1) | exact HB.out)))); (case aL => have := LMc2.out; omega); intro v384 w6 ho hb hg hat; rw [← Ny383.out] at ho; have n0_ := Aside0.mk (hb); have n1_ := Aside0.mk (ho); clear HB; have HB := n0_; have HO385 := n1_; clear n0_ n1_; clear ho hb hg hat) | ((with_reducible refine gate_builtin (b := .append) (xs := #[.tmp 4, .tmp 6]) rfl ?_); at_builtin; refine Kd.R_append k32 (w0 := w) w.heap.size rfl (.tmp 4) (.tmp 6) 22 32 (.agg #[(.string ⟨#[]⟩), (.int .u64 0), (.int .i64 0), (.string ⟨#[]⟩)]) 48 rfl Tryz.underlying22 info32 rfl (by decide) (by omega) v384 y383 (⟨(⟨#[109, 97, 114, 107]⟩ : ByteArray), 0, 0, (⟨#[]⟩ : ByteArray)⟩ : S32) [.string (⟨#[109, 97, 114, 107]⟩ : ByteArray), .int .u64 0, .int .i64 0, .string (⟨#[]⟩ : ByteArray)] (fun _ => True) (fun _ => False) rfl rfl ?aP (fun _ hk => hk.elim) ?aF ?aO ?aB ?aS ?aL ?_; (case aP => exact k32_mkM _ _ _ (⟨(⟨#[109, 97, 114, 107]⟩ : ByteArray), 0, 0, (⟨#[]⟩ : ByteArray)⟩ : S32)); (case aB => exact (by repeat (first | (with_reducible first | exact HB.out | apply below_alloc | apply pw_below_drewN | apply below_drew1) | exact HB.out))); (case aF => exact (fun _ _ => trivial)); (case aO => exact (by (with_reducible repeat (first | apply Kd.R_alloc | apply Kd.R_drewN | apply Kd.R_drew)); exact HO385.out)); (case aS => exact (below_size (by repeat (first | (with_reducible first | exact HB.out | apply below_alloc | apply pw_below_drewN | apply below_drew1) | exact HB.out)))); (case aL => have := LMc3.out; omega); intro v387 w7 ho hb hg hat; rw [← Ny386.out] at ho; have n0_ := Aside0.mk (hb); have n1_ := Aside0.mk (ho); clear HB; clear HO385; have HB := n0_; have HO388 := n1_; clear n0_ n1_; clear ho hb hg hat; obtain ⟨Ao8, co8, eo8⟩ := Kd.R_slice HO388.out; subst eo8; have q9 : ((l0.length : Int) : Int) ≤ ((y386.length : Int) : Int) := of_decide_eq_true (by first | (with_reducible assumption) | assumption); obtain ⟨i09, hi09, _, hsz9, _⟩ := info_parts info32; have hcut9 := cut_to (P := Tryz.prog) 22 32 .i64 Tryz.underlying22 hi09 Ao8 y386.length co8 (l0.length : Int) (of_decide_eq_true (by first | (with_reducible assumption) | assumption)) q9 (Kd.R_reads' HO388.out).2.1; have hr9 := Kd.R_take (m := ((l0.length : Int) : Int).toNat) HO388.out (by omega); have hy9 : y389.length = ((l0.length : Int) : Int).toNat := (by rw [Ny389.out, List.length_take]; omega); rw [← Ny389.out] at hr9; rw [← hy9] at hr9 hcut9; clear hy9 hi09 hsz9; have HO391 := Aside0.mk hr9; clear hr9; replace q9 := eq_true q9))
     go_ret
     have hyy : y386 = y389 ++ [(⟨(⟨#[109, 97, 114, 107]⟩ : ByteArray), (0 : Int), (0 : Int), (⟨#[]⟩ : ByteArray)⟩ : S32)] := by
      have h1 := Ny386.out
      have h2 := Ny389.out
      have h3 := Ny383.out
      rw [h2, h1, h3]
      simp
     refine ⟨_, by first | rfl | (simp [errW_none, errW_some] <;> rfl) | (simp [*, errW_none, errW_some] <;> rfl), ⟨Ao8, co8, rfl, ?_⟩, by repeat (first | (with_reducible first | exact HB.out | apply below_alloc | apply pw_below_drewN | apply below_drew1) | exact HB.out)⟩
     have hlong : Kd.R k32 32 _ w.heap.size (fun _ => True) (.slice Ao8 y386.length co8) y386 := HO388.out
     rw [hyy, List.length_append] at hlong
     (with_reducible repeat (first | apply Kd.R_alloc | apply Kd.R_drewN | apply Kd.R_drew))
     exact hlong
    ·rw [if_neg c5] at H
     exact absurd H (by simp)
   ·rw [if_neg c4] at H
    exact absurd H (by simp)
  ·rw [if_neg c3] at H
   exact absurd H (by simp)
 ·rw [if_neg c2] at H
  exact absurd H (by simp)
def cornucopiabook_copyPairs.f (l0 : List (S184)) : Option ((List (S184))) := if ([] : List (S184)).length + l0.length < 4398046511104 then (some (([] : List (S184)) ++ l0)) else (none)
set_option maxHeartbeats 8000000 in
set_option maxRecDepth 100000 in
theorem cornucopiabook_copyPairs.calls (A0 : Option Addr) (c0 : Nat) (l0 : List (S184)) (r : List (S184)) (w : World) (hr0 : Kd.C k184 w A0 l0.length l0) (hc0 : l0.length ≤ c0) (h : cornucopiabook_copyPairs.f l0 = some r) :
  Calls Tryz.prog 163 #[.slice A0 l0.length c0] w fun e w' => ∃ v0_ : Value, e = .returned (v0_) ∧ Kd.R k184 184 w' w.heap.size (fun _ => True) v0_ r ∧ Below w.heap.size w w' := by
 have HR0 := Aside0.mk hr0
 have HC0 := Aside0.mk hc0
 clear hr0 hc0
 have HB := Aside0.mk (Below.refl w.heap.size w)
 have H : (if ([] : List (S184)).length + l0.length < 4398046511104 then (some (([] : List (S184)) ++ l0)) else (none)) = some r := h
 clear h
 by_cases c2 : ([] : List (S184)).length + l0.length < 4398046511104
 ·rw [if_pos c2] at H
  have LMc2 := Aside0.mk c2
  clear c2
  obtain ⟨y400, hy400⟩ : ∃ y_ : List (S184), y_ = (([] : List (S184)) ++ l0) := ⟨_, rfl⟩
  replace H : (some y400) = some r := by first | (rw [hy400]; with_reducible exact H) | (have H2_ := (Option.bind_some _ _).symm.trans H; rw [hy400]; with_reducible exact H2_) | (have H2_ := (Option.bind_some _ _).symm.trans H; with_reducible exact H2_) | with_reducible exact H | (rw [hy400]; exact H) | exact H
  have Ny400 := Aside0.mk hy400
  clear hy400
  obtain rfl := Option.some.inj H
  go_enter Tryz.func163, Tryz.ntmps163
  go_wp2_with (first | ((with_reducible refine gate_builtin (b := .append) (xs := #[.const (.slice none 0 0), .tmp 3]) rfl ?_); at_builtin; refine Kd.R_append_rows k184 (w0 := w) w.heap.size rfl (.const (.slice none 0 0)) (.tmp 3) 79 184 (.agg #[(.string ⟨#[]⟩), (.string ⟨#[]⟩)]) 32 rfl Tryz.underlying79 info184 rfl (by decide) (by omega) (.slice none 0 0) ([] : List (S184)) l0 _ _ _ (fun _ => True) (fun _ => False) rfl rfl ?aO ?aR (fun _ _ h => h) (fun _ h => h.elim) ?aF ?aB ?aS ?aL ?_; (case aR => (try (change Kd.C k184 _ _ _ _)); repeat (first | exact HR0.out | (with_reducible refine Kd.C_alloc ?_ _) | (with_reducible refine Kd.C_drewN ?_ _) | (with_reducible refine Kd.C_drew ?_))); (case aB => exact (by repeat (first | (with_reducible first | exact HB.out | apply below_alloc | apply pw_below_drewN | apply below_drew1) | exact HB.out))); (case aF => exact (fun _ _ => trivial)); (case aO => exact ((Kd.R_nil _ _ _ _ (fun _ => True)))); (case aS => exact (below_size (by repeat (first | (with_reducible first | exact HB.out | apply below_alloc | apply pw_below_drewN | apply below_drew1) | exact HB.out)))); (case aL => have := LMc2.out; omega); intro v401 w3 ho hb hg hat; rw [← Ny400.out] at ho; have n0_ := Aside0.mk (hb); have n1_ := Aside0.mk (ho); clear HB; have HB := n0_; have HO402 := n1_; clear n0_ n1_; clear ho hb hg hat))
  go_ret
  exact ⟨_, by first | rfl | (simp [errW_none, errW_some] <;> rfl) | (simp [*, errW_none, errW_some] <;> rfl), by (with_reducible repeat (first | apply Kd.R_alloc | apply Kd.R_drewN | apply Kd.R_drew)); exact HO402.out, by repeat (first | (with_reducible first | exact HB.out | apply below_alloc | apply pw_below_drewN | apply below_drew1) | exact HB.out)⟩
 ·rw [if_neg c2] at H
  exact absurd H (by simp)
def cornucopiaref12_Cut.l0 : Nat → Int → List (S32) → List (List (S32)) → List (S32) → Int → Option ((List (List (S32))))
 | 0, _, _, _, _, _ => none
 | k + 1, x0, x1, x5, x6, x7 => if x7 < (x1.length : Int) then (if 0 ≤ x7 then (if x6.length < 2932031007402 then ((some (x6 ++ [(⟨(rd_T32 x1 x7).f0, (rd_T32 x1 x7).f1, (rd_T32 x1 x7).f2, (rd_T32 x1 x7).f3⟩ : S32)] : List (S32))).bind fun y404 => (if x7 = (wrap64 ((x1.length : Int) - 1)) then (if x5.length < 5864062014805 then (cornucopiaref12_Cut.l0 k x0 x1 (x5 ++ [y404]) ([] : List (S32)) (wrap64 (x7 + 1))) else (none)) else (if (y404.length : Int) ≥ x0 then (if 0 ≤ (wrap64 (x7 + 1)) then (if (wrap64 (x7 + 1)) < (x1.length : Int) then (if ((rd_T32 x1 (wrap64 (x7 + 1))).f0).toList = ((rd_T32 x1 x7).f0).toList then (cornucopiaref12_Cut.l0 k x0 x1 x5 y404 (wrap64 (x7 + 1))) else (if x5.length < 5864062014805 then (cornucopiaref12_Cut.l0 k x0 x1 (x5 ++ [y404]) ([] : List (S32)) (wrap64 (x7 + 1))) else (none))) else (none)) else (none)) else (cornucopiaref12_Cut.l0 k x0 x1 x5 y404 (wrap64 (x7 + 1)))))) else (none)) else (none)) else (some x5)
def cornucopiaref12_Cut.f (k : Nat) (a0 : Int) (l1 : List (S32)) : Option ((List (List (S32)))) := cornucopiaref12_Cut.l0 k a0 l1 ([] : List (List (S32))) ([] : List (S32)) 0
theorem cornucopiaref12_Cut.mono_l : ∀ k, (∀ y0 y1 y2 y3 y4, LeO (cornucopiaref12_Cut.l0 k y0 y1 y2 y3 y4) (cornucopiaref12_Cut.l0 (k + 1) y0 y1 y2 y3 y4))
 | 0 => fun _ _ _ _ _ r h => by simp [cornucopiaref12_Cut.l0] at h
 | k + 1 => by
  have ih0 := cornucopiaref12_Cut.mono_l k
  ·intro y0 y1 y2 y3 y4
   unfold cornucopiaref12_Cut.l0
   repeat' first
   | (with_reducible exact ih0 _ _ _ _ _)
   | (with_reducible exact LeO.refl _)
   | (with_reducible exact LeO.none _)
   | (with_reducible refine LeO.ite ?_ ?_)
   | (with_reducible refine LeO.bind ?_ (fun _ => ?_))
   | exact ih0 _ _ _ _ _
   | exact LeO.none _
   | refine LeO.ite ?_ ?_
   | refine LeO.bind ?_ (fun _ => ?_)
theorem cornucopiaref12_Cut.mono : ∀ a0 a1 k, LeO (cornucopiaref12_Cut.f k a0 a1) (cornucopiaref12_Cut.f (k + 1) a0 a1) := by
 intro a0 a1 k
 have ih0 := cornucopiaref12_Cut.mono_l k
 unfold cornucopiaref12_Cut.f
 repeat' first
   | (with_reducible exact ih0 _ _ _ _ _)
   | (with_reducible exact LeO.refl _)
   | (with_reducible exact LeO.none _)
   | (with_reducible refine LeO.ite ?_ ?_)
   | (with_reducible refine LeO.bind ?_ (fun _ => ?_))
   | exact ih0 _ _ _ _ _
   | exact LeO.none _
   | refine LeO.ite ?_ ?_
   | refine LeO.bind ?_ (fun _ => ?_)
set_option maxHeartbeats 8000000 in
set_option maxRecDepth 100000 in
theorem cornucopiaref12_Cut.calls (k : Nat) (a0 : Int) (A1 : Option Addr) (c1 : Nat) (l1 : List (S32)) (r : List (List (S32))) (w : World) (hr1 : Kd.C k32 w A1 l1.length l1) (hc1 : l1.length ≤ c1) (h : cornucopiaref12_Cut.f k a0 l1 = some r) :
  Calls Tryz.prog 40 #[.int .i64 a0, .slice A1 l1.length c1] w fun e w' => ∃ v0_ : Value, e = .returned (v0_) ∧ Kd.S (Kd.slice 32 k32) 22 w' w.heap.size (fun _ => True) v0_ r ∧ Below w.heap.size w w' := by
 have hu32 := Tryz.underlying32
 have HR1 := Aside0.mk hr1
 have HC1 := Aside0.mk hc1
 clear hr1 hc1
 have HB := Aside0.mk (Below.refl w.heap.size w)
 have H : (cornucopiaref12_Cut.l0 k a0 l1 ([] : List (List (S32))) ([] : List (S32)) 0) = some r := h
 clear h
 have H' := Aside0.mk H
 clear H
 go_enter Tryz.func40, Tryz.ntmps40
 go_wp2
 repeat (go_quiet (fail); try go_wp2)
 go_loopg [5, 6, 7] k (fun kq v5 v6 v7 w' => ∃ (x5_1 : List (List (S32))) (x6_1 : List (S32)) (x7_1 : Int), v7 = .int .i64 x7_1 ∧ Aside0 (cornucopiaref12_Cut.l0 kq a0 l1 x5_1 x6_1 x7_1 = some r) ∧ Aside0 (kq ≤ k) ∧ Aside0 (Kd.S (Kd.slice 32 k32) 22 w' w.heap.size (fun k_ => some k_ ≠ (v6 : Value).ownBlock) v5 x5_1) ∧ Aside0 (Kd.R k32 32 w' w.heap.size (fun _ => True) v6 x6_1) ∧ Aside0 (Below w.heap.size w w'))
 case atStart => exact ⟨(([] : List (List (S32)))), (([] : List (S32))), (0), (by first | rfl | (simp; done) | (simp [*]; done)), H', ⟨Nat.le_refl _⟩, ⟨by first | exact Kd.S_nil _ _ _ _ _ | exact Kd.N_nil _ _ _ _ _ | exact Kd.V_nil _ _ _ _ _ | exact Kd.Q_nil _ _ _ _ _ | exact Kd.R_nil _ _ _ _ _⟩, ⟨by first | exact Kd.R_nil _ _ _ _ _ | exact Kd.N_nil _ _ _ _ _ | exact Kd.V_nil _ _ _ _ _ | exact Kd.Q_nil _ _ _ _ _ | exact Kd.S_nil _ _ _ _ _⟩, ⟨by repeat (first | (with_reducible first | exact HB.out | apply below_alloc | apply pw_below_drewN | apply below_drew1) | exact HB.out)⟩⟩
 case round =>
  clear H'
  try clear c1
  try clear p2
  obtain ⟨x5_1, x6_1, x7_1, rfl, HA, HK1, HO_5, HO_6, HB⟩ := hrel
  cases gk with
  | zero => exact absurd HA.out (by simp [cornucopiaref12_Cut.l0])
  | succ k1 =>
   have H := HA.out
   clear HA
   simp only [cornucopiaref12_Cut.l0] at H
   by_cases c3 : x7_1 < (l1.length : Int)
   ·rw [if_pos c3] at H
    have c3b0 : decide (x7_1 < (l1.length : Int)) = true := decide_eq_true c3
    clear c3
    by_cases c4 : 0 ≤ x7_1
    ·rw [if_pos c4] at H
     have c4b0 : decide (0 ≤ x7_1) = true := decide_eq_true c4
     clear c4
     by_cases c5 : x6_1.length < 2932031007402
     ·rw [if_pos c5] at H
      have LMc5 := Aside0.mk c5
      clear c5
      obtain ⟨y404, hy404⟩ : ∃ y_ : List (S32), y_ = (x6_1 ++ [(⟨(rd_T32 l1 x7_1).f0, (rd_T32 l1 x7_1).f1, (rd_T32 l1 x7_1).f2, (rd_T32 l1 x7_1).f3⟩ : S32)]) := ⟨_, rfl⟩
      replace H : (if x7_1 = (wrap64 ((l1.length : Int) - 1)) then (if x5_1.length < 5864062014805 then (cornucopiaref12_Cut.l0 k1 a0 l1 (x5_1 ++ [y404]) ([] : List (S32)) (wrap64 (x7_1 + 1))) else (none)) else (if (y404.length : Int) ≥ a0 then (if 0 ≤ (wrap64 (x7_1 + 1)) then (if (wrap64 (x7_1 + 1)) < (l1.length : Int) then (if ((rd_T32 l1 (wrap64 (x7_1 + 1))).f0).toList = ((rd_T32 l1 x7_1).f0).toList then (cornucopiaref12_Cut.l0 k1 a0 l1 x5_1 y404 (wrap64 (x7_1 + 1))) else (if x5_1.length < 5864062014805 then (cornucopiaref12_Cut.l0 k1 a0 l1 (x5_1 ++ [y404]) ([] : List (S32)) (wrap64 (x7_1 + 1))) else (none))) else (none)) else (none)) else (cornucopiaref12_Cut.l0 k1 a0 l1 x5_1 y404 (wrap64 (x7_1 + 1))))) = some r := by first | (rw [hy404]; with_reducible exact H) | (have H2_ := (Option.bind_some _ _).symm.trans H; rw [hy404]; with_reducible exact H2_) | (have H2_ := (Option.bind_some _ _).symm.trans H; with_reducible exact H2_) | with_reducible exact H | (rw [hy404]; exact H) | exact H
      have Ny404 := Aside0.mk hy404
      clear hy404
      by_cases c6 : x7_1 = (wrap64 ((l1.length : Int) - 1))
      ·rw [if_pos c6] at H
       have c6b0 : (x7_1 == (wrap64 ((l1.length : Int) - 1))) = true := beq_iff_eq.mpr c6
       have c6b1 : (x7_1 != (wrap64 ((l1.length : Int) - 1))) = false := bne_eq_false_iff_eq.mpr c6
       clear c6
       by_cases c7 : x5_1.length < 5864062014805
       ·rw [if_pos c7] at H
        have LMc7 := Aside0.mk c7
        clear c7
        obtain ⟨y407, hy407⟩ : ∃ y_ : List (List (S32)), y_ = (x5_1 ++ [y404]) := ⟨_, rfl⟩
        replace H : (cornucopiaref12_Cut.l0 k1 a0 l1 y407 ([] : List (S32)) (wrap64 (x7_1 + 1))) = some r := by first | (rw [hy407]; with_reducible exact H) | (have H2_ := (Option.bind_some _ _).symm.trans H; rw [hy407]; with_reducible exact H2_) | (have H2_ := (Option.bind_some _ _).symm.trans H; with_reducible exact H2_) | with_reducible exact H | (rw [hy407]; exact H) | exact H
        have Ny407 := Aside0.mk hy407
        clear hy407
        have H' := Aside0.mk H
        clear H
        have p403 : 0 ≤ (x7_1 : Int) := of_decide_eq_true (by first | (with_reducible assumption) | assumption)
        have q403 : x7_1 < (l1.length : Int) := of_decide_eq_true (by first | (with_reducible assumption) | assumption)
        obtain ⟨ad403, e403, hx403_0, hx403_1, hx403_2, hx403_3⟩ := at_T32 HR1.out x7_1 p403 q403
        cases e403
        replace hx403_0 := (HB.out.cell (World.block_lt_of_cell? w _ hx403_0)).trans hx403_0
        replace hx403_1 := (HB.out.cell (World.block_lt_of_cell? w _ hx403_1)).trans hx403_1
        replace hx403_2 := (HB.out.cell (World.block_lt_of_cell? w _ hx403_2)).trans hx403_2
        replace hx403_3 := (HB.out.cell (World.block_lt_of_cell? w _ hx403_3)).trans hx403_3
        replace p403 := eq_true p403
        replace q403 := eq_true q403
        go_wp2_with (first | ((with_reducible refine gate_builtin (b := .append) (xs := #[.tmp 14, .tmp 19]) rfl ?_); (try (refine gate_guard (by rfl) ?_; dsimp only)); at_builtin; refine Kd.R_append k32 (w0 := w) w.heap.size rfl (.tmp 14) (.tmp 19) 22 32 (.agg #[(.string ⟨#[]⟩), (.int .u64 0), (.int .i64 0), (.string ⟨#[]⟩)]) 48 rfl Tryz.underlying22 info32 rfl (by decide) (by omega) u6 x6_1 (⟨(rd_T32 l1 x7_1).f0, (rd_T32 l1 x7_1).f1, (rd_T32 l1 x7_1).f2, (rd_T32 l1 x7_1).f3⟩ : S32) [.string ((rd_T32 l1 x7_1).f0), .int .u64 ((rd_T32 l1 x7_1).f1), .int .i64 ((rd_T32 l1 x7_1).f2), .string ((rd_T32 l1 x7_1).f3)] (fun _ => True) (fun _ => False) rfl rfl ?aP (fun _ hk => hk.elim) ?aF ?aO ?aB ?aS ?aL ?_; (case aP => exact k32_mkM _ _ _ (⟨(rd_T32 l1 x7_1).f0, (rd_T32 l1 x7_1).f1, (rd_T32 l1 x7_1).f2, (rd_T32 l1 x7_1).f3⟩ : S32)); (case aB => exact (by repeat (first | (with_reducible first | exact HB.out | apply below_alloc | apply pw_below_drewN | apply below_drew1) | exact HB.out))); (case aF => exact (fun _ _ => trivial)); (case aO => exact (by (with_reducible repeat (first | apply Kd.R_alloc | apply Kd.R_drewN | apply Kd.R_drew)); exact HO_6.out)); (case aS => exact (below_size (by repeat (first | (with_reducible first | exact HB.out | apply below_alloc | apply pw_below_drewN | apply below_drew1) | exact HB.out)))); (case aL => have := LMc5.out; omega); intro v405 w8 ho hb hg hat; rw [← Ny404.out] at ho; have n0_ := Aside0.mk (Kd.S_after (ok := (fun _ => True)) (by (with_reducible repeat (first | apply Kd.S_alloc | apply Kd.S_drewN | apply Kd.S_drew)); exact Kd.S_mono HO_5.out (fun _ hk => ⟨trivial, hk⟩)) hg hat); have n1_ := Aside0.mk (hb); have n2_ := Aside0.mk (ho); clear HO_5; clear HB; clear HO_6; have HO_5 := n0_; have HB := n1_; have HO406 := n2_; clear n0_ n1_ n2_; clear ho hb hg hat; obtain ⟨Ao10, co10, eo10⟩ := Kd.R_slice HO406.out; subst eo10) | ((with_reducible refine gate_builtin (b := .append) (xs := #[.tmp 46, .tmp 48]) rfl ?_); (try (refine gate_guard (by rfl) ?_; dsimp only)); at_builtin; refine Kd.S_append (Kd.slice 32 k32) (w0 := w) w.heap.size rfl (.tmp 46) (.tmp 48) 44 22 (.slice none 0 0) 24 rfl Tryz.underlying44 info22 rfl (by decide) (by omega) u5 x5_1 y404 [.slice Ao10 y404.length co10] (fun _ => True) (fun k_ => some k_ = (.slice Ao10 y404.length co10 : Value).ownBlock) rfl rfl ?aP (fun k_ hk_ => ((Kd.R_mono (ok' := fun k_ => ((fun _ => True)) k_ ∧ some k_ ≠ (u5 : Value).ownBlock) (Kd.R_apart' (HO406.out) (Kd.S_typed HO_5.out) (by decide)) (fun k_ hk => ⟨trivial, hk.2⟩))).1 k_ hk_.symm) ?aF ?aO ?aB ?aS ?aL ?_; (case aP => exact Kd.M_row (Kd.R_mono (Kd.R_tight rfl (Kd.R_mono (ok' := fun k_ => ((fun _ => True)) k_ ∧ some k_ ≠ (u5 : Value).ownBlock) (Kd.R_apart' (HO406.out) (Kd.S_typed HO_5.out) (by decide)) (fun k_ hk => ⟨trivial, hk.2⟩))) (fun _ h_ => h_))); (case aB => exact (by repeat (first | (with_reducible first | exact HB.out | apply below_alloc | apply pw_below_drewN | apply below_drew1) | exact HB.out))); (case aF => exact (fun _ _ => trivial)); (case aO => exact (by (with_reducible repeat (first | apply Kd.S_alloc | apply Kd.S_drewN | apply Kd.S_drew)); exact Kd.S_mono HO_5.out (fun k_ hk => ⟨trivial, fun e_ => hk.2 e_⟩))); (case aS => exact (below_size (by repeat (first | (with_reducible first | exact HB.out | apply below_alloc | apply pw_below_drewN | apply below_drew1) | exact HB.out)))); (case aL => have := LMc7.out; omega); intro v408 w9 ho hb hg hat; rw [← Ny407.out] at ho; have n0_ := Aside0.mk (hb); have n1_ := Aside0.mk (ho); clear HB; clear HO_5; clear HO406; have HB := n0_; have HO409 := n1_; clear n0_ n1_; clear ho hb hg hat))
        repeat (go_quiet (first | ((with_reducible refine gate_builtin (b := .append) (xs := #[.tmp 14, .tmp 19]) rfl ?_); (try (refine gate_guard (by rfl) ?_; dsimp only)); at_builtin; refine Kd.R_append k32 (w0 := w) w.heap.size rfl (.tmp 14) (.tmp 19) 22 32 (.agg #[(.string ⟨#[]⟩), (.int .u64 0), (.int .i64 0), (.string ⟨#[]⟩)]) 48 rfl Tryz.underlying22 info32 rfl (by decide) (by omega) u6 x6_1 (⟨(rd_T32 l1 x7_1).f0, (rd_T32 l1 x7_1).f1, (rd_T32 l1 x7_1).f2, (rd_T32 l1 x7_1).f3⟩ : S32) [.string ((rd_T32 l1 x7_1).f0), .int .u64 ((rd_T32 l1 x7_1).f1), .int .i64 ((rd_T32 l1 x7_1).f2), .string ((rd_T32 l1 x7_1).f3)] (fun _ => True) (fun _ => False) rfl rfl ?aP (fun _ hk => hk.elim) ?aF ?aO ?aB ?aS ?aL ?_; (case aP => exact k32_mkM _ _ _ (⟨(rd_T32 l1 x7_1).f0, (rd_T32 l1 x7_1).f1, (rd_T32 l1 x7_1).f2, (rd_T32 l1 x7_1).f3⟩ : S32)); (case aB => exact (by repeat (first | (with_reducible first | exact HB.out | apply below_alloc | apply pw_below_drewN | apply below_drew1) | exact HB.out))); (case aF => exact (fun _ _ => trivial)); (case aO => exact (by (with_reducible repeat (first | apply Kd.R_alloc | apply Kd.R_drewN | apply Kd.R_drew)); exact HO_6.out)); (case aS => exact (below_size (by repeat (first | (with_reducible first | exact HB.out | apply below_alloc | apply pw_below_drewN | apply below_drew1) | exact HB.out)))); (case aL => have := LMc5.out; omega); intro v405 w8 ho hb hg hat; rw [← Ny404.out] at ho; have n0_ := Aside0.mk (Kd.S_after (ok := (fun _ => True)) (by (with_reducible repeat (first | apply Kd.S_alloc | apply Kd.S_drewN | apply Kd.S_drew)); exact Kd.S_mono HO_5.out (fun _ hk => ⟨trivial, hk⟩)) hg hat); have n1_ := Aside0.mk (hb); have n2_ := Aside0.mk (ho); clear HO_5; clear HB; clear HO_6; have HO_5 := n0_; have HB := n1_; have HO406 := n2_; clear n0_ n1_ n2_; clear ho hb hg hat; obtain ⟨Ao10, co10, eo10⟩ := Kd.R_slice HO406.out; subst eo10) | ((with_reducible refine gate_builtin (b := .append) (xs := #[.tmp 46, .tmp 48]) rfl ?_); (try (refine gate_guard (by rfl) ?_; dsimp only)); at_builtin; refine Kd.S_append (Kd.slice 32 k32) (w0 := w) w.heap.size rfl (.tmp 46) (.tmp 48) 44 22 (.slice none 0 0) 24 rfl Tryz.underlying44 info22 rfl (by decide) (by omega) u5 x5_1 y404 [.slice Ao10 y404.length co10] (fun _ => True) (fun k_ => some k_ = (.slice Ao10 y404.length co10 : Value).ownBlock) rfl rfl ?aP (fun k_ hk_ => ((Kd.R_mono (ok' := fun k_ => ((fun _ => True)) k_ ∧ some k_ ≠ (u5 : Value).ownBlock) (Kd.R_apart' (HO406.out) (Kd.S_typed HO_5.out) (by decide)) (fun k_ hk => ⟨trivial, hk.2⟩))).1 k_ hk_.symm) ?aF ?aO ?aB ?aS ?aL ?_; (case aP => exact Kd.M_row (Kd.R_mono (Kd.R_tight rfl (Kd.R_mono (ok' := fun k_ => ((fun _ => True)) k_ ∧ some k_ ≠ (u5 : Value).ownBlock) (Kd.R_apart' (HO406.out) (Kd.S_typed HO_5.out) (by decide)) (fun k_ hk => ⟨trivial, hk.2⟩))) (fun _ h_ => h_))); (case aB => exact (by repeat (first | (with_reducible first | exact HB.out | apply below_alloc | apply pw_below_drewN | apply below_drew1) | exact HB.out))); (case aF => exact (fun _ _ => trivial)); (case aO => exact (by (with_reducible repeat (first | apply Kd.S_alloc | apply Kd.S_drewN | apply Kd.S_drew)); exact Kd.S_mono HO_5.out (fun k_ hk => ⟨trivial, fun e_ => hk.2 e_⟩))); (case aS => exact (below_size (by repeat (first | (with_reducible first | exact HB.out | apply below_alloc | apply pw_below_drewN | apply below_drew1) | exact HB.out)))); (case aL => have := LMc7.out; omega); intro v408 w9 ho hb hg hat; rw [← Ny407.out] at ho; have n0_ := Aside0.mk (hb); have n1_ := Aside0.mk (ho); clear HB; clear HO_5; clear HO406; have HB := n0_; have HO409 := n1_; clear n0_ n1_; clear ho hb hg hat)); try go_wp2_with (first | ((with_reducible refine gate_builtin (b := .append) (xs := #[.tmp 14, .tmp 19]) rfl ?_); (try (refine gate_guard (by rfl) ?_; dsimp only)); at_builtin; refine Kd.R_append k32 (w0 := w) w.heap.size rfl (.tmp 14) (.tmp 19) 22 32 (.agg #[(.string ⟨#[]⟩), (.int .u64 0), (.int .i64 0), (.string ⟨#[]⟩)]) 48 rfl Tryz.underlying22 info32 rfl (by decide) (by omega) u6 x6_1 (⟨(rd_T32 l1 x7_1).f0, (rd_T32 l1 x7_1).f1, (rd_T32 l1 x7_1).f2, (rd_T32 l1 x7_1).f3⟩ : S32) [.string ((rd_T32 l1 x7_1).f0), .int .u64 ((rd_T32 l1 x7_1).f1), .int .i64 ((rd_T32 l1 x7_1).f2), .string ((rd_T32 l1 x7_1).f3)] (fun _ => True) (fun _ => False) rfl rfl ?aP (fun _ hk => hk.elim) ?aF ?aO ?aB ?aS ?aL ?_; (case aP => exact k32_mkM _ _ _ (⟨(rd_T32 l1 x7_1).f0, (rd_T32 l1 x7_1).f1, (rd_T32 l1 x7_1).f2, (rd_T32 l1 x7_1).f3⟩ : S32)); (case aB => exact (by repeat (first | (with_reducible first | exact HB.out | apply below_alloc | apply pw_below_drewN | apply below_drew1) | exact HB.out))); (case aF => exact (fun _ _ => trivial)); (case aO => exact (by (with_reducible repeat (first | apply Kd.R_alloc | apply Kd.R_drewN | apply Kd.R_drew)); exact HO_6.out)); (case aS => exact (below_size (by repeat (first | (with_reducible first | exact HB.out | apply below_alloc | apply pw_below_drewN | apply below_drew1) | exact HB.out)))); (case aL => have := LMc5.out; omega); intro v405 w8 ho hb hg hat; rw [← Ny404.out] at ho; have n0_ := Aside0.mk (Kd.S_after (ok := (fun _ => True)) (by (with_reducible repeat (first | apply Kd.S_alloc | apply Kd.S_drewN | apply Kd.S_drew)); exact Kd.S_mono HO_5.out (fun _ hk => ⟨trivial, hk⟩)) hg hat); have n1_ := Aside0.mk (hb); have n2_ := Aside0.mk (ho); clear HO_5; clear HB; clear HO_6; have HO_5 := n0_; have HB := n1_; have HO406 := n2_; clear n0_ n1_ n2_; clear ho hb hg hat; obtain ⟨Ao10, co10, eo10⟩ := Kd.R_slice HO406.out; subst eo10) | ((with_reducible refine gate_builtin (b := .append) (xs := #[.tmp 46, .tmp 48]) rfl ?_); (try (refine gate_guard (by rfl) ?_; dsimp only)); at_builtin; refine Kd.S_append (Kd.slice 32 k32) (w0 := w) w.heap.size rfl (.tmp 46) (.tmp 48) 44 22 (.slice none 0 0) 24 rfl Tryz.underlying44 info22 rfl (by decide) (by omega) u5 x5_1 y404 [.slice Ao10 y404.length co10] (fun _ => True) (fun k_ => some k_ = (.slice Ao10 y404.length co10 : Value).ownBlock) rfl rfl ?aP (fun k_ hk_ => ((Kd.R_mono (ok' := fun k_ => ((fun _ => True)) k_ ∧ some k_ ≠ (u5 : Value).ownBlock) (Kd.R_apart' (HO406.out) (Kd.S_typed HO_5.out) (by decide)) (fun k_ hk => ⟨trivial, hk.2⟩))).1 k_ hk_.symm) ?aF ?aO ?aB ?aS ?aL ?_; (case aP => exact Kd.M_row (Kd.R_mono (Kd.R_tight rfl (Kd.R_mono (ok' := fun k_ => ((fun _ => True)) k_ ∧ some k_ ≠ (u5 : Value).ownBlock) (Kd.R_apart' (HO406.out) (Kd.S_typed HO_5.out) (by decide)) (fun k_ hk => ⟨trivial, hk.2⟩))) (fun _ h_ => h_))); (case aB => exact (by repeat (first | (with_reducible first | exact HB.out | apply below_alloc | apply pw_below_drewN | apply below_drew1) | exact HB.out))); (case aF => exact (fun _ _ => trivial)); (case aO => exact (by (with_reducible repeat (first | apply Kd.S_alloc | apply Kd.S_drewN | apply Kd.S_drew)); exact Kd.S_mono HO_5.out (fun k_ hk => ⟨trivial, fun e_ => hk.2 e_⟩))); (case aS => exact (below_size (by repeat (first | (with_reducible first | exact HB.out | apply below_alloc | apply pw_below_drewN | apply below_drew1) | exact HB.out)))); (case aL => have := LMc7.out; omega); intro v408 w9 ho hb hg hat; rw [← Ny407.out] at ho; have n0_ := Aside0.mk (hb); have n1_ := Aside0.mk (ho); clear HB; clear HO_5; clear HO406; have HB := n0_; have HO409 := n1_; clear n0_ n1_; clear ho hb hg hat)))
        go_roundg k1
        case measure => have := HK1.out; omega
        case rel => exact ⟨(y407), (([] : List (S32))), (wrap64 (x7_1 + 1)), (by first | rfl | (simp; done) | (simp [*]; done)), H', ⟨by have := HK1.out; omega⟩, ⟨by (with_reducible repeat (first | apply Kd.S_alloc | apply Kd.S_drewN | apply Kd.S_drew)); exact Kd.S_mono HO409.out (fun _ hk => (by simp [Value.ownBlock]))⟩, ⟨by first | exact Kd.R_nil _ _ _ _ _ | exact Kd.N_nil _ _ _ _ _ | exact Kd.V_nil _ _ _ _ _ | exact Kd.Q_nil _ _ _ _ _ | exact Kd.S_nil _ _ _ _ _⟩, ⟨by repeat (first | (with_reducible first | exact HB.out | apply below_alloc | apply pw_below_drewN | apply below_drew1) | exact HB.out)⟩⟩
       ·rw [if_neg c7] at H
        exact absurd H (by simp)
      ·rw [if_neg c6] at H
       have c6b0 : (x7_1 == (wrap64 ((l1.length : Int) - 1))) = false := beq_eq_false_iff_ne.mpr c6
       have c6b1 : (x7_1 != (wrap64 ((l1.length : Int) - 1))) = true := bne_iff_ne.mpr c6
       by_cases c11 : (y404.length : Int) ≥ a0
       ·rw [if_pos c11] at H
        have c11b0 : decide (a0 ≤ (y404.length : Int)) = true := decide_eq_true c11
        clear c11
        obtain ⟨ji12, hji12⟩ : ∃ j_ : Int, (wrap64 (x7_1 + 1)) = j_ := ⟨_, rfl⟩
        replace H : (if 0 ≤ (ji12) then (if (ji12) < (l1.length : Int) then (if ((rd_T32 l1 (ji12)).f0).toList = ((rd_T32 l1 x7_1).f0).toList then (cornucopiaref12_Cut.l0 k1 a0 l1 x5_1 y404 ji12) else (if x5_1.length < 5864062014805 then (cornucopiaref12_Cut.l0 k1 a0 l1 (x5_1 ++ [y404]) ([] : List (S32)) ji12) else (none))) else (none)) else (none)) = some r := by first | (rw [hji12] at H; exact H) | (simp only [hji12] at H ⊢; exact H)
        have hji12w : (IntKind.i64.wrap (x7_1 + 1)) = ji12 := (i64_w _).trans hji12
        by_cases c13 : 0 ≤ (ji12)
        ·rw [if_pos c13] at H
         have c13b0 : decide (0 ≤ (ji12)) = true := decide_eq_true c13
         clear c13
         by_cases c14 : (ji12) < (l1.length : Int)
         ·rw [if_pos c14] at H
          have c14b0 : decide ((ji12) < (l1.length : Int)) = true := decide_eq_true c14
          clear c14
          by_cases c15 : ((rd_T32 l1 (ji12)).f0).toList = ((rd_T32 l1 x7_1).f0).toList
          ·rw [if_pos c15] at H
           have c15b0 : (((rd_T32 l1 (ji12)).f0).toList == ((rd_T32 l1 x7_1).f0).toList) = true := beq_iff_eq.mpr c15
           have c15b1 : (((rd_T32 l1 (ji12)).f0).toList != ((rd_T32 l1 x7_1).f0).toList) = false := bne_eq_false_iff_eq.mpr c15
           clear c15
           have H' := Aside0.mk H
           clear H
           have p403 : 0 ≤ (x7_1 : Int) := of_decide_eq_true (by first | (with_reducible assumption) | assumption)
           have q403 : x7_1 < (l1.length : Int) := of_decide_eq_true (by first | (with_reducible assumption) | assumption)
           obtain ⟨ad403, e403, hx403_0, hx403_1, hx403_2, hx403_3⟩ := at_T32 HR1.out x7_1 p403 q403
           cases e403
           replace hx403_0 := (HB.out.cell (World.block_lt_of_cell? w _ hx403_0)).trans hx403_0
           replace hx403_1 := (HB.out.cell (World.block_lt_of_cell? w _ hx403_1)).trans hx403_1
           replace hx403_2 := (HB.out.cell (World.block_lt_of_cell? w _ hx403_2)).trans hx403_2
           replace hx403_3 := (HB.out.cell (World.block_lt_of_cell? w _ hx403_3)).trans hx403_3
           replace p403 := eq_true p403
           replace q403 := eq_true q403
           go_wp2_with (first | ((with_reducible refine gate_builtin (b := .append) (xs := #[.tmp 14, .tmp 19]) rfl ?_); (try (refine gate_guard (by rfl) ?_; dsimp only)); at_builtin; refine Kd.R_append k32 (w0 := w) w.heap.size rfl (.tmp 14) (.tmp 19) 22 32 (.agg #[(.string ⟨#[]⟩), (.int .u64 0), (.int .i64 0), (.string ⟨#[]⟩)]) 48 rfl Tryz.underlying22 info32 rfl (by decide) (by omega) u6 x6_1 (⟨(rd_T32 l1 x7_1).f0, (rd_T32 l1 x7_1).f1, (rd_T32 l1 x7_1).f2, (rd_T32 l1 x7_1).f3⟩ : S32) [.string ((rd_T32 l1 x7_1).f0), .int .u64 ((rd_T32 l1 x7_1).f1), .int .i64 ((rd_T32 l1 x7_1).f2), .string ((rd_T32 l1 x7_1).f3)] (fun _ => True) (fun _ => False) rfl rfl ?aP (fun _ hk => hk.elim) ?aF ?aO ?aB ?aS ?aL ?_; (case aP => exact k32_mkM _ _ _ (⟨(rd_T32 l1 x7_1).f0, (rd_T32 l1 x7_1).f1, (rd_T32 l1 x7_1).f2, (rd_T32 l1 x7_1).f3⟩ : S32)); (case aB => exact (by repeat (first | (with_reducible first | exact HB.out | apply below_alloc | apply pw_below_drewN | apply below_drew1) | exact HB.out))); (case aF => exact (fun _ _ => trivial)); (case aO => exact (by (with_reducible repeat (first | apply Kd.R_alloc | apply Kd.R_drewN | apply Kd.R_drew)); exact HO_6.out)); (case aS => exact (below_size (by repeat (first | (with_reducible first | exact HB.out | apply below_alloc | apply pw_below_drewN | apply below_drew1) | exact HB.out)))); (case aL => have := LMc5.out; omega); intro v405 w16 ho hb hg hat; rw [← Ny404.out] at ho; have n0_ := Aside0.mk (Kd.S_after (ok := (fun _ => True)) (by (with_reducible repeat (first | apply Kd.S_alloc | apply Kd.S_drewN | apply Kd.S_drew)); exact Kd.S_mono HO_5.out (fun _ hk => ⟨trivial, hk⟩)) hg hat); have n1_ := Aside0.mk (hb); have n2_ := Aside0.mk (ho); clear HO_5; clear HB; clear HO_6; have HO_5 := n0_; have HB := n1_; have HO406 := n2_; clear n0_ n1_ n2_; clear ho hb hg hat; obtain ⟨Ao17, co17, eo17⟩ := Kd.R_slice HO406.out; subst eo17; have p410 : 0 ≤ ((ji12) : Int) := of_decide_eq_true (by first | (with_reducible assumption) | assumption); have q410 : (ji12) < (l1.length : Int) := of_decide_eq_true (by first | (with_reducible assumption) | assumption); obtain ⟨ad410, e410, hx410_0, hx410_1, hx410_2, hx410_3⟩ := at_T32 HR1.out (ji12) p410 q410; obtain rfl : ad403 = ad410 := (by injection e410); replace hx410_0 := (HB.out.cell (World.block_lt_of_cell? w _ hx410_0)).trans hx410_0; replace hx410_1 := (HB.out.cell (World.block_lt_of_cell? w _ hx410_1)).trans hx410_1; replace hx410_2 := (HB.out.cell (World.block_lt_of_cell? w _ hx410_2)).trans hx410_2; replace hx410_3 := (HB.out.cell (World.block_lt_of_cell? w _ hx410_3)).trans hx410_3; replace p410 := eq_true p410; replace q410 := eq_true q410; have p411 : 0 ≤ (x7_1 : Int) := of_decide_eq_true (by first | (with_reducible assumption) | assumption); have q411 : x7_1 < (l1.length : Int) := of_decide_eq_true (by first | (with_reducible assumption) | assumption); obtain ⟨ad411, e411, hx411_0, hx411_1, hx411_2, hx411_3⟩ := at_T32 HR1.out x7_1 p411 q411; obtain rfl : ad403 = ad411 := (by injection e411); replace hx411_0 := (HB.out.cell (World.block_lt_of_cell? w _ hx411_0)).trans hx411_0; replace hx411_1 := (HB.out.cell (World.block_lt_of_cell? w _ hx411_1)).trans hx411_1; replace hx411_2 := (HB.out.cell (World.block_lt_of_cell? w _ hx411_2)).trans hx411_2; replace hx411_3 := (HB.out.cell (World.block_lt_of_cell? w _ hx411_3)).trans hx411_3; replace p411 := eq_true p411; replace q411 := eq_true q411))
           repeat (go_quiet (first | ((with_reducible refine gate_builtin (b := .append) (xs := #[.tmp 14, .tmp 19]) rfl ?_); (try (refine gate_guard (by rfl) ?_; dsimp only)); at_builtin; refine Kd.R_append k32 (w0 := w) w.heap.size rfl (.tmp 14) (.tmp 19) 22 32 (.agg #[(.string ⟨#[]⟩), (.int .u64 0), (.int .i64 0), (.string ⟨#[]⟩)]) 48 rfl Tryz.underlying22 info32 rfl (by decide) (by omega) u6 x6_1 (⟨(rd_T32 l1 x7_1).f0, (rd_T32 l1 x7_1).f1, (rd_T32 l1 x7_1).f2, (rd_T32 l1 x7_1).f3⟩ : S32) [.string ((rd_T32 l1 x7_1).f0), .int .u64 ((rd_T32 l1 x7_1).f1), .int .i64 ((rd_T32 l1 x7_1).f2), .string ((rd_T32 l1 x7_1).f3)] (fun _ => True) (fun _ => False) rfl rfl ?aP (fun _ hk => hk.elim) ?aF ?aO ?aB ?aS ?aL ?_; (case aP => exact k32_mkM _ _ _ (⟨(rd_T32 l1 x7_1).f0, (rd_T32 l1 x7_1).f1, (rd_T32 l1 x7_1).f2, (rd_T32 l1 x7_1).f3⟩ : S32)); (case aB => exact (by repeat (first | (with_reducible first | exact HB.out | apply below_alloc | apply pw_below_drewN | apply below_drew1) | exact HB.out))); (case aF => exact (fun _ _ => trivial)); (case aO => exact (by (with_reducible repeat (first | apply Kd.R_alloc | apply Kd.R_drewN | apply Kd.R_drew)); exact HO_6.out)); (case aS => exact (below_size (by repeat (first | (with_reducible first | exact HB.out | apply below_alloc | apply pw_below_drewN | apply below_drew1) | exact HB.out)))); (case aL => have := LMc5.out; omega); intro v405 w16 ho hb hg hat; rw [← Ny404.out] at ho; have n0_ := Aside0.mk (Kd.S_after (ok := (fun _ => True)) (by (with_reducible repeat (first | apply Kd.S_alloc | apply Kd.S_drewN | apply Kd.S_drew)); exact Kd.S_mono HO_5.out (fun _ hk => ⟨trivial, hk⟩)) hg hat); have n1_ := Aside0.mk (hb); have n2_ := Aside0.mk (ho); clear HO_5; clear HB; clear HO_6; have HO_5 := n0_; have HB := n1_; have HO406 := n2_; clear n0_ n1_ n2_; clear ho hb hg hat; obtain ⟨Ao17, co17, eo17⟩ := Kd.R_slice HO406.out; subst eo17; have p410 : 0 ≤ ((ji12) : Int) := of_decide_eq_true (by first | (with_reducible assumption) | assumption); have q410 : (ji12) < (l1.length : Int) := of_decide_eq_true (by first | (with_reducible assumption) | assumption); obtain ⟨ad410, e410, hx410_0, hx410_1, hx410_2, hx410_3⟩ := at_T32 HR1.out (ji12) p410 q410; obtain rfl : ad403 = ad410 := (by injection e410); replace hx410_0 := (HB.out.cell (World.block_lt_of_cell? w _ hx410_0)).trans hx410_0; replace hx410_1 := (HB.out.cell (World.block_lt_of_cell? w _ hx410_1)).trans hx410_1; replace hx410_2 := (HB.out.cell (World.block_lt_of_cell? w _ hx410_2)).trans hx410_2; replace hx410_3 := (HB.out.cell (World.block_lt_of_cell? w _ hx410_3)).trans hx410_3; replace p410 := eq_true p410; replace q410 := eq_true q410; have p411 : 0 ≤ (x7_1 : Int) := of_decide_eq_true (by first | (with_reducible assumption) | assumption); have q411 : x7_1 < (l1.length : Int) := of_decide_eq_true (by first | (with_reducible assumption) | assumption); obtain ⟨ad411, e411, hx411_0, hx411_1, hx411_2, hx411_3⟩ := at_T32 HR1.out x7_1 p411 q411; obtain rfl : ad403 = ad411 := (by injection e411); replace hx411_0 := (HB.out.cell (World.block_lt_of_cell? w _ hx411_0)).trans hx411_0; replace hx411_1 := (HB.out.cell (World.block_lt_of_cell? w _ hx411_1)).trans hx411_1; replace hx411_2 := (HB.out.cell (World.block_lt_of_cell? w _ hx411_2)).trans hx411_2; replace hx411_3 := (HB.out.cell (World.block_lt_of_cell? w _ hx411_3)).trans hx411_3; replace p411 := eq_true p411; replace q411 := eq_true q411)); try go_wp2_with (first | ((with_reducible refine gate_builtin (b := .append) (xs := #[.tmp 14, .tmp 19]) rfl ?_); (try (refine gate_guard (by rfl) ?_; dsimp only)); at_builtin; refine Kd.R_append k32 (w0 := w) w.heap.size rfl (.tmp 14) (.tmp 19) 22 32 (.agg #[(.string ⟨#[]⟩), (.int .u64 0), (.int .i64 0), (.string ⟨#[]⟩)]) 48 rfl Tryz.underlying22 info32 rfl (by decide) (by omega) u6 x6_1 (⟨(rd_T32 l1 x7_1).f0, (rd_T32 l1 x7_1).f1, (rd_T32 l1 x7_1).f2, (rd_T32 l1 x7_1).f3⟩ : S32) [.string ((rd_T32 l1 x7_1).f0), .int .u64 ((rd_T32 l1 x7_1).f1), .int .i64 ((rd_T32 l1 x7_1).f2), .string ((rd_T32 l1 x7_1).f3)] (fun _ => True) (fun _ => False) rfl rfl ?aP (fun _ hk => hk.elim) ?aF ?aO ?aB ?aS ?aL ?_; (case aP => exact k32_mkM _ _ _ (⟨(rd_T32 l1 x7_1).f0, (rd_T32 l1 x7_1).f1, (rd_T32 l1 x7_1).f2, (rd_T32 l1 x7_1).f3⟩ : S32)); (case aB => exact (by repeat (first | (with_reducible first | exact HB.out | apply below_alloc | apply pw_below_drewN | apply below_drew1) | exact HB.out))); (case aF => exact (fun _ _ => trivial)); (case aO => exact (by (with_reducible repeat (first | apply Kd.R_alloc | apply Kd.R_drewN | apply Kd.R_drew)); exact HO_6.out)); (case aS => exact (below_size (by repeat (first | (with_reducible first | exact HB.out | apply below_alloc | apply pw_below_drewN | apply below_drew1) | exact HB.out)))); (case aL => have := LMc5.out; omega); intro v405 w16 ho hb hg hat; rw [← Ny404.out] at ho; have n0_ := Aside0.mk (Kd.S_after (ok := (fun _ => True)) (by (with_reducible repeat (first | apply Kd.S_alloc | apply Kd.S_drewN | apply Kd.S_drew)); exact Kd.S_mono HO_5.out (fun _ hk => ⟨trivial, hk⟩)) hg hat); have n1_ := Aside0.mk (hb); have n2_ := Aside0.mk (ho); clear HO_5; clear HB; clear HO_6; have HO_5 := n0_; have HB := n1_; have HO406 := n2_; clear n0_ n1_ n2_; clear ho hb hg hat; obtain ⟨Ao17, co17, eo17⟩ := Kd.R_slice HO406.out; subst eo17; have p410 : 0 ≤ ((ji12) : Int) := of_decide_eq_true (by first | (with_reducible assumption) | assumption); have q410 : (ji12) < (l1.length : Int) := of_decide_eq_true (by first | (with_reducible assumption) | assumption); obtain ⟨ad410, e410, hx410_0, hx410_1, hx410_2, hx410_3⟩ := at_T32 HR1.out (ji12) p410 q410; obtain rfl : ad403 = ad410 := (by injection e410); replace hx410_0 := (HB.out.cell (World.block_lt_of_cell? w _ hx410_0)).trans hx410_0; replace hx410_1 := (HB.out.cell (World.block_lt_of_cell? w _ hx410_1)).trans hx410_1; replace hx410_2 := (HB.out.cell (World.block_lt_of_cell? w _ hx410_2)).trans hx410_2; replace hx410_3 := (HB.out.cell (World.block_lt_of_cell? w _ hx410_3)).trans hx410_3; replace p410 := eq_true p410; replace q410 := eq_true q410; have p411 : 0 ≤ (x7_1 : Int) := of_decide_eq_true (by first | (with_reducible assumption) | assumption); have q411 : x7_1 < (l1.length : Int) := of_decide_eq_true (by first | (with_reducible assumption) | assumption); obtain ⟨ad411, e411, hx411_0, hx411_1, hx411_2, hx411_3⟩ := at_T32 HR1.out x7_1 p411 q411; obtain rfl : ad403 = ad411 := (by injection e411); replace hx411_0 := (HB.out.cell (World.block_lt_of_cell? w _ hx411_0)).trans hx411_0; replace hx411_1 := (HB.out.cell (World.block_lt_of_cell? w _ hx411_1)).trans hx411_1; replace hx411_2 := (HB.out.cell (World.block_lt_of_cell? w _ hx411_2)).trans hx411_2; replace hx411_3 := (HB.out.cell (World.block_lt_of_cell? w _ hx411_3)).trans hx411_3; replace p411 := eq_true p411; replace q411 := eq_true q411)))
           go_roundg k1
           case measure => have := HK1.out; omega
           case rel => exact ⟨(x5_1), (y404), (ji12), (by first | rfl | (simp; done) | (simp only [← hji12] <;> (first | rfl | simp)) | (simp [*]; done)), H', ⟨by have := HK1.out; omega⟩, ⟨by (with_reducible repeat (first | apply Kd.S_alloc | apply Kd.S_drewN | apply Kd.S_drew)); exact Kd.S_mono HO_5.out (fun _ hk => hk.2)⟩, ⟨by (with_reducible repeat (first | apply Kd.R_alloc | apply Kd.R_drewN | apply Kd.R_drew)); exact HO406.out⟩, ⟨by repeat (first | (with_reducible first | exact HB.out | apply below_alloc | apply pw_below_drewN | apply below_drew1) | exact HB.out)⟩⟩
          ·rw [if_neg c15] at H
           have c15b0 : (((rd_T32 l1 (ji12)).f0).toList == ((rd_T32 l1 x7_1).f0).toList) = false := beq_eq_false_iff_ne.mpr c15
           have c15b1 : (((rd_T32 l1 (ji12)).f0).toList != ((rd_T32 l1 x7_1).f0).toList) = true := bne_iff_ne.mpr c15
           by_cases c18 : x5_1.length < 5864062014805
           ·rw [if_pos c18] at H
            have LMc18 := Aside0.mk c18
            clear c18
            obtain ⟨y412, hy412⟩ : ∃ y_ : List (List (S32)), y_ = (x5_1 ++ [y404]) := ⟨_, rfl⟩
            replace H : (cornucopiaref12_Cut.l0 k1 a0 l1 y412 ([] : List (S32)) ji12) = some r := by first | (rw [hy412]; with_reducible exact H) | (have H2_ := (Option.bind_some _ _).symm.trans H; rw [hy412]; with_reducible exact H2_) | (have H2_ := (Option.bind_some _ _).symm.trans H; with_reducible exact H2_) | with_reducible exact H | (rw [hy412]; exact H) | exact H
            have Ny412 := Aside0.mk hy412
            clear hy412
            have H' := Aside0.mk H
            clear H
            have p403 : 0 ≤ (x7_1 : Int) := of_decide_eq_true (by first | (with_reducible assumption) | assumption)
            have q403 : x7_1 < (l1.length : Int) := of_decide_eq_true (by first | (with_reducible assumption) | assumption)
            obtain ⟨ad403, e403, hx403_0, hx403_1, hx403_2, hx403_3⟩ := at_T32 HR1.out x7_1 p403 q403
            cases e403
            replace hx403_0 := (HB.out.cell (World.block_lt_of_cell? w _ hx403_0)).trans hx403_0
            replace hx403_1 := (HB.out.cell (World.block_lt_of_cell? w _ hx403_1)).trans hx403_1
            replace hx403_2 := (HB.out.cell (World.block_lt_of_cell? w _ hx403_2)).trans hx403_2
            replace hx403_3 := (HB.out.cell (World.block_lt_of_cell? w _ hx403_3)).trans hx403_3
            replace p403 := eq_true p403
            replace q403 := eq_true q403
            go_wp2_with (first | ((with_reducible refine gate_builtin (b := .append) (xs := #[.tmp 14, .tmp 19]) rfl ?_); (try (refine gate_guard (by rfl) ?_; dsimp only)); at_builtin; refine Kd.R_append k32 (w0 := w) w.heap.size rfl (.tmp 14) (.tmp 19) 22 32 (.agg #[(.string ⟨#[]⟩), (.int .u64 0), (.int .i64 0), (.string ⟨#[]⟩)]) 48 rfl Tryz.underlying22 info32 rfl (by decide) (by omega) u6 x6_1 (⟨(rd_T32 l1 x7_1).f0, (rd_T32 l1 x7_1).f1, (rd_T32 l1 x7_1).f2, (rd_T32 l1 x7_1).f3⟩ : S32) [.string ((rd_T32 l1 x7_1).f0), .int .u64 ((rd_T32 l1 x7_1).f1), .int .i64 ((rd_T32 l1 x7_1).f2), .string ((rd_T32 l1 x7_1).f3)] (fun _ => True) (fun _ => False) rfl rfl ?aP (fun _ hk => hk.elim) ?aF ?aO ?aB ?aS ?aL ?_; (case aP => exact k32_mkM _ _ _ (⟨(rd_T32 l1 x7_1).f0, (rd_T32 l1 x7_1).f1, (rd_T32 l1 x7_1).f2, (rd_T32 l1 x7_1).f3⟩ : S32)); (case aB => exact (by repeat (first | (with_reducible first | exact HB.out | apply below_alloc | apply pw_below_drewN | apply below_drew1) | exact HB.out))); (case aF => exact (fun _ _ => trivial)); (case aO => exact (by (with_reducible repeat (first | apply Kd.R_alloc | apply Kd.R_drewN | apply Kd.R_drew)); exact HO_6.out)); (case aS => exact (below_size (by repeat (first | (with_reducible first | exact HB.out | apply below_alloc | apply pw_below_drewN | apply below_drew1) | exact HB.out)))); (case aL => have := LMc5.out; omega); intro v405 w19 ho hb hg hat; rw [← Ny404.out] at ho; have n0_ := Aside0.mk (Kd.S_after (ok := (fun _ => True)) (by (with_reducible repeat (first | apply Kd.S_alloc | apply Kd.S_drewN | apply Kd.S_drew)); exact Kd.S_mono HO_5.out (fun _ hk => ⟨trivial, hk⟩)) hg hat); have n1_ := Aside0.mk (hb); have n2_ := Aside0.mk (ho); clear HO_5; clear HB; clear HO_6; have HO_5 := n0_; have HB := n1_; have HO406 := n2_; clear n0_ n1_ n2_; clear ho hb hg hat; obtain ⟨Ao20, co20, eo20⟩ := Kd.R_slice HO406.out; subst eo20; have p410 : 0 ≤ ((ji12) : Int) := of_decide_eq_true (by first | (with_reducible assumption) | assumption); have q410 : (ji12) < (l1.length : Int) := of_decide_eq_true (by first | (with_reducible assumption) | assumption); obtain ⟨ad410, e410, hx410_0, hx410_1, hx410_2, hx410_3⟩ := at_T32 HR1.out (ji12) p410 q410; obtain rfl : ad403 = ad410 := (by injection e410); replace hx410_0 := (HB.out.cell (World.block_lt_of_cell? w _ hx410_0)).trans hx410_0; replace hx410_1 := (HB.out.cell (World.block_lt_of_cell? w _ hx410_1)).trans hx410_1; replace hx410_2 := (HB.out.cell (World.block_lt_of_cell? w _ hx410_2)).trans hx410_2; replace hx410_3 := (HB.out.cell (World.block_lt_of_cell? w _ hx410_3)).trans hx410_3; replace p410 := eq_true p410; replace q410 := eq_true q410; have p411 : 0 ≤ (x7_1 : Int) := of_decide_eq_true (by first | (with_reducible assumption) | assumption); have q411 : x7_1 < (l1.length : Int) := of_decide_eq_true (by first | (with_reducible assumption) | assumption); obtain ⟨ad411, e411, hx411_0, hx411_1, hx411_2, hx411_3⟩ := at_T32 HR1.out x7_1 p411 q411; obtain rfl : ad403 = ad411 := (by injection e411); replace hx411_0 := (HB.out.cell (World.block_lt_of_cell? w _ hx411_0)).trans hx411_0; replace hx411_1 := (HB.out.cell (World.block_lt_of_cell? w _ hx411_1)).trans hx411_1; replace hx411_2 := (HB.out.cell (World.block_lt_of_cell? w _ hx411_2)).trans hx411_2; replace hx411_3 := (HB.out.cell (World.block_lt_of_cell? w _ hx411_3)).trans hx411_3; replace p411 := eq_true p411; replace q411 := eq_true q411) | ((with_reducible refine gate_builtin (b := .append) (xs := #[.tmp 46, .tmp 48]) rfl ?_); (try (refine gate_guard (by rfl) ?_; dsimp only)); at_builtin; refine Kd.S_append (Kd.slice 32 k32) (w0 := w) w.heap.size rfl (.tmp 46) (.tmp 48) 44 22 (.slice none 0 0) 24 rfl Tryz.underlying44 info22 rfl (by decide) (by omega) u5 x5_1 y404 [.slice Ao20 y404.length co20] (fun _ => True) (fun k_ => some k_ = (.slice Ao20 y404.length co20 : Value).ownBlock) rfl rfl ?aP (fun k_ hk_ => ((Kd.R_mono (ok' := fun k_ => ((fun _ => True)) k_ ∧ some k_ ≠ (u5 : Value).ownBlock) (Kd.R_apart' (HO406.out) (Kd.S_typed HO_5.out) (by decide)) (fun k_ hk => ⟨trivial, hk.2⟩))).1 k_ hk_.symm) ?aF ?aO ?aB ?aS ?aL ?_; (case aP => exact Kd.M_row (Kd.R_mono (Kd.R_tight rfl (Kd.R_mono (ok' := fun k_ => ((fun _ => True)) k_ ∧ some k_ ≠ (u5 : Value).ownBlock) (Kd.R_apart' (HO406.out) (Kd.S_typed HO_5.out) (by decide)) (fun k_ hk => ⟨trivial, hk.2⟩))) (fun _ h_ => h_))); (case aB => exact (by repeat (first | (with_reducible first | exact HB.out | apply below_alloc | apply pw_below_drewN | apply below_drew1) | exact HB.out))); (case aF => exact (fun _ _ => trivial)); (case aO => exact (by (with_reducible repeat (first | apply Kd.S_alloc | apply Kd.S_drewN | apply Kd.S_drew)); exact Kd.S_mono HO_5.out (fun k_ hk => ⟨trivial, fun e_ => hk.2 e_⟩))); (case aS => exact (below_size (by repeat (first | (with_reducible first | exact HB.out | apply below_alloc | apply pw_below_drewN | apply below_drew1) | exact HB.out)))); (case aL => have := LMc18.out; omega); intro v413 w21 ho hb hg hat; rw [← Ny412.out] at ho; have n0_ := Aside0.mk (hb); have n1_ := Aside0.mk (ho); clear HB; clear HO_5; clear HO406; have HB := n0_; have HO414 := n1_; clear n0_ n1_; clear ho hb hg hat))
            repeat (go_quiet (first | ((with_reducible refine gate_builtin (b := .append) (xs := #[.tmp 14, .tmp 19]) rfl ?_); (try (refine gate_guard (by rfl) ?_; dsimp only)); at_builtin; refine Kd.R_append k32 (w0 := w) w.heap.size rfl (.tmp 14) (.tmp 19) 22 32 (.agg #[(.string ⟨#[]⟩), (.int .u64 0), (.int .i64 0), (.string ⟨#[]⟩)]) 48 rfl Tryz.underlying22 info32 rfl (by decide) (by omega) u6 x6_1 (⟨(rd_T32 l1 x7_1).f0, (rd_T32 l1 x7_1).f1, (rd_T32 l1 x7_1).f2, (rd_T32 l1 x7_1).f3⟩ : S32) [.string ((rd_T32 l1 x7_1).f0), .int .u64 ((rd_T32 l1 x7_1).f1), .int .i64 ((rd_T32 l1 x7_1).f2), .string ((rd_T32 l1 x7_1).f3)] (fun _ => True) (fun _ => False) rfl rfl ?aP (fun _ hk => hk.elim) ?aF ?aO ?aB ?aS ?aL ?_; (case aP => exact k32_mkM _ _ _ (⟨(rd_T32 l1 x7_1).f0, (rd_T32 l1 x7_1).f1, (rd_T32 l1 x7_1).f2, (rd_T32 l1 x7_1).f3⟩ : S32)); (case aB => exact (by repeat (first | (with_reducible first | exact HB.out | apply below_alloc | apply pw_below_drewN | apply below_drew1) | exact HB.out))); (case aF => exact (fun _ _ => trivial)); (case aO => exact (by (with_reducible repeat (first | apply Kd.R_alloc | apply Kd.R_drewN | apply Kd.R_drew)); exact HO_6.out)); (case aS => exact (below_size (by repeat (first | (with_reducible first | exact HB.out | apply below_alloc | apply pw_below_drewN | apply below_drew1) | exact HB.out)))); (case aL => have := LMc5.out; omega); intro v405 w19 ho hb hg hat; rw [← Ny404.out] at ho; have n0_ := Aside0.mk (Kd.S_after (ok := (fun _ => True)) (by (with_reducible repeat (first | apply Kd.S_alloc | apply Kd.S_drewN | apply Kd.S_drew)); exact Kd.S_mono HO_5.out (fun _ hk => ⟨trivial, hk⟩)) hg hat); have n1_ := Aside0.mk (hb); have n2_ := Aside0.mk (ho); clear HO_5; clear HB; clear HO_6; have HO_5 := n0_; have HB := n1_; have HO406 := n2_; clear n0_ n1_ n2_; clear ho hb hg hat; obtain ⟨Ao20, co20, eo20⟩ := Kd.R_slice HO406.out; subst eo20; have p410 : 0 ≤ ((ji12) : Int) := of_decide_eq_true (by first | (with_reducible assumption) | assumption); have q410 : (ji12) < (l1.length : Int) := of_decide_eq_true (by first | (with_reducible assumption) | assumption); obtain ⟨ad410, e410, hx410_0, hx410_1, hx410_2, hx410_3⟩ := at_T32 HR1.out (ji12) p410 q410; obtain rfl : ad403 = ad410 := (by injection e410); replace hx410_0 := (HB.out.cell (World.block_lt_of_cell? w _ hx410_0)).trans hx410_0; replace hx410_1 := (HB.out.cell (World.block_lt_of_cell? w _ hx410_1)).trans hx410_1; replace hx410_2 := (HB.out.cell (World.block_lt_of_cell? w _ hx410_2)).trans hx410_2; replace hx410_3 := (HB.out.cell (World.block_lt_of_cell? w _ hx410_3)).trans hx410_3; replace p410 := eq_true p410; replace q410 := eq_true q410; have p411 : 0 ≤ (x7_1 : Int) := of_decide_eq_true (by first | (with_reducible assumption) | assumption); have q411 : x7_1 < (l1.length : Int) := of_decide_eq_true (by first | (with_reducible assumption) | assumption); obtain ⟨ad411, e411, hx411_0, hx411_1, hx411_2, hx411_3⟩ := at_T32 HR1.out x7_1 p411 q411; obtain rfl : ad403 = ad411 := (by injection e411); replace hx411_0 := (HB.out.cell (World.block_lt_of_cell? w _ hx411_0)).trans hx411_0; replace hx411_1 := (HB.out.cell (World.block_lt_of_cell? w _ hx411_1)).trans hx411_1; replace hx411_2 := (HB.out.cell (World.block_lt_of_cell? w _ hx411_2)).trans hx411_2; replace hx411_3 := (HB.out.cell (World.block_lt_of_cell? w _ hx411_3)).trans hx411_3; replace p411 := eq_true p411; replace q411 := eq_true q411) | ((with_reducible refine gate_builtin (b := .append) (xs := #[.tmp 46, .tmp 48]) rfl ?_); (try (refine gate_guard (by rfl) ?_; dsimp only)); at_builtin; refine Kd.S_append (Kd.slice 32 k32) (w0 := w) w.heap.size rfl (.tmp 46) (.tmp 48) 44 22 (.slice none 0 0) 24 rfl Tryz.underlying44 info22 rfl (by decide) (by omega) u5 x5_1 y404 [.slice Ao20 y404.length co20] (fun _ => True) (fun k_ => some k_ = (.slice Ao20 y404.length co20 : Value).ownBlock) rfl rfl ?aP (fun k_ hk_ => ((Kd.R_mono (ok' := fun k_ => ((fun _ => True)) k_ ∧ some k_ ≠ (u5 : Value).ownBlock) (Kd.R_apart' (HO406.out) (Kd.S_typed HO_5.out) (by decide)) (fun k_ hk => ⟨trivial, hk.2⟩))).1 k_ hk_.symm) ?aF ?aO ?aB ?aS ?aL ?_; (case aP => exact Kd.M_row (Kd.R_mono (Kd.R_tight rfl (Kd.R_mono (ok' := fun k_ => ((fun _ => True)) k_ ∧ some k_ ≠ (u5 : Value).ownBlock) (Kd.R_apart' (HO406.out) (Kd.S_typed HO_5.out) (by decide)) (fun k_ hk => ⟨trivial, hk.2⟩))) (fun _ h_ => h_))); (case aB => exact (by repeat (first | (with_reducible first | exact HB.out | apply below_alloc | apply pw_below_drewN | apply below_drew1) | exact HB.out))); (case aF => exact (fun _ _ => trivial)); (case aO => exact (by (with_reducible repeat (first | apply Kd.S_alloc | apply Kd.S_drewN | apply Kd.S_drew)); exact Kd.S_mono HO_5.out (fun k_ hk => ⟨trivial, fun e_ => hk.2 e_⟩))); (case aS => exact (below_size (by repeat (first | (with_reducible first | exact HB.out | apply below_alloc | apply pw_below_drewN | apply below_drew1) | exact HB.out)))); (case aL => have := LMc18.out; omega); intro v413 w21 ho hb hg hat; rw [← Ny412.out] at ho; have n0_ := Aside0.mk (hb); have n1_ := Aside0.mk (ho); clear HB; clear HO_5; clear HO406; have HB := n0_; have HO414 := n1_; clear n0_ n1_; clear ho hb hg hat)); try go_wp2_with (first | ((with_reducible refine gate_builtin (b := .append) (xs := #[.tmp 14, .tmp 19]) rfl ?_); (try (refine gate_guard (by rfl) ?_; dsimp only)); at_builtin; refine Kd.R_append k32 (w0 := w) w.heap.size rfl (.tmp 14) (.tmp 19) 22 32 (.agg #[(.string ⟨#[]⟩), (.int .u64 0), (.int .i64 0), (.string ⟨#[]⟩)]) 48 rfl Tryz.underlying22 info32 rfl (by decide) (by omega) u6 x6_1 (⟨(rd_T32 l1 x7_1).f0, (rd_T32 l1 x7_1).f1, (rd_T32 l1 x7_1).f2, (rd_T32 l1 x7_1).f3⟩ : S32) [.string ((rd_T32 l1 x7_1).f0), .int .u64 ((rd_T32 l1 x7_1).f1), .int .i64 ((rd_T32 l1 x7_1).f2), .string ((rd_T32 l1 x7_1).f3)] (fun _ => True) (fun _ => False) rfl rfl ?aP (fun _ hk => hk.elim) ?aF ?aO ?aB ?aS ?aL ?_; (case aP => exact k32_mkM _ _ _ (⟨(rd_T32 l1 x7_1).f0, (rd_T32 l1 x7_1).f1, (rd_T32 l1 x7_1).f2, (rd_T32 l1 x7_1).f3⟩ : S32)); (case aB => exact (by repeat (first | (with_reducible first | exact HB.out | apply below_alloc | apply pw_below_drewN | apply below_drew1) | exact HB.out))); (case aF => exact (fun _ _ => trivial)); (case aO => exact (by (with_reducible repeat (first | apply Kd.R_alloc | apply Kd.R_drewN | apply Kd.R_drew)); exact HO_6.out)); (case aS => exact (below_size (by repeat (first | (with_reducible first | exact HB.out | apply below_alloc | apply pw_below_drewN | apply below_drew1) | exact HB.out)))); (case aL => have := LMc5.out; omega); intro v405 w19 ho hb hg hat; rw [← Ny404.out] at ho; have n0_ := Aside0.mk (Kd.S_after (ok := (fun _ => True)) (by (with_reducible repeat (first | apply Kd.S_alloc | apply Kd.S_drewN | apply Kd.S_drew)); exact Kd.S_mono HO_5.out (fun _ hk => ⟨trivial, hk⟩)) hg hat); have n1_ := Aside0.mk (hb); have n2_ := Aside0.mk (ho); clear HO_5; clear HB; clear HO_6; have HO_5 := n0_; have HB := n1_; have HO406 := n2_; clear n0_ n1_ n2_; clear ho hb hg hat; obtain ⟨Ao20, co20, eo20⟩ := Kd.R_slice HO406.out; subst eo20; have p410 : 0 ≤ ((ji12) : Int) := of_decide_eq_true (by first | (with_reducible assumption) | assumption); have q410 : (ji12) < (l1.length : Int) := of_decide_eq_true (by first | (with_reducible assumption) | assumption); obtain ⟨ad410, e410, hx410_0, hx410_1, hx410_2, hx410_3⟩ := at_T32 HR1.out (ji12) p410 q410; obtain rfl : ad403 = ad410 := (by injection e410); replace hx410_0 := (HB.out.cell (World.block_lt_of_cell? w _ hx410_0)).trans hx410_0; replace hx410_1 := (HB.out.cell (World.block_lt_of_cell? w _ hx410_1)).trans hx410_1; replace hx410_2 := (HB.out.cell (World.block_lt_of_cell? w _ hx410_2)).trans hx410_2; replace hx410_3 := (HB.out.cell (World.block_lt_of_cell? w _ hx410_3)).trans hx410_3; replace p410 := eq_true p410; replace q410 := eq_true q410; have p411 : 0 ≤ (x7_1 : Int) := of_decide_eq_true (by first | (with_reducible assumption) | assumption); have q411 : x7_1 < (l1.length : Int) := of_decide_eq_true (by first | (with_reducible assumption) | assumption); obtain ⟨ad411, e411, hx411_0, hx411_1, hx411_2, hx411_3⟩ := at_T32 HR1.out x7_1 p411 q411; obtain rfl : ad403 = ad411 := (by injection e411); replace hx411_0 := (HB.out.cell (World.block_lt_of_cell? w _ hx411_0)).trans hx411_0; replace hx411_1 := (HB.out.cell (World.block_lt_of_cell? w _ hx411_1)).trans hx411_1; replace hx411_2 := (HB.out.cell (World.block_lt_of_cell? w _ hx411_2)).trans hx411_2; replace hx411_3 := (HB.out.cell (World.block_lt_of_cell? w _ hx411_3)).trans hx411_3; replace p411 := eq_true p411; replace q411 := eq_true q411) | ((with_reducible refine gate_builtin (b := .append) (xs := #[.tmp 46, .tmp 48]) rfl ?_); (try (refine gate_guard (by rfl) ?_; dsimp only)); at_builtin; refine Kd.S_append (Kd.slice 32 k32) (w0 := w) w.heap.size rfl (.tmp 46) (.tmp 48) 44 22 (.slice none 0 0) 24 rfl Tryz.underlying44 info22 rfl (by decide) (by omega) u5 x5_1 y404 [.slice Ao20 y404.length co20] (fun _ => True) (fun k_ => some k_ = (.slice Ao20 y404.length co20 : Value).ownBlock) rfl rfl ?aP (fun k_ hk_ => ((Kd.R_mono (ok' := fun k_ => ((fun _ => True)) k_ ∧ some k_ ≠ (u5 : Value).ownBlock) (Kd.R_apart' (HO406.out) (Kd.S_typed HO_5.out) (by decide)) (fun k_ hk => ⟨trivial, hk.2⟩))).1 k_ hk_.symm) ?aF ?aO ?aB ?aS ?aL ?_; (case aP => exact Kd.M_row (Kd.R_mono (Kd.R_tight rfl (Kd.R_mono (ok' := fun k_ => ((fun _ => True)) k_ ∧ some k_ ≠ (u5 : Value).ownBlock) (Kd.R_apart' (HO406.out) (Kd.S_typed HO_5.out) (by decide)) (fun k_ hk => ⟨trivial, hk.2⟩))) (fun _ h_ => h_))); (case aB => exact (by repeat (first | (with_reducible first | exact HB.out | apply below_alloc | apply pw_below_drewN | apply below_drew1) | exact HB.out))); (case aF => exact (fun _ _ => trivial)); (case aO => exact (by (with_reducible repeat (first | apply Kd.S_alloc | apply Kd.S_drewN | apply Kd.S_drew)); exact Kd.S_mono HO_5.out (fun k_ hk => ⟨trivial, fun e_ => hk.2 e_⟩))); (case aS => exact (below_size (by repeat (first | (with_reducible first | exact HB.out | apply below_alloc | apply pw_below_drewN | apply below_drew1) | exact HB.out)))); (case aL => have := LMc18.out; omega); intro v413 w21 ho hb hg hat; rw [← Ny412.out] at ho; have n0_ := Aside0.mk (hb); have n1_ := Aside0.mk (ho); clear HB; clear HO_5; clear HO406; have HB := n0_; have HO414 := n1_; clear n0_ n1_; clear ho hb hg hat)))
            go_roundg k1
            case measure => have := HK1.out; omega
            case rel => exact ⟨(y412), (([] : List (S32))), (ji12), (by first | rfl | (simp; done) | (simp only [← hji12] <;> (first | rfl | simp)) | (simp [*]; done)), H', ⟨by have := HK1.out; omega⟩, ⟨by (with_reducible repeat (first | apply Kd.S_alloc | apply Kd.S_drewN | apply Kd.S_drew)); exact Kd.S_mono HO414.out (fun _ hk => (by simp [Value.ownBlock]))⟩, ⟨by first | exact Kd.R_nil _ _ _ _ _ | exact Kd.N_nil _ _ _ _ _ | exact Kd.V_nil _ _ _ _ _ | exact Kd.Q_nil _ _ _ _ _ | exact Kd.S_nil _ _ _ _ _⟩, ⟨by repeat (first | (with_reducible first | exact HB.out | apply below_alloc | apply pw_below_drewN | apply below_drew1) | exact HB.out)⟩⟩
           ·rw [if_neg c18] at H
            exact absurd H (by simp)
         ·rw [if_neg c14] at H
          exact absurd H (by simp)
        ·rw [if_neg c13] at H
         exact absurd H (by simp)
       ·rw [if_neg c11] at H
        have c11b0 : decide (a0 ≤ (y404.length : Int)) = false := decide_eq_false c11
        clear c11
        have H' := Aside0.mk H
        clear H
        have p403 : 0 ≤ (x7_1 : Int) := of_decide_eq_true (by first | (with_reducible assumption) | assumption)
        have q403 : x7_1 < (l1.length : Int) := of_decide_eq_true (by first | (with_reducible assumption) | assumption)
        obtain ⟨ad403, e403, hx403_0, hx403_1, hx403_2, hx403_3⟩ := at_T32 HR1.out x7_1 p403 q403
        cases e403
        replace hx403_0 := (HB.out.cell (World.block_lt_of_cell? w _ hx403_0)).trans hx403_0
        replace hx403_1 := (HB.out.cell (World.block_lt_of_cell? w _ hx403_1)).trans hx403_1
        replace hx403_2 := (HB.out.cell (World.block_lt_of_cell? w _ hx403_2)).trans hx403_2
        replace hx403_3 := (HB.out.cell (World.block_lt_of_cell? w _ hx403_3)).trans hx403_3
        replace p403 := eq_true p403
        replace q403 := eq_true q403
        go_wp2_with (first | ((with_reducible refine gate_builtin (b := .append) (xs := #[.tmp 14, .tmp 19]) rfl ?_); (try (refine gate_guard (by rfl) ?_; dsimp only)); at_builtin; refine Kd.R_append k32 (w0 := w) w.heap.size rfl (.tmp 14) (.tmp 19) 22 32 (.agg #[(.string ⟨#[]⟩), (.int .u64 0), (.int .i64 0), (.string ⟨#[]⟩)]) 48 rfl Tryz.underlying22 info32 rfl (by decide) (by omega) u6 x6_1 (⟨(rd_T32 l1 x7_1).f0, (rd_T32 l1 x7_1).f1, (rd_T32 l1 x7_1).f2, (rd_T32 l1 x7_1).f3⟩ : S32) [.string ((rd_T32 l1 x7_1).f0), .int .u64 ((rd_T32 l1 x7_1).f1), .int .i64 ((rd_T32 l1 x7_1).f2), .string ((rd_T32 l1 x7_1).f3)] (fun _ => True) (fun _ => False) rfl rfl ?aP (fun _ hk => hk.elim) ?aF ?aO ?aB ?aS ?aL ?_; (case aP => exact k32_mkM _ _ _ (⟨(rd_T32 l1 x7_1).f0, (rd_T32 l1 x7_1).f1, (rd_T32 l1 x7_1).f2, (rd_T32 l1 x7_1).f3⟩ : S32)); (case aB => exact (by repeat (first | (with_reducible first | exact HB.out | apply below_alloc | apply pw_below_drewN | apply below_drew1) | exact HB.out))); (case aF => exact (fun _ _ => trivial)); (case aO => exact (by (with_reducible repeat (first | apply Kd.R_alloc | apply Kd.R_drewN | apply Kd.R_drew)); exact HO_6.out)); (case aS => exact (below_size (by repeat (first | (with_reducible first | exact HB.out | apply below_alloc | apply pw_below_drewN | apply below_drew1) | exact HB.out)))); (case aL => have := LMc5.out; omega); intro v405 w22 ho hb hg hat; rw [← Ny404.out] at ho; have n0_ := Aside0.mk (Kd.S_after (ok := (fun _ => True)) (by (with_reducible repeat (first | apply Kd.S_alloc | apply Kd.S_drewN | apply Kd.S_drew)); exact Kd.S_mono HO_5.out (fun _ hk => ⟨trivial, hk⟩)) hg hat); have n1_ := Aside0.mk (hb); have n2_ := Aside0.mk (ho); clear HO_5; clear HB; clear HO_6; have HO_5 := n0_; have HB := n1_; have HO406 := n2_; clear n0_ n1_ n2_; clear ho hb hg hat; obtain ⟨Ao23, co23, eo23⟩ := Kd.R_slice HO406.out; subst eo23))
        repeat (go_quiet (first | ((with_reducible refine gate_builtin (b := .append) (xs := #[.tmp 14, .tmp 19]) rfl ?_); (try (refine gate_guard (by rfl) ?_; dsimp only)); at_builtin; refine Kd.R_append k32 (w0 := w) w.heap.size rfl (.tmp 14) (.tmp 19) 22 32 (.agg #[(.string ⟨#[]⟩), (.int .u64 0), (.int .i64 0), (.string ⟨#[]⟩)]) 48 rfl Tryz.underlying22 info32 rfl (by decide) (by omega) u6 x6_1 (⟨(rd_T32 l1 x7_1).f0, (rd_T32 l1 x7_1).f1, (rd_T32 l1 x7_1).f2, (rd_T32 l1 x7_1).f3⟩ : S32) [.string ((rd_T32 l1 x7_1).f0), .int .u64 ((rd_T32 l1 x7_1).f1), .int .i64 ((rd_T32 l1 x7_1).f2), .string ((rd_T32 l1 x7_1).f3)] (fun _ => True) (fun _ => False) rfl rfl ?aP (fun _ hk => hk.elim) ?aF ?aO ?aB ?aS ?aL ?_; (case aP => exact k32_mkM _ _ _ (⟨(rd_T32 l1 x7_1).f0, (rd_T32 l1 x7_1).f1, (rd_T32 l1 x7_1).f2, (rd_T32 l1 x7_1).f3⟩ : S32)); (case aB => exact (by repeat (first | (with_reducible first | exact HB.out | apply below_alloc | apply pw_below_drewN | apply below_drew1) | exact HB.out))); (case aF => exact (fun _ _ => trivial)); (case aO => exact (by (with_reducible repeat (first | apply Kd.R_alloc | apply Kd.R_drewN | apply Kd.R_drew)); exact HO_6.out)); (case aS => exact (below_size (by repeat (first | (with_reducible first | exact HB.out | apply below_alloc | apply pw_below_drewN | apply below_drew1) | exact HB.out)))); (case aL => have := LMc5.out; omega); intro v405 w22 ho hb hg hat; rw [← Ny404.out] at ho; have n0_ := Aside0.mk (Kd.S_after (ok := (fun _ => True)) (by (with_reducible repeat (first | apply Kd.S_alloc | apply Kd.S_drewN | apply Kd.S_drew)); exact Kd.S_mono HO_5.out (fun _ hk => ⟨trivial, hk⟩)) hg hat); have n1_ := Aside0.mk (hb); have n2_ := Aside0.mk (ho); clear HO_5; clear HB; clear HO_6; have HO_5 := n0_; have HB := n1_; have HO406 := n2_; clear n0_ n1_ n2_; clear ho hb hg hat; obtain ⟨Ao23, co23, eo23⟩ := Kd.R_slice HO406.out; subst eo23)); try go_wp2_with (first | ((with_reducible refine gate_builtin (b := .append) (xs := #[.tmp 14, .tmp 19]) rfl ?_); (try (refine gate_guard (by rfl) ?_; dsimp only)); at_builtin; refine Kd.R_append k32 (w0 := w) w.heap.size rfl (.tmp 14) (.tmp 19) 22 32 (.agg #[(.string ⟨#[]⟩), (.int .u64 0), (.int .i64 0), (.string ⟨#[]⟩)]) 48 rfl Tryz.underlying22 info32 rfl (by decide) (by omega) u6 x6_1 (⟨(rd_T32 l1 x7_1).f0, (rd_T32 l1 x7_1).f1, (rd_T32 l1 x7_1).f2, (rd_T32 l1 x7_1).f3⟩ : S32) [.string ((rd_T32 l1 x7_1).f0), .int .u64 ((rd_T32 l1 x7_1).f1), .int .i64 ((rd_T32 l1 x7_1).f2), .string ((rd_T32 l1 x7_1).f3)] (fun _ => True) (fun _ => False) rfl rfl ?aP (fun _ hk => hk.elim) ?aF ?aO ?aB ?aS ?aL ?_; (case aP => exact k32_mkM _ _ _ (⟨(rd_T32 l1 x7_1).f0, (rd_T32 l1 x7_1).f1, (rd_T32 l1 x7_1).f2, (rd_T32 l1 x7_1).f3⟩ : S32)); (case aB => exact (by repeat (first | (with_reducible first | exact HB.out | apply below_alloc | apply pw_below_drewN | apply below_drew1) | exact HB.out))); (case aF => exact (fun _ _ => trivial)); (case aO => exact (by (with_reducible repeat (first | apply Kd.R_alloc | apply Kd.R_drewN | apply Kd.R_drew)); exact HO_6.out)); (case aS => exact (below_size (by repeat (first | (with_reducible first | exact HB.out | apply below_alloc | apply pw_below_drewN | apply below_drew1) | exact HB.out)))); (case aL => have := LMc5.out; omega); intro v405 w22 ho hb hg hat; rw [← Ny404.out] at ho; have n0_ := Aside0.mk (Kd.S_after (ok := (fun _ => True)) (by (with_reducible repeat (first | apply Kd.S_alloc | apply Kd.S_drewN | apply Kd.S_drew)); exact Kd.S_mono HO_5.out (fun _ hk => ⟨trivial, hk⟩)) hg hat); have n1_ := Aside0.mk (hb); have n2_ := Aside0.mk (ho); clear HO_5; clear HB; clear HO_6; have HO_5 := n0_; have HB := n1_; have HO406 := n2_; clear n0_ n1_ n2_; clear ho hb hg hat; obtain ⟨Ao23, co23, eo23⟩ := Kd.R_slice HO406.out; subst eo23)))
        go_roundg k1
        case measure => have := HK1.out; omega
        case rel => exact ⟨(x5_1), (y404), (wrap64 (x7_1 + 1)), (by first | rfl | (simp; done) | (simp [*]; done)), H', ⟨by have := HK1.out; omega⟩, ⟨by (with_reducible repeat (first | apply Kd.S_alloc | apply Kd.S_drewN | apply Kd.S_drew)); exact Kd.S_mono HO_5.out (fun _ hk => hk.2)⟩, ⟨by (with_reducible repeat (first | apply Kd.R_alloc | apply Kd.R_drewN | apply Kd.R_drew)); exact HO406.out⟩, ⟨by repeat (first | (with_reducible first | exact HB.out | apply below_alloc | apply pw_below_drewN | apply below_drew1) | exact HB.out)⟩⟩
     ·rw [if_neg c5] at H
      exact absurd H (by simp)
    ·rw [if_neg c4] at H
     exact absurd H (by simp)
   ·rw [if_neg c3] at H
    have c3b0 : decide (x7_1 < (l1.length : Int)) = false := decide_eq_false c3
    clear c3
    obtain rfl := Option.some.inj H
    go_wp2
    repeat (go_quiet (fail); try go_wp2)
    go_ret
    exact ⟨_, by first | rfl | (simp [errW_none, errW_some] <;> rfl) | (simp [*, errW_none, errW_some] <;> rfl), by (with_reducible repeat (first | apply Kd.S_alloc | apply Kd.S_drewN | apply Kd.S_drew)); exact Kd.S_mono HO_5.out (fun _ hk => trivial), by repeat (first | (with_reducible first | exact HB.out | apply below_alloc | apply pw_below_drewN | apply below_drew1) | exact HB.out)⟩
def cornucopiabook_StaysEntries.f (k : Nat) (l0 l1 : List S32) : Option Bool := if l0.length < 2932031007401 then cornucopiabook_SameEntries.f k l0 l1 else none
theorem cornucopiabook_StaysEntries.mono (y0 y1 : List S32) : ∀ k, LeO (cornucopiabook_StaysEntries.f k y0 y1) (cornucopiabook_StaysEntries.f (k + 1) y0 y1) := fun k => by
 unfold cornucopiabook_StaysEntries.f
 refine LeO.ite ?_ (LeO.none _)
 exact cornucopiabook_SameEntries.mono _ _ _
set_option maxHeartbeats 8000000 in
set_option maxRecDepth 100000 in
theorem cornucopiabook_StaysEntries.calls (k : Nat) (A0 : Option Addr) (c0 : Nat) (l0 : List S32) (A1 : Option Addr) (c1 : Nat) (l1 : List S32) (r : Bool) (w : World) (hr0 : Lent.CM k32 (⟨(⟨#[109, 97, 114, 107]⟩ : ByteArray), (0 : Int), (0 : Int), (⟨#[]⟩ : ByteArray)⟩ : S32) w A0 l0.length l0) (hc0 : l0.length + 1 ≤ c0) (hr1 : Kd.C k32 w A1 l1.length l1) (hc1 : l1.length ≤ c1) (h : cornucopiabook_StaysEntries.f k l0 l1 = some r) :
  Calls Tryz.prog 41 #[.slice A0 l0.length c0, .slice A1 l1.length c1] w fun e w' => e = .returned (.bool r) ∧ Drawn0 w w' := by
 have HR0 := Aside0.mk hr0
 have HC0 := Aside0.mk hc0
 have HR1 := Aside0.mk hr1
 have HC1 := Aside0.mk hc1
 clear hr0 hc0 hr1 hc1
 unfold cornucopiabook_StaysEntries.f at h
 split at h
 ·rename_i hl
  have HL := Aside0.mk hl
  have HA := Aside0.mk h
  clear h hl
  have hw : wrap64 ((l0.length : Int) + 1) = (((l0.length + 1 : Nat)) : Int) := by have := HL.out; unfold wrap64; omega
  have hw2 : IntKind.i64.wrap ((l0.length : Int) + 1) = (((l0.length + 1 : Nat)) : Int) := (i64_w _).trans hw
  have hle : (l0.length : Int) + 1 ≤ (c0 : Int) := by have := HC0.out; omega
  have hle2 : decide ((l0.length : Int) + 1 ≤ (c0 : Int)) = true := decide_eq_true hle
  have hge : (0 : Int) ≤ (l0.length : Int) + 1 := by omega
  obtain ⟨ad, e0, hx, hx1, hx2, hx3⟩ := at_T32 HR0.out.1 (l0.length : Int) (by omega) (by omega)
  subst e0
  have hmk : rd_T32 (l0 ++ [(⟨(⟨#[109, 97, 114, 107]⟩ : ByteArray), (0 : Int), (0 : Int), (⟨#[]⟩ : ByteArray)⟩ : S32)]) (l0.length : Int) = (⟨(⟨#[109, 97, 114, 107]⟩ : ByteArray), (0 : Int), (0 : Int), (⟨#[]⟩ : ByteArray)⟩ : S32) := by simp [rd_T32]
  rw [hmk] at hx hx1 hx2 hx3
  simp only [Int.toNat_natCast] at hx hx1 hx2 hx3
  have hlt : decide ((l0.length : Int) < ((l0.length + 1 : Nat) : Int)) = true := decide_eq_true (by omega)
  go_enter Tryz.func41, Tryz.ntmps41
  cases r
  ·go_wp2_with (go_at_call 19; refine (cornucopiabook_SameEntries.calls k _ _ l0 _ _ l1 false _ HR0.out.2 (by have := HC0.out; omega) HR1.out HC1.out HA.out).mono ?_; rintro e w' ⟨rfl, ⟨nd, rfl⟩⟩)
   go_ret
   exact ⟨by first | rfl | (simp; done) | (simp [*]; done), by repeat (first | exact Drawn0.refl _ | apply Drawn0.step)⟩
  ·go_wp2_with (go_at_call 19; refine (cornucopiabook_SameEntries.calls k _ _ l0 _ _ l1 true _ HR0.out.2 (by have := HC0.out; omega) HR1.out HC1.out HA.out).mono ?_; rintro e w' ⟨rfl, ⟨nd, rfl⟩⟩)
   go_ret
   exact ⟨by first | rfl | (simp; done) | (simp [*]; done), by repeat (first | exact Drawn0.refl _ | apply Drawn0.step)⟩
 ·cases h
end Go.Proofs.YtchgpcgolgcfdaaGreat.PNum
end
