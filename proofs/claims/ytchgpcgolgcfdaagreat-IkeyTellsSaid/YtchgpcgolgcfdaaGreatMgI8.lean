/- Texts of this claim, put together and cut down to what is used (I8). -/
import Derived.Test.YtchgpcgolgcfdaaGreatMgI3
import Derived.Test.YtchgpcgolgcfdaaGreatMgI7
import Derived.Test.YtchgpcgolgcfdaaGreatMgI6
import Derived.Test.YtchgpcgolgcfdaaGreatMgI1
section
namespace Go.Proofs.YtchgpcgolgcfdaaGreat.PNum
open Go.RowKit Go.Proofs.YtchgpcgolgcfdaaGreatW.PrintWords Go.Proofs.YtchgpcgolgcfdaaGreatW.PrintLast Go.Proofs.YtchgpcgolgcfdaaGreatW.PrintMore
attribute [local go_sem] max2_int min2_int max_two min_two max_three min_three max_four min_four   -- for this text's walks alone
set_option linter.unusedVariables false
set_option linter.unusedSimpArgs false
mutual
def cornucopiaref5_Get.j0 : Nat → Int → Bool → ByteArray → Int → ByteArray → Int → Int → ByteArray → Option (ByteArray × Int × Int × ByteArray × ByteArray × Int)
 | 0, _, _, _, _, _, _, _, _ => none
 | k + 1, x4, x21, x1000, x1001, x540000, x540001, x540002, x540003 => if x21 = true then (cornucopiaref5_Get.j1 k x1000 x1001 x540000 x540001 (wrap64 (x4)) x540003) else (cornucopiaref5_Get.j1 k x1000 x1001 x540000 x540001 x540002 x540003)
def cornucopiaref5_Get.j1 : Nat → ByteArray → Int → ByteArray → Int → Int → ByteArray → Option (ByteArray × Int × Int × ByteArray × ByteArray × Int)
 | 0, _, _, _, _, _, _ => none
 | k + 1, x1000, x1001, x540000, x540001, x540002, x540003 => if x1001 = 0 then ((cornucopiaref5_Valid.f x540000 x540001 x540002 x540003).bind fun t552 => (cornucopiaref5_Get.j2 k (!t552) x1000 x1001 x540000 x540001 x540002 x540003)) else (cornucopiaref5_Get.j2 k false x1000 x1001 x540000 x540001 x540002 x540003)
def cornucopiaref5_Get.j2 : Nat → Bool → ByteArray → Int → ByteArray → Int → Int → ByteArray → Option (ByteArray × Int × Int × ByteArray × ByteArray × Int)
 | 0, _, _, _, _, _, _, _ => none
 | k + 1, x34, x1000, x1001, x540000, x540001, x540002, x540003 => if x34 = true then ((cornucopiaref1_Reader_Fail.f x1000 x1001 4).bind fun bt553 => (if bt553.2 = 0 then (some (x540000, x540001, x540002, x540003, bt553.1, bt553.2)) else (some ((⟨#[]⟩ : ByteArray), 0, 0, (⟨#[]⟩ : ByteArray), bt553.1, bt553.2)))) else (if x1001 = 0 then (some (x540000, x540001, x540002, x540003, x1000, x1001)) else (some ((⟨#[]⟩ : ByteArray), 0, 0, (⟨#[]⟩ : ByteArray), x1000, x1001)))
end
def cornucopiaref5_Get.f (k : Nat) (s0_0 : ByteArray) (s0_1 : Int) : Option (ByteArray × Int × Int × ByteArray × ByteArray × Int) := (cornucopiaref1_Reader_Text.f k s0_0 s0_1 300).bind fun bt540 => ((cornucopiaref1_Reader_Var.f k bt540.2.1 bt540.2.2).bind fun bt543 => ((cornucopiaref1_Reader_Var.f k bt543.2.1 bt543.2.2).bind fun bt546 => ((cornucopiaref1_Reader_Text.f k bt546.2.1 bt546.2.2 60000).bind fun bt549 => (if bt546.1 = 1 then (cornucopiaref5_Get.j0 k bt546.1 true bt549.2.1 bt549.2.2 bt540.1 bt543.1 0 bt549.1) else (cornucopiaref5_Get.j0 k bt546.1 (bt546.1 == 2) bt549.2.1 bt549.2.2 bt540.1 bt543.1 0 bt549.1)))))
theorem cornucopiaref5_Get.mono_l : ∀ k, (∀ y0 y1 y2 y3 y4 y5 y6 y7, LeO (cornucopiaref5_Get.j0 k y0 y1 y2 y3 y4 y5 y6 y7) (cornucopiaref5_Get.j0 (k + 1) y0 y1 y2 y3 y4 y5 y6 y7)) ∧ (∀ y0 y1 y2 y3 y4 y5, LeO (cornucopiaref5_Get.j1 k y0 y1 y2 y3 y4 y5) (cornucopiaref5_Get.j1 (k + 1) y0 y1 y2 y3 y4 y5)) ∧ (∀ y0 y1 y2 y3 y4 y5 y6, LeO (cornucopiaref5_Get.j2 k y0 y1 y2 y3 y4 y5 y6) (cornucopiaref5_Get.j2 (k + 1) y0 y1 y2 y3 y4 y5 y6))
 | 0 => ⟨fun _ _ _ _ _ _ _ _ r h => by simp [cornucopiaref5_Get.j0] at h, fun _ _ _ _ _ _ r h => by simp [cornucopiaref5_Get.j1] at h, fun _ _ _ _ _ _ _ r h => by simp [cornucopiaref5_Get.j2] at h⟩
 | k + 1 => by
  obtain ⟨ih0, ih1, ih2⟩ := cornucopiaref5_Get.mono_l k
  refine ⟨?_, ?_, ?_⟩
  ·intro y0 y1 y2 y3 y4 y5 y6 y7
   unfold cornucopiaref5_Get.j0
   repeat' first
   | (with_reducible exact ih0 _ _ _ _ _ _ _ _)
   | (with_reducible exact ih1 _ _ _ _ _ _)
   | (with_reducible exact ih2 _ _ _ _ _ _ _)
   | (with_reducible exact cornucopiaref1_Reader_Text.mono _ _ _ _)
   | (with_reducible exact cornucopiaref1_Reader_Var.mono _ _ _)
   | (with_reducible exact LeO.refl _)
   | (with_reducible exact LeO.none _)
   | (with_reducible refine LeO.ite ?_ ?_)
   | (with_reducible refine LeO.bind ?_ (fun _ => ?_))
   | exact ih0 _ _ _ _ _ _ _ _
   | exact ih1 _ _ _ _ _ _
   | exact ih2 _ _ _ _ _ _ _
   | exact cornucopiaref1_Reader_Text.mono _ _ _ _
   | exact cornucopiaref1_Reader_Var.mono _ _ _
   | exact LeO.none _
   | refine LeO.ite ?_ ?_
   | refine LeO.bind ?_ (fun _ => ?_)
  ·intro y0 y1 y2 y3 y4 y5
   unfold cornucopiaref5_Get.j1
   repeat' first
   | (with_reducible exact ih0 _ _ _ _ _ _ _ _)
   | (with_reducible exact ih1 _ _ _ _ _ _)
   | (with_reducible exact ih2 _ _ _ _ _ _ _)
   | (with_reducible exact cornucopiaref1_Reader_Text.mono _ _ _ _)
   | (with_reducible exact cornucopiaref1_Reader_Var.mono _ _ _)
   | (with_reducible exact LeO.refl _)
   | (with_reducible exact LeO.none _)
   | (with_reducible refine LeO.ite ?_ ?_)
   | (with_reducible refine LeO.bind ?_ (fun _ => ?_))
   | exact ih0 _ _ _ _ _ _ _ _
   | exact ih1 _ _ _ _ _ _
   | exact ih2 _ _ _ _ _ _ _
   | exact cornucopiaref1_Reader_Text.mono _ _ _ _
   | exact cornucopiaref1_Reader_Var.mono _ _ _
   | exact LeO.none _
   | refine LeO.ite ?_ ?_
   | refine LeO.bind ?_ (fun _ => ?_)
  ·intro y0 y1 y2 y3 y4 y5 y6
   unfold cornucopiaref5_Get.j2
   repeat' first
   | (with_reducible exact ih0 _ _ _ _ _ _ _ _)
   | (with_reducible exact ih1 _ _ _ _ _ _)
   | (with_reducible exact ih2 _ _ _ _ _ _ _)
   | (with_reducible exact cornucopiaref1_Reader_Text.mono _ _ _ _)
   | (with_reducible exact cornucopiaref1_Reader_Var.mono _ _ _)
   | (with_reducible exact LeO.refl _)
   | (with_reducible exact LeO.none _)
   | (with_reducible refine LeO.ite ?_ ?_)
   | (with_reducible refine LeO.bind ?_ (fun _ => ?_))
   | exact ih0 _ _ _ _ _ _ _ _
   | exact ih1 _ _ _ _ _ _
   | exact ih2 _ _ _ _ _ _ _
   | exact cornucopiaref1_Reader_Text.mono _ _ _ _
   | exact cornucopiaref1_Reader_Var.mono _ _ _
   | exact LeO.none _
   | refine LeO.ite ?_ ?_
   | refine LeO.bind ?_ (fun _ => ?_)
theorem cornucopiaref5_Get.mono : ∀ a0 a1 k, LeO (cornucopiaref5_Get.f k a0 a1) (cornucopiaref5_Get.f (k + 1) a0 a1) := by
 intro a0 a1 k
 obtain ⟨ih0, ih1, ih2⟩ := cornucopiaref5_Get.mono_l k
 unfold cornucopiaref5_Get.f
 repeat' first
   | (with_reducible exact ih0 _ _ _ _ _ _ _ _)
   | (with_reducible exact ih1 _ _ _ _ _ _)
   | (with_reducible exact ih2 _ _ _ _ _ _ _)
   | (with_reducible exact cornucopiaref1_Reader_Text.mono _ _ _ _)
   | (with_reducible exact cornucopiaref1_Reader_Var.mono _ _ _)
   | (with_reducible exact LeO.refl _)
   | (with_reducible exact LeO.none _)
   | (with_reducible refine LeO.ite ?_ ?_)
   | (with_reducible refine LeO.bind ?_ (fun _ => ?_))
   | exact ih0 _ _ _ _ _ _ _ _
   | exact ih1 _ _ _ _ _ _
   | exact ih2 _ _ _ _ _ _ _
   | exact cornucopiaref1_Reader_Text.mono _ _ _ _
   | exact cornucopiaref1_Reader_Var.mono _ _ _
   | exact LeO.none _
   | refine LeO.ite ?_ ?_
   | refine LeO.bind ?_ (fun _ => ?_)
set_option maxHeartbeats 8000000 in
set_option maxRecDepth 100000 in
theorem cornucopiaref5_Get.calls (k : Nat) (g : Nat) (s0_0 : ByteArray) (s0_1 : Int) (r1 : ByteArray) (r2 : Int) (r3 : Int) (r4 : ByteArray) (r5 : ByteArray) (r6 : Int) (w0 w : World) (hI : IsS97 w0 w g s0_0 s0_1) (hB : Below w0.heap.size w0 w) (h : cornucopiaref5_Get.f k s0_0 s0_1 = some (r1, r2, r3, r4, r5, r6)) :
  Calls Tryz.prog 51 #[.pointer (some ⟨g, 0, none⟩)] w fun e w' => e = .returned (.agg #[.string r1, .int .u64 r2, .int .i64 r3, .string r4]) ∧ IsS97 w0 w' g r5 r6 ∧ Below w0.heap.size w0 w' ∧ KeepBut w w' g none := by
 have hu32 := Tryz.underlying32
 have HI0 := Aside0.mk hI
 have HK := Aside0.mk (KeepBut.refl w g none)
 have HL := Aside0.mk hB.size
 clear hI
 have HW0 := Aside0.mk hB.size
 have HB := Aside0.mk hB
 clear hB
 have H : ((cornucopiaref1_Reader_Text.f k s0_0 s0_1 300).bind fun bt540 => ((cornucopiaref1_Reader_Var.f k bt540.2.1 bt540.2.2).bind fun bt543 => ((cornucopiaref1_Reader_Var.f k bt543.2.1 bt543.2.2).bind fun bt546 => ((cornucopiaref1_Reader_Text.f k bt546.2.1 bt546.2.2 60000).bind fun bt549 => (if bt546.1 = 1 then (cornucopiaref5_Get.j0 k bt546.1 true bt549.2.1 bt549.2.2 bt540.1 bt543.1 0 bt549.1) else (cornucopiaref5_Get.j0 k bt546.1 (bt546.1 == 2) bt549.2.1 bt549.2.2 bt540.1 bt543.1 0 bt549.1)))))) = some (r1, r2, r3, r4, r5, r6) := h
 clear h
 replace H := Option.bind_eq_some_iff.mp H
 obtain ⟨⟨t540, t541, t542⟩, A20, H⟩ := H
 replace H : ((cornucopiaref1_Reader_Var.f k t541 t542).bind fun bt543 => ((cornucopiaref1_Reader_Var.f k bt543.2.1 bt543.2.2).bind fun bt546 => ((cornucopiaref1_Reader_Text.f k bt546.2.1 bt546.2.2 60000).bind fun bt549 => (if bt546.1 = 1 then (cornucopiaref5_Get.j0 k bt546.1 true bt549.2.1 bt549.2.2 t540 bt543.1 0 bt549.1) else (cornucopiaref5_Get.j0 k bt546.1 (bt546.1 == 2) bt549.2.1 bt549.2.2 t540 bt543.1 0 bt549.1))))) = some (r1, r2, r3, r4, r5, r6) := H
 have A2 := Aside0.mk A20
 clear A20
 replace H := Option.bind_eq_some_iff.mp H
 obtain ⟨⟨t543, t544, t545⟩, A30, H⟩ := H
 replace H : ((cornucopiaref1_Reader_Var.f k t544 t545).bind fun bt546 => ((cornucopiaref1_Reader_Text.f k bt546.2.1 bt546.2.2 60000).bind fun bt549 => (if bt546.1 = 1 then (cornucopiaref5_Get.j0 k bt546.1 true bt549.2.1 bt549.2.2 t540 t543 0 bt549.1) else (cornucopiaref5_Get.j0 k bt546.1 (bt546.1 == 2) bt549.2.1 bt549.2.2 t540 t543 0 bt549.1)))) = some (r1, r2, r3, r4, r5, r6) := H
 have A3 := Aside0.mk A30
 clear A30
 replace H := Option.bind_eq_some_iff.mp H
 obtain ⟨⟨t546, t547, t548⟩, A40, H⟩ := H
 replace H : ((cornucopiaref1_Reader_Text.f k t547 t548 60000).bind fun bt549 => (if t546 = 1 then (cornucopiaref5_Get.j0 k t546 true bt549.2.1 bt549.2.2 t540 t543 0 bt549.1) else (cornucopiaref5_Get.j0 k t546 (t546 == 2) bt549.2.1 bt549.2.2 t540 t543 0 bt549.1))) = some (r1, r2, r3, r4, r5, r6) := H
 have A4 := Aside0.mk A40
 clear A40
 replace H := Option.bind_eq_some_iff.mp H
 obtain ⟨⟨t549, t550, t551⟩, A50, H⟩ := H
 replace H : (if t546 = 1 then (cornucopiaref5_Get.j0 k t546 true t550 t551 t540 t543 0 t549) else (cornucopiaref5_Get.j0 k t546 (t546 == 2) t550 t551 t540 t543 0 t549)) = some (r1, r2, r3, r4, r5, r6) := H
 have A5 := Aside0.mk A50
 clear A50
 have HC6 := Aside0.mk H
 clear H
 go_enter Tryz.func51, Tryz.ntmps51
 go_upto_region 6 with (first | ((with_reducible refine gate_dst (N := 2) rfl ?_); refine box_event ?hg (N := 2) ?hd (cs := #[.string (⟨#[]⟩ : ByteArray), .int .u64 0, .int .i64 0, .string (⟨#[]⟩ : ByteArray)]) (t := 32) ?hr ?_; (case hd => rfl); (case hg => rfl); (case hr => first | (go_simp; done) | (go_simp; rfl)); intro gb538 hg w7 hbox hb; have n0_ := Aside0.mk (IsS97.below (by repeat (first | (with_reducible first | exact HI0.out | apply IsS97.alloc | apply IsS97.drewN | apply IsS97.drew | apply IsS97.set_0 | apply IsS97.set_1) | exact HI0.out)) hb); have n1_ := Aside0.mk (KeepBut.trans (by repeat (first | (with_reducible first | exact HK.out | apply KeepBut.set_ | apply keep_drewN | apply keep_drew | apply keep_alloc) | exact HK.out)) (KeepBut.of_below hb g none) (.inl rfl)); have n2_ := Aside0.mk (below_step (by repeat (first | (with_reducible first | exact HB.out | apply below_alloc | apply pw_below_drewN | apply below_drew1 | refine below_set ?_ (IsS97.ge HI0.out)) | exact HB.out)) hb); have n3_ := Aside0.mk (hbox); have n4_ := Aside0.mk ((by rw [hg]; exact (keep_size (w := w) (g := g) (row := none) (by repeat (first | (with_reducible first | exact HK.out | apply KeepBut.set_ | apply keep_drewN | apply keep_drew | apply keep_alloc) | exact HK.out))) : w.heap.size ≤ gb538)); have n5_ := Aside0.mk ((Nat.le_trans HW0.out (by rw [hg]; exact (keep_size (w := w) (g := g) (row := none) (by repeat (first | (with_reducible first | exact HK.out | apply KeepBut.set_ | apply keep_drewN | apply keep_drew | apply keep_alloc) | exact HK.out))) : w.heap.size ≤ gb538) : w0.heap.size ≤ gb538)); have n6_ := Aside0.mk ((by rw [hg]; exact Nat.ne_of_lt (IsS97.lt (show IsS97 w0 _ g s0_0 s0_1 from by repeat (first | (with_reducible first | exact HI0.out | apply IsS97.alloc | apply IsS97.drewN | apply IsS97.drew | apply IsS97.set_0 | apply IsS97.set_1) | exact HI0.out))) : g ≠ gb538)); have n7_ := Aside0.mk ((by rw [hg]; exact Nat.ne_of_gt (IsS97.lt (show IsS97 w0 _ g s0_0 s0_1 from by repeat (first | (with_reducible first | exact HI0.out | apply IsS97.alloc | apply IsS97.drewN | apply IsS97.drew | apply IsS97.set_0 | apply IsS97.set_1) | exact HI0.out))) : gb538 ≠ g)); clear HI0; clear HK; clear HB; have HI0 := n0_; have HK := n1_; have HB := n2_; have BK538 := n3_; have GW538 := n4_; have GE538 := n5_; have NB0_538 := n6_; have NB538_0 := n7_; clear n0_ n1_ n2_ n3_ n4_ n5_ n6_ n7_; clear hb hbox hg) | ((with_reducible refine gate_dst (N := 3) rfl ?_); refine box_event ?hg (N := 3) ?hd (cs := #[.string (⟨#[]⟩ : ByteArray), .int .u64 0, .int .i64 0, .string (⟨#[]⟩ : ByteArray)]) (t := 32) ?hr ?_; (case hd => rfl); (case hg => rfl); (case hr => first | (go_simp; done) | (go_simp; rfl)); intro gb539 hg w8 hbox hb; have n0_ := Aside0.mk (IsS97.below (by repeat (first | (with_reducible first | exact HI0.out | apply IsS97.alloc | apply IsS97.drewN | apply IsS97.drew | apply IsS97.set_0 | apply IsS97.set_1 | refine IsS97.far ?_ NB0_538.out _) | exact HI0.out)) hb); have n1_ := Aside0.mk (blk_below (g := gb538) (o := .cells #[.string (⟨#[]⟩ : ByteArray), .int .u64 0, .int .i64 0, .string (⟨#[]⟩ : ByteArray)] 32 (0, 0)) (by (with_reducible repeat (first | refine blk_drewN ?_ _ | refine blk_drew ?_ | refine blk_alloc ?_ _)); exact BK538.out) hb); have n2_ := Aside0.mk (KeepBut.trans (by repeat (first | (with_reducible first | exact HK.out | apply KeepBut.set_ | apply keep_drewN | apply keep_drew | apply keep_alloc | refine keep_far ?_ GW538.out _) | exact HK.out)) (KeepBut.of_below hb g none) (.inl rfl)); have n3_ := Aside0.mk (below_step (by repeat (first | (with_reducible first | exact HB.out | apply below_alloc | apply pw_below_drewN | apply below_drew1 | refine below_set ?_ (IsS97.ge HI0.out) | refine below_set ?_ GE538.out) | exact HB.out)) hb); have n4_ := Aside0.mk (hbox); have n5_ := Aside0.mk ((by rw [hg]; exact (keep_size (w := w) (g := g) (row := none) (by repeat (first | (with_reducible first | exact HK.out | apply KeepBut.set_ | apply keep_drewN | apply keep_drew | apply keep_alloc | refine keep_far ?_ GW538.out _) | exact HK.out))) : w.heap.size ≤ gb539)); have n6_ := Aside0.mk ((Nat.le_trans HW0.out (by rw [hg]; exact (keep_size (w := w) (g := g) (row := none) (by repeat (first | (with_reducible first | exact HK.out | apply KeepBut.set_ | apply keep_drewN | apply keep_drew | apply keep_alloc | refine keep_far ?_ GW538.out _) | exact HK.out))) : w.heap.size ≤ gb539) : w0.heap.size ≤ gb539)); have n7_ := Aside0.mk ((by rw [hg]; exact Nat.ne_of_lt (blk_lt (g := gb538) (o := .cells #[.string (⟨#[]⟩ : ByteArray), .int .u64 0, .int .i64 0, .string (⟨#[]⟩ : ByteArray)] 32 (0, 0)) (by (with_reducible repeat (first | refine blk_drewN ?_ _ | refine blk_drew ?_ | refine blk_alloc ?_ _)); exact BK538.out)) : gb538 ≠ gb539)); have n8_ := Aside0.mk ((by rw [hg]; exact Nat.ne_of_gt (blk_lt (g := gb538) (o := .cells #[.string (⟨#[]⟩ : ByteArray), .int .u64 0, .int .i64 0, .string (⟨#[]⟩ : ByteArray)] 32 (0, 0)) (by (with_reducible repeat (first | refine blk_drewN ?_ _ | refine blk_drew ?_ | refine blk_alloc ?_ _)); exact BK538.out)) : gb539 ≠ gb538)); have n9_ := Aside0.mk ((by rw [hg]; exact Nat.ne_of_lt (IsS97.lt (show IsS97 w0 _ g s0_0 s0_1 from by repeat (first | (with_reducible first | exact HI0.out | apply IsS97.alloc | apply IsS97.drewN | apply IsS97.drew | apply IsS97.set_0 | apply IsS97.set_1 | refine IsS97.far ?_ NB0_538.out _) | exact HI0.out))) : g ≠ gb539)); have n10_ := Aside0.mk ((by rw [hg]; exact Nat.ne_of_gt (IsS97.lt (show IsS97 w0 _ g s0_0 s0_1 from by repeat (first | (with_reducible first | exact HI0.out | apply IsS97.alloc | apply IsS97.drewN | apply IsS97.drew | apply IsS97.set_0 | apply IsS97.set_1 | refine IsS97.far ?_ NB0_538.out _) | exact HI0.out))) : gb539 ≠ g)); clear HI0; clear BK538; clear HK; clear HB; have HI0 := n0_; have BK538 := n1_; have HK := n2_; have HB := n3_; have BK539 := n4_; have GW539 := n5_; have GE539 := n6_; have NB538_539 := n7_; have NB539_538 := n8_; have NB0_539 := n9_; have NB539_0 := n10_; clear n0_ n1_ n2_ n3_ n4_ n5_ n6_ n7_ n8_ n9_ n10_; clear hb hbox hg) | ((with_reducible refine gate_callee (f := 174) rfl ?_); refine goesL_ (some 6) rfl rfl Tryz.func174 (by kernel_rfl) rfl #[.pointer (some ⟨g, 0, none⟩), .int .i64 300] rfl (by (try simp only [List.map_toArray, List.map_cons, List.map_nil]); first | done | rfl | (simp only [List.length_drop, List.length_take]; rfl)) ?_; (with_reducible refine (cornucopiaref1_Reader_Text.calls k g s0_0 s0_1 300 t540 t541 t542 w0 _ ?side1 ?side2 A2.out).mono ?_); (case side1 => repeat (first | (with_reducible first | exact HI0.out | apply IsS97.alloc | apply IsS97.drewN | apply IsS97.drew | apply IsS97.set_0 | apply IsS97.set_1 | refine IsS97.far ?_ NB0_538.out _ | refine IsS97.far ?_ NB0_539.out _) | exact HI0.out)); (case side2 => repeat (first | (with_reducible first | exact HB.out | apply below_alloc | apply pw_below_drewN | apply below_drew1 | refine below_set ?_ (IsS97.ge HI0.out) | refine below_set ?_ GE538.out | refine below_set ?_ GE539.out) | exact HB.out)); rintro e w9 ⟨rfl, hi, hb, hk⟩; refine ⟨_, rfl, ?_⟩; have n0_ := Aside0.mk (KeepBut.blk hk (g' := gb538) (o := .cells #[.string (⟨#[]⟩ : ByteArray), .int .u64 0, .int .i64 0, .string (⟨#[]⟩ : ByteArray)] 32 (0, 0)) (by (with_reducible repeat (first | refine blk_drewN ?_ _ | refine blk_drew ?_ | refine blk_alloc ?_ _)); exact BK538.out) NB538_0.out (by simp)); have n1_ := Aside0.mk (KeepBut.blk hk (g' := gb539) (o := .cells #[.string (⟨#[]⟩ : ByteArray), .int .u64 0, .int .i64 0, .string (⟨#[]⟩ : ByteArray)] 32 (0, 0)) (by (with_reducible repeat (first | refine blk_drewN ?_ _ | refine blk_drew ?_ | refine blk_alloc ?_ _)); exact BK539.out) NB539_0.out (by simp)); have n2_ := Aside0.mk (KeepBut.trans (by repeat (first | (with_reducible first | exact HK.out | apply KeepBut.set_ | apply keep_drewN | apply keep_drew | apply keep_alloc | refine keep_far ?_ GW538.out _ | refine keep_far ?_ GW539.out _) | exact HK.out)) hk (.inl rfl)); have n3_ := Aside0.mk (hb); have n4_ := Aside0.mk (hi); clear BK538; clear BK539; clear HK; clear HB; clear HI0; have BK538 := n0_; have BK539 := n1_; have HK := n2_; have HB := n3_; have HI0 := n4_; clear n0_ n1_ n2_ n3_ n4_; (try clear hb); (try clear hb2); (try clear hk); (try clear hi); have hnb10 := NB539_538.out; have hnc10 := NB538_539.out; have hnb11 := NB539_0.out; have hnc11 := NB0_539.out; have hcz12_0 : w9.cell? ⟨gb539, 0, none⟩ = some (.string (⟨#[]⟩ : ByteArray)) := (blk_cell BK539.out 0).trans rfl; have hcz12_1 : w9.cell? ⟨gb539, 1, none⟩ = some (.int .u64 0) := (blk_cell BK539.out 1).trans rfl; have hcz12_2 : w9.cell? ⟨gb539, 2, none⟩ = some (.int .i64 0) := (blk_cell BK539.out 2).trans rfl; have hcz12_3 : w9.cell? ⟨gb539, 3, none⟩ = some (.string (⟨#[]⟩ : ByteArray)) := (blk_cell BK539.out 3).trans rfl; have hfz12_0 := blk_frozen BK539.out 0; have hfz12_1 := blk_frozen BK539.out 1; have hfz12_2 := blk_frozen BK539.out 2; have hfz12_3 := blk_frozen BK539.out 3) | ((with_reducible refine gate_callee (f := 175) rfl ?_); refine goesL_ (some 9) rfl rfl Tryz.func175 (by kernel_rfl) rfl #[.pointer (some ⟨g, 0, none⟩)] rfl (by (try simp only [List.map_toArray, List.map_cons, List.map_nil]); first | done | rfl | (simp only [List.length_drop, List.length_take]; rfl)) ?_; (with_reducible refine (cornucopiaref1_Reader_Var.calls k g t541 t542 t543 t544 t545 w0 _ ?side1 ?side2 A3.out).mono ?_); (case side1 => repeat (first | (with_reducible first | exact HI0.out | apply IsS97.alloc | apply IsS97.drewN | apply IsS97.drew | apply IsS97.set_0 | apply IsS97.set_1 | refine IsS97.far ?_ NB0_538.out _ | refine IsS97.far ?_ NB0_539.out _) | exact HI0.out)); (case side2 => repeat (first | (with_reducible first | exact HB.out | apply below_alloc | apply pw_below_drewN | apply below_drew1 | refine below_set ?_ (IsS97.ge HI0.out) | refine below_set ?_ GE538.out | refine below_set ?_ GE539.out) | exact HB.out)); rintro e w13 ⟨rfl, hi, hb, hk⟩; refine ⟨_, rfl, ?_⟩; have n0_ := Aside0.mk (KeepBut.blk hk (g' := gb538) (o := .cells #[.string (⟨#[]⟩ : ByteArray), .int .u64 0, .int .i64 0, .string (⟨#[]⟩ : ByteArray)] 32 (0, 0)) (by (with_reducible repeat (first | refine blk_drewN ?_ _ | refine blk_drew ?_ | refine blk_alloc ?_ _)); refine blk_far ?_ NB538_539.out _; (with_reducible repeat (first | refine blk_drewN ?_ _ | refine blk_drew ?_ | refine blk_alloc ?_ _)); exact BK538.out) NB538_0.out (by simp)); have n1_ := Aside0.mk (KeepBut.blk hk (g' := gb539) (o := .cells #[.string t540, .int .u64 0, .int .i64 0, .string (⟨#[]⟩ : ByteArray)] 32 (0, 0)) (by (with_reducible repeat (first | refine blk_drewN ?_ _ | refine blk_drew ?_ | refine blk_alloc ?_ _)); refine blk_put (cs := #[.string (⟨#[]⟩ : ByteArray), .int .u64 0, .int .i64 0, .string (⟨#[]⟩ : ByteArray)]) ?_ 0 _ rfl; (with_reducible repeat (first | refine blk_drewN ?_ _ | refine blk_drew ?_ | refine blk_alloc ?_ _)); exact BK539.out) NB539_0.out (by simp)); have n2_ := Aside0.mk (KeepBut.trans (by repeat (first | (with_reducible first | exact HK.out | apply KeepBut.set_ | apply keep_drewN | apply keep_drew | apply keep_alloc | refine keep_far ?_ GW538.out _ | refine keep_far ?_ GW539.out _) | exact HK.out)) hk (.inl rfl)); have n3_ := Aside0.mk (hb); have n4_ := Aside0.mk (hi); clear BK538; clear BK539; clear HK; clear HB; clear HI0; have BK538 := n0_; have BK539 := n1_; have HK := n2_; have HB := n3_; have HI0 := n4_; clear n0_ n1_ n2_ n3_ n4_; (try clear hb); (try clear hb2); (try clear hk); (try clear hi); have hcz14_0 : w13.cell? ⟨gb539, 0, none⟩ = some (.string t540) := (blk_cell BK539.out 0).trans rfl; have hcz14_1 : w13.cell? ⟨gb539, 1, none⟩ = some (.int .u64 0) := (blk_cell BK539.out 1).trans rfl; have hcz14_2 : w13.cell? ⟨gb539, 2, none⟩ = some (.int .i64 0) := (blk_cell BK539.out 2).trans rfl; have hcz14_3 : w13.cell? ⟨gb539, 3, none⟩ = some (.string (⟨#[]⟩ : ByteArray)) := (blk_cell BK539.out 3).trans rfl; have hfz14_0 := blk_frozen BK539.out 0; have hfz14_1 := blk_frozen BK539.out 1; have hfz14_2 := blk_frozen BK539.out 2; have hfz14_3 := blk_frozen BK539.out 3) | ((with_reducible refine gate_callee (f := 175) rfl ?_); refine goesL_ (some 12) rfl rfl Tryz.func175 (by kernel_rfl) rfl #[.pointer (some ⟨g, 0, none⟩)] rfl (by (try simp only [List.map_toArray, List.map_cons, List.map_nil]); first | done | rfl | (simp only [List.length_drop, List.length_take]; rfl)) ?_; (with_reducible refine (cornucopiaref1_Reader_Var.calls k g t544 t545 t546 t547 t548 w0 _ ?side1 ?side2 A4.out).mono ?_); (case side1 => repeat (first | (with_reducible first | exact HI0.out | apply IsS97.alloc | apply IsS97.drewN | apply IsS97.drew | apply IsS97.set_0 | apply IsS97.set_1 | refine IsS97.far ?_ NB0_538.out _ | refine IsS97.far ?_ NB0_539.out _) | exact HI0.out)); (case side2 => repeat (first | (with_reducible first | exact HB.out | apply below_alloc | apply pw_below_drewN | apply below_drew1 | refine below_set ?_ (IsS97.ge HI0.out) | refine below_set ?_ GE538.out | refine below_set ?_ GE539.out) | exact HB.out)); rintro e w15 ⟨rfl, hi, hb, hk⟩; refine ⟨_, rfl, ?_⟩; have n0_ := Aside0.mk (KeepBut.blk hk (g' := gb538) (o := .cells #[.string (⟨#[]⟩ : ByteArray), .int .u64 0, .int .i64 0, .string (⟨#[]⟩ : ByteArray)] 32 (0, 0)) (by (with_reducible repeat (first | refine blk_drewN ?_ _ | refine blk_drew ?_ | refine blk_alloc ?_ _)); refine blk_far ?_ NB538_539.out _; (with_reducible repeat (first | refine blk_drewN ?_ _ | refine blk_drew ?_ | refine blk_alloc ?_ _)); exact BK538.out) NB538_0.out (by simp)); have n1_ := Aside0.mk (KeepBut.blk hk (g' := gb539) (o := .cells #[.string t540, .int .u64 t543, .int .i64 0, .string (⟨#[]⟩ : ByteArray)] 32 (0, 0)) (by (with_reducible repeat (first | refine blk_drewN ?_ _ | refine blk_drew ?_ | refine blk_alloc ?_ _)); refine blk_put (cs := #[.string t540, .int .u64 0, .int .i64 0, .string (⟨#[]⟩ : ByteArray)]) ?_ 1 _ rfl; (with_reducible repeat (first | refine blk_drewN ?_ _ | refine blk_drew ?_ | refine blk_alloc ?_ _)); exact BK539.out) NB539_0.out (by simp)); have n2_ := Aside0.mk (KeepBut.trans (by repeat (first | (with_reducible first | exact HK.out | apply KeepBut.set_ | apply keep_drewN | apply keep_drew | apply keep_alloc | refine keep_far ?_ GW538.out _ | refine keep_far ?_ GW539.out _) | exact HK.out)) hk (.inl rfl)); have n3_ := Aside0.mk (hb); have n4_ := Aside0.mk (hi); clear BK538; clear BK539; clear HK; clear HB; clear HI0; have BK538 := n0_; have BK539 := n1_; have HK := n2_; have HB := n3_; have HI0 := n4_; clear n0_ n1_ n2_ n3_ n4_; (try clear hb); (try clear hb2); (try clear hk); (try clear hi)) | ((with_reducible refine gate_callee (f := 174) rfl ?_); refine goesL_ (some 14) rfl rfl Tryz.func174 (by kernel_rfl) rfl #[.pointer (some ⟨g, 0, none⟩), .int .i64 60000] rfl (by (try simp only [List.map_toArray, List.map_cons, List.map_nil]); first | done | rfl | (simp only [List.length_drop, List.length_take]; rfl)) ?_; (with_reducible refine (cornucopiaref1_Reader_Text.calls k g t547 t548 60000 t549 t550 t551 w0 _ ?side1 ?side2 A5.out).mono ?_); (case side1 => repeat (first | (with_reducible first | exact HI0.out | apply IsS97.alloc | apply IsS97.drewN | apply IsS97.drew | apply IsS97.set_0 | apply IsS97.set_1 | refine IsS97.far ?_ NB0_538.out _ | refine IsS97.far ?_ NB0_539.out _) | exact HI0.out)); (case side2 => repeat (first | (with_reducible first | exact HB.out | apply below_alloc | apply pw_below_drewN | apply below_drew1 | refine below_set ?_ (IsS97.ge HI0.out) | refine below_set ?_ GE538.out | refine below_set ?_ GE539.out) | exact HB.out)); rintro e w16 ⟨rfl, hi, hb, hk⟩; refine ⟨_, rfl, ?_⟩; have n0_ := Aside0.mk (KeepBut.blk hk (g' := gb538) (o := .cells #[.string (⟨#[]⟩ : ByteArray), .int .u64 0, .int .i64 0, .string (⟨#[]⟩ : ByteArray)] 32 (0, 0)) (by (with_reducible repeat (first | refine blk_drewN ?_ _ | refine blk_drew ?_ | refine blk_alloc ?_ _)); exact BK538.out) NB538_0.out (by simp)); have n1_ := Aside0.mk (KeepBut.blk hk (g' := gb539) (o := .cells #[.string t540, .int .u64 t543, .int .i64 0, .string (⟨#[]⟩ : ByteArray)] 32 (0, 0)) (by (with_reducible repeat (first | refine blk_drewN ?_ _ | refine blk_drew ?_ | refine blk_alloc ?_ _)); exact BK539.out) NB539_0.out (by simp)); have n2_ := Aside0.mk (KeepBut.trans (by repeat (first | (with_reducible first | exact HK.out | apply KeepBut.set_ | apply keep_drewN | apply keep_drew | apply keep_alloc | refine keep_far ?_ GW538.out _ | refine keep_far ?_ GW539.out _) | exact HK.out)) hk (.inl rfl)); have n3_ := Aside0.mk (hb); have n4_ := Aside0.mk (hi); clear BK538; clear BK539; clear HK; clear HB; clear HI0; have BK538 := n0_; have BK539 := n1_; have HK := n2_; have HB := n3_; have HI0 := n4_; clear n0_ n1_ n2_ n3_ n4_; (try clear hb); (try clear hb2); (try clear hk); (try clear hi); have hcz17_0 : w16.cell? ⟨gb539, 0, none⟩ = some (.string t540) := (blk_cell BK539.out 0).trans rfl; have hcz17_1 : w16.cell? ⟨gb539, 1, none⟩ = some (.int .u64 t543) := (blk_cell BK539.out 1).trans rfl; have hcz17_2 : w16.cell? ⟨gb539, 2, none⟩ = some (.int .i64 0) := (blk_cell BK539.out 2).trans rfl; have hcz17_3 : w16.cell? ⟨gb539, 3, none⟩ = some (.string (⟨#[]⟩ : ByteArray)) := (blk_cell BK539.out 3).trans rfl; have hfz17_0 := blk_frozen BK539.out 0; have hfz17_1 := blk_frozen BK539.out 1; have hfz17_2 := blk_frozen BK539.out 2; have hfz17_3 := blk_frozen BK539.out 3))
 (try simp only [Act.put, List.setIfInBounds_toArray, List.set_cons_zero, List.set_cons_succ])
 go_cut [21] (fun v21 wc => ∃ (kq : Nat) (x21_5 : Bool), v21 = .bool x21_5 ∧ Aside0 (cornucopiaref5_Get.j0 kq t546 x21_5 t550 t551 t540 t543 0 t549 = some (r1, r2, r3, r4, r5, r6)) ∧ Aside0 (kq ≤ k) ∧ Aside0 (wc.heap[gb538]? = some (.cells #[.string (⟨#[]⟩ : ByteArray), .int .u64 0, .int .i64 0, .string (⟨#[]⟩ : ByteArray)] 32 (0, 0))) ∧ Aside0 (wc.heap[gb539]? = some (.cells #[.string t540, .int .u64 t543, .int .i64 0, .string t549] 32 (0, 0))) ∧ Aside0 (IsS97 w0 wc g t550 t551) ∧ Aside0 (KeepBut w wc g none) ∧ Aside0 (Below w0.heap.size w0 wc))
 case first =>
  have H := HC6.out
  clear HC6
  by_cases c18 : t546 = 1
  ·rw [if_pos c18] at H
   have c18b0 : (t546 == 1) = true := beq_iff_eq.mpr c18
   have c18b1 : (t546 != 1) = false := bne_eq_false_iff_eq.mpr c18
   clear c18
   (first | rw [c18b0] | (simp only [i64_w, i32_w]; rw [c18b0]) | skip)
   have H' := Aside0.mk H
   clear H
   go_wp2
   go_meet
   case rel => exact ⟨_, (true), (by first | rfl | (simp; done) | (simp [*]; done)), H', ⟨by first | omega | exact Nat.le_refl _⟩, ⟨by (with_reducible repeat (first | refine blk_drewN ?_ _ | refine blk_drew ?_ | refine blk_alloc ?_ _)); refine blk_far ?_ NB538_539.out _; (with_reducible repeat (first | refine blk_drewN ?_ _ | refine blk_drew ?_ | refine blk_alloc ?_ _)); exact BK538.out⟩, ⟨by (with_reducible repeat (first | refine blk_drewN ?_ _ | refine blk_drew ?_ | refine blk_alloc ?_ _)); refine blk_put (cs := #[.string t540, .int .u64 t543, .int .i64 0, .string (⟨#[]⟩ : ByteArray)]) ?_ 3 _ rfl; (with_reducible repeat (first | refine blk_drewN ?_ _ | refine blk_drew ?_ | refine blk_alloc ?_ _)); exact BK539.out⟩, ⟨by repeat (first | (with_reducible first | exact HI0.out | apply IsS97.alloc | apply IsS97.drewN | apply IsS97.drew | apply IsS97.set_0 | apply IsS97.set_1 | refine IsS97.far ?_ NB0_538.out _ | refine IsS97.far ?_ NB0_539.out _) | exact HI0.out)⟩, ⟨by repeat (first | (with_reducible first | exact HK.out | apply KeepBut.set_ | apply keep_drewN | apply keep_drew | apply keep_alloc | refine keep_far ?_ GW538.out _ | refine keep_far ?_ GW539.out _) | exact HK.out)⟩, ⟨by repeat (first | (with_reducible first | exact HB.out | apply below_alloc | apply pw_below_drewN | apply below_drew1 | refine below_set ?_ (IsS97.ge HI0.out) | refine below_set ?_ GE538.out | refine below_set ?_ GE539.out) | exact HB.out)⟩⟩
  ·rw [if_neg c18] at H
   have c18b0 : (t546 == 1) = false := beq_eq_false_iff_ne.mpr c18
   have c18b1 : (t546 != 1) = true := bne_iff_ne.mpr c18
   (first | rw [c18b0] | (simp only [i64_w, i32_w]; rw [c18b0]) | skip)
   have H' := Aside0.mk H
   clear H
   go_wp2
   go_meet
   case rel => exact ⟨_, ((t546 == 2)), (by first | rfl | (simp; done) | (simp [*]; done)), H', ⟨by first | omega | exact Nat.le_refl _⟩, ⟨by (with_reducible repeat (first | refine blk_drewN ?_ _ | refine blk_drew ?_ | refine blk_alloc ?_ _)); refine blk_far ?_ NB538_539.out _; (with_reducible repeat (first | refine blk_drewN ?_ _ | refine blk_drew ?_ | refine blk_alloc ?_ _)); exact BK538.out⟩, ⟨by (with_reducible repeat (first | refine blk_drewN ?_ _ | refine blk_drew ?_ | refine blk_alloc ?_ _)); refine blk_put (cs := #[.string t540, .int .u64 t543, .int .i64 0, .string (⟨#[]⟩ : ByteArray)]) ?_ 3 _ rfl; (with_reducible repeat (first | refine blk_drewN ?_ _ | refine blk_drew ?_ | refine blk_alloc ?_ _)); exact BK539.out⟩, ⟨by repeat (first | (with_reducible first | exact HI0.out | apply IsS97.alloc | apply IsS97.drewN | apply IsS97.drew | apply IsS97.set_0 | apply IsS97.set_1 | refine IsS97.far ?_ NB0_538.out _ | refine IsS97.far ?_ NB0_539.out _) | exact HI0.out)⟩, ⟨by repeat (first | (with_reducible first | exact HK.out | apply KeepBut.set_ | apply keep_drewN | apply keep_drew | apply keep_alloc | refine keep_far ?_ GW538.out _ | refine keep_far ?_ GW539.out _) | exact HK.out)⟩, ⟨by repeat (first | (with_reducible first | exact HB.out | apply below_alloc | apply pw_below_drewN | apply below_drew1 | refine below_set ?_ (IsS97.ge HI0.out) | refine below_set ?_ GE538.out | refine below_set ?_ GE539.out) | exact HB.out)⟩⟩
 case rest =>
  clear HC6
  try clear c1
  try clear p2
  try clear c5
  try clear c10
  try clear c11
  try clear c17
  try clear c18
  try clear c18b0
  try clear c18b1
  try clear hcz12_0
  try clear hcz12_1
  try clear hcz12_2
  try clear hcz12_3
  try clear hcz14_0
  try clear hcz14_1
  try clear hcz14_2
  try clear hcz14_3
  try clear hcz17_0
  try clear hcz17_1
  try clear hcz17_2
  try clear hcz17_3
  try clear hfz12_0
  try clear hfz12_1
  try clear hfz12_2
  try clear hfz12_3
  try clear hfz14_0
  try clear hfz14_1
  try clear hfz14_2
  try clear hfz14_3
  try clear hfz17_0
  try clear hfz17_1
  try clear hfz17_2
  try clear hfz17_3
  obtain ⟨kq, x21_5, rfl, HA, HJ5, BK538, BK539, HI0, HK, HB⟩ := hcut
  cases kq with
  | zero => exact absurd HA.out (by simp [cornucopiaref5_Get.j0])
  | succ kj5 =>
   have H := HA.out
   clear HA
   simp only [cornucopiaref5_Get.j0] at H
   have HC19 := Aside0.mk H
   clear H
   go_upto_if 21 with (fail)
   go_cut [] (fun wc => ∃ (kq : Nat) (x540002_18 : Int), Aside0 (cornucopiaref5_Get.j1 kq t550 t551 t540 t543 x540002_18 t549 = some (r1, r2, r3, r4, r5, r6)) ∧ Aside0 (kq ≤ kj5) ∧ Aside0 (wc.heap[gb538]? = some (.cells #[.string (⟨#[]⟩ : ByteArray), .int .u64 0, .int .i64 0, .string (⟨#[]⟩ : ByteArray)] 32 (0, 0))) ∧ Aside0 (wc.heap[gb539]? = some (.cells #[.string t540, .int .u64 t543, .int .i64 x540002_18, .string t549] 32 (0, 0))) ∧ Aside0 (IsS97 w0 wc g t550 t551) ∧ Aside0 (KeepBut w wc g none) ∧ Aside0 (Below w0.heap.size w0 wc))
   case first =>
    have H := HC19.out
    clear HC19
    by_cases c20 : x21_5 = true
    ·subst c20
     have H1 : (cornucopiaref5_Get.j1 kj5 t550 t551 t540 t543 (wrap64 (t546)) t549) = some (r1, r2, r3, r4, r5, r6) := by rw [if_pos rfl] at H; exact H
     clear H
     have H := H1
     clear H1
     have H' := Aside0.mk H
     clear H
     have hnb21 := NB539_538.out
     have hnc21 := NB538_539.out
     have hnb22 := NB539_0.out
     have hnc22 := NB0_539.out
     have hcz23_0 : wc.cell? ⟨gb539, 0, none⟩ = some (.string t540) := (blk_cell BK539.out 0).trans rfl
     have hcz23_1 : wc.cell? ⟨gb539, 1, none⟩ = some (.int .u64 t543) := (blk_cell BK539.out 1).trans rfl
     have hcz23_2 : wc.cell? ⟨gb539, 2, none⟩ = some (.int .i64 0) := (blk_cell BK539.out 2).trans rfl
     have hcz23_3 : wc.cell? ⟨gb539, 3, none⟩ = some (.string t549) := (blk_cell BK539.out 3).trans rfl
     have hfz23_0 := blk_frozen BK539.out 0
     have hfz23_1 := blk_frozen BK539.out 1
     have hfz23_2 := blk_frozen BK539.out 2
     have hfz23_3 := blk_frozen BK539.out 3
     go_wp2
     go_meet
     case rel => exact ⟨_, (wrap64 (t546)), H', ⟨by have := HJ5.out; first | omega | exact Nat.le_refl _⟩, ⟨by (with_reducible repeat (first | refine blk_drewN ?_ _ | refine blk_drew ?_ | refine blk_alloc ?_ _)); refine blk_far ?_ NB538_539.out _; (with_reducible repeat (first | refine blk_drewN ?_ _ | refine blk_drew ?_ | refine blk_alloc ?_ _)); exact BK538.out⟩, ⟨by (with_reducible repeat (first | refine blk_drewN ?_ _ | refine blk_drew ?_ | refine blk_alloc ?_ _)); refine blk_put (cs := #[.string t540, .int .u64 t543, .int .i64 0, .string t549]) ?_ 2 _ rfl; (with_reducible repeat (first | refine blk_drewN ?_ _ | refine blk_drew ?_ | refine blk_alloc ?_ _)); exact BK539.out⟩, ⟨by repeat (first | (with_reducible first | exact HI0.out | apply IsS97.alloc | apply IsS97.drewN | apply IsS97.drew | apply IsS97.set_0 | apply IsS97.set_1 | refine IsS97.far ?_ NB0_538.out _ | refine IsS97.far ?_ NB0_539.out _) | exact HI0.out)⟩, ⟨by repeat (first | (with_reducible first | exact HK.out | apply KeepBut.set_ | apply keep_drewN | apply keep_drew | apply keep_alloc | refine keep_far ?_ GW538.out _ | refine keep_far ?_ GW539.out _) | exact HK.out)⟩, ⟨by repeat (first | (with_reducible first | exact HB.out | apply below_alloc | apply pw_below_drewN | apply below_drew1 | refine below_set ?_ (IsS97.ge HI0.out) | refine below_set ?_ GE538.out | refine below_set ?_ GE539.out) | exact HB.out)⟩⟩
    ·replace c20 := Bool.eq_false_iff.mpr c20
     subst c20
     have H1 : (cornucopiaref5_Get.j1 kj5 t550 t551 t540 t543 0 t549) = some (r1, r2, r3, r4, r5, r6) := by rw [if_neg (show ¬ (false = true) by decide)] at H; exact H
     clear H
     have H := H1
     clear H1
     have H' := Aside0.mk H
     clear H
     go_wp2
     go_meet
     case rel => exact ⟨_, (0), H', ⟨by have := HJ5.out; first | omega | exact Nat.le_refl _⟩, ⟨by (with_reducible repeat (first | refine blk_drewN ?_ _ | refine blk_drew ?_ | refine blk_alloc ?_ _)); exact BK538.out⟩, ⟨by (with_reducible repeat (first | refine blk_drewN ?_ _ | refine blk_drew ?_ | refine blk_alloc ?_ _)); exact BK539.out⟩, ⟨by repeat (first | (with_reducible first | exact HI0.out | apply IsS97.alloc | apply IsS97.drewN | apply IsS97.drew | apply IsS97.set_0 | apply IsS97.set_1 | refine IsS97.far ?_ NB0_538.out _ | refine IsS97.far ?_ NB0_539.out _) | exact HI0.out)⟩, ⟨by repeat (first | (with_reducible first | exact HK.out | apply KeepBut.set_ | apply keep_drewN | apply keep_drew | apply keep_alloc | refine keep_far ?_ GW538.out _ | refine keep_far ?_ GW539.out _) | exact HK.out)⟩, ⟨by repeat (first | (with_reducible first | exact HB.out | apply below_alloc | apply pw_below_drewN | apply below_drew1 | refine below_set ?_ (IsS97.ge HI0.out) | refine below_set ?_ GE538.out | refine below_set ?_ GE539.out) | exact HB.out)⟩⟩
   case rest =>
    clear HC19
    try clear c1
    try clear c2
    try clear p2
    try clear c5
    try clear p6
    try clear c10
    try clear c11
    try clear c17
    try clear c18
    try clear c18b0
    try clear c18b1
    try clear c20
    try clear c21
    try clear c22
    try clear hcz12_0
    try clear hcz12_1
    try clear hcz12_2
    try clear hcz12_3
    try clear hcz14_0
    try clear hcz14_1
    try clear hcz14_2
    try clear hcz14_3
    try clear hcz17_0
    try clear hcz17_1
    try clear hcz17_2
    try clear hcz17_3
    try clear hcz23_0
    try clear hcz23_1
    try clear hcz23_2
    try clear hcz23_3
    try clear hfz12_0
    try clear hfz12_1
    try clear hfz12_2
    try clear hfz12_3
    try clear hfz14_0
    try clear hfz14_1
    try clear hfz14_2
    try clear hfz14_3
    try clear hfz17_0
    try clear hfz17_1
    try clear hfz17_2
    try clear hfz17_3
    try clear hfz23_0
    try clear hfz23_1
    try clear hfz23_2
    try clear hfz23_3
    try clear p2
    obtain ⟨kq, x540002_18, HA, HJ18, BK538, BK539, HI0, HK, HB⟩ := hcut
    cases kq with
    | zero => exact absurd HA.out (by simp [cornucopiaref5_Get.j1])
    | succ kj18 =>
     have H := HA.out
     clear HA
     simp only [cornucopiaref5_Get.j1] at H
     have HC24 := Aside0.mk H
     clear H
     go_upto_region 8 with (fail)
     go_cut [34] (fun v34 wc => ∃ (kq : Nat) (x34_23 : Bool), v34 = .bool x34_23 ∧ Aside0 (cornucopiaref5_Get.j2 kq x34_23 t550 t551 t540 t543 x540002_18 t549 = some (r1, r2, r3, r4, r5, r6)) ∧ Aside0 (kq ≤ kj18) ∧ Aside0 (wc.heap[gb538]? = some (.cells #[.string (⟨#[]⟩ : ByteArray), .int .u64 0, .int .i64 0, .string (⟨#[]⟩ : ByteArray)] 32 (0, 0))) ∧ Aside0 (wc.heap[gb539]? = some (.cells #[.string t540, .int .u64 t543, .int .i64 x540002_18, .string t549] 32 (0, 0))) ∧ Aside0 (IsS97 w0 wc g t550 t551) ∧ Aside0 (KeepBut w wc g none) ∧ Aside0 (Below w0.heap.size w0 wc))
     case first =>
      have H := HC24.out
      clear HC24
      by_cases c25 : t551 = 0
      ·rw [if_pos c25] at H
       have c25b0 : (t551 == 0) = true := beq_iff_eq.mpr c25
       have c25b1 : (t551 != 0) = false := bne_eq_false_iff_eq.mpr c25
       clear c25
       (first | rw [c25b0] | (simp only [i64_w, i32_w]; rw [c25b0]) | skip)
       replace H := Option.bind_eq_some_iff.mp H
       obtain ⟨t552, A260, H⟩ := H
       replace H : (cornucopiaref5_Get.j2 kj18 (!t552) t550 t551 t540 t543 x540002_18 t549) = some (r1, r2, r3, r4, r5, r6) := H
       have A26 := Aside0.mk A260
       clear A260
       have H' := Aside0.mk H
       clear H
       obtain ⟨HGz27, hgz27⟩ := HI0.out
       have hcz27_0 := cellS97_0 HGz27
       have hcz27_1 := cellS97_1 HGz27
       have hfz27_0 := blk_frozen HGz27 0
       have hfz27_1 := blk_frozen HGz27 1
       clear HGz27 hgz27
       have hnb28 := NB539_538.out
       have hnc28 := NB538_539.out
       have hnb29 := NB539_0.out
       have hnc29 := NB0_539.out
       have hcz30_0 : wc.cell? ⟨gb539, 0, none⟩ = some (.string t540) := (blk_cell BK539.out 0).trans rfl
       have hcz30_1 : wc.cell? ⟨gb539, 1, none⟩ = some (.int .u64 t543) := (blk_cell BK539.out 1).trans rfl
       have hcz30_2 : wc.cell? ⟨gb539, 2, none⟩ = some (.int .i64 x540002_18) := (blk_cell BK539.out 2).trans rfl
       have hcz30_3 : wc.cell? ⟨gb539, 3, none⟩ = some (.string t549) := (blk_cell BK539.out 3).trans rfl
       have hfz30_0 := blk_frozen BK539.out 0
       have hfz30_1 := blk_frozen BK539.out 1
       have hfz30_2 := blk_frozen BK539.out 2
       have hfz30_3 := blk_frozen BK539.out 3
       go_wp2_with (first | (go_at_call 14; (with_reducible refine (cornucopiaref5_Valid.calls t540 t543 x540002_18 t549 t552 _ A26.out).mono ?_); rintro e w31 ⟨rfl, hb⟩; have n0_ := Aside0.mk (blk_below (g := gb538) (o := .cells #[.string (⟨#[]⟩ : ByteArray), .int .u64 0, .int .i64 0, .string (⟨#[]⟩ : ByteArray)] 32 (0, 0)) (by (with_reducible repeat (first | refine blk_drewN ?_ _ | refine blk_drew ?_ | refine blk_alloc ?_ _)); exact BK538.out) hb); have n1_ := Aside0.mk (blk_below (g := gb539) (o := .cells #[.string t540, .int .u64 t543, .int .i64 x540002_18, .string t549] 32 (0, 0)) (by (with_reducible repeat (first | refine blk_drewN ?_ _ | refine blk_drew ?_ | refine blk_alloc ?_ _)); exact BK539.out) hb); have n2_ := Aside0.mk (IsS97.below (by repeat (first | (with_reducible first | exact HI0.out | apply IsS97.alloc | apply IsS97.drewN | apply IsS97.drew | apply IsS97.set_0 | apply IsS97.set_1 | refine IsS97.far ?_ NB0_538.out _ | refine IsS97.far ?_ NB0_539.out _) | exact HI0.out)) hb); have n3_ := Aside0.mk (KeepBut.trans (by repeat (first | (with_reducible first | exact HK.out | apply KeepBut.set_ | apply keep_drewN | apply keep_drew | apply keep_alloc | refine keep_far ?_ GW538.out _ | refine keep_far ?_ GW539.out _) | exact HK.out)) (KeepBut.of_below hb g none) (.inl rfl)); have n4_ := Aside0.mk (below_step (by repeat (first | (with_reducible first | exact HB.out | apply below_alloc | apply pw_below_drewN | apply below_drew1 | refine below_set ?_ (IsS97.ge HI0.out) | refine below_set ?_ GE538.out | refine below_set ?_ GE539.out) | exact HB.out)) hb); clear BK538; clear BK539; clear HI0; clear HK; clear HB; have BK538 := n0_; have BK539 := n1_; have HI0 := n2_; have HK := n3_; have HB := n4_; clear n0_ n1_ n2_ n3_ n4_; (try clear hb); (try clear hb2); (try clear hk); (try clear hi)))
       go_meet
       case rel => exact ⟨_, (!t552), (by first | rfl | (simp; done) | (simp [*]; done)), H', ⟨by have := HJ5.out; have := HJ18.out; first | omega | exact Nat.le_refl _⟩, ⟨by (with_reducible repeat (first | refine blk_drewN ?_ _ | refine blk_drew ?_ | refine blk_alloc ?_ _)); exact BK538.out⟩, ⟨by (with_reducible repeat (first | refine blk_drewN ?_ _ | refine blk_drew ?_ | refine blk_alloc ?_ _)); exact BK539.out⟩, ⟨by repeat (first | (with_reducible first | exact HI0.out | apply IsS97.alloc | apply IsS97.drewN | apply IsS97.drew | apply IsS97.set_0 | apply IsS97.set_1 | refine IsS97.far ?_ NB0_538.out _ | refine IsS97.far ?_ NB0_539.out _) | exact HI0.out)⟩, ⟨by repeat (first | (with_reducible first | exact HK.out | apply KeepBut.set_ | apply keep_drewN | apply keep_drew | apply keep_alloc | refine keep_far ?_ GW538.out _ | refine keep_far ?_ GW539.out _) | exact HK.out)⟩, ⟨by repeat (first | (with_reducible first | exact HB.out | apply below_alloc | apply pw_below_drewN | apply below_drew1 | refine below_set ?_ (IsS97.ge HI0.out) | refine below_set ?_ GE538.out | refine below_set ?_ GE539.out) | exact HB.out)⟩⟩
      ·rw [if_neg c25] at H
       have c25b0 : (t551 == 0) = false := beq_eq_false_iff_ne.mpr c25
       have c25b1 : (t551 != 0) = true := bne_iff_ne.mpr c25
       (first | rw [c25b0] | (simp only [i64_w, i32_w]; rw [c25b0]) | skip)
       have H' := Aside0.mk H
       clear H
       obtain ⟨HGz32, hgz32⟩ := HI0.out
       have hcz32_0 := cellS97_0 HGz32
       have hcz32_1 := cellS97_1 HGz32
       have hfz32_0 := blk_frozen HGz32 0
       have hfz32_1 := blk_frozen HGz32 1
       clear HGz32 hgz32
       go_wp2
       go_meet
       case rel => exact ⟨_, (false), (by first | rfl | (simp; done) | (simp [*]; done)), H', ⟨by have := HJ5.out; have := HJ18.out; first | omega | exact Nat.le_refl _⟩, ⟨by (with_reducible repeat (first | refine blk_drewN ?_ _ | refine blk_drew ?_ | refine blk_alloc ?_ _)); exact BK538.out⟩, ⟨by (with_reducible repeat (first | refine blk_drewN ?_ _ | refine blk_drew ?_ | refine blk_alloc ?_ _)); exact BK539.out⟩, ⟨by repeat (first | (with_reducible first | exact HI0.out | apply IsS97.alloc | apply IsS97.drewN | apply IsS97.drew | apply IsS97.set_0 | apply IsS97.set_1 | refine IsS97.far ?_ NB0_538.out _ | refine IsS97.far ?_ NB0_539.out _) | exact HI0.out)⟩, ⟨by repeat (first | (with_reducible first | exact HK.out | apply KeepBut.set_ | apply keep_drewN | apply keep_drew | apply keep_alloc | refine keep_far ?_ GW538.out _ | refine keep_far ?_ GW539.out _) | exact HK.out)⟩, ⟨by repeat (first | (with_reducible first | exact HB.out | apply below_alloc | apply pw_below_drewN | apply below_drew1 | refine below_set ?_ (IsS97.ge HI0.out) | refine below_set ?_ GE538.out | refine below_set ?_ GE539.out) | exact HB.out)⟩⟩
     case rest =>
      clear HC24
      try clear c1
      try clear c2
      try clear p2
      try clear c5
      try clear p6
      try clear c10
      try clear c11
      try clear c17
      try clear c18
      try clear c18b0
      try clear c18b1
      try clear c20
      try clear c21
      try clear c22
      try clear c25
      try clear c25b0
      try clear c25b1
      try clear c28
      try clear c29
      try clear hcz12_0
      try clear hcz12_1
      try clear hcz12_2
      try clear hcz12_3
      try clear hcz14_0
      try clear hcz14_1
      try clear hcz14_2
      try clear hcz14_3
      try clear hcz17_0
      try clear hcz17_1
      try clear hcz17_2
      try clear hcz17_3
      try clear hcz23_0
      try clear hcz23_1
      try clear hcz23_2
      try clear hcz23_3
      try clear hcz27_0
      try clear hcz27_1
      try clear hcz30_0
      try clear hcz30_1
      try clear hcz30_2
      try clear hcz30_3
      try clear hcz32_0
      try clear hcz32_1
      try clear hfz12_0
      try clear hfz12_1
      try clear hfz12_2
      try clear hfz12_3
      try clear hfz14_0
      try clear hfz14_1
      try clear hfz14_2
      try clear hfz14_3
      try clear hfz17_0
      try clear hfz17_1
      try clear hfz17_2
      try clear hfz17_3
      try clear hfz23_0
      try clear hfz23_1
      try clear hfz23_2
      try clear hfz23_3
      try clear hfz27_0
      try clear hfz27_1
      try clear hfz30_0
      try clear hfz30_1
      try clear hfz30_2
      try clear hfz30_3
      try clear hfz32_0
      try clear hfz32_1
      try clear p2
      try clear p6
      obtain ⟨kq, x34_23, rfl, HA, HJ23, BK538, BK539, HI0, HK, HB⟩ := hcut
      cases kq with
      | zero => exact absurd HA.out (by simp [cornucopiaref5_Get.j2])
      | succ kj23 =>
       have H := HA.out
       clear HA
       simp only [cornucopiaref5_Get.j2] at H
       by_cases c33 : x34_23 = true
       ·subst c33
        have H1 : ((cornucopiaref1_Reader_Fail.f t550 t551 4).bind fun bt553 => (if bt553.2 = 0 then (some (t540, t543, x540002_18, t549, bt553.1, bt553.2)) else (some ((⟨#[]⟩ : ByteArray), 0, 0, (⟨#[]⟩ : ByteArray), bt553.1, bt553.2)))) = some (r1, r2, r3, r4, r5, r6) := by rw [if_pos rfl] at H; exact H
        clear H
        have H := H1
        clear H1
        replace H := Option.bind_eq_some_iff.mp H
        obtain ⟨⟨t553, t554⟩, A340, H⟩ := H
        replace H : (if t554 = 0 then (some (t540, t543, x540002_18, t549, t553, t554)) else (some ((⟨#[]⟩ : ByteArray), 0, 0, (⟨#[]⟩ : ByteArray), t553, t554))) = some (r1, r2, r3, r4, r5, r6) := H
        have A34 := Aside0.mk A340
        clear A340
        by_cases c35 : t554 = 0
        ·rw [if_pos c35] at H
         have c35b0 : (t554 == 0) = true := beq_iff_eq.mpr c35
         have c35b1 : (t554 != 0) = false := bne_eq_false_iff_eq.mpr c35
         clear c35
         simp only [Option.some.injEq, Prod.mk.injEq] at H
         obtain ⟨rfl, rfl, rfl, rfl, rfl, rfl⟩ := H
         go_wp2_with (first | ((with_reducible refine gate_callee (f := 176) rfl ?_); refine goesL_ (some 36) rfl rfl Tryz.func176 (by kernel_rfl) rfl #[.pointer (some ⟨g, 0, none⟩), .int .i64 4] rfl (by (try simp only [List.map_toArray, List.map_cons, List.map_nil]); first | done | rfl | (simp only [List.length_drop, List.length_take]; rfl)) ?_; (with_reducible refine (cornucopiaref1_Reader_Fail.calls g t550 t551 4 t553 t554 w0 _ ?side1 ?side2 A34.out).mono ?_); (case side1 => repeat (first | (with_reducible first | exact HI0.out | apply IsS97.alloc | apply IsS97.drewN | apply IsS97.drew | apply IsS97.set_0 | apply IsS97.set_1 | refine IsS97.far ?_ NB0_538.out _ | refine IsS97.far ?_ NB0_539.out _) | exact HI0.out)); (case side2 => repeat (first | (with_reducible first | exact HB.out | apply below_alloc | apply pw_below_drewN | apply below_drew1 | refine below_set ?_ (IsS97.ge HI0.out) | refine below_set ?_ GE538.out | refine below_set ?_ GE539.out) | exact HB.out)); rintro e w36 ⟨rfl, hi, hb, hk⟩; refine ⟨_, rfl, ?_⟩; have n0_ := Aside0.mk (KeepBut.blk hk (g' := gb538) (o := .cells #[.string (⟨#[]⟩ : ByteArray), .int .u64 0, .int .i64 0, .string (⟨#[]⟩ : ByteArray)] 32 (0, 0)) (by (with_reducible repeat (first | refine blk_drewN ?_ _ | refine blk_drew ?_ | refine blk_alloc ?_ _)); exact BK538.out) NB538_0.out (by simp)); have n1_ := Aside0.mk (KeepBut.blk hk (g' := gb539) (o := .cells #[.string t540, .int .u64 t543, .int .i64 x540002_18, .string t549] 32 (0, 0)) (by (with_reducible repeat (first | refine blk_drewN ?_ _ | refine blk_drew ?_ | refine blk_alloc ?_ _)); exact BK539.out) NB539_0.out (by simp)); have n2_ := Aside0.mk (KeepBut.trans (by repeat (first | (with_reducible first | exact HK.out | apply KeepBut.set_ | apply keep_drewN | apply keep_drew | apply keep_alloc | refine keep_far ?_ GW538.out _ | refine keep_far ?_ GW539.out _) | exact HK.out)) hk (.inl rfl)); have n3_ := Aside0.mk (hb); have n4_ := Aside0.mk (hi); clear BK538; clear BK539; clear HK; clear HB; clear HI0; have BK538 := n0_; have BK539 := n1_; have HK := n2_; have HB := n3_; have HI0 := n4_; clear n0_ n1_ n2_ n3_ n4_; (try clear hb); (try clear hb2); (try clear hk); (try clear hi); obtain ⟨HGz37, hgz37⟩ := HI0.out; have hcz37_0 := cellS97_0 HGz37; have hcz37_1 := cellS97_1 HGz37; have hfz37_0 := blk_frozen HGz37 0; have hfz37_1 := blk_frozen HGz37 1; clear HGz37 hgz37; have hnb38 := NB539_538.out; have hnc38 := NB538_539.out; have hnb39 := NB539_0.out; have hnc39 := NB0_539.out; have hcz40_0 : w36.cell? ⟨gb539, 0, none⟩ = some (.string t540) := (blk_cell BK539.out 0).trans rfl; have hcz40_1 : w36.cell? ⟨gb539, 1, none⟩ = some (.int .u64 t543) := (blk_cell BK539.out 1).trans rfl; have hcz40_2 : w36.cell? ⟨gb539, 2, none⟩ = some (.int .i64 x540002_18) := (blk_cell BK539.out 2).trans rfl; have hcz40_3 : w36.cell? ⟨gb539, 3, none⟩ = some (.string t549) := (blk_cell BK539.out 3).trans rfl; have hfz40_0 := blk_frozen BK539.out 0; have hfz40_1 := blk_frozen BK539.out 1; have hfz40_2 := blk_frozen BK539.out 2; have hfz40_3 := blk_frozen BK539.out 3; have hnb41 := NB538_0.out; have hnc41 := NB0_538.out; have hcz42_0 : w36.cell? ⟨gb538, 0, none⟩ = some (.string (⟨#[]⟩ : ByteArray)) := (blk_cell BK538.out 0).trans rfl; have hcz42_1 : w36.cell? ⟨gb538, 1, none⟩ = some (.int .u64 0) := (blk_cell BK538.out 1).trans rfl; have hcz42_2 : w36.cell? ⟨gb538, 2, none⟩ = some (.int .i64 0) := (blk_cell BK538.out 2).trans rfl; have hcz42_3 : w36.cell? ⟨gb538, 3, none⟩ = some (.string (⟨#[]⟩ : ByteArray)) := (blk_cell BK538.out 3).trans rfl; have hfz42_0 := blk_frozen BK538.out 0; have hfz42_1 := blk_frozen BK538.out 1; have hfz42_2 := blk_frozen BK538.out 2; have hfz42_3 := blk_frozen BK538.out 3))
         refine bodyPost_ret (results_cell_row rfl _ _ gb538 32 #[.string t540, .int .u64 t543, .int .i64 x540002_18, .string t549] (0, 0) _ rfl (by (with_reducible repeat (first | refine blk_drewN ?_ _ | refine blk_drew ?_ | refine blk_alloc ?_ _)); refine blk_put (cs := #[.string t540, .int .u64 t543, .int .i64 x540002_18, .string (⟨#[]⟩ : ByteArray)]) ?_ 3 _ rfl; (with_reducible repeat (first | refine blk_drewN ?_ _ | refine blk_drew ?_ | refine blk_alloc ?_ _)); refine blk_put (cs := #[.string t540, .int .u64 t543, .int .i64 0, .string (⟨#[]⟩ : ByteArray)]) ?_ 2 _ rfl; (with_reducible repeat (first | refine blk_drewN ?_ _ | refine blk_drew ?_ | refine blk_alloc ?_ _)); refine blk_put (cs := #[.string t540, .int .u64 0, .int .i64 0, .string (⟨#[]⟩ : ByteArray)]) ?_ 1 _ rfl; (with_reducible repeat (first | refine blk_drewN ?_ _ | refine blk_drew ?_ | refine blk_alloc ?_ _)); refine blk_put (cs := #[.string (⟨#[]⟩ : ByteArray), .int .u64 0, .int .i64 0, .string (⟨#[]⟩ : ByteArray)]) ?_ 0 _ rfl; (with_reducible repeat (first | refine blk_drewN ?_ _ | refine blk_drew ?_ | refine blk_alloc ?_ _)); exact BK538.out) Tryz.underlying32 rfl (by kernel_rfl)) rfl ?_
         exact ⟨by first | rfl | (simp [errW_none, errW_some] <;> rfl) | (simp [*, errW_none, errW_some] <;> rfl), by repeat (first | (with_reducible first | exact HI0.out | apply IsS97.alloc | apply IsS97.drewN | apply IsS97.drew | apply IsS97.set_0 | apply IsS97.set_1 | refine IsS97.far ?_ NB0_538.out _ | refine IsS97.far ?_ NB0_539.out _) | exact HI0.out), by repeat (first | (with_reducible first | exact HB.out | apply below_alloc | apply pw_below_drewN | apply below_drew1 | refine below_set ?_ (IsS97.ge HI0.out) | refine below_set ?_ GE538.out | refine below_set ?_ GE539.out) | exact HB.out), by repeat (first | (with_reducible first | exact HK.out | apply KeepBut.set_ | apply keep_drewN | apply keep_drew | apply keep_alloc | refine keep_far ?_ GW538.out _ | refine keep_far ?_ GW539.out _) | exact HK.out)⟩
        ·rw [if_neg c35] at H
         have c35b0 : (t554 == 0) = false := beq_eq_false_iff_ne.mpr c35
         have c35b1 : (t554 != 0) = true := bne_iff_ne.mpr c35
         simp only [Option.some.injEq, Prod.mk.injEq] at H
         obtain ⟨rfl, rfl, rfl, rfl, rfl, rfl⟩ := H
         go_wp2_with (first | ((with_reducible refine gate_callee (f := 176) rfl ?_); refine goesL_ (some 36) rfl rfl Tryz.func176 (by kernel_rfl) rfl #[.pointer (some ⟨g, 0, none⟩), .int .i64 4] rfl (by (try simp only [List.map_toArray, List.map_cons, List.map_nil]); first | done | rfl | (simp only [List.length_drop, List.length_take]; rfl)) ?_; (with_reducible refine (cornucopiaref1_Reader_Fail.calls g t550 t551 4 t553 t554 w0 _ ?side1 ?side2 A34.out).mono ?_); (case side1 => repeat (first | (with_reducible first | exact HI0.out | apply IsS97.alloc | apply IsS97.drewN | apply IsS97.drew | apply IsS97.set_0 | apply IsS97.set_1 | refine IsS97.far ?_ NB0_538.out _ | refine IsS97.far ?_ NB0_539.out _) | exact HI0.out)); (case side2 => repeat (first | (with_reducible first | exact HB.out | apply below_alloc | apply pw_below_drewN | apply below_drew1 | refine below_set ?_ (IsS97.ge HI0.out) | refine below_set ?_ GE538.out | refine below_set ?_ GE539.out) | exact HB.out)); rintro e w43 ⟨rfl, hi, hb, hk⟩; refine ⟨_, rfl, ?_⟩; have n0_ := Aside0.mk (KeepBut.blk hk (g' := gb538) (o := .cells #[.string (⟨#[]⟩ : ByteArray), .int .u64 0, .int .i64 0, .string (⟨#[]⟩ : ByteArray)] 32 (0, 0)) (by (with_reducible repeat (first | refine blk_drewN ?_ _ | refine blk_drew ?_ | refine blk_alloc ?_ _)); exact BK538.out) NB538_0.out (by simp)); have n1_ := Aside0.mk (KeepBut.blk hk (g' := gb539) (o := .cells #[.string t540, .int .u64 t543, .int .i64 x540002_18, .string t549] 32 (0, 0)) (by (with_reducible repeat (first | refine blk_drewN ?_ _ | refine blk_drew ?_ | refine blk_alloc ?_ _)); exact BK539.out) NB539_0.out (by simp)); have n2_ := Aside0.mk (KeepBut.trans (by repeat (first | (with_reducible first | exact HK.out | apply KeepBut.set_ | apply keep_drewN | apply keep_drew | apply keep_alloc | refine keep_far ?_ GW538.out _ | refine keep_far ?_ GW539.out _) | exact HK.out)) hk (.inl rfl)); have n3_ := Aside0.mk (hb); have n4_ := Aside0.mk (hi); clear BK538; clear BK539; clear HK; clear HB; clear HI0; have BK538 := n0_; have BK539 := n1_; have HK := n2_; have HB := n3_; have HI0 := n4_; clear n0_ n1_ n2_ n3_ n4_; (try clear hb); (try clear hb2); (try clear hk); (try clear hi); obtain ⟨HGz44, hgz44⟩ := HI0.out; have hcz44_0 := cellS97_0 HGz44; have hcz44_1 := cellS97_1 HGz44; have hfz44_0 := blk_frozen HGz44 0; have hfz44_1 := blk_frozen HGz44 1; clear HGz44 hgz44; have hnb45 := NB538_539.out; have hnc45 := NB539_538.out; have hnb46 := NB538_0.out; have hnc46 := NB0_538.out; have hcz47_0 : w43.cell? ⟨gb538, 0, none⟩ = some (.string (⟨#[]⟩ : ByteArray)) := (blk_cell BK538.out 0).trans rfl; have hcz47_1 : w43.cell? ⟨gb538, 1, none⟩ = some (.int .u64 0) := (blk_cell BK538.out 1).trans rfl; have hcz47_2 : w43.cell? ⟨gb538, 2, none⟩ = some (.int .i64 0) := (blk_cell BK538.out 2).trans rfl; have hcz47_3 : w43.cell? ⟨gb538, 3, none⟩ = some (.string (⟨#[]⟩ : ByteArray)) := (blk_cell BK538.out 3).trans rfl; have hfz47_0 := blk_frozen BK538.out 0; have hfz47_1 := blk_frozen BK538.out 1; have hfz47_2 := blk_frozen BK538.out 2; have hfz47_3 := blk_frozen BK538.out 3))
         refine bodyPost_ret (results_cell_row rfl _ _ gb538 32 #[.string (⟨#[]⟩ : ByteArray), .int .u64 0, .int .i64 0, .string (⟨#[]⟩ : ByteArray)] (0, 0) _ rfl (by (with_reducible repeat (first | refine blk_drewN ?_ _ | refine blk_drew ?_ | refine blk_alloc ?_ _)); refine blk_put (cs := #[.string (⟨#[]⟩ : ByteArray), .int .u64 0, .int .i64 0, .string (⟨#[]⟩ : ByteArray)]) ?_ 3 _ rfl; (with_reducible repeat (first | refine blk_drewN ?_ _ | refine blk_drew ?_ | refine blk_alloc ?_ _)); refine blk_put (cs := #[.string (⟨#[]⟩ : ByteArray), .int .u64 0, .int .i64 0, .string (⟨#[]⟩ : ByteArray)]) ?_ 2 _ rfl; (with_reducible repeat (first | refine blk_drewN ?_ _ | refine blk_drew ?_ | refine blk_alloc ?_ _)); refine blk_put (cs := #[.string (⟨#[]⟩ : ByteArray), .int .u64 0, .int .i64 0, .string (⟨#[]⟩ : ByteArray)]) ?_ 1 _ rfl; (with_reducible repeat (first | refine blk_drewN ?_ _ | refine blk_drew ?_ | refine blk_alloc ?_ _)); refine blk_put (cs := #[.string (⟨#[]⟩ : ByteArray), .int .u64 0, .int .i64 0, .string (⟨#[]⟩ : ByteArray)]) ?_ 0 _ rfl; (with_reducible repeat (first | refine blk_drewN ?_ _ | refine blk_drew ?_ | refine blk_alloc ?_ _)); exact BK538.out) Tryz.underlying32 rfl (by kernel_rfl)) rfl ?_
         exact ⟨by first | rfl | (simp [errW_none, errW_some] <;> rfl) | (simp [*, errW_none, errW_some] <;> rfl), by repeat (first | (with_reducible first | exact HI0.out | apply IsS97.alloc | apply IsS97.drewN | apply IsS97.drew | apply IsS97.set_0 | apply IsS97.set_1 | refine IsS97.far ?_ NB0_538.out _ | refine IsS97.far ?_ NB0_539.out _) | exact HI0.out), by repeat (first | (with_reducible first | exact HB.out | apply below_alloc | apply pw_below_drewN | apply below_drew1 | refine below_set ?_ (IsS97.ge HI0.out) | refine below_set ?_ GE538.out | refine below_set ?_ GE539.out) | exact HB.out), by repeat (first | (with_reducible first | exact HK.out | apply KeepBut.set_ | apply keep_drewN | apply keep_drew | apply keep_alloc | refine keep_far ?_ GW538.out _ | refine keep_far ?_ GW539.out _) | exact HK.out)⟩
       ·replace c33 := Bool.eq_false_iff.mpr c33
        subst c33
        have H1 : (if t551 = 0 then (some (t540, t543, x540002_18, t549, t550, t551)) else (some ((⟨#[]⟩ : ByteArray), 0, 0, (⟨#[]⟩ : ByteArray), t550, t551))) = some (r1, r2, r3, r4, r5, r6) := by rw [if_neg (show ¬ (false = true) by decide)] at H; exact H
        clear H
        have H := H1
        clear H1
        by_cases c48 : t551 = 0
        ·rw [if_pos c48] at H
         have c48b0 : (t551 == 0) = true := beq_iff_eq.mpr c48
         have c48b1 : (t551 != 0) = false := bne_eq_false_iff_eq.mpr c48
         clear c48
         simp only [Option.some.injEq, Prod.mk.injEq] at H
         obtain ⟨rfl, rfl, rfl, rfl, rfl, rfl⟩ := H
         obtain ⟨HGz49, hgz49⟩ := HI0.out
         have hcz49_0 := cellS97_0 HGz49
         have hcz49_1 := cellS97_1 HGz49
         have hfz49_0 := blk_frozen HGz49 0
         have hfz49_1 := blk_frozen HGz49 1
         clear HGz49 hgz49
         have hnb50 := NB539_538.out
         have hnc50 := NB538_539.out
         have hnb51 := NB539_0.out
         have hnc51 := NB0_539.out
         have hcz52_0 : wc.cell? ⟨gb539, 0, none⟩ = some (.string t540) := (blk_cell BK539.out 0).trans rfl
         have hcz52_1 : wc.cell? ⟨gb539, 1, none⟩ = some (.int .u64 t543) := (blk_cell BK539.out 1).trans rfl
         have hcz52_2 : wc.cell? ⟨gb539, 2, none⟩ = some (.int .i64 x540002_18) := (blk_cell BK539.out 2).trans rfl
         have hcz52_3 : wc.cell? ⟨gb539, 3, none⟩ = some (.string t549) := (blk_cell BK539.out 3).trans rfl
         have hfz52_0 := blk_frozen BK539.out 0
         have hfz52_1 := blk_frozen BK539.out 1
         have hfz52_2 := blk_frozen BK539.out 2
         have hfz52_3 := blk_frozen BK539.out 3
         have hnb53 := NB538_0.out
         have hnc53 := NB0_538.out
         have hcz54_0 : wc.cell? ⟨gb538, 0, none⟩ = some (.string (⟨#[]⟩ : ByteArray)) := (blk_cell BK538.out 0).trans rfl
         have hcz54_1 : wc.cell? ⟨gb538, 1, none⟩ = some (.int .u64 0) := (blk_cell BK538.out 1).trans rfl
         have hcz54_2 : wc.cell? ⟨gb538, 2, none⟩ = some (.int .i64 0) := (blk_cell BK538.out 2).trans rfl
         have hcz54_3 : wc.cell? ⟨gb538, 3, none⟩ = some (.string (⟨#[]⟩ : ByteArray)) := (blk_cell BK538.out 3).trans rfl
         have hfz54_0 := blk_frozen BK538.out 0
         have hfz54_1 := blk_frozen BK538.out 1
         have hfz54_2 := blk_frozen BK538.out 2
         have hfz54_3 := blk_frozen BK538.out 3
         go_wp2
         refine bodyPost_ret (results_cell_row rfl _ _ gb538 32 #[.string t540, .int .u64 t543, .int .i64 x540002_18, .string t549] (0, 0) _ rfl (by (with_reducible repeat (first | refine blk_drewN ?_ _ | refine blk_drew ?_ | refine blk_alloc ?_ _)); refine blk_put (cs := #[.string t540, .int .u64 t543, .int .i64 x540002_18, .string (⟨#[]⟩ : ByteArray)]) ?_ 3 _ rfl; (with_reducible repeat (first | refine blk_drewN ?_ _ | refine blk_drew ?_ | refine blk_alloc ?_ _)); refine blk_put (cs := #[.string t540, .int .u64 t543, .int .i64 0, .string (⟨#[]⟩ : ByteArray)]) ?_ 2 _ rfl; (with_reducible repeat (first | refine blk_drewN ?_ _ | refine blk_drew ?_ | refine blk_alloc ?_ _)); refine blk_put (cs := #[.string t540, .int .u64 0, .int .i64 0, .string (⟨#[]⟩ : ByteArray)]) ?_ 1 _ rfl; (with_reducible repeat (first | refine blk_drewN ?_ _ | refine blk_drew ?_ | refine blk_alloc ?_ _)); refine blk_put (cs := #[.string (⟨#[]⟩ : ByteArray), .int .u64 0, .int .i64 0, .string (⟨#[]⟩ : ByteArray)]) ?_ 0 _ rfl; (with_reducible repeat (first | refine blk_drewN ?_ _ | refine blk_drew ?_ | refine blk_alloc ?_ _)); exact BK538.out) Tryz.underlying32 rfl (by kernel_rfl)) rfl ?_
         exact ⟨by first | rfl | (simp [errW_none, errW_some] <;> rfl) | (simp [*, errW_none, errW_some] <;> rfl), by repeat (first | (with_reducible first | exact HI0.out | apply IsS97.alloc | apply IsS97.drewN | apply IsS97.drew | apply IsS97.set_0 | apply IsS97.set_1 | refine IsS97.far ?_ NB0_538.out _ | refine IsS97.far ?_ NB0_539.out _) | exact HI0.out), by repeat (first | (with_reducible first | exact HB.out | apply below_alloc | apply pw_below_drewN | apply below_drew1 | refine below_set ?_ (IsS97.ge HI0.out) | refine below_set ?_ GE538.out | refine below_set ?_ GE539.out) | exact HB.out), by repeat (first | (with_reducible first | exact HK.out | apply KeepBut.set_ | apply keep_drewN | apply keep_drew | apply keep_alloc | refine keep_far ?_ GW538.out _ | refine keep_far ?_ GW539.out _) | exact HK.out)⟩
        ·rw [if_neg c48] at H
         have c48b0 : (t551 == 0) = false := beq_eq_false_iff_ne.mpr c48
         have c48b1 : (t551 != 0) = true := bne_iff_ne.mpr c48
         simp only [Option.some.injEq, Prod.mk.injEq] at H
         obtain ⟨rfl, rfl, rfl, rfl, rfl, rfl⟩ := H
         obtain ⟨HGz55, hgz55⟩ := HI0.out
         have hcz55_0 := cellS97_0 HGz55
         have hcz55_1 := cellS97_1 HGz55
         have hfz55_0 := blk_frozen HGz55 0
         have hfz55_1 := blk_frozen HGz55 1
         clear HGz55 hgz55
         have hnb56 := NB538_539.out
         have hnc56 := NB539_538.out
         have hnb57 := NB538_0.out
         have hnc57 := NB0_538.out
         have hcz58_0 : wc.cell? ⟨gb538, 0, none⟩ = some (.string (⟨#[]⟩ : ByteArray)) := (blk_cell BK538.out 0).trans rfl
         have hcz58_1 : wc.cell? ⟨gb538, 1, none⟩ = some (.int .u64 0) := (blk_cell BK538.out 1).trans rfl
         have hcz58_2 : wc.cell? ⟨gb538, 2, none⟩ = some (.int .i64 0) := (blk_cell BK538.out 2).trans rfl
         have hcz58_3 : wc.cell? ⟨gb538, 3, none⟩ = some (.string (⟨#[]⟩ : ByteArray)) := (blk_cell BK538.out 3).trans rfl
         have hfz58_0 := blk_frozen BK538.out 0
         have hfz58_1 := blk_frozen BK538.out 1
         have hfz58_2 := blk_frozen BK538.out 2
         have hfz58_3 := blk_frozen BK538.out 3
         go_wp2
         refine bodyPost_ret (results_cell_row rfl _ _ gb538 32 #[.string (⟨#[]⟩ : ByteArray), .int .u64 0, .int .i64 0, .string (⟨#[]⟩ : ByteArray)] (0, 0) _ rfl (by (with_reducible repeat (first | refine blk_drewN ?_ _ | refine blk_drew ?_ | refine blk_alloc ?_ _)); refine blk_put (cs := #[.string (⟨#[]⟩ : ByteArray), .int .u64 0, .int .i64 0, .string (⟨#[]⟩ : ByteArray)]) ?_ 3 _ rfl; (with_reducible repeat (first | refine blk_drewN ?_ _ | refine blk_drew ?_ | refine blk_alloc ?_ _)); refine blk_put (cs := #[.string (⟨#[]⟩ : ByteArray), .int .u64 0, .int .i64 0, .string (⟨#[]⟩ : ByteArray)]) ?_ 2 _ rfl; (with_reducible repeat (first | refine blk_drewN ?_ _ | refine blk_drew ?_ | refine blk_alloc ?_ _)); refine blk_put (cs := #[.string (⟨#[]⟩ : ByteArray), .int .u64 0, .int .i64 0, .string (⟨#[]⟩ : ByteArray)]) ?_ 1 _ rfl; (with_reducible repeat (first | refine blk_drewN ?_ _ | refine blk_drew ?_ | refine blk_alloc ?_ _)); refine blk_put (cs := #[.string (⟨#[]⟩ : ByteArray), .int .u64 0, .int .i64 0, .string (⟨#[]⟩ : ByteArray)]) ?_ 0 _ rfl; (with_reducible repeat (first | refine blk_drewN ?_ _ | refine blk_drew ?_ | refine blk_alloc ?_ _)); exact BK538.out) Tryz.underlying32 rfl (by kernel_rfl)) rfl ?_
         exact ⟨by first | rfl | (simp [errW_none, errW_some] <;> rfl) | (simp [*, errW_none, errW_some] <;> rfl), by repeat (first | (with_reducible first | exact HI0.out | apply IsS97.alloc | apply IsS97.drewN | apply IsS97.drew | apply IsS97.set_0 | apply IsS97.set_1 | refine IsS97.far ?_ NB0_538.out _ | refine IsS97.far ?_ NB0_539.out _) | exact HI0.out), by repeat (first | (with_reducible first | exact HB.out | apply below_alloc | apply pw_below_drewN | apply below_drew1 | refine below_set ?_ (IsS97.ge HI0.out) | refine below_set ?_ GE538.out | refine below_set ?_ GE539.out) | exact HB.out), by repeat (first | (with_reducible first | exact HK.out | apply KeepBut.set_ | apply keep_drewN | apply keep_drew | apply keep_alloc | refine keep_far ?_ GW538.out _ | refine keep_far ?_ GW539.out _) | exact HK.out)⟩
end Go.Proofs.YtchgpcgolgcfdaaGreat.PNum
end
section
namespace Go.Proofs.YtchgpcgolgcfdaaGreat.PNum
open Go.RowKit Go.Proofs.YtchgpcgolgcfdaaGreatW.PrintWords Go.Proofs.YtchgpcgolgcfdaaGreatW.PrintLast Go.Proofs.YtchgpcgolgcfdaaGreatW.PrintMore
attribute [local go_sem] max2_int min2_int max_two min_two max_three min_three max_four min_four   -- for this text's walks alone
set_option linter.unusedVariables false
set_option linter.unusedSimpArgs false
mutual
def cornucopiaref5_Shadow.l0 : Nat → List (S32) → List Int → List (S32) → Int → Option ((List (S32)))
 | 0, _, _, _, _ => none
 | k + 1, x0, x1, x5, x6 => if x6 < (x0.length : Int) then (if x6 = 0 then (cornucopiaref5_Shadow.j1 k x0 x1 x5 x6 true) else (if 0 ≤ (wrap64 (x6 - 1)) then (if (wrap64 (x6 - 1)) < (x0.length : Int) then (if 0 ≤ x6 then (cornucopiaref5_Shadow.j1 k x0 x1 x5 x6 (((rd_T32 x0 (wrap64 (x6 - 1))).f0).toList != ((rd_T32 x0 x6).f0).toList)) else (none)) else (none)) else (none))) else (some x5)
def cornucopiaref5_Shadow.j1 : Nat → List (S32) → List Int → List (S32) → Int → Bool → Option ((List (S32)))
 | 0, _, _, _, _, _ => none
 | k + 1, x0, x1, x5, x6, x7 => cornucopiaref5_Shadow.l1 k x0 x1 x5 x6 x7 0
def cornucopiaref5_Shadow.l1 : Nat → List (S32) → List Int → List (S32) → Int → Bool → Int → Option ((List (S32)))
 | 0, _, _, _, _, _, _ => none
 | k + 1, x0, x1, x5, x6, x7, x8 => if x8 < (x1.length : Int) then (if x7 = true then (cornucopiaref5_Shadow.l1 k x0 x1 x5 x6 true (wrap64 (x8 + 1))) else (if 0 ≤ x6 then (if x6 < (x0.length : Int) then (if 0 ≤ x8 then (if ((rd_T32 x0 x6).f1) ≤ (rd x1 x8) then (if 0 ≤ (wrap64 (x6 - 1)) then (if (wrap64 (x6 - 1)) < (x0.length : Int) then (cornucopiaref5_Shadow.l1 k x0 x1 x5 x6 (decide (((rd_T32 x0 (wrap64 (x6 - 1))).f1) > (rd x1 x8))) (wrap64 (x8 + 1))) else (none)) else (none)) else (cornucopiaref5_Shadow.l1 k x0 x1 x5 x6 false (wrap64 (x8 + 1)))) else (none)) else (none)) else (none))) else (if x7 = true then (if 0 ≤ x6 then (if x6 < (x0.length : Int) then (if x5.length < 2932031007402 then (cornucopiaref5_Shadow.l0 k x0 x1 (x5 ++ [(⟨(rd_T32 x0 x6).f0, (rd_T32 x0 x6).f1, (rd_T32 x0 x6).f2, (rd_T32 x0 x6).f3⟩ : S32)]) (wrap64 (x6 + 1))) else (none)) else (none)) else (none)) else (cornucopiaref5_Shadow.l0 k x0 x1 x5 (wrap64 (x6 + 1))))
end
def cornucopiaref5_Shadow.f (k : Nat) (l0 : List (S32)) (l1 : List Int) : Option ((List (S32))) := cornucopiaref5_Shadow.l0 k l0 l1 ([] : List (S32)) 0
theorem cornucopiaref5_Shadow.mono_l : ∀ k, (∀ y0 y1 y2 y3, LeO (cornucopiaref5_Shadow.l0 k y0 y1 y2 y3) (cornucopiaref5_Shadow.l0 (k + 1) y0 y1 y2 y3)) ∧ (∀ y0 y1 y2 y3 y4, LeO (cornucopiaref5_Shadow.j1 k y0 y1 y2 y3 y4) (cornucopiaref5_Shadow.j1 (k + 1) y0 y1 y2 y3 y4)) ∧ (∀ y0 y1 y2 y3 y4 y5, LeO (cornucopiaref5_Shadow.l1 k y0 y1 y2 y3 y4 y5) (cornucopiaref5_Shadow.l1 (k + 1) y0 y1 y2 y3 y4 y5))
 | 0 => ⟨fun _ _ _ _ r h => by simp [cornucopiaref5_Shadow.l0] at h, fun _ _ _ _ _ r h => by simp [cornucopiaref5_Shadow.j1] at h, fun _ _ _ _ _ _ r h => by simp [cornucopiaref5_Shadow.l1] at h⟩
 | k + 1 => by
  obtain ⟨ih0, ih1, ih2⟩ := cornucopiaref5_Shadow.mono_l k
  refine ⟨?_, ?_, ?_⟩
  ·intro y0 y1 y2 y3
   unfold cornucopiaref5_Shadow.l0
   repeat' first
   | (with_reducible exact ih0 _ _ _ _)
   | (with_reducible exact ih1 _ _ _ _ _)
   | (with_reducible exact ih2 _ _ _ _ _ _)
   | (with_reducible exact LeO.refl _)
   | (with_reducible exact LeO.none _)
   | (with_reducible refine LeO.ite ?_ ?_)
   | (with_reducible refine LeO.bind ?_ (fun _ => ?_))
   | exact ih0 _ _ _ _
   | exact ih1 _ _ _ _ _
   | exact ih2 _ _ _ _ _ _
   | exact LeO.none _
   | refine LeO.ite ?_ ?_
   | refine LeO.bind ?_ (fun _ => ?_)
  ·intro y0 y1 y2 y3 y4
   unfold cornucopiaref5_Shadow.j1
   repeat' first
   | (with_reducible exact ih0 _ _ _ _)
   | (with_reducible exact ih1 _ _ _ _ _)
   | (with_reducible exact ih2 _ _ _ _ _ _)
   | (with_reducible exact LeO.refl _)
   | (with_reducible exact LeO.none _)
   | (with_reducible refine LeO.ite ?_ ?_)
   | (with_reducible refine LeO.bind ?_ (fun _ => ?_))
   | exact ih0 _ _ _ _
   | exact ih1 _ _ _ _ _
   | exact ih2 _ _ _ _ _ _
   | exact LeO.none _
   | refine LeO.ite ?_ ?_
   | refine LeO.bind ?_ (fun _ => ?_)
  ·intro y0 y1 y2 y3 y4 y5
   unfold cornucopiaref5_Shadow.l1
   repeat' first
   | (with_reducible exact ih0 _ _ _ _)
   | (with_reducible exact ih1 _ _ _ _ _)
   | (with_reducible exact ih2 _ _ _ _ _ _)
   | (with_reducible exact LeO.refl _)
   | (with_reducible exact LeO.none _)
   | (with_reducible refine LeO.ite ?_ ?_)
   | (with_reducible refine LeO.bind ?_ (fun _ => ?_))
   | exact ih0 _ _ _ _
   | exact ih1 _ _ _ _ _
   | exact ih2 _ _ _ _ _ _
   | exact LeO.none _
   | refine LeO.ite ?_ ?_
   | refine LeO.bind ?_ (fun _ => ?_)
theorem cornucopiaref5_Shadow.mono : ∀ a0 a1 k, LeO (cornucopiaref5_Shadow.f k a0 a1) (cornucopiaref5_Shadow.f (k + 1) a0 a1) := by
 intro a0 a1 k
 obtain ⟨ih0, ih1, ih2⟩ := cornucopiaref5_Shadow.mono_l k
 unfold cornucopiaref5_Shadow.f
 repeat' first
   | (with_reducible exact ih0 _ _ _ _)
   | (with_reducible exact ih1 _ _ _ _ _)
   | (with_reducible exact ih2 _ _ _ _ _ _)
   | (with_reducible exact LeO.refl _)
   | (with_reducible exact LeO.none _)
   | (with_reducible refine LeO.ite ?_ ?_)
   | (with_reducible refine LeO.bind ?_ (fun _ => ?_))
   | exact ih0 _ _ _ _
   | exact ih1 _ _ _ _ _
   | exact ih2 _ _ _ _ _ _
   | exact LeO.none _
   | refine LeO.ite ?_ ?_
   | refine LeO.bind ?_ (fun _ => ?_)
set_option maxHeartbeats 8000000 in
set_option maxRecDepth 100000 in
theorem cornucopiaref5_Shadow.calls (k : Nat) (A0 : Option Addr) (c0 : Nat) (l0 : List (S32)) (A1 : Option Addr) (c1 : Nat) (l1 : List Int) (r : List (S32)) (w : World) (hr0 : Kd.C k32 w A0 l0.length l0) (hc0 : l0.length ≤ c0) (hr1 : Kd.C (Kd.int .u64) w A1 l1.length l1) (hc1 : l1.length ≤ c1) (h : cornucopiaref5_Shadow.f k l0 l1 = some r) :
  Calls Tryz.prog 56 #[.slice A0 l0.length c0, .slice A1 l1.length c1] w fun e w' => ∃ v0_ : Value, e = .returned (v0_) ∧ Kd.R k32 32 w' w.heap.size (fun _ => True) v0_ r ∧ Below w.heap.size w w' := by
 have hu32 := Tryz.underlying32
 have HR0 := Aside0.mk hr0
 have HC0 := Aside0.mk hc0
 clear hr0 hc0
 have HR1 := Aside0.mk hr1
 have HC1 := Aside0.mk hc1
 clear hr1 hc1
 have HB := Aside0.mk (Below.refl w.heap.size w)
 have H : (cornucopiaref5_Shadow.l0 k l0 l1 ([] : List (S32)) 0) = some r := h
 clear h
 have H' := Aside0.mk H
 clear H
 go_enter Tryz.func56, Tryz.ntmps56
 go_wp2
 repeat (go_quiet (fail); try go_wp2)
 go_loopg [5, 6] k (fun kq v5 v6 w' => ∃ (x5_1 : List (S32)) (x6_1 : Int), v6 = .int .i64 x6_1 ∧ Aside0 (cornucopiaref5_Shadow.l0 kq l0 l1 x5_1 x6_1 = some r) ∧ Aside0 (kq ≤ k) ∧ Aside0 (Kd.R k32 32 w' w.heap.size (fun _ => True) v5 x5_1) ∧ Aside0 (Below w.heap.size w w'))
 case atStart => exact ⟨(([] : List (S32))), (0), (by first | rfl | (simp; done) | (simp [*]; done)), H', ⟨Nat.le_refl _⟩, ⟨by first | exact Kd.R_nil _ _ _ _ _ | exact Kd.N_nil _ _ _ _ _ | exact Kd.V_nil _ _ _ _ _ | exact Kd.Q_nil _ _ _ _ _ | exact Kd.S_nil _ _ _ _ _⟩, ⟨by repeat (first | (with_reducible first | exact HB.out | apply below_alloc | apply pw_below_drewN | apply below_drew1) | exact HB.out)⟩⟩
 case round =>
  clear H'
  try clear c1
  try clear p2
  obtain ⟨x5_1, x6_1, rfl, HA, HK1, HO_5, HB⟩ := hrel
  cases gk with
  | zero => exact absurd HA.out (by simp [cornucopiaref5_Shadow.l0])
  | succ k1 =>
   have H := HA.out
   clear HA
   simp only [cornucopiaref5_Shadow.l0] at H
   by_cases c3 : x6_1 < (l0.length : Int)
   ·rw [if_pos c3] at H
    have c3b0 : decide (x6_1 < (l0.length : Int)) = true := decide_eq_true c3
    clear c3
    have HC4 := Aside0.mk H
    clear H
    go_upto_region 5 with (fail)
    repeat (go_quiet (fail); go_upto_region 5 with (fail))
    go_cut [7] (fun v7 wc => ∃ (kq : Nat) (x7_3 : Bool), v7 = .bool x7_3 ∧ Aside0 (cornucopiaref5_Shadow.j1 kq l0 l1 x5_1 x6_1 x7_3 = some r) ∧ Aside0 (kq ≤ k1) ∧ Aside0 (Kd.R k32 32 wc w.heap.size (fun _ => True) u5 x5_1) ∧ Aside0 (Below w.heap.size w wc))
    case first =>
     have H := HC4.out
     clear HC4
     by_cases c5 : x6_1 = 0
     ·rw [if_pos c5] at H
      have c5b0 : (x6_1 == 0) = true := beq_iff_eq.mpr c5
      have c5b1 : (x6_1 != 0) = false := bne_eq_false_iff_eq.mpr c5
      clear c5
      (first | rw [c5b0] | (simp only [i64_w, i32_w]; rw [c5b0]) | skip)
      have H' := Aside0.mk H
      clear H
      go_wp2
      repeat (go_quiet (fail); try go_wp2)
      go_meet
      case rel => exact ⟨_, (true), (by first | rfl | (simp; done) | (simp [*]; done)), H', ⟨by have := HK1.out; first | omega | exact Nat.le_refl _⟩, ⟨by (with_reducible repeat (first | apply Kd.R_alloc | apply Kd.R_drewN | apply Kd.R_drew)); exact HO_5.out⟩, ⟨by repeat (first | (with_reducible first | exact HB.out | apply below_alloc | apply pw_below_drewN | apply below_drew1) | exact HB.out)⟩⟩
     ·rw [if_neg c5] at H
      have c5b0 : (x6_1 == 0) = false := beq_eq_false_iff_ne.mpr c5
      have c5b1 : (x6_1 != 0) = true := bne_iff_ne.mpr c5
      (first | rw [c5b0] | (simp only [i64_w, i32_w]; rw [c5b0]) | skip)
      obtain ⟨ji6, hji6⟩ : ∃ j_ : Int, (wrap64 (x6_1 - 1)) = j_ := ⟨_, rfl⟩
      replace H : (if 0 ≤ (ji6) then (if (ji6) < (l0.length : Int) then (if 0 ≤ x6_1 then (cornucopiaref5_Shadow.j1 k1 l0 l1 x5_1 x6_1 (((rd_T32 l0 (ji6)).f0).toList != ((rd_T32 l0 x6_1).f0).toList)) else (none)) else (none)) else (none)) = some r := by first | (rw [hji6] at H; exact H) | (simp only [hji6] at H ⊢; exact H)
      have hji6w : (IntKind.i64.wrap (x6_1 - 1)) = ji6 := (i64_w _).trans hji6
      by_cases c7 : 0 ≤ (ji6)
      ·rw [if_pos c7] at H
       have c7b0 : decide (0 ≤ (ji6)) = true := decide_eq_true c7
       clear c7
       by_cases c8 : (ji6) < (l0.length : Int)
       ·rw [if_pos c8] at H
        have c8b0 : decide ((ji6) < (l0.length : Int)) = true := decide_eq_true c8
        clear c8
        by_cases c9 : 0 ≤ x6_1
        ·rw [if_pos c9] at H
         have c9b0 : decide (0 ≤ x6_1) = true := decide_eq_true c9
         clear c9
         have H' := Aside0.mk H
         clear H
         have p555 : 0 ≤ ((ji6) : Int) := of_decide_eq_true (by first | (with_reducible assumption) | assumption)
         have q555 : (ji6) < (l0.length : Int) := of_decide_eq_true (by first | (with_reducible assumption) | assumption)
         obtain ⟨ad555, e555, hx555_0, hx555_1, hx555_2, hx555_3⟩ := at_T32 HR0.out (ji6) p555 q555
         cases e555
         replace hx555_0 := (HB.out.cell (World.block_lt_of_cell? w _ hx555_0)).trans hx555_0
         replace hx555_1 := (HB.out.cell (World.block_lt_of_cell? w _ hx555_1)).trans hx555_1
         replace hx555_2 := (HB.out.cell (World.block_lt_of_cell? w _ hx555_2)).trans hx555_2
         replace hx555_3 := (HB.out.cell (World.block_lt_of_cell? w _ hx555_3)).trans hx555_3
         replace p555 := eq_true p555
         replace q555 := eq_true q555
         have p556 : 0 ≤ (x6_1 : Int) := of_decide_eq_true (by first | (with_reducible assumption) | assumption)
         have q556 : x6_1 < (l0.length : Int) := of_decide_eq_true (by first | (with_reducible assumption) | assumption)
         obtain ⟨ad556, e556, hx556_0, hx556_1, hx556_2, hx556_3⟩ := at_T32 HR0.out x6_1 p556 q556
         obtain rfl : ad555 = ad556 := (by injection e556)
         replace hx556_0 := (HB.out.cell (World.block_lt_of_cell? w _ hx556_0)).trans hx556_0
         replace hx556_1 := (HB.out.cell (World.block_lt_of_cell? w _ hx556_1)).trans hx556_1
         replace hx556_2 := (HB.out.cell (World.block_lt_of_cell? w _ hx556_2)).trans hx556_2
         replace hx556_3 := (HB.out.cell (World.block_lt_of_cell? w _ hx556_3)).trans hx556_3
         replace p556 := eq_true p556
         replace q556 := eq_true q556
         go_wp2
         repeat (go_quiet (fail); try go_wp2)
         go_meet
         case rel => exact ⟨_, ((((rd_T32 l0 (ji6)).f0).toList != ((rd_T32 l0 x6_1).f0).toList)), (by first | rfl | (simp; done) | (simp only [← hji6] <;> (first | rfl | simp)) | (simp [*]; done)), H', ⟨by have := HK1.out; first | omega | exact Nat.le_refl _⟩, ⟨by (with_reducible repeat (first | apply Kd.R_alloc | apply Kd.R_drewN | apply Kd.R_drew)); exact HO_5.out⟩, ⟨by repeat (first | (with_reducible first | exact HB.out | apply below_alloc | apply pw_below_drewN | apply below_drew1) | exact HB.out)⟩⟩
        ·rw [if_neg c9] at H
         exact absurd H (by simp)
       ·rw [if_neg c8] at H
        exact absurd H (by simp)
      ·rw [if_neg c7] at H
       exact absurd H (by simp)
    case rest =>
     clear HC4
     try clear c1
     try clear p2
     try clear c3
     try clear c3b0
     try clear c5
     try clear c5b0
     try clear c5b1
     try clear p5
     try clear q5
     try clear hx5
     try clear p6
     try clear c7
     try clear c7b0
     try clear c8
     try clear c8b0
     try clear c9
     try clear c9b0
     try clear hx555_0
     try clear hx555_1
     try clear hx555_2
     try clear hx555_3
     try clear hx556_0
     try clear hx556_1
     try clear hx556_2
     try clear hx556_3
     try clear p2
     try clear p555
     try clear p556
     try clear q555
     try clear q556
     obtain ⟨kq, x7_3, rfl, HA, HJ3, HO_5, HB⟩ := hcut
     cases kq with
     | zero => exact absurd HA.out (by simp [cornucopiaref5_Shadow.j1])
     | succ kj3 =>
      have H := HA.out
      clear HA
      simp only [cornucopiaref5_Shadow.j1] at H
      have H' := Aside0.mk H
      clear H
      go_wp2
      repeat (go_quiet (fail); try go_wp2)
      go_loopg [7, 8] kj3 (fun kq v7 v8 w' => ∃ (x7_3 : Bool) (x8_3 : Int), v7 = .bool x7_3 ∧ v8 = .int .i64 x8_3 ∧ Aside0 (cornucopiaref5_Shadow.l1 kq l0 l1 x5_1 x6_1 x7_3 x8_3 = some r) ∧ Aside0 (kq ≤ kj3) ∧ Aside0 (Kd.R k32 32 w' w.heap.size (fun _ => True) u5 x5_1) ∧ Aside0 (Below w.heap.size w w'))
      case atStart => exact ⟨(x7_3), (0), (by first | rfl | (simp; done) | (simp [*]; done)), (by first | rfl | (simp; done) | (simp [*]; done)), H', ⟨Nat.le_refl _⟩, ⟨by (with_reducible repeat (first | apply Kd.R_alloc | apply Kd.R_drewN | apply Kd.R_drew)); exact HO_5.out⟩, ⟨by repeat (first | (with_reducible first | exact HB.out | apply below_alloc | apply pw_below_drewN | apply below_drew1) | exact HB.out)⟩⟩
      case round =>
       clear H'
       try clear c1
       try clear p2
       try clear c3
       try clear c3b0
       try clear c5
       try clear c5b0
       try clear c5b1
       try clear p5
       try clear q5
       try clear hx5
       try clear p6
       try clear c7
       try clear c7b0
       try clear c8
       try clear c8b0
       try clear c9
       try clear c9b0
       try clear hx555_0
       try clear hx555_1
       try clear hx555_2
       try clear hx555_3
       try clear hx556_0
       try clear hx556_1
       try clear hx556_2
       try clear hx556_3
       try clear p2
       try clear p5
       try clear p555
       try clear p556
       try clear p6
       try clear q5
       try clear q555
       try clear q556
       obtain ⟨x7_3, x8_3, rfl, rfl, HA, HK3, HO_5, HB⟩ := hrel
       cases gk with
       | zero => exact absurd HA.out (by simp [cornucopiaref5_Shadow.l1])
       | succ k3 =>
        have H := HA.out
        clear HA
        simp only [cornucopiaref5_Shadow.l1] at H
        by_cases c10 : x8_3 < (l1.length : Int)
        ·rw [if_pos c10] at H
         have c10b0 : decide (x8_3 < (l1.length : Int)) = true := decide_eq_true c10
         clear c10
         by_cases c11 : x7_3 = true
         ·subst c11
          have H1 : (cornucopiaref5_Shadow.l1 k3 l0 l1 x5_1 x6_1 true (wrap64 (x8_3 + 1))) = some r := by rw [if_pos rfl] at H; exact H
          clear H
          have H := H1
          clear H1
          have H' := Aside0.mk H
          clear H
          go_wp2
          repeat (go_quiet (fail); try go_wp2)
          go_roundg k3
          case measure => have := HK1.out; have := HJ3.out; have := HK3.out; omega
          case rel => exact ⟨(true), (wrap64 (x8_3 + 1)), (by first | rfl | (simp; done) | (simp [*]; done)), (by first | rfl | (simp; done) | (simp [*]; done)), H', ⟨by have := HK1.out; have := HJ3.out; have := HK3.out; omega⟩, ⟨by (with_reducible repeat (first | apply Kd.R_alloc | apply Kd.R_drewN | apply Kd.R_drew)); exact HO_5.out⟩, ⟨by repeat (first | (with_reducible first | exact HB.out | apply below_alloc | apply pw_below_drewN | apply below_drew1) | exact HB.out)⟩⟩
         ·replace c11 := Bool.eq_false_iff.mpr c11
          subst c11
          have H1 : (if 0 ≤ x6_1 then (if x6_1 < (l0.length : Int) then (if 0 ≤ x8_3 then (if ((rd_T32 l0 x6_1).f1) ≤ (rd l1 x8_3) then (if 0 ≤ (wrap64 (x6_1 - 1)) then (if (wrap64 (x6_1 - 1)) < (l0.length : Int) then (cornucopiaref5_Shadow.l1 k3 l0 l1 x5_1 x6_1 (decide (((rd_T32 l0 (wrap64 (x6_1 - 1))).f1) > (rd l1 x8_3))) (wrap64 (x8_3 + 1))) else (none)) else (none)) else (cornucopiaref5_Shadow.l1 k3 l0 l1 x5_1 x6_1 false (wrap64 (x8_3 + 1)))) else (none)) else (none)) else (none)) = some r := by rw [if_neg (show ¬ (false = true) by decide)] at H; exact H
          clear H
          have H := H1
          clear H1
          by_cases c12 : 0 ≤ x6_1
          ·rw [if_pos c12] at H
           have c12b0 : decide (0 ≤ x6_1) = true := decide_eq_true c12
           clear c12
           by_cases c13 : x6_1 < (l0.length : Int)
           ·rw [if_pos c13] at H
            have c13b0 : decide (x6_1 < (l0.length : Int)) = true := decide_eq_true c13
            clear c13
            by_cases c14 : 0 ≤ x8_3
            ·rw [if_pos c14] at H
             have c14b0 : decide (0 ≤ x8_3) = true := decide_eq_true c14
             clear c14
             by_cases c15 : ((rd_T32 l0 x6_1).f1) ≤ (rd l1 x8_3)
             ·rw [if_pos c15] at H
              have c15b0 : decide (((rd_T32 l0 x6_1).f1) ≤ (rd l1 x8_3)) = true := decide_eq_true c15
              clear c15
              obtain ⟨ji16, hji16⟩ : ∃ j_ : Int, (wrap64 (x6_1 - 1)) = j_ := ⟨_, rfl⟩
              replace H : (if 0 ≤ (ji16) then (if (ji16) < (l0.length : Int) then (cornucopiaref5_Shadow.l1 k3 l0 l1 x5_1 x6_1 (decide (((rd_T32 l0 (ji16)).f1) > (rd l1 x8_3))) (wrap64 (x8_3 + 1))) else (none)) else (none)) = some r := by first | (rw [hji16] at H; exact H) | (simp only [hji16] at H ⊢; exact H)
              have hji16w : (IntKind.i64.wrap (x6_1 - 1)) = ji16 := (i64_w _).trans hji16
              by_cases c17 : 0 ≤ (ji16)
              ·rw [if_pos c17] at H
               have c17b0 : decide (0 ≤ (ji16)) = true := decide_eq_true c17
               clear c17
               by_cases c18 : (ji16) < (l0.length : Int)
               ·rw [if_pos c18] at H
                have c18b0 : decide ((ji16) < (l0.length : Int)) = true := decide_eq_true c18
                clear c18
                have H' := Aside0.mk H
                clear H
                have p557 : 0 ≤ (x6_1 : Int) := of_decide_eq_true (by first | (with_reducible assumption) | assumption)
                have q557 : x6_1 < (l0.length : Int) := of_decide_eq_true (by first | (with_reducible assumption) | assumption)
                obtain ⟨ad557, e557, hx557_0, hx557_1, hx557_2, hx557_3⟩ := at_T32 HR0.out x6_1 p557 q557
                cases e557
                replace hx557_0 := (HB.out.cell (World.block_lt_of_cell? w _ hx557_0)).trans hx557_0
                replace hx557_1 := (HB.out.cell (World.block_lt_of_cell? w _ hx557_1)).trans hx557_1
                replace hx557_2 := (HB.out.cell (World.block_lt_of_cell? w _ hx557_2)).trans hx557_2
                replace hx557_3 := (HB.out.cell (World.block_lt_of_cell? w _ hx557_3)).trans hx557_3
                replace p557 := eq_true p557
                replace q557 := eq_true q557
                have p558 : 0 ≤ (x8_3 : Int) := of_decide_eq_true (by first | (with_reducible assumption) | assumption)
                have q558 : x8_3 < (l1.length : Int) := of_decide_eq_true (by first | (with_reducible assumption) | assumption)
                obtain ⟨ad558, e558, hx558_0⟩ := Kd.at_int HR1.out x8_3 p558 q558
                cases e558
                replace hx558_0 := (HB.out.cell (World.block_lt_of_cell? w _ hx558_0)).trans hx558_0
                replace p558 := eq_true p558
                replace q558 := eq_true q558
                have p559 : 0 ≤ ((ji16) : Int) := of_decide_eq_true (by first | (with_reducible assumption) | assumption)
                have q559 : (ji16) < (l0.length : Int) := of_decide_eq_true (by first | (with_reducible assumption) | assumption)
                obtain ⟨ad559, e559, hx559_0, hx559_1, hx559_2, hx559_3⟩ := at_T32 HR0.out (ji16) p559 q559
                obtain rfl : ad557 = ad559 := (by injection e559)
                replace hx559_0 := (HB.out.cell (World.block_lt_of_cell? w _ hx559_0)).trans hx559_0
                replace hx559_1 := (HB.out.cell (World.block_lt_of_cell? w _ hx559_1)).trans hx559_1
                replace hx559_2 := (HB.out.cell (World.block_lt_of_cell? w _ hx559_2)).trans hx559_2
                replace hx559_3 := (HB.out.cell (World.block_lt_of_cell? w _ hx559_3)).trans hx559_3
                replace p559 := eq_true p559
                replace q559 := eq_true q559
                have p560 : 0 ≤ (x8_3 : Int) := of_decide_eq_true (by first | (with_reducible assumption) | assumption)
                have q560 : x8_3 < (l1.length : Int) := of_decide_eq_true (by first | (with_reducible assumption) | assumption)
                obtain ⟨ad560, e560, hx560_0⟩ := Kd.at_int HR1.out x8_3 p560 q560
                obtain rfl : ad558 = ad560 := (by injection e560)
                replace hx560_0 := (HB.out.cell (World.block_lt_of_cell? w _ hx560_0)).trans hx560_0
                replace p560 := eq_true p560
                replace q560 := eq_true q560
                go_wp2
                repeat (go_quiet (fail); try go_wp2)
                go_roundg k3
                case measure => have := HK1.out; have := HJ3.out; have := HK3.out; omega
                case rel => exact ⟨(decide (((rd_T32 l0 (ji16)).f1) > (rd l1 x8_3))), (wrap64 (x8_3 + 1)), (by first | rfl | (simp; done) | (simp only [← hji16] <;> (first | rfl | simp)) | (simp [*]; done)), (by first | rfl | (simp; done) | (simp [*]; done)), H', ⟨by have := HK1.out; have := HJ3.out; have := HK3.out; omega⟩, ⟨by (with_reducible repeat (first | apply Kd.R_alloc | apply Kd.R_drewN | apply Kd.R_drew)); exact HO_5.out⟩, ⟨by repeat (first | (with_reducible first | exact HB.out | apply below_alloc | apply pw_below_drewN | apply below_drew1) | exact HB.out)⟩⟩
               ·rw [if_neg c18] at H
                exact absurd H (by simp)
              ·rw [if_neg c17] at H
               exact absurd H (by simp)
             ·rw [if_neg c15] at H
              have c15b0 : decide (((rd_T32 l0 x6_1).f1) ≤ (rd l1 x8_3)) = false := decide_eq_false c15
              clear c15
              have H' := Aside0.mk H
              clear H
              have p557 : 0 ≤ (x6_1 : Int) := of_decide_eq_true (by first | (with_reducible assumption) | assumption)
              have q557 : x6_1 < (l0.length : Int) := of_decide_eq_true (by first | (with_reducible assumption) | assumption)
              obtain ⟨ad557, e557, hx557_0, hx557_1, hx557_2, hx557_3⟩ := at_T32 HR0.out x6_1 p557 q557
              cases e557
              replace hx557_0 := (HB.out.cell (World.block_lt_of_cell? w _ hx557_0)).trans hx557_0
              replace hx557_1 := (HB.out.cell (World.block_lt_of_cell? w _ hx557_1)).trans hx557_1
              replace hx557_2 := (HB.out.cell (World.block_lt_of_cell? w _ hx557_2)).trans hx557_2
              replace hx557_3 := (HB.out.cell (World.block_lt_of_cell? w _ hx557_3)).trans hx557_3
              replace p557 := eq_true p557
              replace q557 := eq_true q557
              have p558 : 0 ≤ (x8_3 : Int) := of_decide_eq_true (by first | (with_reducible assumption) | assumption)
              have q558 : x8_3 < (l1.length : Int) := of_decide_eq_true (by first | (with_reducible assumption) | assumption)
              obtain ⟨ad558, e558, hx558_0⟩ := Kd.at_int HR1.out x8_3 p558 q558
              cases e558
              replace hx558_0 := (HB.out.cell (World.block_lt_of_cell? w _ hx558_0)).trans hx558_0
              replace p558 := eq_true p558
              replace q558 := eq_true q558
              go_wp2
              repeat (go_quiet (fail); try go_wp2)
              go_roundg k3
              case measure => have := HK1.out; have := HJ3.out; have := HK3.out; omega
              case rel => exact ⟨(false), (wrap64 (x8_3 + 1)), (by first | rfl | (simp; done) | (simp [*]; done)), (by first | rfl | (simp; done) | (simp [*]; done)), H', ⟨by have := HK1.out; have := HJ3.out; have := HK3.out; omega⟩, ⟨by (with_reducible repeat (first | apply Kd.R_alloc | apply Kd.R_drewN | apply Kd.R_drew)); exact HO_5.out⟩, ⟨by repeat (first | (with_reducible first | exact HB.out | apply below_alloc | apply pw_below_drewN | apply below_drew1) | exact HB.out)⟩⟩
            ·rw [if_neg c14] at H
             exact absurd H (by simp)
           ·rw [if_neg c13] at H
            exact absurd H (by simp)
          ·rw [if_neg c12] at H
           exact absurd H (by simp)
        ·rw [if_neg c10] at H
         have c10b0 : decide (x8_3 < (l1.length : Int)) = false := decide_eq_false c10
         clear c10
         by_cases c19 : x7_3 = true
         ·subst c19
          have H1 : (if 0 ≤ x6_1 then (if x6_1 < (l0.length : Int) then (if x5_1.length < 2932031007402 then (cornucopiaref5_Shadow.l0 k3 l0 l1 (x5_1 ++ [(⟨(rd_T32 l0 x6_1).f0, (rd_T32 l0 x6_1).f1, (rd_T32 l0 x6_1).f2, (rd_T32 l0 x6_1).f3⟩ : S32)]) (wrap64 (x6_1 + 1))) else (none)) else (none)) else (none)) = some r := by rw [if_pos rfl] at H; exact H
          clear H
          have H := H1
          clear H1
          by_cases c20 : 0 ≤ x6_1
          ·rw [if_pos c20] at H
           have c20b0 : decide (0 ≤ x6_1) = true := decide_eq_true c20
           clear c20
           by_cases c21 : x6_1 < (l0.length : Int)
           ·rw [if_pos c21] at H
            have c21b0 : decide (x6_1 < (l0.length : Int)) = true := decide_eq_true c21
            clear c21
            by_cases c22 : x5_1.length < 2932031007402
            ·rw [if_pos c22] at H
             have LMc22 := Aside0.mk c22
             clear c22
             obtain ⟨y562, hy562⟩ : ∃ y_ : List (S32), y_ = (x5_1 ++ [(⟨(rd_T32 l0 x6_1).f0, (rd_T32 l0 x6_1).f1, (rd_T32 l0 x6_1).f2, (rd_T32 l0 x6_1).f3⟩ : S32)]) := ⟨_, rfl⟩
             replace H : (cornucopiaref5_Shadow.l0 k3 l0 l1 y562 (wrap64 (x6_1 + 1))) = some r := by first | (rw [hy562]; with_reducible exact H) | (have H2_ := (Option.bind_some _ _).symm.trans H; rw [hy562]; with_reducible exact H2_) | (have H2_ := (Option.bind_some _ _).symm.trans H; with_reducible exact H2_) | with_reducible exact H | (rw [hy562]; exact H) | exact H
             have Ny562 := Aside0.mk hy562
             clear hy562
             have H' := Aside0.mk H
             clear H
             have p561 : 0 ≤ (x6_1 : Int) := of_decide_eq_true (by first | (with_reducible assumption) | assumption)
             have q561 : x6_1 < (l0.length : Int) := of_decide_eq_true (by first | (with_reducible assumption) | assumption)
             obtain ⟨ad561, e561, hx561_0, hx561_1, hx561_2, hx561_3⟩ := at_T32 HR0.out x6_1 p561 q561
             cases e561
             replace hx561_0 := (HB.out.cell (World.block_lt_of_cell? w _ hx561_0)).trans hx561_0
             replace hx561_1 := (HB.out.cell (World.block_lt_of_cell? w _ hx561_1)).trans hx561_1
             replace hx561_2 := (HB.out.cell (World.block_lt_of_cell? w _ hx561_2)).trans hx561_2
             replace hx561_3 := (HB.out.cell (World.block_lt_of_cell? w _ hx561_3)).trans hx561_3
             replace p561 := eq_true p561
             replace q561 := eq_true q561
             go_wp2_with (first | ((with_reducible refine gate_builtin (b := .append) (xs := #[.tmp 64, .tmp 69]) rfl ?_); at_builtin; refine Kd.R_append k32 (w0 := w) w.heap.size rfl (.tmp 64) (.tmp 69) 22 32 (.agg #[(.string ⟨#[]⟩), (.int .u64 0), (.int .i64 0), (.string ⟨#[]⟩)]) 48 rfl Tryz.underlying22 info32 rfl (by decide) (by omega) u5 x5_1 (⟨(rd_T32 l0 x6_1).f0, (rd_T32 l0 x6_1).f1, (rd_T32 l0 x6_1).f2, (rd_T32 l0 x6_1).f3⟩ : S32) [.string ((rd_T32 l0 x6_1).f0), .int .u64 ((rd_T32 l0 x6_1).f1), .int .i64 ((rd_T32 l0 x6_1).f2), .string ((rd_T32 l0 x6_1).f3)] (fun _ => True) (fun _ => False) rfl rfl ?aP (fun _ hk => hk.elim) ?aF ?aO ?aB ?aS ?aL ?_; (case aP => exact k32_mkM _ _ _ (⟨(rd_T32 l0 x6_1).f0, (rd_T32 l0 x6_1).f1, (rd_T32 l0 x6_1).f2, (rd_T32 l0 x6_1).f3⟩ : S32)); (case aB => exact (by repeat (first | (with_reducible first | exact HB.out | apply below_alloc | apply pw_below_drewN | apply below_drew1) | exact HB.out))); (case aF => exact (fun _ _ => trivial)); (case aO => exact (by (with_reducible repeat (first | apply Kd.R_alloc | apply Kd.R_drewN | apply Kd.R_drew)); exact HO_5.out)); (case aS => exact (below_size (by repeat (first | (with_reducible first | exact HB.out | apply below_alloc | apply pw_below_drewN | apply below_drew1) | exact HB.out)))); (case aL => have := LMc22.out; omega); intro v563 w23 ho hb hg hat; rw [← Ny562.out] at ho; have n0_ := Aside0.mk (hb); have n1_ := Aside0.mk (ho); clear HB; clear HO_5; have HB := n0_; have HO564 := n1_; clear n0_ n1_; clear ho hb hg hat))
             repeat (go_quiet (first | ((with_reducible refine gate_builtin (b := .append) (xs := #[.tmp 64, .tmp 69]) rfl ?_); at_builtin; refine Kd.R_append k32 (w0 := w) w.heap.size rfl (.tmp 64) (.tmp 69) 22 32 (.agg #[(.string ⟨#[]⟩), (.int .u64 0), (.int .i64 0), (.string ⟨#[]⟩)]) 48 rfl Tryz.underlying22 info32 rfl (by decide) (by omega) u5 x5_1 (⟨(rd_T32 l0 x6_1).f0, (rd_T32 l0 x6_1).f1, (rd_T32 l0 x6_1).f2, (rd_T32 l0 x6_1).f3⟩ : S32) [.string ((rd_T32 l0 x6_1).f0), .int .u64 ((rd_T32 l0 x6_1).f1), .int .i64 ((rd_T32 l0 x6_1).f2), .string ((rd_T32 l0 x6_1).f3)] (fun _ => True) (fun _ => False) rfl rfl ?aP (fun _ hk => hk.elim) ?aF ?aO ?aB ?aS ?aL ?_; (case aP => exact k32_mkM _ _ _ (⟨(rd_T32 l0 x6_1).f0, (rd_T32 l0 x6_1).f1, (rd_T32 l0 x6_1).f2, (rd_T32 l0 x6_1).f3⟩ : S32)); (case aB => exact (by repeat (first | (with_reducible first | exact HB.out | apply below_alloc | apply pw_below_drewN | apply below_drew1) | exact HB.out))); (case aF => exact (fun _ _ => trivial)); (case aO => exact (by (with_reducible repeat (first | apply Kd.R_alloc | apply Kd.R_drewN | apply Kd.R_drew)); exact HO_5.out)); (case aS => exact (below_size (by repeat (first | (with_reducible first | exact HB.out | apply below_alloc | apply pw_below_drewN | apply below_drew1) | exact HB.out)))); (case aL => have := LMc22.out; omega); intro v563 w23 ho hb hg hat; rw [← Ny562.out] at ho; have n0_ := Aside0.mk (hb); have n1_ := Aside0.mk (ho); clear HB; clear HO_5; have HB := n0_; have HO564 := n1_; clear n0_ n1_; clear ho hb hg hat)); try go_wp2_with (first | ((with_reducible refine gate_builtin (b := .append) (xs := #[.tmp 64, .tmp 69]) rfl ?_); at_builtin; refine Kd.R_append k32 (w0 := w) w.heap.size rfl (.tmp 64) (.tmp 69) 22 32 (.agg #[(.string ⟨#[]⟩), (.int .u64 0), (.int .i64 0), (.string ⟨#[]⟩)]) 48 rfl Tryz.underlying22 info32 rfl (by decide) (by omega) u5 x5_1 (⟨(rd_T32 l0 x6_1).f0, (rd_T32 l0 x6_1).f1, (rd_T32 l0 x6_1).f2, (rd_T32 l0 x6_1).f3⟩ : S32) [.string ((rd_T32 l0 x6_1).f0), .int .u64 ((rd_T32 l0 x6_1).f1), .int .i64 ((rd_T32 l0 x6_1).f2), .string ((rd_T32 l0 x6_1).f3)] (fun _ => True) (fun _ => False) rfl rfl ?aP (fun _ hk => hk.elim) ?aF ?aO ?aB ?aS ?aL ?_; (case aP => exact k32_mkM _ _ _ (⟨(rd_T32 l0 x6_1).f0, (rd_T32 l0 x6_1).f1, (rd_T32 l0 x6_1).f2, (rd_T32 l0 x6_1).f3⟩ : S32)); (case aB => exact (by repeat (first | (with_reducible first | exact HB.out | apply below_alloc | apply pw_below_drewN | apply below_drew1) | exact HB.out))); (case aF => exact (fun _ _ => trivial)); (case aO => exact (by (with_reducible repeat (first | apply Kd.R_alloc | apply Kd.R_drewN | apply Kd.R_drew)); exact HO_5.out)); (case aS => exact (below_size (by repeat (first | (with_reducible first | exact HB.out | apply below_alloc | apply pw_below_drewN | apply below_drew1) | exact HB.out)))); (case aL => have := LMc22.out; omega); intro v563 w23 ho hb hg hat; rw [← Ny562.out] at ho; have n0_ := Aside0.mk (hb); have n1_ := Aside0.mk (ho); clear HB; clear HO_5; have HB := n0_; have HO564 := n1_; clear n0_ n1_; clear ho hb hg hat)))
             go_roundg k3
             case measure => have := HK1.out; have := HJ3.out; have := HK3.out; omega
             case rel => exact ⟨(y562), (wrap64 (x6_1 + 1)), (by first | rfl | (simp; done) | (simp [*]; done)), H', ⟨by have := HK1.out; have := HJ3.out; have := HK3.out; omega⟩, ⟨by (with_reducible repeat (first | apply Kd.R_alloc | apply Kd.R_drewN | apply Kd.R_drew)); exact HO564.out⟩, ⟨by repeat (first | (with_reducible first | exact HB.out | apply below_alloc | apply pw_below_drewN | apply below_drew1) | exact HB.out)⟩⟩
            ·rw [if_neg c22] at H
             exact absurd H (by simp)
           ·rw [if_neg c21] at H
            exact absurd H (by simp)
          ·rw [if_neg c20] at H
           exact absurd H (by simp)
         ·replace c19 := Bool.eq_false_iff.mpr c19
          subst c19
          have H1 : (cornucopiaref5_Shadow.l0 k3 l0 l1 x5_1 (wrap64 (x6_1 + 1))) = some r := by rw [if_neg (show ¬ (false = true) by decide)] at H; exact H
          clear H
          have H := H1
          clear H1
          have H' := Aside0.mk H
          clear H
          go_wp2
          repeat (go_quiet (fail); try go_wp2)
          go_roundg k3
          case measure => have := HK1.out; have := HJ3.out; have := HK3.out; omega
          case rel => exact ⟨(x5_1), (wrap64 (x6_1 + 1)), (by first | rfl | (simp; done) | (simp [*]; done)), H', ⟨by have := HK1.out; have := HJ3.out; have := HK3.out; omega⟩, ⟨by (with_reducible repeat (first | apply Kd.R_alloc | apply Kd.R_drewN | apply Kd.R_drew)); exact HO_5.out⟩, ⟨by repeat (first | (with_reducible first | exact HB.out | apply below_alloc | apply pw_below_drewN | apply below_drew1) | exact HB.out)⟩⟩
   ·rw [if_neg c3] at H
    have c3b0 : decide (x6_1 < (l0.length : Int)) = false := decide_eq_false c3
    clear c3
    obtain rfl := Option.some.inj H
    go_wp2
    repeat (go_quiet (fail); try go_wp2)
    go_ret
    exact ⟨_, by first | rfl | (simp [errW_none, errW_some] <;> rfl) | (simp [*, errW_none, errW_some] <;> rfl), by (with_reducible repeat (first | apply Kd.R_alloc | apply Kd.R_drewN | apply Kd.R_drew)); exact HO_5.out, by repeat (first | (with_reducible first | exact HB.out | apply below_alloc | apply pw_below_drewN | apply below_drew1) | exact HB.out)⟩
end Go.Proofs.YtchgpcgolgcfdaaGreat.PNum
end
section
namespace Go.Proofs.YtchgpcgolgcfdaaGreat.PNum
open Go.RowKit Go.Proofs.YtchgpcgolgcfdaaGreatW.PrintWords Go.Proofs.YtchgpcgolgcfdaaGreatW.PrintLast Go.Proofs.YtchgpcgolgcfdaaGreatW.PrintMore
attribute [local go_sem] max2_int min2_int max_two min_two max_three min_three max_four min_four   -- for this text's walks alone
set_option linter.unusedVariables false
set_option linter.unusedSimpArgs false
def cornucopialaw5_Small.l0 : Nat → List (S32) → Int → Int → Option (Bool)
 | 0, _, _, _ => none
 | k + 1, x0, x3, x4 => if x4 < (x0.length : Int) then (if x4 < 400 then (if x3 ≥ 0 then (if 0 ≤ x4 then ((cornucopiabook_Room.f k x3 (([(((rd_T32 x0 x4).f0).size : Int), (((rd_T32 x0 x4).f3).size : Int)] : List Int))).bind fun t108 => (cornucopialaw5_Small.l0 k x0 t108 (wrap64 (x4 + 1)))) else (none)) else (if (x0.length : Int) ≤ 150 then (some (decide (x3 ≥ 0))) else (some false))) else (if (x0.length : Int) ≤ 150 then (some (decide (x3 ≥ 0))) else (some false))) else (if (x0.length : Int) ≤ 150 then (some (decide (x3 ≥ 0))) else (some false))
def cornucopialaw5_Small.f (k : Nat) (l0 : List (S32)) : Option (Bool) := cornucopialaw5_Small.l0 k l0 20000 0
theorem cornucopialaw5_Small.mono_l : ∀ k, (∀ y0 y1 y2, LeO (cornucopialaw5_Small.l0 k y0 y1 y2) (cornucopialaw5_Small.l0 (k + 1) y0 y1 y2))
 | 0 => fun _ _ _ r h => by simp [cornucopialaw5_Small.l0] at h
 | k + 1 => by
  have ih0 := cornucopialaw5_Small.mono_l k
  ·intro y0 y1 y2
   unfold cornucopialaw5_Small.l0
   repeat' first
   | (with_reducible exact ih0 _ _ _)
   | (with_reducible exact cornucopiabook_Room.mono _ _ _)
   | (with_reducible exact LeO.refl _)
   | (with_reducible exact LeO.none _)
   | (with_reducible refine LeO.ite ?_ ?_)
   | (with_reducible refine LeO.bind ?_ (fun _ => ?_))
   | exact ih0 _ _ _
   | exact cornucopiabook_Room.mono _ _ _
   | exact LeO.none _
   | refine LeO.ite ?_ ?_
   | refine LeO.bind ?_ (fun _ => ?_)
theorem cornucopialaw5_Small.mono : ∀ a0 k, LeO (cornucopialaw5_Small.f k a0) (cornucopialaw5_Small.f (k + 1) a0) := by
 intro a0 k
 have ih0 := cornucopialaw5_Small.mono_l k
 unfold cornucopialaw5_Small.f
 repeat' first
   | (with_reducible exact ih0 _ _ _)
   | (with_reducible exact cornucopiabook_Room.mono _ _ _)
   | (with_reducible exact LeO.refl _)
   | (with_reducible exact LeO.none _)
   | (with_reducible refine LeO.ite ?_ ?_)
   | (with_reducible refine LeO.bind ?_ (fun _ => ?_))
   | exact ih0 _ _ _
   | exact cornucopiabook_Room.mono _ _ _
   | exact LeO.none _
   | refine LeO.ite ?_ ?_
   | refine LeO.bind ?_ (fun _ => ?_)
def cornucopialaw5_Small.T5 : Bool × List (List Nat × List Nat) := (true, [([], []), ([], []), ([], []), ([1, 2], [1, 2]), ([3], [3]), ([4], [4]), ([5], [5]), ([], []), ([], []), ([7, 8], [7, 8]), ([9], [9]), ([10], [10]), ([11], [11]), ([6, 12], [6, 12]), ([0, 13], [0, 13]), ([14, 14, 0, 1, 2, 3, 4, 5, 6, 7, 8, 9, 10, 11, 12, 13, 14], [0, 14])])
def cornucopialaw5_Small.B5 : List Nat := [0, 0, 0, 6, 14, 30, 62, 0, 0, 384, 896, 1920, 3968, 8190, 16383, 32767]
theorem cornucopialaw5_Small.tab5 : rtab .any (opsOf Tryz.f9 5) = cornucopialaw5_Small.T5 := by kernel_rfl
theorem cornucopialaw5_Small.bits5 : waitsOk cornucopialaw5_Small.T5.2 cornucopialaw5_Small.B5 = true := by kernel_rfl
set_option maxHeartbeats 8000000 in
set_option maxRecDepth 100000 in
theorem cornucopialaw5_Small.calls (k : Nat) (A0 : Option Addr) (c0 : Nat) (l0 : List (S32)) (r : Bool) (w : World) (hr0 : Kd.C k32 w A0 l0.length l0) (hc0 : l0.length ≤ c0) (h : cornucopialaw5_Small.f k l0 = some r) :
  Calls Tryz.prog 9 #[.slice A0 l0.length c0] w fun e w' => e = .returned (.bool r) ∧ Below w.heap.size w w' := by
 have HR0 := Aside0.mk hr0
 have HC0 := Aside0.mk hc0
 clear hr0 hc0
 have HB := Aside0.mk (Below.refl w.heap.size w)
 have H : (cornucopialaw5_Small.l0 k l0 20000 0) = some r := h
 clear h
 have H' := Aside0.mk H
 clear H
 go_enter Tryz.func9, Tryz.ntmps9
 go_wp2
 go_loopg [3, 4] k (fun kq v3 v4 w' => ∃ (x3_1 : Int) (x4_1 : Int), v3 = .int .i64 x3_1 ∧ v4 = .int .i64 x4_1 ∧ Aside0 (cornucopialaw5_Small.l0 kq l0 x3_1 x4_1 = some r) ∧ Aside0 (kq ≤ k) ∧ Aside0 (Below w.heap.size w w'))
 case atStart => exact ⟨(20000), (0), (by first | rfl | (simp; done) | (simp [*]; done)), (by first | rfl | (simp; done) | (simp [*]; done)), H', ⟨Nat.le_refl _⟩, ⟨by repeat (first | (with_reducible first | exact HB.out | apply below_alloc | apply pw_below_drewN | apply below_drew1) | exact HB.out)⟩⟩
 case round =>
  clear H'
  obtain ⟨x3_1, x4_1, rfl, rfl, HA, HK1, HB⟩ := hrel
  cases gk with
  | zero => exact absurd HA.out (by simp [cornucopialaw5_Small.l0])
  | succ k1 =>
   have H := HA.out
   clear HA
   simp only [cornucopialaw5_Small.l0] at H
   by_cases c2 : x4_1 < (l0.length : Int)
   ·rw [if_pos c2] at H
    have c2b0 : decide (x4_1 < (l0.length : Int)) = true := decide_eq_true c2
    clear c2
    by_cases c3 : x4_1 < 400
    ·rw [if_pos c3] at H
     have c3b0 : decide (x4_1 < 400) = true := decide_eq_true c3
     clear c3
     by_cases c4 : x3_1 ≥ 0
     ·rw [if_pos c4] at H
      have c4b0 : decide (0 ≤ x3_1) = true := decide_eq_true c4
      clear c4
      by_cases c5 : 0 ≤ x4_1
      ·rw [if_pos c5] at H
       have c5b0 : decide (0 ≤ x4_1) = true := decide_eq_true c5
       clear c5
       obtain ⟨y105, hy105⟩ : ∃ y_ : List Int, y_ = (([(((rd_T32 l0 x4_1).f0).size : Int), (((rd_T32 l0 x4_1).f3).size : Int)] : List Int)) := ⟨_, rfl⟩
       replace H : ((cornucopiabook_Room.f k1 x3_1 y105).bind fun t108 => (cornucopialaw5_Small.l0 k1 l0 t108 (wrap64 (x4_1 + 1)))) = some r := by first | (rw [hy105]; with_reducible exact H) | (have H2_ := (Option.bind_some _ _).symm.trans H; rw [hy105]; with_reducible exact H2_) | (have H2_ := (Option.bind_some _ _).symm.trans H; with_reducible exact H2_) | with_reducible exact H | (rw [hy105]; exact H) | exact H
       have Ny105 := Aside0.mk hy105
       clear hy105
       replace H := Option.bind_eq_some_iff.mp H
       obtain ⟨t108, A60, H⟩ := H
       replace H : (cornucopialaw5_Small.l0 k1 l0 t108 (wrap64 (x4_1 + 1))) = some r := H
       have A6 := Aside0.mk A60
       clear A60
       have H' := Aside0.mk H
       clear H
       try go_wp2
       have n0_ := Aside0.mk (below_drew1 HB.out)
       clear HB
       have HB := n0_
       clear n0_
       have p103 : 0 ≤ (x4_1 : Int) := of_decide_eq_true (by first | (with_reducible assumption) | assumption)
       have q103 : x4_1 < (l0.length : Int) := of_decide_eq_true (by first | (with_reducible assumption) | assumption)
       obtain ⟨ad103, e103, hx103_0, hx103_1, hx103_2, hx103_3⟩ := at_T32 HR0.out x4_1 p103 q103
       have hw103_3 := hx103_3
       have hw103_2 := hx103_2
       have hw103_1 := hx103_1
       have hw103_0 := hx103_0
       cases e103
       replace hx103_0 := (HB.out.cell (World.block_lt_of_cell? w _ hx103_0)).trans hx103_0
       replace hx103_1 := (HB.out.cell (World.block_lt_of_cell? w _ hx103_1)).trans hx103_1
       replace hx103_2 := (HB.out.cell (World.block_lt_of_cell? w _ hx103_2)).trans hx103_2
       replace hx103_3 := (HB.out.cell (World.block_lt_of_cell? w _ hx103_3)).trans hx103_3
       replace p103 := eq_true p103
       replace q103 := eq_true q103
       have p104 : 0 ≤ (x4_1 : Int) := of_decide_eq_true (by first | (with_reducible assumption) | assumption)
       have q104 : x4_1 < (l0.length : Int) := of_decide_eq_true (by first | (with_reducible assumption) | assumption)
       obtain ⟨ad104, e104, hx104_0, hx104_1, hx104_2, hx104_3⟩ := at_T32 HR0.out x4_1 p104 q104
       have hw104_3 := hx104_3
       have hw104_2 := hx104_2
       have hw104_1 := hx104_1
       have hw104_0 := hx104_0
       obtain rfl : ad103 = ad104 := (by injection e104)
       replace hx104_0 := (HB.out.cell (World.block_lt_of_cell? w _ hx104_0)).trans hx104_0
       replace hx104_1 := (HB.out.cell (World.block_lt_of_cell? w _ hx104_1)).trans hx104_1
       replace hx104_2 := (HB.out.cell (World.block_lt_of_cell? w _ hx104_2)).trans hx104_2
       replace hx104_3 := (HB.out.cell (World.block_lt_of_cell? w _ hx104_3)).trans hx104_3
       replace p104 := eq_true p104
       replace q104 := eq_true q104
       refine start_ (n := 16) (S := fun w' => w'.cell? (ad103.add ((x4_1).toNat * 4)) = some (.string ((rd_T32 l0 x4_1).f0)) ∧ w'.cell? ⟨(ad103.add ((x4_1).toNat * 4)).block, (ad103.add ((x4_1).toNat * 4)).off + 1, none⟩ = some (.int .u64 ((rd_T32 l0 x4_1).f1)) ∧ w'.cell? ⟨(ad103.add ((x4_1).toNat * 4)).block, (ad103.add ((x4_1).toNat * 4)).off + 2, none⟩ = some (.int .i64 ((rd_T32 l0 x4_1).f2)) ∧ w'.cell? ⟨(ad103.add ((x4_1).toNat * 4)).block, (ad103.add ((x4_1).toNat * 4)).off + 3, none⟩ = some (.string ((rd_T32 l0 x4_1).f3)) ∧ w'.cell? (ad103.add ((x4_1).toNat * 4)) = some (.string ((rd_T32 l0 x4_1).f0)) ∧ w'.cell? ⟨(ad103.add ((x4_1).toNat * 4)).block, (ad103.add ((x4_1).toNat * 4)).off + 1, none⟩ = some (.int .u64 ((rd_T32 l0 x4_1).f1)) ∧ w'.cell? ⟨(ad103.add ((x4_1).toNat * 4)).block, (ad103.add ((x4_1).toNat * 4)).off + 2, none⟩ = some (.int .i64 ((rd_T32 l0 x4_1).f2)) ∧ w'.cell? ⟨(ad103.add ((x4_1).toNat * 4)).block, (ad103.add ((x4_1).toNat * 4)).off + 3, none⟩ = some (.string ((rd_T32 l0 x4_1).f3))) (ds := []) #[false, false, false, false, false, false, false, false, false, false, false, false, false, false, false, false] (by kernel_rfl) rfl rfl ⟨((HB.out.cell (World.block_lt_of_cell? w _ hw103_0)).trans hw103_0), ((HB.out.cell (World.block_lt_of_cell? w _ hw103_1)).trans hw103_1), ((HB.out.cell (World.block_lt_of_cell? w _ hw103_2)).trans hw103_2), ((HB.out.cell (World.block_lt_of_cell? w _ hw103_3)).trans hw103_3), ((HB.out.cell (World.block_lt_of_cell? w _ hw104_0)).trans hw104_0), ((HB.out.cell (World.block_lt_of_cell? w _ hw104_1)).trans hw104_1), ((HB.out.cell (World.block_lt_of_cell? w _ hw104_2)).trans hw104_2), ((HB.out.cell (World.block_lt_of_cell? w _ hw104_3)).trans hw104_3)⟩ (fun hHeld => ?_); refine with_tabW cornucopialaw5_Small.tab5 cornucopialaw5_Small.bits5 (fun HT_ HW_ => ?_)
       generalize wr.drew = w7 at HB hx103_0 hx103_1 hx103_2 hx103_3 hx104_0 hx104_1 hx104_2 hx104_3 hHeld ⊢
       refine pure_ (i := 0) (N := some 19) (v := ?_) (a' := ?_) #[true, false, false, false, false, false, false, false, false, false, false, false, false, false, false, false] rfl rfl (any_of HT_.out (by kernel_rfl)) (fun _ _ _ h => h) (Or.inl ⟨by rfl, ?_⟩) ?_ ?_
       rotate_left
       ·intro w'
        go_simp
        with_reducible rfl
       rotate_left
       ·simp only [Act.put, List.setIfInBounds_toArray, List.set_cons_zero, List.set_cons_succ, i64_w, i32_w]
        rfl
       refine pure_ (i := 1) (N := some 20) (v := ?_) (a' := ?_) #[true, true, false, false, false, false, false, false, false, false, false, false, false, false, false, false] rfl rfl (any_of HT_.out (by kernel_rfl)) (fun _ _ _ h => h) (Or.inl ⟨by rfl, ?_⟩) ?_ ?_
       rotate_left
       ·intro w'
        go_simp
        with_reducible rfl
       rotate_left
       ·simp only [Act.put, List.setIfInBounds_toArray, List.set_cons_zero, List.set_cons_succ, i64_w, i32_w]
        rfl
       refine pure_ (i := 2) (N := some 21) (v := ?_) (a' := ?_) #[true, true, true, false, false, false, false, false, false, false, false, false, false, false, false, false] rfl rfl (any_of HT_.out (by kernel_rfl)) (fun _ _ _ h => h) (Or.inl ⟨by rfl, ?_⟩) ?_ ?_
       rotate_left
       ·intro w'
        go_simp
        with_reducible rfl
       rotate_left
       ·simp only [Act.put, List.setIfInBounds_toArray, List.set_cons_zero, List.set_cons_succ, i64_w, i32_w]
        rfl
       refine pure_ (i := 3) (N := some 22) (v := ?_) (a' := ?_) #[true, true, true, true, false, false, false, false, false, false, false, false, false, false, false, false] rfl rfl (any_of HT_.out (by kernel_rfl)) (fun _ _ _ h => h) (Or.inl ⟨by rfl, ?_⟩) ?_ ?_
       rotate_left
       ·intro w'
        go_simp
        with_reducible rfl
       rotate_left
       ·simp only [Act.put, List.setIfInBounds_toArray, List.set_cons_zero, List.set_cons_succ, i64_w, i32_w]
        rfl
       refine pure_ (i := 4) (N := some 23) (v := ?_) (a' := ?_) #[true, true, true, true, true, false, false, false, false, false, false, false, false, false, false, false] rfl rfl (any_of HT_.out (by kernel_rfl)) (fun _ _ _ h => h) (Or.inl ⟨by rfl, ?_⟩) ?_ ?_
       rotate_left
       ·intro w'
        go_simp
        with_reducible rfl
       rotate_left
       ·simp only [Act.put, List.setIfInBounds_toArray, List.set_cons_zero, List.set_cons_succ, i64_w, i32_w]
        rfl
       refine pure_ (i := 7) (N := some 26) (v := ?_) (a' := ?_) #[true, true, true, true, true, false, false, true, false, false, false, false, false, false, false, false] rfl rfl (any_of HT_.out (by kernel_rfl)) (fun _ _ _ h => h) (Or.inl ⟨by rfl, ?_⟩) ?_ ?_
       rotate_left
       ·intro w'
        go_simp
        with_reducible rfl
       rotate_left
       ·simp only [Act.put, List.setIfInBounds_toArray, List.set_cons_zero, List.set_cons_succ, i64_w, i32_w]
        rfl
       refine pure_ (i := 8) (N := some 27) (v := ?_) (a' := ?_) #[true, true, true, true, true, false, false, true, true, false, false, false, false, false, false, false] rfl rfl (any_of HT_.out (by kernel_rfl)) (fun _ _ _ h => h) (Or.inl ⟨by rfl, ?_⟩) ?_ ?_
       rotate_left
       ·intro w'
        go_simp
        with_reducible rfl
       rotate_left
       ·simp only [Act.put, List.setIfInBounds_toArray, List.set_cons_zero, List.set_cons_succ, i64_w, i32_w]
        rfl
       refine pure_ (i := 9) (N := some 28) (v := ?_) (a' := ?_) #[true, true, true, true, true, false, false, true, true, true, false, false, false, false, false, false] rfl rfl (any_of HT_.out (by kernel_rfl)) (fun _ _ _ h => h) (Or.inl ⟨by rfl, ?_⟩) ?_ ?_
       rotate_left
       ·intro w'
        go_simp
        with_reducible rfl
       rotate_left
       ·simp only [Act.put, List.setIfInBounds_toArray, List.set_cons_zero, List.set_cons_succ, i64_w, i32_w]
        rfl
       refine pure_ (i := 10) (N := some 29) (v := ?_) (a' := ?_) #[true, true, true, true, true, false, false, true, true, true, true, false, false, false, false, false] rfl rfl (any_of HT_.out (by kernel_rfl)) (fun _ _ _ h => h) (Or.inl ⟨by rfl, ?_⟩) ?_ ?_
       rotate_left
       ·intro w'
        go_simp
        with_reducible rfl
       rotate_left
       ·simp only [Act.put, List.setIfInBounds_toArray, List.set_cons_zero, List.set_cons_succ, i64_w, i32_w]
        rfl
       refine take_ (i := 5) (N := some 24) (v := ?_) (a' := ?_) #[true, true, true, true, true, true, false, true, true, true, true, false, false, false, false, false] rfl rfl (take_ofW HT_.out HW_.out (by kernel_rfl)) (fun _ _ _ h => h) (Or.inl ⟨by rfl, ?_⟩) hHeld ?_ ?_
       rotate_left
       ·rintro w' ⟨s0, s1, s2, s3, s4, s5, s6, s7⟩
        go_simp
        with_reducible rfl
       rotate_left
       ·simp only [Act.put, List.setIfInBounds_toArray, List.set_cons_zero, List.set_cons_succ, i64_w, i32_w]
        rfl
       refine pure_ (i := 6) (N := some 25) (v := ?_) (a' := ?_) #[true, true, true, true, true, true, true, true, true, true, true, false, false, false, false, false] rfl rfl (any_of HT_.out (by kernel_rfl)) (fun _ _ _ h => h) (Or.inl ⟨by rfl, ?_⟩) ?_ ?_
       rotate_left
       ·intro w'
        go_simp
        with_reducible rfl
       rotate_left
       ·simp only [Act.put, List.setIfInBounds_toArray, List.set_cons_zero, List.set_cons_succ, i64_w, i32_w]
        rfl
       refine take_ (i := 11) (N := some 30) (v := ?_) (a' := ?_) #[true, true, true, true, true, true, true, true, true, true, true, true, false, false, false, false] rfl rfl (take_ofW HT_.out HW_.out (by kernel_rfl)) (fun _ _ _ h => h) (Or.inl ⟨by rfl, ?_⟩) hHeld ?_ ?_
       rotate_left
       ·rintro w' ⟨s0, s1, s2, s3, s4, s5, s6, s7⟩
        go_simp
        with_reducible rfl
       rotate_left
       ·simp only [Act.put, List.setIfInBounds_toArray, List.set_cons_zero, List.set_cons_succ, i64_w, i32_w]
        rfl
       refine pure_ (i := 12) (N := some 31) (v := ?_) (a' := ?_) #[true, true, true, true, true, true, true, true, true, true, true, true, true, false, false, false] rfl rfl (any_of HT_.out (by kernel_rfl)) (fun _ _ _ h => h) (Or.inl ⟨by rfl, ?_⟩) ?_ ?_
       rotate_left
       ·intro w'
        go_simp
        with_reducible rfl
       rotate_left
       ·simp only [Act.put, List.setIfInBounds_toArray, List.set_cons_zero, List.set_cons_succ, i64_w, i32_w]
        rfl
       refine one_ (i := 13) (N := some 32) #[true, true, true, true, true, true, true, true, true, true, true, true, true, true, false, false] rfl rfl (one_of HT_.out (by kernel_rfl)) (by decide) (fun K hK => ?_)
       refine Kd.R_lit_step (Kd.int .i64) _ 3 ?hg (N := 32) ?hd (xs := ([(((rd_T32 l0 x4_1).f0).size : Int), (((rd_T32 l0 x4_1).f3).size : Int)] : List Int)) (inner := [.int .i64 (((rd_T32 l0 x4_1).f0).size : Int), .int .i64 (((rd_T32 l0 x4_1).f3).size : Int)]) (ok := fun _ => True) (okp := fun _ => True) ?hr ?hp (fun _ hk => hk) trivial (Below.refl _ _) (Nat.le_refl _) (by simp) ?_; (case hd => rfl); (case hg => rfl); (case hr => first | (go_simp; done) | (go_simp; rfl)); (case hp => exact (Reps.one (show Kd.M (Kd.int .i64) _ _ _ (((rd_T32 l0 x4_1).f0).size : Int) [.int .i64 (((rd_T32 l0 x4_1).f0).size : Int)] from rfl) (Reps.one (show Kd.M (Kd.int .i64) _ _ _ (((rd_T32 l0 x4_1).f3).size : Int) [.int .i64 (((rd_T32 l0 x4_1).f3).size : Int)] from rfl) (Reps.none _ _))))
       intro v106 w8 ho9 hb hg_ hnew_
       clear hg_ hnew_
       (first | rw [← Ny105.out] at ho9 | (simp only [Int.reduceToNat] at ho9; rw [← Ny105.out] at ho9))
       have n0_ := Aside0.mk (Kd.R_lower ho9 (below_size (by repeat (first | (with_reducible first | exact HB.out | apply below_alloc | apply pw_below_drewN | apply below_drew1) | exact HB.out))))
       have n1_ := Aside0.mk (below_step (by repeat (first | (with_reducible first | exact HB.out | apply below_alloc | apply pw_below_drewN | apply below_drew1) | exact HB.out)) hb)
       clear HB
       have HO107 := n0_
       have HB := n1_
       clear n0_ n1_
       clear hb ho9
       obtain ⟨Ao10, co10, eo10⟩ := Kd.R_slice HO107.out
       (first | subst eo10 | (injection eo10 with f1_ f2_ f3_; have f4_ := f1_.symm; have f5_ := f3_.symm; clear f1_ f2_ f3_; subst f4_; subst f5_))
       refine hK.out _ _ ⟨((HB.out.cell (World.block_lt_of_cell? w _ hw103_0)).trans hw103_0), ((HB.out.cell (World.block_lt_of_cell? w _ hw103_1)).trans hw103_1), ((HB.out.cell (World.block_lt_of_cell? w _ hw103_2)).trans hw103_2), ((HB.out.cell (World.block_lt_of_cell? w _ hw103_3)).trans hw103_3), ((HB.out.cell (World.block_lt_of_cell? w _ hw104_0)).trans hw104_0), ((HB.out.cell (World.block_lt_of_cell? w _ hw104_1)).trans hw104_1), ((HB.out.cell (World.block_lt_of_cell? w _ hw104_2)).trans hw104_2), ((HB.out.cell (World.block_lt_of_cell? w _ hw104_3)).trans hw104_3)⟩ (fun hHeld => ?_)
       clear hK K
       refine norm_ (a' := ?_) ?_ ?_
       rotate_left
       ·show Act.put _ (some 32) _ = _
        simp only [Act.put, List.setIfInBounds_toArray, List.set_cons_zero, List.set_cons_succ, i64_w, i32_w]
        rfl
       refine one_ (i := 14) (N := some 33) #[true, true, true, true, true, true, true, true, true, true, true, true, true, true, true, false] rfl rfl (one_of HT_.out (by kernel_rfl)) (by decide) (fun K hK => ?_)
       refine goes_ Tryz.func96 (by kernel_rfl) rfl #[.int .i64 x3_1, .slice Ao10 y105.length co10] (by rfl) rfl rfl (by (try simp only [List.map_toArray, List.map_cons, List.map_nil]); first | done | rfl | (simp only [List.length_drop, List.length_take]; rfl)) ?_
       with_reducible refine (cornucopiabook_Room.calls k1 x3_1 _ _ y105 t108 _ ?side1 ?side2 A6.out).mono ?_
       (case side1 => repeat (first | exact (Kd.R_reads' HO107.out).2.2 | (with_reducible refine Kd.C_alloc ?_ _) | (with_reducible refine Kd.C_drewN ?_ _) | (with_reducible refine Kd.C_drew ?_)))
       (case side2 => exact (Kd.R_reads' HO107.out).2.1)
       rintro e w' ⟨rfl, ⟨nd, rfl⟩⟩
       refine ⟨_, rfl, ?_⟩
       refine hK.out _ _ ⟨((HB.out.cell (World.block_lt_of_cell? w _ hw103_0)).trans hw103_0), ((HB.out.cell (World.block_lt_of_cell? w _ hw103_1)).trans hw103_1), ((HB.out.cell (World.block_lt_of_cell? w _ hw103_2)).trans hw103_2), ((HB.out.cell (World.block_lt_of_cell? w _ hw103_3)).trans hw103_3), ((HB.out.cell (World.block_lt_of_cell? w _ hw104_0)).trans hw104_0), ((HB.out.cell (World.block_lt_of_cell? w _ hw104_1)).trans hw104_1), ((HB.out.cell (World.block_lt_of_cell? w _ hw104_2)).trans hw104_2), ((HB.out.cell (World.block_lt_of_cell? w _ hw104_3)).trans hw104_3)⟩ (fun hHeld => ?_)
       clear hK K
       refine norm_ (a' := ?_) ?_ ?_
       rotate_left
       ·show Act.put _ (some 33) _ = _
        simp only [Act.put, List.setIfInBounds_toArray, List.set_cons_zero, List.set_cons_succ, i64_w, i32_w]
        rfl
       refine pure_ (i := 15) (N := some 3) (v := ?_) (a' := ?_) #[true, true, true, true, true, true, true, true, true, true, true, true, true, true, true, true] rfl rfl (any_of HT_.out (by kernel_rfl)) (fun _ _ _ h => h) (Or.inl ⟨by rfl, ?_⟩) ?_ ?_
       rotate_left
       ·intro w'
        go_simp
        with_reducible rfl
       rotate_left
       ·simp only [Act.put, List.setIfInBounds_toArray, List.set_cons_zero, List.set_cons_succ, i64_w, i32_w]
        rfl
       refine done_ (done_of HT_.out (by kernel_rfl)) ?_
       try go_wp2
       go_roundg k1
       case measure => have := HK1.out; omega
       case rel => exact ⟨(t108), (wrap64 (x4_1 + 1)), (by first | rfl | (simp; done) | (simp [*]; done)), (by first | rfl | (simp; done) | (simp [*]; done)), H', ⟨by have := HK1.out; omega⟩, ⟨by repeat (first | (with_reducible first | exact HB.out | apply below_alloc | apply pw_below_drewN | apply below_drew1) | exact HB.out)⟩⟩
      ·rw [if_neg c5] at H
       exact absurd H (by simp)
     ·rw [if_neg c4] at H
      have c4b0 : decide (0 ≤ x3_1) = false := decide_eq_false c4
      clear c4
      by_cases c11 : (l0.length : Int) ≤ 150
      ·rw [if_pos c11] at H
       have c11b0 : decide ((l0.length : Int) ≤ 150) = true := decide_eq_true c11
       have c11b1 : decide (l0.length ≤ 150) = true := decide_eq_true (by omega)
       clear c11
       obtain rfl := Option.some.inj H
       go_wp2
       go_ret
       exact ⟨by first | rfl | (simp [errW_none, errW_some] <;> rfl) | (simp [*, errW_none, errW_some] <;> rfl), by repeat (first | (with_reducible first | exact HB.out | apply below_alloc | apply pw_below_drewN | apply below_drew1) | exact HB.out)⟩
      ·rw [if_neg c11] at H
       have c11b0 : decide ((l0.length : Int) ≤ 150) = false := decide_eq_false c11
       have c11b1 : decide (l0.length ≤ 150) = false := decide_eq_false (by omega)
       clear c11
       obtain rfl := Option.some.inj H
       go_wp2
       go_ret
       exact ⟨by first | rfl | (simp [errW_none, errW_some] <;> rfl) | (simp [*, errW_none, errW_some] <;> rfl), by repeat (first | (with_reducible first | exact HB.out | apply below_alloc | apply pw_below_drewN | apply below_drew1) | exact HB.out)⟩
    ·rw [if_neg c3] at H
     have c3b0 : decide (x4_1 < 400) = false := decide_eq_false c3
     clear c3
     by_cases c12 : (l0.length : Int) ≤ 150
     ·rw [if_pos c12] at H
      have c12b0 : decide ((l0.length : Int) ≤ 150) = true := decide_eq_true c12
      have c12b1 : decide (l0.length ≤ 150) = true := decide_eq_true (by omega)
      clear c12
      obtain rfl := Option.some.inj H
      go_wp2
      go_ret
      exact ⟨by first | rfl | (simp [errW_none, errW_some] <;> rfl) | (simp [*, errW_none, errW_some] <;> rfl), by repeat (first | (with_reducible first | exact HB.out | apply below_alloc | apply pw_below_drewN | apply below_drew1) | exact HB.out)⟩
     ·rw [if_neg c12] at H
      have c12b0 : decide ((l0.length : Int) ≤ 150) = false := decide_eq_false c12
      have c12b1 : decide (l0.length ≤ 150) = false := decide_eq_false (by omega)
      clear c12
      obtain rfl := Option.some.inj H
      go_wp2
      go_ret
      exact ⟨by first | rfl | (simp [errW_none, errW_some] <;> rfl) | (simp [*, errW_none, errW_some] <;> rfl), by repeat (first | (with_reducible first | exact HB.out | apply below_alloc | apply pw_below_drewN | apply below_drew1) | exact HB.out)⟩
   ·rw [if_neg c2] at H
    have c2b0 : decide (x4_1 < (l0.length : Int)) = false := decide_eq_false c2
    clear c2
    by_cases c13 : (l0.length : Int) ≤ 150
    ·rw [if_pos c13] at H
     have c13b0 : decide ((l0.length : Int) ≤ 150) = true := decide_eq_true c13
     have c13b1 : decide (l0.length ≤ 150) = true := decide_eq_true (by omega)
     clear c13
     obtain rfl := Option.some.inj H
     go_wp2
     go_ret
     exact ⟨by first | rfl | (simp [errW_none, errW_some] <;> rfl) | (simp [*, errW_none, errW_some] <;> rfl), by repeat (first | (with_reducible first | exact HB.out | apply below_alloc | apply pw_below_drewN | apply below_drew1) | exact HB.out)⟩
    ·rw [if_neg c13] at H
     have c13b0 : decide ((l0.length : Int) ≤ 150) = false := decide_eq_false c13
     have c13b1 : decide (l0.length ≤ 150) = false := decide_eq_false (by omega)
     clear c13
     obtain rfl := Option.some.inj H
     go_wp2
     go_ret
     exact ⟨by first | rfl | (simp [errW_none, errW_some] <;> rfl) | (simp [*, errW_none, errW_some] <;> rfl), by repeat (first | (with_reducible first | exact HB.out | apply below_alloc | apply pw_below_drewN | apply below_drew1) | exact HB.out)⟩
end Go.Proofs.YtchgpcgolgcfdaaGreat.PNum
end
section
namespace Go.Proofs.YtchgpcgolgcfdaaGreat.PNum
open Go.RowKit Go.Proofs.YtchgpcgolgcfdaaGreatW.PrintWords Go.Proofs.YtchgpcgolgcfdaaGreatW.PrintLast Go.Proofs.YtchgpcgolgcfdaaGreatW.PrintMore
attribute [local go_sem] max2_int min2_int max_two min_two max_three min_three max_four min_four   -- for this text's walks alone
set_option linter.unusedVariables false
set_option linter.unusedSimpArgs false
def ikey_Shadow.inn (s : Int) : List Int → List Int → Bool → List Int × Bool
 | [], seen, stays => (seen, stays)
 | p :: ps, seen, stays => if seen.contains p = false ∧ s ≤ p then ikey_Shadow.inn s ps (seen ++ [p]) true else ikey_Shadow.inn s ps seen stays
def ikey_Shadow.first (pk : Option ByteArray) (e : S32) : Bool := match pk with | none => true | some k => k.toList != e.f0.toList
def ikey_Shadow.go (pins : List Int) : List S32 → Option ByteArray → List Int → List S32 → List S32
 | [], _, _, out => out
 | e :: l, pk, seen, out => ikey_Shadow.go pins l (some e.f0) (ikey_Shadow.inn e.f1 pins (if ikey_Shadow.first pk e = true then [] else seen) (ikey_Shadow.first pk e)).1 (if (ikey_Shadow.inn e.f1 pins (if ikey_Shadow.first pk e = true then [] else seen) (ikey_Shadow.first pk e)).2 = true then out ++ [e] else out)
def ikey_Shadow.f (l0 : List S32) (l1 : List Int) : Option (List S32) := if l0.length < 1000000 ∧ l1.length < 1000000 ∧ (∀ x ∈ l1, (Lit.int .u64 x).wf = true) then some (ikey_Shadow.go l1 l0 none [] []) else none
theorem ikey_Shadow.keepG {W w1 : World} {g : Nat} {x : Obj} {row : Option Nat} (h : W.heap[g]? = some x) (hg : W.grownBy w1 row) (hne : some g ≠ row) : w1.heap[g]? = some x := by
 have hlt : g < W.heap.size := by
  rcases Nat.lt_or_ge g W.heap.size with a | a
  ·exact a
  ·rw [Array.getElem?_eq_none a] at h
   cases h
 exact (hg.block g hlt hne).trans h
theorem ikey_Shadow.keepA {W : World} {g : Nat} {x : Obj} (h : W.heap[g]? = some x) (o : Obj) : (W.alloc o).heap[g]? = some x := ikey_Shadow.keepG h (grown_of_below (below_alloc (Below.refl W.heap.size W) o) none) (by simp)
theorem ikey_Shadow.step {pins : List Int} {e : S32} {l' : List S32} {pk : Option ByteArray} {seen sn seen1 : List Int} {out r : List S32} {fb st : Bool} (h : ikey_Shadow.go pins (e :: l') pk seen out = r) (hf : ikey_Shadow.first pk e = fb) (hs : (if fb = true then [] else seen) = seen1) (hi : (sn, st) = ikey_Shadow.inn e.f1 pins seen1 fb) : ikey_Shadow.go pins l' (some e.f0) sn (if st = true then out ++ [e] else out) = r := by
 rw [ikey_Shadow.go, hf, hs, ← hi] at h
 exact h
set_option maxHeartbeats 8000000 in
set_option maxRecDepth 100000 in
theorem ikey_Shadow.calls (A0 : Option Addr) (c0 : Nat) (l0 : List S32) (A1 : Option Addr) (c1 : Nat) (l1 : List Int) (r : List S32) (w : World) (hr0 : Kd.C k32 w A0 l0.length l0) (hc0 : l0.length ≤ c0) (hr1 : Kd.C (Kd.int .u64) w A1 l1.length l1) (hc1 : l1.length ≤ c1) (h : ikey_Shadow.f l0 l1 = some r) :
  Calls Tryz.prog 55 #[.slice A0 l0.length c0, .slice A1 l1.length c1] w fun e w' => ∃ v0_ : Value, e = .returned (v0_) ∧ Kd.R k32 32 w' w.heap.size (fun _ => True) v0_ r ∧ Below w.heap.size w w' := by
 have hu29 := Tryz.underlying32
 have hmm := @run_makeMap Tryz.prog
 have HR0 := Aside0.mk hr0
 have HR1 := Aside0.mk hr1
 unfold ikey_Shadow.f at h
 split at h
 ·rename_i hg
  have HL0 := Aside0.mk hg.1
  have HL1 := Aside0.mk hg.2.1
  have HW1 := Aside0.mk hg.2.2
  have hlen0 : l0.length ≤ 9223372036854775807 := hr0.2.1
  have hlen1 : l1.length ≤ 9223372036854775807 := hr1.2.1
  have H := Aside0.mk (Option.some.inj h)
  clear h hg hr0 hr1 hc0 hc1
  go_enter Tryz.func55, Tryz.ntmps55
  go_wp2
  go_loopw [5, 6, 17] (fun v5 v6 v17 w' => ∃ (j : Nat) (pk : Option ByteArray) (seen : List Int) (out : List S32), v17 = .int .i64 j ∧ j ≤ l0.length ∧ Aside0 (out.length ≤ j) ∧ Aside0 (seen.length ≤ j * l1.length) ∧ Aside0 ((j = 0 ∧ pk = none) ∨ (0 < j ∧ pk = some (rd_T32 l0 ((j : Int) - 1)).f0)) ∧ Aside0 (pk = none ∨ ∃ b, v6 = .map (some b) ∧ w.heap.size ≤ b ∧ SetM.Is w' b seen) ∧ Aside0 (Kd.R k32 32 w' w.heap.size (fun _ => True) v5 out) ∧ Aside0 (Below w.heap.size w w') ∧ Aside0 (ikey_Shadow.go l1 (l0.drop j) pk seen out = r)) (fun _ _ v17 _ => l0.length - (intOf v17).toNat)
  case atStart => exact ⟨0, none, [], [], rfl, Nat.zero_le _, ⟨Nat.le_refl _⟩, ⟨Nat.zero_le _⟩, ⟨.inl ⟨rfl, rfl⟩⟩, ⟨.inl rfl⟩, ⟨Kd.R_nil _ _ _ _ _⟩, ⟨Below.refl _ _⟩, H⟩
  case round =>
   clear H
   obtain ⟨j, pk, seen, out, rfl, hj, HO, HS, HP, HM, HRo, HB, HA⟩ := hrel
   by_cases hlt : j < l0.length
   ·have p0 : (0 : Int) ≤ (j : Int) := Int.natCast_nonneg _
    have q0 : (j : Int) < (l0.length : Int) := Int.ofNat_lt.mpr hlt
    obtain ⟨ad, e0, hx0, hx1, hx2, hx3⟩ := at_T32 HR0.out (j : Int) p0 q0
    cases e0
    have y0 := (HB.out.cell (World.block_lt_of_cell? w _ hx0)).trans hx0
    have y1 := (HB.out.cell (World.block_lt_of_cell? w _ hx1)).trans hx1
    have y2 := (HB.out.cell (World.block_lt_of_cell? w _ hx2)).trans hx2
    have y3 := (HB.out.cell (World.block_lt_of_cell? w _ hx3)).trans hx3
    clear hx0 hx1 hx2 hx3
    simp only [Int.toNat_natCast] at y0 y1 y2 y3
    have hgen : ∃ e, e = rd_T32 l0 (j : Int) := ⟨_, rfl⟩
    obtain ⟨e, he⟩ := hgen
    rw [← he] at y0 y1 y2 y3
    have HE := Aside0.mk he
    clear he
    have t0 : decide ((j : Int) < (l0.length : Int)) = true := decide_eq_true q0
    go_upto_region 6 with (fail)
    generalize hwa : wr.alloc _ = wa
    have hbx : wa.heap[wr.heap.size]? = some (.cells #[.string e.f0, .int .u64 e.f1, .int .i64 e.f2, .string e.f3] 32 (0, 0)) := by rw [← hwa]; exact heap_alloc_new wr _
    have BX := Aside0.mk hbx
    have HBa : Aside0 (Below w.heap.size w wa) := ⟨by rw [← hwa]; exact below_alloc HB.out _⟩
    have HRa : Aside0 (Kd.R k32 32 wa w.heap.size (fun _ => True) u5 out) := ⟨by rw [← hwa]; exact Kd.R_alloc HRo.out _⟩
    have HMa : Aside0 (pk = none ∨ ∃ b, u6 = .map (some b) ∧ w.heap.size ≤ b ∧ SetM.Is wa b seen) := ⟨by rw [← hwa]; exact HM.out.imp id (fun ⟨b, h1, h2, h3⟩ => ⟨b, h1, h2, h3.alloc _⟩)⟩
    have hgx : w.heap.size ≤ wr.heap.size := below_size HB.out
    have z0 : wa.cell? ⟨wr.heap.size, 0, none⟩ = some (.string e.f0) := (blk_cell hbx 0).trans rfl
    clear hbx HRo HM y0 y1 y2 y3
    generalize hg8 : wr.heap.size = g8 at *
    have GX := Aside0.mk hgx
    clear hgx hwa hg8
    go_cut [9] (fun v9 wc => v9 = .bool (ikey_Shadow.first pk e) ∧ Aside0 (wc.heap[g8]? = some (.cells #[.string e.f0, .int .u64 e.f1, .int .i64 e.f2, .string e.f3] 32 (0, 0))) ∧ Aside0 (Kd.R k32 32 wc w.heap.size (fun _ => True) u5 out) ∧ Aside0 (pk = none ∨ ∃ b, u6 = .map (some b) ∧ w.heap.size ≤ b ∧ SetM.Is wc b seen) ∧ Aside0 (Below w.heap.size w wc))
    case first =>
     rcases HP.out with ⟨hj0, hpk⟩ | ⟨hj0, hpk⟩
     ·have s0 : ((j : Int) == 0) = true := by rw [beq_iff_eq]; omega
      have HPK := Aside0.mk hpk
      clear hj0 hpk
      go_quiet (fail)
      go_wp2_with (fail)
      go_meet
      case rel => exact ⟨by rw [HPK.out]; rfl, ⟨BX.out⟩, ⟨HRa.out⟩, ⟨HMa.out⟩, ⟨pw_below_drewN HBa.out _⟩⟩
     ·have s0 : ((j : Int) == 0) = false := by rw [beq_eq_false_iff_ne]; omega
      have HPK := Aside0.mk hpk
      have p1 : (0 : Int) ≤ (j : Int) - 1 := by omega
      have q1 : (j : Int) - 1 < (l0.length : Int) := by omega
      obtain ⟨ad', e0', hx0, _⟩ := at_T32 HR0.out ((j : Int) - 1) p1 q1
      obtain rfl : ad = ad' := by injection e0'
      have x0 := (HBa.out.cell (World.block_lt_of_cell? w _ hx0)).trans hx0
      have ej : ((j : Int) - 1).toNat = j - 1 := by omega
      rw [ej] at x0
      generalize hpe : rd_T32 l0 ((j : Int) - 1) = pe at *
      clear hx0 hpk ej hpe
      go_quiet (fail)
      go_wp2_with (fail)
      go_meet
      case rel => exact ⟨by rw [HPK.out]; rfl, ⟨BX.out⟩, ⟨HRa.out⟩, ⟨HMa.out⟩, ⟨pw_below_drewN HBa.out _⟩⟩
    case rest =>
     obtain ⟨rfl, BX1, HR1o, HM1, HB1⟩ := hcut
     clear BX HRa HMa HBa z0
     generalize hfb : ikey_Shadow.first pk e = fb at *
     have HFB := Aside0.mk hfb
     clear hfb
     go_upto_if 35 with (fail)
     go_cut [6] (fun v6 wd => ∃ b, v6 = .map (some b) ∧ Aside0 (w.heap.size ≤ b) ∧ Aside0 (SetM.Is wd b (if fb = true then [] else seen)) ∧ Aside0 (wd.heap[g8]? = some (.cells #[.string e.f0, .int .u64 e.f1, .int .i64 e.f2, .string e.f3] 32 (0, 0))) ∧ Aside0 (Kd.R k32 32 wd w.heap.size (fun _ => True) u5 out) ∧ Aside0 (Below w.heap.size w wd))
     case first =>
      cases fb
      ·go_wp2_with (fail)
       go_meet
       case rel =>
        rcases HM1.out with hn | ⟨b, hb0, hb1, hb2⟩
        ·subst hn
         exact absurd HFB.out (by simp [ikey_Shadow.first])
        ·exact ⟨b, hb0, ⟨hb1⟩, ⟨hb2⟩, ⟨BX1.out⟩, ⟨HR1o.out⟩, ⟨HB1.out⟩⟩
      ·go_wp2_with (fail)
       go_meet
       case rel => exact ⟨wc.heap.size, rfl, ⟨below_size HB1.out⟩, ⟨SetM.Is.new _⟩, ⟨(below_alloc (Below.refl wc.heap.size wc) _ : Below wc.heap.size wc (wc.alloc _)).block g8 (by have := BX1.out; rcases Nat.lt_or_ge g8 wc.heap.size with hlt' | hge'; exact hlt'; rw [Array.getElem?_eq_none hge'] at this; cases this) |>.trans BX1.out⟩, ⟨Kd.R_alloc HR1o.out _⟩, ⟨below_alloc HB1.out _⟩⟩
     case rest =>
      obtain ⟨b, rfl, HBb, HIs, BX2, HR2o, HB2⟩ := hcut
      clear BX1 HR1o HM1 HB1
      have HS1 : Aside0 ((if fb = true then ([] : List Int) else seen).length ≤ j * l1.length) := ⟨by split; exact Nat.zero_le _; exact HS.out⟩
      generalize hs1 : (if fb = true then ([] : List Int) else seen) = seen1 at *
      have HS1e := Aside0.mk hs1
      clear hs1
      generalize hM : j * l1.length = M at *
      have HMe := Aside0.mk hM
      clear hM HS
      go_wp2_with (fail)
      go_loopw [10, 40] (fun v10 v40 wi => ∃ (k : Nat) (sn : List Int) (st : Bool), v10 = .bool st ∧ v40 = .int .i64 k ∧ k ≤ l1.length ∧ Aside0 (sn.length ≤ M + k) ∧ Aside0 (SetM.Is wi b sn) ∧ Aside0 (wi.heap[g8]? = some (.cells #[.string e.f0, .int .u64 e.f1, .int .i64 e.f2, .string e.f3] 32 (0, 0))) ∧ Aside0 (Kd.R k32 32 wi w.heap.size (fun _ => True) u5 out) ∧ Aside0 (Below w.heap.size w wi) ∧ Aside0 (ikey_Shadow.inn e.f1 (l1.drop k) sn st = ikey_Shadow.inn e.f1 l1 seen1 fb)) (fun _ v40 _ => l1.length - (intOf v40).toNat)
      case atStart => exact ⟨0, seen1, fb, rfl, rfl, Nat.zero_le _, ⟨by have := HS1.out; omega⟩, ⟨HIs.out⟩, ⟨BX2.out⟩, ⟨HR2o.out⟩, ⟨HB2.out⟩, ⟨rfl⟩⟩
      case round =>
       obtain ⟨k, sn, st, rfl, rfl, hk, HN, HI, BX, HRo, HB, HA1⟩ := hrel
       by_cases hlk : k < l1.length
       ·have p5 : (0 : Int) ≤ (k : Int) := Int.natCast_nonneg _
        have q5 : (k : Int) < (l1.length : Int) := Int.ofNat_lt.mpr hlk
        obtain ⟨ap, e1, hx5⟩ := Kd.at_int HR1.out (k : Int) p5 q5
        subst e1
        have y5 := (HB.out.cell (World.block_lt_of_cell? w _ hx5)).trans hx5
        clear hx5
        simp only [Int.toNat_natCast] at y5
        have hpin : rd l1 (k : Int) = l1[k] := by simp [rd, hlk]
        have hdr : l1.drop k = rd l1 (k : Int) :: l1.drop (k + 1) := by rw [hpin]; exact List.drop_eq_getElem_cons hlk
        have hwf : (Lit.int .u64 (rd l1 (k : Int))).wf = true := HW1.out _ (by rw [hpin]; exact List.getElem_mem hlk)
        generalize hp : rd l1 (k : Int) = p at *
        have HDR := Aside0.mk hdr
        have HKY := Aside0.mk (SetM.key hwf)
        clear hp hpin hdr hwf
        have t5 : decide ((k : Int) < (l1.length : Int)) = true := decide_eq_true q5
        have z1 : (wr.alloc (.cells #[] 196)).cell? ⟨g8, 1, none⟩ = some (.int .u64 e.f1) := (blk_cell (ikey_Shadow.keepA BX.out _) 1).trans rfl
        have hh : Maps.has (SetM.D sn) (.int .u64 p) = sn.contains p := SetM.has_D _ _
        cases hc : sn.contains p
        ·by_cases hs : e.f1 ≤ p
         ·have t6 : decide (e.f1 ≤ p) = true := decide_eq_true hs
          rw [hc] at hh
          have HC := Aside0.mk hc
          clear hc
          go_wp2_with (first | (at_lookup; refine wpList_lookup_own_unit _ rfl _ _ 209 rfl 25 196 SetM.law Tryz.underlying209 (SetM.unit0 _) b _ (SetM.D sn) rfl HI.out _ _ rfl HKY.out ?_) | (at_mapUpdate; refine wpList_mapUpdate_own _ rfl _ _ _ 209 rfl 25 196 SetM.law Tryz.underlying209 (unitElem (H := Unit)) b _ (SetM.D sn) rfl (SetM.Is.alloc HI.out _) (by have a1 := HN.out; have a2 := HMe.out; have a3 := HL0.out; have a4 := HL1.out; have a5 := Nat.mul_le_mul (show j ≤ 1000000 by omega) (show l1.length ≤ 1000000 by omega); unfold maxLen; omega) _ _ _ rfl rfl HKY.out _ [] unitElem_mk ?_; intro w1 hown1 hgrow1))
          go_roundw
          case rel => exact ⟨k + 1, sn ++ [p], true, rfl, by go_num, by omega, ⟨by have := HN.out; simp; omega⟩, ⟨by have := hown1; rw [SetM.D_snoc] at this; unfold SetM.Is; simpa using this⟩, ⟨ikey_Shadow.keepG (ikey_Shadow.keepA BX.out _) hgrow1 (fun e => SetM.Is.ne HI.out BX.out (Option.some.inj e).symm)⟩, ⟨SetM.R_map (Kd.R_alloc HRo.out _) (SetM.Is.alloc HI.out _) hgrow1⟩, ⟨Below.grown (below_alloc HB.out _) hgrow1 (below_size (below_alloc HB.out _)) (fun k h => by cases h; exact HBb.out)⟩, ⟨by rw [← HA1.out, HDR.out, ikey_Shadow.inn, if_pos ⟨HC.out, of_decide_eq_true t6⟩]⟩⟩
          case measure => simp [intOf]; omega
         ·have t6 : decide (e.f1 ≤ p) = false := decide_eq_false hs
          rw [hc] at hh
          have HC := Aside0.mk hc
          clear hc
          go_wp2_with (first | (at_lookup; refine wpList_lookup_own_unit _ rfl _ _ 209 rfl 25 196 SetM.law Tryz.underlying209 (SetM.unit0 _) b _ (SetM.D sn) rfl HI.out _ _ rfl HKY.out ?_))
          go_roundw
          case rel => exact ⟨k + 1, sn, st, rfl, by go_num, by omega, ⟨by have := HN.out; omega⟩, ⟨SetM.Is.alloc HI.out _⟩, ⟨ikey_Shadow.keepA BX.out _⟩, ⟨Kd.R_alloc HRo.out _⟩, ⟨below_alloc HB.out _⟩, ⟨by rw [← HA1.out, HDR.out, ikey_Shadow.inn, if_neg (fun h => absurd h.2 (of_decide_eq_false t6))]⟩⟩
          case measure => simp [intOf]; omega
        ·rw [hc] at hh
         have HC := Aside0.mk hc
         clear hc
         go_wp2_with (first | (at_lookup; refine wpList_lookup_own_unit _ rfl _ _ 209 rfl 25 196 SetM.law Tryz.underlying209 (SetM.unit0 _) b _ (SetM.D sn) rfl HI.out _ _ rfl HKY.out ?_))
         go_roundw
         case rel => exact ⟨k + 1, sn, st, rfl, by go_num, by omega, ⟨by have := HN.out; omega⟩, ⟨SetM.Is.alloc HI.out _⟩, ⟨ikey_Shadow.keepA BX.out _⟩, ⟨Kd.R_alloc HRo.out _⟩, ⟨below_alloc HB.out _⟩, ⟨by rw [← HA1.out, HDR.out, ikey_Shadow.inn, if_neg (fun h => by rw [HC.out] at h; cases h.1)]⟩⟩
         case measure => simp [intOf]; omega
       ·have hke : k = l1.length := by omega
        have HST : Aside0 ((sn, st) = ikey_Shadow.inn e.f1 l1 seen1 fb) := ⟨by rw [← HA1.out, hke, List.drop_length, ikey_Shadow.inn]⟩
        have t5 : decide ((k : Int) < (l1.length : Int)) = false := decide_eq_false (by omega)
        have hdr : l0.drop j = e :: l0.drop (j + 1) := by
         have he : e = l0[j] := by rw [HE.out]; simp [rd_T32, hlt]
         rw [he]; exact List.drop_eq_getElem_cons hlt
        have HDR := Aside0.mk hdr
        have HSL : Aside0 (sn.length ≤ (j + 1) * l1.length) := ⟨by rw [Nat.succ_mul]; have a1 := HN.out; have a2 := HMe.out; omega⟩
        clear hdr hke HA1
        have z0 : wr.cell? ⟨g8, 0, none⟩ = some (.string e.f0) := (blk_cell BX.out 0).trans rfl
        have z1 : wr.cell? ⟨g8, 1, none⟩ = some (.int .u64 e.f1) := (blk_cell BX.out 1).trans rfl
        have z2 : wr.cell? ⟨g8, 2, none⟩ = some (.int .i64 e.f2) := (blk_cell BX.out 2).trans rfl
        have z3 : wr.cell? ⟨g8, 3, none⟩ = some (.string e.f3) := (blk_cell BX.out 3).trans rfl
        cases st
        ·go_wp2_with (fail)
         go_roundw
         case rel => exact ⟨j + 1, some e.f0, sn, out, by go_num, by omega, ⟨by have := HO.out; omega⟩, ⟨HSL.out⟩, ⟨.inr ⟨by omega, by rw [HE.out]; congr 3; omega⟩⟩, ⟨.inr ⟨b, rfl, HBb.out, HI.out⟩⟩, ⟨HRo.out⟩, ⟨HB.out⟩, ⟨ikey_Shadow.step (by rw [← HDR.out]; exact HA.out) HFB.out HS1e.out HST.out⟩⟩
         case measure => simp [intOf]; omega
        ·go_wp2_with (first | ((with_reducible refine gate_builtin (b := .append) (xs := #[.tmp 63, .tmp 65]) rfl ?_); at_builtin; refine Kd.R_append k32 (w0 := w) w.heap.size rfl (.tmp 63) (.tmp 65) 22 32 (.agg #[(.string ⟨#[]⟩), (.int .u64 0), (.int .i64 0), (.string ⟨#[]⟩)]) 48 rfl Tryz.underlying22 info32 rfl (by decide) (by omega) u5 out e [.string e.f0, .int .u64 e.f1, .int .i64 e.f2, .string e.f3] (fun _ => True) (fun _ => False) rfl rfl ?aP (fun _ hk => hk.elim) ?aF ?aO ?aB ?aS ?aL ?_; (case aP => exact k32_mkM _ _ _ _); (case aB => exact HB.out); (case aF => exact (fun _ _ => trivial)); (case aO => exact HRo.out); (case aS => exact below_size HB.out); (case aL => have := HO.out; have := HL0.out; omega); intro v7 w7 ho hb hg hat; have HG := Aside0.mk hg; have HO7 := Aside0.mk ho; have HB7 := Aside0.mk hb; clear ho hb hg hat))
         go_roundw
         case rel => exact ⟨j + 1, some e.f0, sn, out ++ [e], by go_num, by omega, ⟨by have := HO.out; simp; omega⟩, ⟨HSL.out⟩, ⟨.inr ⟨by omega, by rw [HE.out]; congr 3; omega⟩⟩, ⟨.inr ⟨b, rfl, HBb.out, SetM.Is.grown HI.out HG.out (SetM.row_ne HRo.out HI.out)⟩⟩, ⟨HO7.out⟩, ⟨HB7.out⟩, ⟨ikey_Shadow.step (by rw [← HDR.out]; exact HA.out) HFB.out HS1e.out HST.out⟩⟩
         case measure => simp [intOf]; omega
   ·have hje : j = l0.length := by omega
    have HX : Aside0 (out = r) := ⟨by rw [← HA.out, hje, List.drop_length, ikey_Shadow.go]⟩
    have t0 : decide ((j : Int) < (l0.length : Int)) = false := decide_eq_false (by omega)
    clear hje HA HP
    go_wp2_with (fail)
    go_ret
    exact ⟨_, rfl, by rw [← HX.out]; exact HRo.out, HB.out⟩
 ·cases h
end Go.Proofs.YtchgpcgolgcfdaaGreat.PNum
end
section
namespace Go.Proofs.YtchgpcgolgcfdaaGreat.PNum
open Go.RowKit Go.Proofs.YtchgpcgolgcfdaaGreatW.PrintWords Go.Proofs.YtchgpcgolgcfdaaGreatW.PrintLast Go.Proofs.YtchgpcgolgcfdaaGreatW.PrintMore
attribute [local go_sem] max2_int min2_int max_two min_two max_three min_three max_four min_four   -- for this text's walks alone
set_option linter.unusedVariables false
set_option linter.unusedSimpArgs false
def cornucopialaw5_alive.f (k : Nat)  : Option (Bool) := (some (([(⟨(⟨#[97]⟩ : ByteArray), 5, 1, (⟨#[]⟩ : ByteArray)⟩ : S32), (⟨(⟨#[97]⟩ : ByteArray), 3, 1, (⟨#[]⟩ : ByteArray)⟩ : S32), (⟨(⟨#[97]⟩ : ByteArray), 1, 1, (⟨#[]⟩ : ByteArray)⟩ : S32)] : List (S32)) : List (S32))).bind fun y405 => ((ikey_Shadow.f y405 (([4] : List Int))).bind fun t411 => ((ikey_Pick.f k y405 (⟨#[97]⟩ : ByteArray) 4).bind fun bt414 => (if (t411.length : Int) = 2 then (if 1 < (t411.length : Int) then (if ((rd_T32 t411 1).f1) = 3 then (if bt414.2.2.2.2 = true then (if bt414.2.1 = 3 then (if 0 < (y405.length : Int) then (if 1 < (y405.length : Int) then ((ikey_Compare.f k ((rd_T32 y405 0).f0) ((rd_T32 y405 0).f1) ((rd_T32 y405 0).f2) ((rd_T32 y405 0).f3) ((rd_T32 y405 1).f0) ((rd_T32 y405 1).f1) ((rd_T32 y405 1).f2) ((rd_T32 y405 1).f3)).bind fun t423 => (if t423 = (-1) then ((ikey_Valid.f k ((rd_T32 y405 0).f0) ((rd_T32 y405 0).f1) ((rd_T32 y405 0).f2) ((rd_T32 y405 0).f3)).bind fun t425 => (if t425 = true then ((ikey_Valid.f k (⟨#[97]⟩ : ByteArray) 0 0 (⟨#[]⟩ : ByteArray)).bind fun t426 => (some (!t426))) else (none))) else (none))) else (none)) else (none)) else (none)) else (none)) else (none)) else (none)) else (none))))
theorem cornucopialaw5_alive.mono : ∀ k, LeO (cornucopialaw5_alive.f k ) (cornucopialaw5_alive.f (k + 1) ) := by
 intro  k
 unfold cornucopialaw5_alive.f
 repeat' first
   | (with_reducible exact ikey_Compare.mono _ _ _ _ _ _ _ _ _)
   | (with_reducible exact ikey_Pick.mono _ _ _ _)
   | (with_reducible exact ikey_Valid.mono _ _ _ _ _)
   | (with_reducible exact LeO.refl _)
   | (with_reducible exact LeO.none _)
   | (with_reducible refine LeO.ite ?_ ?_)
   | (with_reducible refine LeO.bind ?_ (fun _ => ?_))
   | exact ikey_Compare.mono _ _ _ _ _ _ _ _ _
   | exact ikey_Pick.mono _ _ _ _
   | exact ikey_Valid.mono _ _ _ _ _
   | exact LeO.none _
   | refine LeO.ite ?_ ?_
   | refine LeO.bind ?_ (fun _ => ?_)
def cornucopialaw5_alive.T4 : Bool × List (List Nat × List Nat) := (true, [([], []), ([0], [0]), ([1], [1]), ([2], [2]), ([3], [3]), ([4, 3], [3, 4]), ([5, 3], [3, 5]), ([6, 3], [3, 6]), ([7, 3], [3, 7]), ([3, 8], [3, 8]), ([9, 3], [9]), ([10], [10]), ([10, 11], [10, 11]), ([12, 10], [12]), ([13], [13]), ([14, 13], [13, 14]), ([15, 13], [13, 15]), ([13, 16], [13, 16]), ([17, 13], [17]), ([18], [18]), ([19, 18], [18, 19]), ([20, 18], [18, 20]), ([18], [18]), ([22, 18], [18, 22]), ([23, 18], [18, 23]), ([21, 24, 18, 18], [18, 21, 24]), ([25, 18], [18, 25]), ([18, 26], [18, 26]), ([27, 25], [27]), ([28], [28]), ([29, 28], [28, 29]), ([30, 28], [28, 30]), ([31, 28, 28], [28, 31]), ([28, 32], [28, 32]), ([33, 32], [33]), ([34], [34]), ([35, 34, 34], [34, 35]), ([36, 34], [34, 36]), ([34, 37], [34, 37]), ([38, 36, 0, 1, 2, 3, 4, 5, 6, 7, 8, 9, 10, 11, 12, 13, 14, 15, 16, 17, 18, 19, 20, 21, 22, 23, 24, 25, 26, 27, 28, 29, 30, 31, 32, 33, 34, 35, 36, 37, 38], [38])])
def cornucopialaw5_alive.B4 : List Nat := [0, 1, 3, 7, 15, 31, 63, 127, 255, 511, 1023, 2047, 4095, 8191, 16383, 32767, 65535, 131071, 262143, 524287, 1048575, 2097151, 524287, 4718591, 13107199, 33554431, 67108863, 134217727, 268435455, 536870911, 1073741823, 2147483647, 4294967295, 8589934591, 17179869183, 34359738367, 68719476735, 137438953471, 274877906943, 549755813887]
theorem cornucopialaw5_alive.tab4 : rtab .any (opsOf Tryz.f42 4) = cornucopialaw5_alive.T4 := by kernel_rfl
theorem cornucopialaw5_alive.bits4 : waitsOk cornucopialaw5_alive.T4.2 cornucopialaw5_alive.B4 = true := by kernel_rfl
set_option maxHeartbeats 8000000 in
set_option maxRecDepth 100000 in
theorem cornucopialaw5_alive.calls (k : Nat)  (r : Bool) (w : World) (h : cornucopialaw5_alive.f k  = some r) :
  Calls Tryz.prog 42 #[] w fun e w' => e = .returned (.bool r) ∧ Below w.heap.size w w' := by
 have hu32 := Tryz.underlying32
 have HB := Aside0.mk (Below.refl w.heap.size w)
 have H : ((some (([(⟨(⟨#[97]⟩ : ByteArray), 5, 1, (⟨#[]⟩ : ByteArray)⟩ : S32), (⟨(⟨#[97]⟩ : ByteArray), 3, 1, (⟨#[]⟩ : ByteArray)⟩ : S32), (⟨(⟨#[97]⟩ : ByteArray), 1, 1, (⟨#[]⟩ : ByteArray)⟩ : S32)] : List (S32)) : List (S32))).bind fun y405 => ((ikey_Shadow.f y405 (([4] : List Int))).bind fun t411 => ((ikey_Pick.f k y405 (⟨#[97]⟩ : ByteArray) 4).bind fun bt414 => (if (t411.length : Int) = 2 then (if 1 < (t411.length : Int) then (if ((rd_T32 t411 1).f1) = 3 then (if bt414.2.2.2.2 = true then (if bt414.2.1 = 3 then (if 0 < (y405.length : Int) then (if 1 < (y405.length : Int) then ((ikey_Compare.f k ((rd_T32 y405 0).f0) ((rd_T32 y405 0).f1) ((rd_T32 y405 0).f2) ((rd_T32 y405 0).f3) ((rd_T32 y405 1).f0) ((rd_T32 y405 1).f1) ((rd_T32 y405 1).f2) ((rd_T32 y405 1).f3)).bind fun t423 => (if t423 = (-1) then ((ikey_Valid.f k ((rd_T32 y405 0).f0) ((rd_T32 y405 0).f1) ((rd_T32 y405 0).f2) ((rd_T32 y405 0).f3)).bind fun t425 => (if t425 = true then ((ikey_Valid.f k (⟨#[97]⟩ : ByteArray) 0 0 (⟨#[]⟩ : ByteArray)).bind fun t426 => (some (!t426))) else (none))) else (none))) else (none)) else (none)) else (none)) else (none)) else (none)) else (none)) else (none))))) = some r := h
 clear h
 obtain ⟨y405, hy405⟩ : ∃ y_ : List (S32), y_ = (([(⟨(⟨#[97]⟩ : ByteArray), 5, 1, (⟨#[]⟩ : ByteArray)⟩ : S32), (⟨(⟨#[97]⟩ : ByteArray), 3, 1, (⟨#[]⟩ : ByteArray)⟩ : S32), (⟨(⟨#[97]⟩ : ByteArray), 1, 1, (⟨#[]⟩ : ByteArray)⟩ : S32)] : List (S32))) := ⟨_, rfl⟩
 replace H : ((ikey_Shadow.f y405 (([4] : List Int))).bind fun t411 => ((ikey_Pick.f k y405 (⟨#[97]⟩ : ByteArray) 4).bind fun bt414 => (if (t411.length : Int) = 2 then (if 1 < (t411.length : Int) then (if ((rd_T32 t411 1).f1) = 3 then (if bt414.2.2.2.2 = true then (if bt414.2.1 = 3 then (if 0 < (y405.length : Int) then (if 1 < (y405.length : Int) then ((ikey_Compare.f k ((rd_T32 y405 0).f0) ((rd_T32 y405 0).f1) ((rd_T32 y405 0).f2) ((rd_T32 y405 0).f3) ((rd_T32 y405 1).f0) ((rd_T32 y405 1).f1) ((rd_T32 y405 1).f2) ((rd_T32 y405 1).f3)).bind fun t423 => (if t423 = (-1) then ((ikey_Valid.f k ((rd_T32 y405 0).f0) ((rd_T32 y405 0).f1) ((rd_T32 y405 0).f2) ((rd_T32 y405 0).f3)).bind fun t425 => (if t425 = true then ((ikey_Valid.f k (⟨#[97]⟩ : ByteArray) 0 0 (⟨#[]⟩ : ByteArray)).bind fun t426 => (some (!t426))) else (none))) else (none))) else (none)) else (none)) else (none)) else (none)) else (none)) else (none)) else (none)))) = some r := by first | (rw [hy405]; with_reducible exact H) | (have H2_ := (Option.bind_some _ _).symm.trans H; rw [hy405]; with_reducible exact H2_) | (have H2_ := (Option.bind_some _ _).symm.trans H; with_reducible exact H2_) | with_reducible exact H | (rw [hy405]; exact H) | exact H
 have Ny405 := Aside0.mk hy405
 clear hy405
 obtain ⟨y408, hy408⟩ : ∃ y_ : List Int, y_ = (([4] : List Int)) := ⟨_, rfl⟩
 replace H : ((ikey_Shadow.f y405 y408).bind fun t411 => ((ikey_Pick.f k y405 (⟨#[97]⟩ : ByteArray) 4).bind fun bt414 => (if (t411.length : Int) = 2 then (if 1 < (t411.length : Int) then (if ((rd_T32 t411 1).f1) = 3 then (if bt414.2.2.2.2 = true then (if bt414.2.1 = 3 then (if 0 < (y405.length : Int) then (if 1 < (y405.length : Int) then ((ikey_Compare.f k ((rd_T32 y405 0).f0) ((rd_T32 y405 0).f1) ((rd_T32 y405 0).f2) ((rd_T32 y405 0).f3) ((rd_T32 y405 1).f0) ((rd_T32 y405 1).f1) ((rd_T32 y405 1).f2) ((rd_T32 y405 1).f3)).bind fun t423 => (if t423 = (-1) then ((ikey_Valid.f k ((rd_T32 y405 0).f0) ((rd_T32 y405 0).f1) ((rd_T32 y405 0).f2) ((rd_T32 y405 0).f3)).bind fun t425 => (if t425 = true then ((ikey_Valid.f k (⟨#[97]⟩ : ByteArray) 0 0 (⟨#[]⟩ : ByteArray)).bind fun t426 => (some (!t426))) else (none))) else (none))) else (none)) else (none)) else (none)) else (none)) else (none)) else (none)) else (none)))) = some r := by first | (rw [hy408]; with_reducible exact H) | (have H2_ := (Option.bind_some _ _).symm.trans H; rw [hy408]; with_reducible exact H2_) | (have H2_ := (Option.bind_some _ _).symm.trans H; with_reducible exact H2_) | with_reducible exact H | (rw [hy408]; exact H) | exact H
 have Ny408 := Aside0.mk hy408
 clear hy408
 replace H := Option.bind_eq_some_iff.mp H
 obtain ⟨t411, A10, H⟩ := H
 replace H : ((ikey_Pick.f k y405 (⟨#[97]⟩ : ByteArray) 4).bind fun bt414 => (if (t411.length : Int) = 2 then (if 1 < (t411.length : Int) then (if ((rd_T32 t411 1).f1) = 3 then (if bt414.2.2.2.2 = true then (if bt414.2.1 = 3 then (if 0 < (y405.length : Int) then (if 1 < (y405.length : Int) then ((ikey_Compare.f k ((rd_T32 y405 0).f0) ((rd_T32 y405 0).f1) ((rd_T32 y405 0).f2) ((rd_T32 y405 0).f3) ((rd_T32 y405 1).f0) ((rd_T32 y405 1).f1) ((rd_T32 y405 1).f2) ((rd_T32 y405 1).f3)).bind fun t423 => (if t423 = (-1) then ((ikey_Valid.f k ((rd_T32 y405 0).f0) ((rd_T32 y405 0).f1) ((rd_T32 y405 0).f2) ((rd_T32 y405 0).f3)).bind fun t425 => (if t425 = true then ((ikey_Valid.f k (⟨#[97]⟩ : ByteArray) 0 0 (⟨#[]⟩ : ByteArray)).bind fun t426 => (some (!t426))) else (none))) else (none))) else (none)) else (none)) else (none)) else (none)) else (none)) else (none)) else (none))) = some r := H
 have A1 := Aside0.mk A10
 clear A10
 replace H := Option.bind_eq_some_iff.mp H
 obtain ⟨⟨t414, t415, t416, t417, t418⟩, A20, H⟩ := H
 replace H : (if (t411.length : Int) = 2 then (if 1 < (t411.length : Int) then (if ((rd_T32 t411 1).f1) = 3 then (if t418 = true then (if t415 = 3 then (if 0 < (y405.length : Int) then (if 1 < (y405.length : Int) then ((ikey_Compare.f k ((rd_T32 y405 0).f0) ((rd_T32 y405 0).f1) ((rd_T32 y405 0).f2) ((rd_T32 y405 0).f3) ((rd_T32 y405 1).f0) ((rd_T32 y405 1).f1) ((rd_T32 y405 1).f2) ((rd_T32 y405 1).f3)).bind fun t423 => (if t423 = (-1) then ((ikey_Valid.f k ((rd_T32 y405 0).f0) ((rd_T32 y405 0).f1) ((rd_T32 y405 0).f2) ((rd_T32 y405 0).f3)).bind fun t425 => (if t425 = true then ((ikey_Valid.f k (⟨#[97]⟩ : ByteArray) 0 0 (⟨#[]⟩ : ByteArray)).bind fun t426 => (some (!t426))) else (none))) else (none))) else (none)) else (none)) else (none)) else (none)) else (none)) else (none)) else (none)) = some r := H
 have A2 := Aside0.mk A20
 clear A20
 by_cases c3 : (t411.length : Int) = 2
 ·rw [if_pos c3] at H
  have c3b0 : ((t411.length : Int) == 2) = true := beq_iff_eq.mpr c3
  have c3b1 : ((t411.length : Int) != 2) = false := bne_eq_false_iff_eq.mpr c3
  clear c3
  by_cases c4 : 1 < (t411.length : Int)
  ·rw [if_pos c4] at H
   have c4b0 : decide (1 < (t411.length : Int)) = true := decide_eq_true c4
   have c4b1 : decide (1 < t411.length) = true := decide_eq_true (by omega)
   clear c4
   by_cases c5 : ((rd_T32 t411 1).f1) = 3
   ·rw [if_pos c5] at H
    have c5b0 : (((rd_T32 t411 1).f1) == 3) = true := beq_iff_eq.mpr c5
    have c5b1 : (((rd_T32 t411 1).f1) != 3) = false := bne_eq_false_iff_eq.mpr c5
    clear c5
    by_cases c6 : t418 = true
    ·subst c6
     have H1 : (if t415 = 3 then (if 0 < (y405.length : Int) then (if 1 < (y405.length : Int) then ((ikey_Compare.f k ((rd_T32 y405 0).f0) ((rd_T32 y405 0).f1) ((rd_T32 y405 0).f2) ((rd_T32 y405 0).f3) ((rd_T32 y405 1).f0) ((rd_T32 y405 1).f1) ((rd_T32 y405 1).f2) ((rd_T32 y405 1).f3)).bind fun t423 => (if t423 = (-1) then ((ikey_Valid.f k ((rd_T32 y405 0).f0) ((rd_T32 y405 0).f1) ((rd_T32 y405 0).f2) ((rd_T32 y405 0).f3)).bind fun t425 => (if t425 = true then ((ikey_Valid.f k (⟨#[97]⟩ : ByteArray) 0 0 (⟨#[]⟩ : ByteArray)).bind fun t426 => (some (!t426))) else (none))) else (none))) else (none)) else (none)) else (none)) = some r := by rw [if_pos rfl] at H; exact H
     clear H
     have H := H1
     clear H1
     by_cases c7 : t415 = 3
     ·rw [if_pos c7] at H
      have c7b0 : (t415 == 3) = true := beq_iff_eq.mpr c7
      have c7b1 : (t415 != 3) = false := bne_eq_false_iff_eq.mpr c7
      clear c7
      by_cases c8 : 0 < (y405.length : Int)
      ·rw [if_pos c8] at H
       have c8b0 : decide (0 < (y405.length : Int)) = true := decide_eq_true c8
       have c8b1 : decide (0 < y405.length) = true := decide_eq_true (by omega)
       clear c8
       by_cases c9 : 1 < (y405.length : Int)
       ·rw [if_pos c9] at H
        have c9b0 : decide (1 < (y405.length : Int)) = true := decide_eq_true c9
        have c9b1 : decide (1 < y405.length) = true := decide_eq_true (by omega)
        clear c9
        replace H := Option.bind_eq_some_iff.mp H
        obtain ⟨t423, A100, H⟩ := H
        replace H : (if t423 = (-1) then ((ikey_Valid.f k ((rd_T32 y405 0).f0) ((rd_T32 y405 0).f1) ((rd_T32 y405 0).f2) ((rd_T32 y405 0).f3)).bind fun t425 => (if t425 = true then ((ikey_Valid.f k (⟨#[97]⟩ : ByteArray) 0 0 (⟨#[]⟩ : ByteArray)).bind fun t426 => (some (!t426))) else (none))) else (none)) = some r := H
        have A10 := Aside0.mk A100
        clear A100
        by_cases c11 : t423 = (-1)
        ·rw [if_pos c11] at H
         have c11b0 : (t423 == (-1)) = true := beq_iff_eq.mpr c11
         have c11b1 : (t423 != (-1)) = false := bne_eq_false_iff_eq.mpr c11
         clear c11
         replace H := Option.bind_eq_some_iff.mp H
         obtain ⟨t425, A120, H⟩ := H
         replace H : (if t425 = true then ((ikey_Valid.f k (⟨#[97]⟩ : ByteArray) 0 0 (⟨#[]⟩ : ByteArray)).bind fun t426 => (some (!t426))) else (none)) = some r := H
         have A12 := Aside0.mk A120
         clear A120
         by_cases c13 : t425 = true
         ·subst c13
          have H1 : ((ikey_Valid.f k (⟨#[97]⟩ : ByteArray) 0 0 (⟨#[]⟩ : ByteArray)).bind fun t426 => (some (!t426))) = some r := by rw [if_pos rfl] at H; exact H
          clear H
          have H := H1
          clear H1
          replace H := Option.bind_eq_some_iff.mp H
          obtain ⟨t426, A140, H⟩ := H
          replace H : (some (!t426)) = some r := H
          have A14 := Aside0.mk A140
          clear A140
          obtain rfl := Option.some.inj H
          go_enter Tryz.func42, Tryz.ntmps42
          try go_wp2_with (first | ((with_reducible refine gate_dst (N := 8) rfl ?_); refine Kd.R_lit k32 _ 32 ?hg (N := 8) ?hd (xs := ([(⟨(⟨#[97]⟩ : ByteArray), 5, 1, (⟨#[]⟩ : ByteArray)⟩ : S32), (⟨(⟨#[97]⟩ : ByteArray), 3, 1, (⟨#[]⟩ : ByteArray)⟩ : S32), (⟨(⟨#[97]⟩ : ByteArray), 1, 1, (⟨#[]⟩ : ByteArray)⟩ : S32)] : List (S32))) (inner := [.string (⟨#[97]⟩ : ByteArray), .int .u64 5, .int .i64 1, .string (⟨#[]⟩ : ByteArray), .string (⟨#[97]⟩ : ByteArray), .int .u64 3, .int .i64 1, .string (⟨#[]⟩ : ByteArray), .string (⟨#[97]⟩ : ByteArray), .int .u64 1, .int .i64 1, .string (⟨#[]⟩ : ByteArray)]) (ok := fun _ => True) (okp := fun _ => True) ?hr ?hp (fun _ hk => hk) trivial (Below.refl _ _) (Nat.le_refl _) (by simp) ?_; (case hd => rfl); (case hg => rfl); (case hr => first | (go_simp; done) | (go_simp; rfl)); (case hp => exact (Reps.c4 (show Kd.M k32 _ _ _ (⟨(⟨#[97]⟩ : ByteArray), 5, 1, (⟨#[]⟩ : ByteArray)⟩ : S32) [.string (⟨#[97]⟩ : ByteArray), .int .u64 5, .int .i64 1, .string (⟨#[]⟩ : ByteArray)] from (k32_mkM _ _ _ (⟨(⟨#[97]⟩ : ByteArray), 5, 1, (⟨#[]⟩ : ByteArray)⟩ : S32) )) (Reps.c4 (show Kd.M k32 _ _ _ (⟨(⟨#[97]⟩ : ByteArray), 3, 1, (⟨#[]⟩ : ByteArray)⟩ : S32) [.string (⟨#[97]⟩ : ByteArray), .int .u64 3, .int .i64 1, .string (⟨#[]⟩ : ByteArray)] from (k32_mkM _ _ _ (⟨(⟨#[97]⟩ : ByteArray), 3, 1, (⟨#[]⟩ : ByteArray)⟩ : S32) )) (Reps.c4 (show Kd.M k32 _ _ _ (⟨(⟨#[97]⟩ : ByteArray), 1, 1, (⟨#[]⟩ : ByteArray)⟩ : S32) [.string (⟨#[97]⟩ : ByteArray), .int .u64 1, .int .i64 1, .string (⟨#[]⟩ : ByteArray)] from (k32_mkM _ _ _ (⟨(⟨#[97]⟩ : ByteArray), 1, 1, (⟨#[]⟩ : ByteArray)⟩ : S32) )) (Reps.none _ _))))); intro v406 w15 ho16 hb hg_ hnew_; clear hg_ hnew_; (first | rw [← Ny405.out] at ho16 | (simp only [Int.reduceToNat] at ho16; rw [← Ny405.out] at ho16)); have n0_ := Aside0.mk (Kd.R_lower ho16 (below_size (by repeat (first | (with_reducible first | exact HB.out | apply below_alloc | apply pw_below_drewN | apply below_drew1) | exact HB.out)))); have n1_ := Aside0.mk (below_step (by repeat (first | (with_reducible first | exact HB.out | apply below_alloc | apply pw_below_drewN | apply below_drew1) | exact HB.out)) hb); clear HB; have HO407 := n0_; have HB := n1_; clear n0_ n1_; clear hb ho16) | ((with_reducible refine gate_dst (N := 10) rfl ?_); refine Kd.R_lit (Kd.int .u64) _ 25 ?hg (N := 10) ?hd (xs := ([4] : List Int)) (inner := [.int .u64 4]) (ok := fun _ => True) (okp := fun _ => True) ?hr ?hp (fun _ hk => hk) trivial (Below.refl _ _) (Nat.le_refl _) (by simp) ?_; (case hd => rfl); (case hg => rfl); (case hr => first | (go_simp; done) | (go_simp; rfl)); (case hp => exact (Reps.one (show Kd.M (Kd.int .u64) _ _ _ 4 [.int .u64 4] from rfl) (Reps.none _ _))); intro v409 w17 ho18 hb hg_ hnew_; clear hg_ hnew_; (first | rw [← Ny408.out] at ho18 | (simp only [Int.reduceToNat] at ho18; rw [← Ny408.out] at ho18)); have n0_ := Aside0.mk (Kd.R_below (by (with_reducible repeat (first | apply Kd.R_alloc | apply Kd.R_drewN | apply Kd.R_drew)); exact HO407.out) hb); have n1_ := Aside0.mk (Kd.R_lower ho18 (below_size (by repeat (first | (with_reducible first | exact HB.out | apply below_alloc | apply pw_below_drewN | apply below_drew1) | exact HB.out)))); have n2_ := Aside0.mk (below_step (by repeat (first | (with_reducible first | exact HB.out | apply below_alloc | apply pw_below_drewN | apply below_drew1) | exact HB.out)) hb); clear HO407; clear HB; have HO407 := n0_; have HO410 := n1_; have HB := n2_; clear n0_ n1_ n2_; clear hb ho18; obtain ⟨Ao19, co19, eo19⟩ := Kd.R_slice HO407.out; subst eo19; obtain ⟨Ao20, co20, eo20⟩ := Kd.R_slice HO410.out; subst eo20) | ((with_reducible refine gate_callee (f := 55) rfl ?_); refine goesL_ (some 11) rfl rfl Tryz.func55 (by kernel_rfl) rfl #[.slice Ao19 y405.length co19, .slice Ao20 y408.length co20] rfl (by (try simp only [List.map_toArray, List.map_cons, List.map_nil]); first | done | rfl | (simp only [List.length_drop, List.length_take]; rfl)) ?_; (with_reducible refine (ikey_Shadow.calls _ _ y405 _ _ y408 t411 _ ?side1 ?side2 ?side3 ?side4 A1.out).mono ?_); (case side1 => repeat (first | exact (Kd.R_reads' HO407.out).2.2 | (with_reducible refine Kd.C_alloc ?_ _) | (with_reducible refine Kd.C_drewN ?_ _) | (with_reducible refine Kd.C_drew ?_))); (case side2 => exact (Kd.R_reads' HO407.out).2.1); (case side3 => repeat (first | exact (Kd.R_reads' HO410.out).2.2 | (with_reducible refine Kd.C_alloc ?_ _) | (with_reducible refine Kd.C_drewN ?_ _) | (with_reducible refine Kd.C_drew ?_))); (case side4 => exact (Kd.R_reads' HO410.out).2.1); rintro e w21 ⟨v412, rfl, ho0, hb⟩; refine ⟨_, rfl, ?_⟩; have n0_ := Aside0.mk (Kd.R_elder' (by (with_reducible repeat (first | apply Kd.R_alloc | apply Kd.R_drewN | apply Kd.R_drew)); exact HO407.out) (Kd.R_base ho0) hb); have n1_ := Aside0.mk (Kd.R_below (by (with_reducible repeat (first | apply Kd.R_alloc | apply Kd.R_drewN | apply Kd.R_drew)); exact HO410.out) hb); have n2_ := Aside0.mk (Kd.R_lower (Kd.R_new' ho0 (Kd.R_lt (by (with_reducible repeat (first | apply Kd.R_alloc | apply Kd.R_drewN | apply Kd.R_drew)); exact HO407.out))) (below_size (by repeat (first | (with_reducible first | exact HB.out | apply below_alloc | apply pw_below_drewN | apply below_drew1) | exact HB.out)))); have n3_ := Aside0.mk (below_step (by repeat (first | (with_reducible first | exact HB.out | apply below_alloc | apply pw_below_drewN | apply below_drew1) | exact HB.out)) hb); clear HO407; clear HO410; clear HB; have HO407 := n0_; have HO410 := n1_; have HO413 := n2_; have HB := n3_; clear n0_ n1_ n2_ n3_; (try clear hb); (try clear hb2); (try clear hk); (try clear hi); (try clear ho0)) | ((with_reducible refine gate_callee (f := 54) rfl ?_); refine goesL_ (some 14) rfl rfl Tryz.func54 (by kernel_rfl) rfl #[.slice Ao19 y405.length co19, .string (⟨#[97]⟩ : ByteArray), .int .u64 4] rfl (by (try simp only [List.map_toArray, List.map_cons, List.map_nil]); first | done | rfl | (simp only [List.length_drop, List.length_take]; rfl)) ?_; (with_reducible refine (ikey_Pick.calls k _ _ y405 (⟨#[97]⟩ : ByteArray) 4 t414 t415 t416 t417 true _ ?side1 ?side2 A2.out).mono ?_); (case side1 => repeat (first | exact (Kd.R_reads' HO407.out).2.2 | (with_reducible refine Kd.C_alloc ?_ _) | (with_reducible refine Kd.C_drewN ?_ _) | (with_reducible refine Kd.C_drew ?_))); (case side2 => exact (Kd.R_reads' HO407.out).2.1); rintro e w22 ⟨rfl, hb⟩; refine ⟨_, rfl, ?_⟩; have n0_ := Aside0.mk (Kd.R_below (by (with_reducible repeat (first | apply Kd.R_alloc | apply Kd.R_drewN | apply Kd.R_drew)); exact HO407.out) hb); have n1_ := Aside0.mk (Kd.R_below (by (with_reducible repeat (first | apply Kd.R_alloc | apply Kd.R_drewN | apply Kd.R_drew)); exact HO410.out) hb); have n2_ := Aside0.mk (Kd.R_below (by (with_reducible repeat (first | apply Kd.R_alloc | apply Kd.R_drewN | apply Kd.R_drew)); exact HO413.out) hb); have n3_ := Aside0.mk (below_step (by repeat (first | (with_reducible first | exact HB.out | apply below_alloc | apply pw_below_drewN | apply below_drew1) | exact HB.out)) hb); clear HO407; clear HO410; clear HO413; clear HB; have HO407 := n0_; have HO410 := n1_; have HO413 := n2_; have HB := n3_; clear n0_ n1_ n2_ n3_; (try clear hb); (try clear hb2); (try clear hk); (try clear hi)) | ((with_reducible refine gate_dst (N := 3) rfl ?_); refine box_event ?hg (N := 3) ?hd (cs := #[.string (⟨#[]⟩ : ByteArray), .int .u64 0, .int .i64 0, .string (⟨#[]⟩ : ByteArray)]) (t := 32) ?hr ?_; (case hd => rfl); (case hg => rfl); (case hr => first | (go_simp; done) | (go_simp; rfl)); intro gb419 hg w23 hbox hb; have n0_ := Aside0.mk (Kd.R_below (Kd.R_elderB (by (with_reducible repeat (first | apply Kd.R_alloc | apply Kd.R_drewN | apply Kd.R_drew)); exact HO407.out) gb419 (Nat.le_of_eq hg.symm)) hb); have n1_ := Aside0.mk (Kd.R_below (by (with_reducible repeat (first | apply Kd.R_alloc | apply Kd.R_drewN | apply Kd.R_drew)); exact HO410.out) hb); have n2_ := Aside0.mk (Kd.R_below (Kd.R_elderB (by (with_reducible repeat (first | apply Kd.R_alloc | apply Kd.R_drewN | apply Kd.R_drew)); exact HO413.out) gb419 (Nat.le_of_eq hg.symm)) hb); have n3_ := Aside0.mk (below_step (by repeat (first | (with_reducible first | exact HB.out | apply below_alloc | apply pw_below_drewN | apply below_drew1) | exact HB.out)) hb); have n4_ := Aside0.mk (hbox); have n5_ := Aside0.mk ((by rw [hg]; exact (below_size (by repeat (first | (with_reducible first | exact HB.out | apply below_alloc | apply pw_below_drewN | apply below_drew1) | exact HB.out))) : w.heap.size ≤ gb419)); have n6_ := Aside0.mk ((by rw [hg]; exact (below_size (by repeat (first | (with_reducible first | exact HB.out | apply below_alloc | apply pw_below_drewN | apply below_drew1) | exact HB.out))) : w.heap.size ≤ gb419)); clear HO407; clear HO410; clear HO413; clear HB; have HO407 := n0_; have HO410 := n1_; have HO413 := n2_; have HB := n3_; have BK419 := n4_; have GW419 := n5_; have GE419 := n6_; clear n0_ n1_ n2_ n3_ n4_ n5_ n6_; clear hb hbox hg; have hcz24_0 : w23.cell? ⟨gb419, 0, none⟩ = some (.string (⟨#[]⟩ : ByteArray)) := (blk_cell BK419.out 0).trans rfl; have hcz24_1 : w23.cell? ⟨gb419, 1, none⟩ = some (.int .u64 0) := (blk_cell BK419.out 1).trans rfl; have hcz24_2 : w23.cell? ⟨gb419, 2, none⟩ = some (.int .i64 0) := (blk_cell BK419.out 2).trans rfl; have hcz24_3 : w23.cell? ⟨gb419, 3, none⟩ = some (.string (⟨#[]⟩ : ByteArray)) := (blk_cell BK419.out 3).trans rfl; have hfz24_0 := blk_frozen BK419.out 0; have hfz24_1 := blk_frozen BK419.out 1; have hfz24_2 := blk_frozen BK419.out 2; have hfz24_3 := blk_frozen BK419.out 3))
          have n0_ : Aside0 (Kd.R k32 32 ((((w23.setCell ⟨gb419, 0, none⟩ (.string t414)).setCell ⟨gb419, 1, none⟩ (.int .u64 t415)).setCell ⟨gb419, 2, none⟩ (.int .i64 t416)).setCell ⟨gb419, 3, none⟩ (.string t417)) w.heap.size (fun k_ => some k_ ≠ (v412 : Value).ownBlock ∧ k_ ≠ gb419) (.slice Ao19 y405.length co19) y405) := ⟨by (with_reducible repeat (first | apply Kd.R_alloc | apply Kd.R_drewN | apply Kd.R_drew)); exact Kd.R_mono (Kd.R_far (p := ⟨gb419, 3, none⟩) (Kd.R_far (p := ⟨gb419, 2, none⟩) (Kd.R_far (p := ⟨gb419, 1, none⟩) (Kd.R_far (p := ⟨gb419, 0, none⟩) (Kd.R_mono HO407.out (fun k_ hk => (⟨hk, hk.2⟩ : _ ∧ k_ ≠ gb419))) (fun _ hk => hk.2) (.string t414)) (fun _ hk => hk.2) (.int .u64 t415)) (fun _ hk => hk.2) (.int .i64 t416)) (fun _ hk => hk.2) (.string t417)) (fun _ hk => ⟨hk.1.1.2, hk.1.2⟩)⟩
          have n1_ : Aside0 (Kd.R (Kd.int .u64) 25 ((((w23.setCell ⟨gb419, 0, none⟩ (.string t414)).setCell ⟨gb419, 1, none⟩ (.int .u64 t415)).setCell ⟨gb419, 2, none⟩ (.int .i64 t416)).setCell ⟨gb419, 3, none⟩ (.string t417)) w.heap.size (fun _ => True) (.slice Ao20 y408.length co20) y408) := ⟨by (with_reducible repeat (first | apply Kd.R_alloc | apply Kd.R_drewN | apply Kd.R_drew)); exact Kd.R_mono (Kd.R_far (p := ⟨gb419, 3, none⟩) (Kd.R_far (p := ⟨gb419, 2, none⟩) (Kd.R_far (p := ⟨gb419, 1, none⟩) (Kd.R_far (p := ⟨gb419, 0, none⟩) (Kd.R_types HO410.out BK419.out (by decide)) (fun _ hk => hk.2) (.string t414)) (fun _ hk => hk.2) (.int .u64 t415)) (fun _ hk => hk.2) (.int .i64 t416)) (fun _ hk => hk.2) (.string t417)) (fun _ hk => trivial)⟩
          have n2_ : Aside0 (Kd.R k32 32 ((((w23.setCell ⟨gb419, 0, none⟩ (.string t414)).setCell ⟨gb419, 1, none⟩ (.int .u64 t415)).setCell ⟨gb419, 2, none⟩ (.int .i64 t416)).setCell ⟨gb419, 3, none⟩ (.string t417)) w.heap.size (fun k_ => some k_ ≠ (.slice Ao19 y405.length co19 : Value).ownBlock ∧ k_ ≠ gb419) v412 t411) := ⟨by (with_reducible repeat (first | apply Kd.R_alloc | apply Kd.R_drewN | apply Kd.R_drew)); exact Kd.R_mono (Kd.R_far (p := ⟨gb419, 3, none⟩) (Kd.R_far (p := ⟨gb419, 2, none⟩) (Kd.R_far (p := ⟨gb419, 1, none⟩) (Kd.R_far (p := ⟨gb419, 0, none⟩) (Kd.R_mono HO413.out (fun k_ hk => (⟨hk, hk.2⟩ : _ ∧ k_ ≠ gb419))) (fun _ hk => hk.2) (.string t414)) (fun _ hk => hk.2) (.int .u64 t415)) (fun _ hk => hk.2) (.int .i64 t416)) (fun _ hk => hk.2) (.string t417)) (fun _ hk => ⟨hk.1.1.2, hk.1.2⟩)⟩
          have n3_ : Aside0 (((((w23.setCell ⟨gb419, 0, none⟩ (.string t414)).setCell ⟨gb419, 1, none⟩ (.int .u64 t415)).setCell ⟨gb419, 2, none⟩ (.int .i64 t416)).setCell ⟨gb419, 3, none⟩ (.string t417)).heap[gb419]? = some (.cells #[.string t414, .int .u64 t415, .int .i64 t416, .string t417] 32 (0, 0))) := ⟨by (with_reducible repeat (first | refine blk_drewN ?_ _ | refine blk_drew ?_ | refine blk_alloc ?_ _)); refine blk_put (cs := #[.string t414, .int .u64 t415, .int .i64 t416, .string (⟨#[]⟩ : ByteArray)]) ?_ 3 _ rfl; (with_reducible repeat (first | refine blk_drewN ?_ _ | refine blk_drew ?_ | refine blk_alloc ?_ _)); refine blk_put (cs := #[.string t414, .int .u64 t415, .int .i64 0, .string (⟨#[]⟩ : ByteArray)]) ?_ 2 _ rfl; (with_reducible repeat (first | refine blk_drewN ?_ _ | refine blk_drew ?_ | refine blk_alloc ?_ _)); refine blk_put (cs := #[.string t414, .int .u64 0, .int .i64 0, .string (⟨#[]⟩ : ByteArray)]) ?_ 1 _ rfl; (with_reducible repeat (first | refine blk_drewN ?_ _ | refine blk_drew ?_ | refine blk_alloc ?_ _)); refine blk_put (cs := #[.string (⟨#[]⟩ : ByteArray), .int .u64 0, .int .i64 0, .string (⟨#[]⟩ : ByteArray)]) ?_ 0 _ rfl; (with_reducible repeat (first | refine blk_drewN ?_ _ | refine blk_drew ?_ | refine blk_alloc ?_ _)); exact BK419.out⟩
          have n4_ : Aside0 (Below w.heap.size w ((((w23.setCell ⟨gb419, 0, none⟩ (.string t414)).setCell ⟨gb419, 1, none⟩ (.int .u64 t415)).setCell ⟨gb419, 2, none⟩ (.int .i64 t416)).setCell ⟨gb419, 3, none⟩ (.string t417))) := ⟨by repeat (first | (with_reducible first | exact HB.out | apply below_alloc | apply pw_below_drewN | apply below_drew1 | refine below_set ?_ GE419.out) | exact HB.out)⟩
          (try clear HO407)
          (try clear HO410)
          (try clear HO413)
          (try clear BK419)
          (try clear HB)
          generalize ((((w23.setCell ⟨gb419, 0, none⟩ (.string t414)).setCell ⟨gb419, 1, none⟩ (.int .u64 t415)).setCell ⟨gb419, 2, none⟩ (.int .i64 t416)).setCell ⟨gb419, 3, none⟩ (.string t417)) = w25 at n0_ n1_ n2_ n3_ n4_ ⊢
          have HO407 := n0_
          have HO410 := n1_
          have HO413 := n2_
          have BK419 := n3_
          have HB := n4_
          clear n0_ n1_ n2_ n3_ n4_
          have n0_ := Aside0.mk (Kd.R_drew HO407.out)
          have n1_ := Aside0.mk (Kd.R_drew HO410.out)
          have n2_ := Aside0.mk (Kd.R_drew HO413.out)
          have n3_ := Aside0.mk (blk_drew BK419.out)
          have n4_ := Aside0.mk (below_drew1 HB.out)
          clear HO407
          clear HO410
          clear HO413
          clear BK419
          clear HB
          have HO407 := n0_
          have HO410 := n1_
          have HO413 := n2_
          have BK419 := n3_
          have HB := n4_
          clear n0_ n1_ n2_ n3_ n4_
          obtain ⟨Ao27, co27, eo27⟩ := Kd.R_slice HO413.out
          (first | subst eo27 | (injection eo27 with f1_ f2_ f3_; have f4_ := f1_.symm; have f5_ := f3_.symm; clear f1_ f2_ f3_; subst f4_; subst f5_))
          have p420 : 0 ≤ (1 : Int) := (by omega)
          have q420 : 1 < (t411.length : Int) := of_decide_eq_true (by first | (with_reducible assumption) | assumption)
          obtain ⟨ad420, e420, hx420_0, hx420_1, hx420_2, hx420_3⟩ := at_T32 (Kd.R_reads' HO413.out).2.2 1 p420 q420
          cases e420
          (try simp only [show (1 : Int).toNat = 1 from rfl, Nat.reduceMul, Nat.reduceEqDiff, Go.Addr.add, ↓reduceIte] at hx420_0)
          (try simp only [show (1 : Int).toNat = 1 from rfl, Nat.reduceMul, Nat.reduceEqDiff, Go.Addr.add, ↓reduceIte] at hx420_1)
          (try simp only [show (1 : Int).toNat = 1 from rfl, Nat.reduceMul, Nat.reduceEqDiff, Go.Addr.add, ↓reduceIte] at hx420_2)
          (try simp only [show (1 : Int).toNat = 1 from rfl, Nat.reduceMul, Nat.reduceEqDiff, Go.Addr.add, ↓reduceIte] at hx420_3)
          have qi420 : (1 < t411.length) = True := eq_true (by omega)
          (try rw [show ((1 : Int)).toNat = 1 from rfl] at hx420_0)
          (try rw [show 1 * 4 = 4 from rfl] at hx420_0)
          (try rw [show ((1 : Int)).toNat = 1 from rfl] at hx420_1)
          (try rw [show 1 * 4 = 4 from rfl] at hx420_1)
          (try rw [show ((1 : Int)).toNat = 1 from rfl] at hx420_2)
          (try rw [show 1 * 4 = 4 from rfl] at hx420_2)
          (try rw [show ((1 : Int)).toNat = 1 from rfl] at hx420_3)
          (try rw [show 1 * 4 = 4 from rfl] at hx420_3)
          replace p420 := eq_true p420
          replace q420 := eq_true q420
          have p421 : 0 ≤ (0 : Int) := (by omega)
          have q421 : 0 < (y405.length : Int) := of_decide_eq_true (by first | (with_reducible assumption) | assumption)
          obtain ⟨ad421, e421, hx421_0, hx421_1, hx421_2, hx421_3⟩ := at_T32 (Kd.R_reads' HO407.out).2.2 0 p421 q421
          cases e421
          have qi421 : (0 < y405.length) = True := eq_true (by omega)
          (try rw [show ((0 : Int)).toNat = 0 from rfl] at hx421_0)
          (try rw [show 0 * 4 = 0 from rfl] at hx421_0)
          (try rw [Addr.add_zero'] at hx421_0)
          (try rw [show ((0 : Int)).toNat = 0 from rfl] at hx421_1)
          (try rw [show 0 * 4 = 0 from rfl] at hx421_1)
          (try rw [Addr.add_zero'] at hx421_1)
          (try rw [show ((0 : Int)).toNat = 0 from rfl] at hx421_2)
          (try rw [show 0 * 4 = 0 from rfl] at hx421_2)
          (try rw [Addr.add_zero'] at hx421_2)
          (try rw [show ((0 : Int)).toNat = 0 from rfl] at hx421_3)
          (try rw [show 0 * 4 = 0 from rfl] at hx421_3)
          (try rw [Addr.add_zero'] at hx421_3)
          replace p421 := eq_true p421
          replace q421 := eq_true q421
          have p422 : 0 ≤ (1 : Int) := (by omega)
          have q422 : 1 < (y405.length : Int) := of_decide_eq_true (by first | (with_reducible assumption) | assumption)
          obtain ⟨ad422, e422, hx422_0, hx422_1, hx422_2, hx422_3⟩ := at_T32 (Kd.R_reads' HO407.out).2.2 1 p422 q422
          obtain rfl : ad421 = ad422 := (by injection e422)
          (try simp only [show (1 : Int).toNat = 1 from rfl, Nat.reduceMul, Nat.reduceEqDiff, Go.Addr.add, ↓reduceIte] at hx422_0)
          (try simp only [show (1 : Int).toNat = 1 from rfl, Nat.reduceMul, Nat.reduceEqDiff, Go.Addr.add, ↓reduceIte] at hx422_1)
          (try simp only [show (1 : Int).toNat = 1 from rfl, Nat.reduceMul, Nat.reduceEqDiff, Go.Addr.add, ↓reduceIte] at hx422_2)
          (try simp only [show (1 : Int).toNat = 1 from rfl, Nat.reduceMul, Nat.reduceEqDiff, Go.Addr.add, ↓reduceIte] at hx422_3)
          have qi422 : (1 < y405.length) = True := eq_true (by omega)
          (try rw [show ((1 : Int)).toNat = 1 from rfl] at hx422_0)
          (try rw [show 1 * 4 = 4 from rfl] at hx422_0)
          (try rw [show ((1 : Int)).toNat = 1 from rfl] at hx422_1)
          (try rw [show 1 * 4 = 4 from rfl] at hx422_1)
          (try rw [show ((1 : Int)).toNat = 1 from rfl] at hx422_2)
          (try rw [show 1 * 4 = 4 from rfl] at hx422_2)
          (try rw [show ((1 : Int)).toNat = 1 from rfl] at hx422_3)
          (try rw [show 1 * 4 = 4 from rfl] at hx422_3)
          replace p422 := eq_true p422
          replace q422 := eq_true q422
          have p424 : 0 ≤ (0 : Int) := (by omega)
          have q424 : 0 < (y405.length : Int) := of_decide_eq_true (by first | (with_reducible assumption) | assumption)
          obtain ⟨ad424, e424, hx424_0, hx424_1, hx424_2, hx424_3⟩ := at_T32 (Kd.R_reads' HO407.out).2.2 0 p424 q424
          obtain rfl : ad421 = ad424 := (by injection e424)
          have qi424 : (0 < y405.length) = True := eq_true (by omega)
          (try rw [show ((0 : Int)).toNat = 0 from rfl] at hx424_0)
          (try rw [show 0 * 4 = 0 from rfl] at hx424_0)
          (try rw [Addr.add_zero'] at hx424_0)
          (try rw [show ((0 : Int)).toNat = 0 from rfl] at hx424_1)
          (try rw [show 0 * 4 = 0 from rfl] at hx424_1)
          (try rw [Addr.add_zero'] at hx424_1)
          (try rw [show ((0 : Int)).toNat = 0 from rfl] at hx424_2)
          (try rw [show 0 * 4 = 0 from rfl] at hx424_2)
          (try rw [Addr.add_zero'] at hx424_2)
          (try rw [show ((0 : Int)).toNat = 0 from rfl] at hx424_3)
          (try rw [show 0 * 4 = 0 from rfl] at hx424_3)
          (try rw [Addr.add_zero'] at hx424_3)
          replace p424 := eq_true p424
          replace q424 := eq_true q424
          refine start_ (n := 40) (S := fun w' => w'.cell? ⟨gb419, 0, none⟩ = some (.string t414) ∧ w'.cell? ⟨gb419, 1, none⟩ = some (.int .u64 t415) ∧ w'.cell? ⟨gb419, 2, none⟩ = some (.int .i64 t416) ∧ w'.cell? ⟨gb419, 3, none⟩ = some (.string t417) ∧ w'.cell? ⟨ad420.block, ad420.off + 4, none⟩ = some (.string ((rd_T32 t411 1).f0)) ∧ w'.cell? ⟨ad420.block, ad420.off + 4 + 1, none⟩ = some (.int .u64 ((rd_T32 t411 1).f1)) ∧ w'.cell? ⟨ad420.block, ad420.off + 4 + 2, none⟩ = some (.int .i64 ((rd_T32 t411 1).f2)) ∧ w'.cell? ⟨ad420.block, ad420.off + 4 + 3, none⟩ = some (.string ((rd_T32 t411 1).f3)) ∧ w'.cell? ad421 = some (.string ((rd_T32 y405 0).f0)) ∧ w'.cell? ⟨ad421.block, ad421.off + 1, none⟩ = some (.int .u64 ((rd_T32 y405 0).f1)) ∧ w'.cell? ⟨ad421.block, ad421.off + 2, none⟩ = some (.int .i64 ((rd_T32 y405 0).f2)) ∧ w'.cell? ⟨ad421.block, ad421.off + 3, none⟩ = some (.string ((rd_T32 y405 0).f3)) ∧ w'.cell? ⟨ad421.block, ad421.off + 4, none⟩ = some (.string ((rd_T32 y405 1).f0)) ∧ w'.cell? ⟨ad421.block, ad421.off + 4 + 1, none⟩ = some (.int .u64 ((rd_T32 y405 1).f1)) ∧ w'.cell? ⟨ad421.block, ad421.off + 4 + 2, none⟩ = some (.int .i64 ((rd_T32 y405 1).f2)) ∧ w'.cell? ⟨ad421.block, ad421.off + 4 + 3, none⟩ = some (.string ((rd_T32 y405 1).f3)) ∧ w'.cell? ad421 = some (.string ((rd_T32 y405 0).f0)) ∧ w'.cell? ⟨ad421.block, ad421.off + 1, none⟩ = some (.int .u64 ((rd_T32 y405 0).f1)) ∧ w'.cell? ⟨ad421.block, ad421.off + 2, none⟩ = some (.int .i64 ((rd_T32 y405 0).f2)) ∧ w'.cell? ⟨ad421.block, ad421.off + 3, none⟩ = some (.string ((rd_T32 y405 0).f3))) (ds := []) #[false, false, false, false, false, false, false, false, false, false, false, false, false, false, false, false, false, false, false, false, false, false, false, false, false, false, false, false, false, false, false, false, false, false, false, false, false, false, false, false] (by kernel_rfl) rfl rfl ⟨(blk_cell BK419.out 0).trans rfl, (blk_cell BK419.out 1).trans rfl, (blk_cell BK419.out 2).trans rfl, (blk_cell BK419.out 3).trans rfl, hx420_0, hx420_1, hx420_2, hx420_3, hx421_0, hx421_1, hx421_2, hx421_3, hx422_0, hx422_1, hx422_2, hx422_3, hx424_0, hx424_1, hx424_2, hx424_3⟩ (fun hHeld => ?_); refine with_tabW cornucopialaw5_alive.tab4 cornucopialaw5_alive.bits4 (fun HT_ HW_ => ?_)
          generalize w25.drew = w26 at HO407 HO410 HO413 BK419 HB hx420_0 hx420_1 hx420_2 hx420_3 hx421_0 hx421_1 hx421_2 hx421_3 hx422_0 hx422_1 hx422_2 hx422_3 hx424_0 hx424_1 hx424_2 hx424_3 hHeld ⊢
          refine pure_ (i := 0) (N := some 17) (v := ?_) (a' := ?_) #[true, false, false, false, false, false, false, false, false, false, false, false, false, false, false, false, false, false, false, false, false, false, false, false, false, false, false, false, false, false, false, false, false, false, false, false, false, false, false, false] rfl rfl (any_of HT_.out (by kernel_rfl)) (fun _ _ _ h => h) (Or.inl ⟨by rfl, ?_⟩) ?_ ?_
          rotate_left
          ·intro w'
           go_simp
           with_reducible rfl
          rotate_left
          ·simp only [Act.put, List.setIfInBounds_toArray, List.set_cons_zero, List.set_cons_succ, i64_w, i32_w]
           rfl
          refine pure_ (i := 1) (N := some 18) (v := ?_) (a' := ?_) #[true, true, false, false, false, false, false, false, false, false, false, false, false, false, false, false, false, false, false, false, false, false, false, false, false, false, false, false, false, false, false, false, false, false, false, false, false, false, false, false] rfl rfl (any_of HT_.out (by kernel_rfl)) (fun _ _ _ h => h) (Or.inl ⟨by rfl, ?_⟩) ?_ ?_
          rotate_left
          ·intro w'
           go_simp
           with_reducible rfl
          rotate_left
          ·simp only [Act.put, List.setIfInBounds_toArray, List.set_cons_zero, List.set_cons_succ, i64_w, i32_w]
           rfl
          refine pure_ (i := 2) (N := some 19) (v := ?_) (a' := ?_) #[true, true, true, false, false, false, false, false, false, false, false, false, false, false, false, false, false, false, false, false, false, false, false, false, false, false, false, false, false, false, false, false, false, false, false, false, false, false, false, false] rfl rfl (any_of HT_.out (by kernel_rfl)) (fun _ _ _ h => h) (Or.inl ⟨by rfl, ?_⟩) ?_ ?_
          rotate_left
          ·intro w'
           go_simp
           with_reducible rfl
          rotate_left
          ·simp only [Act.put, List.setIfInBounds_toArray, List.set_cons_zero, List.set_cons_succ, i64_w, i32_w]
           rfl
          refine pure_ (i := 3) (N := some 20) (v := ?_) (a' := ?_) #[true, true, true, true, false, false, false, false, false, false, false, false, false, false, false, false, false, false, false, false, false, false, false, false, false, false, false, false, false, false, false, false, false, false, false, false, false, false, false, false] rfl rfl (any_of HT_.out (by kernel_rfl)) (fun _ _ _ h => h) (Or.inl ⟨by rfl, ?_⟩) ?_ ?_
          rotate_left
          ·intro w'
           go_simp
           with_reducible rfl
          rotate_left
          ·simp only [Act.put, List.setIfInBounds_toArray, List.set_cons_zero, List.set_cons_succ, i64_w, i32_w]
           rfl
          refine pure_ (i := 4) (N := some 21) (v := ?_) (a' := ?_) #[true, true, true, true, true, false, false, false, false, false, false, false, false, false, false, false, false, false, false, false, false, false, false, false, false, false, false, false, false, false, false, false, false, false, false, false, false, false, false, false] rfl rfl (any_of HT_.out (by kernel_rfl)) (fun _ _ _ h => h) (Or.inl ⟨by rfl, ?_⟩) ?_ ?_
          rotate_left
          ·intro w'
           go_simp
           with_reducible rfl
          rotate_left
          ·simp only [Act.put, List.setIfInBounds_toArray, List.set_cons_zero, List.set_cons_succ, i64_w, i32_w]
           rfl
          refine pure_ (i := 5) (N := some 22) (v := ?_) (a' := ?_) #[true, true, true, true, true, true, false, false, false, false, false, false, false, false, false, false, false, false, false, false, false, false, false, false, false, false, false, false, false, false, false, false, false, false, false, false, false, false, false, false] rfl rfl (any_of HT_.out (by kernel_rfl)) (fun _ _ _ h => h) (Or.inl ⟨by rfl, ?_⟩) ?_ ?_
          rotate_left
          ·intro w'
           go_simp
           with_reducible rfl
          rotate_left
          ·simp only [Act.put, List.setIfInBounds_toArray, List.set_cons_zero, List.set_cons_succ, i64_w, i32_w]
           rfl
          refine pure_ (i := 6) (N := some 23) (v := ?_) (a' := ?_) #[true, true, true, true, true, true, true, false, false, false, false, false, false, false, false, false, false, false, false, false, false, false, false, false, false, false, false, false, false, false, false, false, false, false, false, false, false, false, false, false] rfl rfl (any_of HT_.out (by kernel_rfl)) (fun _ _ _ h => h) (Or.inl ⟨by rfl, ?_⟩) ?_ ?_
          rotate_left
          ·intro w'
           go_simp
           with_reducible rfl
          rotate_left
          ·simp only [Act.put, List.setIfInBounds_toArray, List.set_cons_zero, List.set_cons_succ, i64_w, i32_w]
           rfl
          refine take_ (i := 7) (N := some 24) (v := ?_) (a' := ?_) #[true, true, true, true, true, true, true, true, false, false, false, false, false, false, false, false, false, false, false, false, false, false, false, false, false, false, false, false, false, false, false, false, false, false, false, false, false, false, false, false] rfl rfl (take_ofW HT_.out HW_.out (by kernel_rfl)) (fun _ _ _ h => h) (Or.inl ⟨by rfl, ?_⟩) hHeld ?_ ?_
          rotate_left
          ·rintro w' ⟨s0, s1, s2, s3, s4, s5, s6, s7, s8, s9, s10, s11, s12, s13, s14, s15, s16, s17, s18, s19⟩
           go_simp
           with_reducible rfl
          rotate_left
          ·simp only [Act.put, List.setIfInBounds_toArray, List.set_cons_zero, List.set_cons_succ, i64_w, i32_w]
           rfl
          refine pure_ (i := 8) (N := some 25) (v := ?_) (a' := ?_) #[true, true, true, true, true, true, true, true, true, false, false, false, false, false, false, false, false, false, false, false, false, false, false, false, false, false, false, false, false, false, false, false, false, false, false, false, false, false, false, false] rfl rfl (any_of HT_.out (by kernel_rfl)) (fun _ _ _ h => h) (Or.inl ⟨by rfl, ?_⟩) ?_ ?_
          rotate_left
          ·intro w'
           go_simp
           with_reducible rfl
          rotate_left
          ·simp only [Act.put, List.setIfInBounds_toArray, List.set_cons_zero, List.set_cons_succ, i64_w, i32_w]
           rfl
          refine pure_ (i := 9) (N := some 26) (v := ?_) (a' := ?_) #[true, true, true, true, true, true, true, true, true, true, false, false, false, false, false, false, false, false, false, false, false, false, false, false, false, false, false, false, false, false, false, false, false, false, false, false, false, false, false, false] rfl rfl (any_of HT_.out (by kernel_rfl)) (fun _ _ _ h => h) (Or.inl ⟨by rfl, ?_⟩) ?_ ?_
          rotate_left
          ·intro w'
           go_simp
           with_reducible rfl
          rotate_left
          ·simp only [Act.put, List.setIfInBounds_toArray, List.set_cons_zero, List.set_cons_succ, i64_w, i32_w]
           rfl
          refine pure_ (i := 10) (N := some 27) (v := ?_) (a' := ?_) #[true, true, true, true, true, true, true, true, true, true, true, false, false, false, false, false, false, false, false, false, false, false, false, false, false, false, false, false, false, false, false, false, false, false, false, false, false, false, false, false] rfl rfl (any_of HT_.out (by kernel_rfl)) (fun _ _ _ h => h) (Or.inl ⟨by rfl, ?_⟩) ?_ ?_
          rotate_left
          ·intro w'
           go_simp
           with_reducible rfl
          rotate_left
          ·simp only [Act.put, List.setIfInBounds_toArray, List.set_cons_zero, List.set_cons_succ, i64_w, i32_w]
           rfl
          refine pure_ (i := 11) (N := some 28) (v := ?_) (a' := ?_) #[true, true, true, true, true, true, true, true, true, true, true, true, false, false, false, false, false, false, false, false, false, false, false, false, false, false, false, false, false, false, false, false, false, false, false, false, false, false, false, false] rfl rfl (any_of HT_.out (by kernel_rfl)) (fun _ _ _ h => h) (Or.inl ⟨by rfl, ?_⟩) ?_ ?_
          rotate_left
          ·intro w'
           go_simp
           with_reducible rfl
          rotate_left
          ·simp only [Act.put, List.setIfInBounds_toArray, List.set_cons_zero, List.set_cons_succ, i64_w, i32_w]
           rfl
          refine pure_ (i := 12) (N := some 29) (v := ?_) (a' := ?_) #[true, true, true, true, true, true, true, true, true, true, true, true, true, false, false, false, false, false, false, false, false, false, false, false, false, false, false, false, false, false, false, false, false, false, false, false, false, false, false, false] rfl rfl (any_of HT_.out (by kernel_rfl)) (fun _ _ _ h => h) (Or.inl ⟨by rfl, ?_⟩) ?_ ?_
          rotate_left
          ·intro w'
           go_simp
           with_reducible rfl
          rotate_left
          ·simp only [Act.put, List.setIfInBounds_toArray, List.set_cons_zero, List.set_cons_succ, i64_w, i32_w]
           rfl
          refine pure_ (i := 13) (N := some 30) (v := ?_) (a' := ?_) #[true, true, true, true, true, true, true, true, true, true, true, true, true, true, false, false, false, false, false, false, false, false, false, false, false, false, false, false, false, false, false, false, false, false, false, false, false, false, false, false] rfl rfl (any_of HT_.out (by kernel_rfl)) (fun _ _ _ h => h) (Or.inl ⟨by rfl, ?_⟩) ?_ ?_
          rotate_left
          ·intro w'
           go_simp
           with_reducible rfl
          rotate_left
          ·simp only [Act.put, List.setIfInBounds_toArray, List.set_cons_zero, List.set_cons_succ, i64_w, i32_w]
           rfl
          refine pure_ (i := 14) (N := some 31) (v := ?_) (a' := ?_) #[true, true, true, true, true, true, true, true, true, true, true, true, true, true, true, false, false, false, false, false, false, false, false, false, false, false, false, false, false, false, false, false, false, false, false, false, false, false, false, false] rfl rfl (any_of HT_.out (by kernel_rfl)) (fun _ _ _ h => h) (Or.inl ⟨by rfl, ?_⟩) ?_ ?_
          rotate_left
          ·intro w'
           go_simp
           with_reducible rfl
          rotate_left
          ·simp only [Act.put, List.setIfInBounds_toArray, List.set_cons_zero, List.set_cons_succ, i64_w, i32_w]
           rfl
          refine take_ (i := 15) (N := some 32) (v := ?_) (a' := ?_) #[true, true, true, true, true, true, true, true, true, true, true, true, true, true, true, true, false, false, false, false, false, false, false, false, false, false, false, false, false, false, false, false, false, false, false, false, false, false, false, false] rfl rfl (take_ofW HT_.out HW_.out (by kernel_rfl)) (fun _ _ _ h => h) (Or.inl ⟨by rfl, ?_⟩) hHeld ?_ ?_
          rotate_left
          ·rintro w' ⟨s0, s1, s2, s3, s4, s5, s6, s7, s8, s9, s10, s11, s12, s13, s14, s15, s16, s17, s18, s19⟩
           go_simp
           with_reducible rfl
          rotate_left
          ·simp only [Act.put, List.setIfInBounds_toArray, List.set_cons_zero, List.set_cons_succ, i64_w, i32_w]
           rfl
          refine pure_ (i := 16) (N := some 33) (v := ?_) (a' := ?_) #[true, true, true, true, true, true, true, true, true, true, true, true, true, true, true, true, true, false, false, false, false, false, false, false, false, false, false, false, false, false, false, false, false, false, false, false, false, false, false, false] rfl rfl (any_of HT_.out (by kernel_rfl)) (fun _ _ _ h => h) (Or.inl ⟨by rfl, ?_⟩) ?_ ?_
          rotate_left
          ·intro w'
           go_simp
           with_reducible rfl
          rotate_left
          ·simp only [Act.put, List.setIfInBounds_toArray, List.set_cons_zero, List.set_cons_succ, i64_w, i32_w]
           rfl
          refine pure_ (i := 17) (N := some 34) (v := ?_) (a' := ?_) #[true, true, true, true, true, true, true, true, true, true, true, true, true, true, true, true, true, true, false, false, false, false, false, false, false, false, false, false, false, false, false, false, false, false, false, false, false, false, false, false] rfl rfl (any_of HT_.out (by kernel_rfl)) (fun _ _ _ h => h) (Or.inl ⟨by rfl, ?_⟩) ?_ ?_
          rotate_left
          ·intro w'
           go_simp
           with_reducible rfl
          rotate_left
          ·simp only [Act.put, List.setIfInBounds_toArray, List.set_cons_zero, List.set_cons_succ, i64_w, i32_w]
           rfl
          refine pure_ (i := 18) (N := some 35) (v := ?_) (a' := ?_) #[true, true, true, true, true, true, true, true, true, true, true, true, true, true, true, true, true, true, true, false, false, false, false, false, false, false, false, false, false, false, false, false, false, false, false, false, false, false, false, false] rfl rfl (any_of HT_.out (by kernel_rfl)) (fun _ _ _ h => h) (Or.inl ⟨by rfl, ?_⟩) ?_ ?_
          rotate_left
          ·intro w'
           go_simp
           with_reducible rfl
          rotate_left
          ·simp only [Act.put, List.setIfInBounds_toArray, List.set_cons_zero, List.set_cons_succ, i64_w, i32_w]
           rfl
          refine pure_ (i := 19) (N := some 36) (v := ?_) (a' := ?_) #[true, true, true, true, true, true, true, true, true, true, true, true, true, true, true, true, true, true, true, true, false, false, false, false, false, false, false, false, false, false, false, false, false, false, false, false, false, false, false, false] rfl rfl (any_of HT_.out (by kernel_rfl)) (fun _ _ _ h => h) (Or.inl ⟨by rfl, ?_⟩) ?_ ?_
          rotate_left
          ·intro w'
           go_simp
           with_reducible rfl
          rotate_left
          ·simp only [Act.put, List.setIfInBounds_toArray, List.set_cons_zero, List.set_cons_succ, i64_w, i32_w]
           rfl
          refine pure_ (i := 20) (N := some 37) (v := ?_) (a' := ?_) #[true, true, true, true, true, true, true, true, true, true, true, true, true, true, true, true, true, true, true, true, true, false, false, false, false, false, false, false, false, false, false, false, false, false, false, false, false, false, false, false] rfl rfl (any_of HT_.out (by kernel_rfl)) (fun _ _ _ h => h) (Or.inl ⟨by rfl, ?_⟩) ?_ ?_
          rotate_left
          ·intro w'
           go_simp
           with_reducible rfl
          rotate_left
          ·simp only [Act.put, List.setIfInBounds_toArray, List.set_cons_zero, List.set_cons_succ, i64_w, i32_w]
           rfl
          refine pure_ (i := 22) (N := some 39) (v := ?_) (a' := ?_) #[true, true, true, true, true, true, true, true, true, true, true, true, true, true, true, true, true, true, true, true, true, false, true, false, false, false, false, false, false, false, false, false, false, false, false, false, false, false, false, false] rfl rfl (any_of HT_.out (by kernel_rfl)) (fun _ _ _ h => h) (Or.inl ⟨by rfl, ?_⟩) ?_ ?_
          rotate_left
          ·intro w'
           go_simp
           with_reducible rfl
          rotate_left
          ·simp only [Act.put, List.setIfInBounds_toArray, List.set_cons_zero, List.set_cons_succ, i64_w, i32_w]
           rfl
          refine pure_ (i := 23) (N := some 40) (v := ?_) (a' := ?_) #[true, true, true, true, true, true, true, true, true, true, true, true, true, true, true, true, true, true, true, true, true, false, true, true, false, false, false, false, false, false, false, false, false, false, false, false, false, false, false, false] rfl rfl (any_of HT_.out (by kernel_rfl)) (fun _ _ _ h => h) (Or.inl ⟨by rfl, ?_⟩) ?_ ?_
          rotate_left
          ·intro w'
           go_simp
           with_reducible rfl
          rotate_left
          ·simp only [Act.put, List.setIfInBounds_toArray, List.set_cons_zero, List.set_cons_succ, i64_w, i32_w]
           rfl
          refine take_ (i := 21) (N := some 38) (v := ?_) (a' := ?_) #[true, true, true, true, true, true, true, true, true, true, true, true, true, true, true, true, true, true, true, true, true, true, true, true, false, false, false, false, false, false, false, false, false, false, false, false, false, false, false, false] rfl rfl (take_ofW HT_.out HW_.out (by kernel_rfl)) (fun _ _ _ h => h) (Or.inl ⟨by rfl, ?_⟩) hHeld ?_ ?_
          rotate_left
          ·rintro w' ⟨s0, s1, s2, s3, s4, s5, s6, s7, s8, s9, s10, s11, s12, s13, s14, s15, s16, s17, s18, s19⟩
           go_simp
           with_reducible rfl
          rotate_left
          ·simp only [Act.put, List.setIfInBounds_toArray, List.set_cons_zero, List.set_cons_succ, i64_w, i32_w]
           rfl
          refine take_ (i := 24) (N := some 41) (v := ?_) (a' := ?_) #[true, true, true, true, true, true, true, true, true, true, true, true, true, true, true, true, true, true, true, true, true, true, true, true, true, false, false, false, false, false, false, false, false, false, false, false, false, false, false, false] rfl rfl (take_ofW HT_.out HW_.out (by kernel_rfl)) (fun _ _ _ h => h) (Or.inl ⟨by rfl, ?_⟩) hHeld ?_ ?_
          rotate_left
          ·rintro w' ⟨s0, s1, s2, s3, s4, s5, s6, s7, s8, s9, s10, s11, s12, s13, s14, s15, s16, s17, s18, s19⟩
           go_simp
           with_reducible rfl
          rotate_left
          ·simp only [Act.put, List.setIfInBounds_toArray, List.set_cons_zero, List.set_cons_succ, i64_w, i32_w]
           rfl
          refine one_ (i := 25) (N := some 42) #[true, true, true, true, true, true, true, true, true, true, true, true, true, true, true, true, true, true, true, true, true, true, true, true, true, true, false, false, false, false, false, false, false, false, false, false, false, false, false, false] rfl rfl (one_of HT_.out (by kernel_rfl)) (by decide) (fun K hK => ?_)
          refine goes_ Tryz.func47 (by kernel_rfl) rfl #[.agg #[.string ((rd_T32 y405 0).f0), .int .u64 ((rd_T32 y405 0).f1), .int .i64 ((rd_T32 y405 0).f2), .string ((rd_T32 y405 0).f3)], .agg #[.string ((rd_T32 y405 1).f0), .int .u64 ((rd_T32 y405 1).f1), .int .i64 ((rd_T32 y405 1).f2), .string ((rd_T32 y405 1).f3)]] (by rfl) rfl rfl (by (try simp only [List.map_toArray, List.map_cons, List.map_nil]); first | done | rfl | (simp only [List.length_drop, List.length_take]; rfl)) ?_
          with_reducible refine (ikey_Compare.calls k ((rd_T32 y405 0).f0) ((rd_T32 y405 0).f1) ((rd_T32 y405 0).f2) ((rd_T32 y405 0).f3) ((rd_T32 y405 1).f0) ((rd_T32 y405 1).f1) ((rd_T32 y405 1).f2) ((rd_T32 y405 1).f3) t423 _ A10.out).mono ?_
          rintro e w28 ⟨rfl, hb⟩
          have HS4_ := (hb.cell (World.block_lt_of_cell? _ _ (hHeld.2.2.2.2.1))).trans (hHeld.2.2.2.2.1)
          have HS5_ := (hb.cell (World.block_lt_of_cell? _ _ (hHeld.2.2.2.2.2.1))).trans (hHeld.2.2.2.2.2.1)
          have HS6_ := (hb.cell (World.block_lt_of_cell? _ _ (hHeld.2.2.2.2.2.2.1))).trans (hHeld.2.2.2.2.2.2.1)
          have HS7_ := (hb.cell (World.block_lt_of_cell? _ _ (hHeld.2.2.2.2.2.2.2.1))).trans (hHeld.2.2.2.2.2.2.2.1)
          have HS8_ := (hb.cell (World.block_lt_of_cell? _ _ (hHeld.2.2.2.2.2.2.2.2.1))).trans (hHeld.2.2.2.2.2.2.2.2.1)
          have HS9_ := (hb.cell (World.block_lt_of_cell? _ _ (hHeld.2.2.2.2.2.2.2.2.2.1))).trans (hHeld.2.2.2.2.2.2.2.2.2.1)
          have HS10_ := (hb.cell (World.block_lt_of_cell? _ _ (hHeld.2.2.2.2.2.2.2.2.2.2.1))).trans (hHeld.2.2.2.2.2.2.2.2.2.2.1)
          have HS11_ := (hb.cell (World.block_lt_of_cell? _ _ (hHeld.2.2.2.2.2.2.2.2.2.2.2.1))).trans (hHeld.2.2.2.2.2.2.2.2.2.2.2.1)
          have HS12_ := (hb.cell (World.block_lt_of_cell? _ _ (hHeld.2.2.2.2.2.2.2.2.2.2.2.2.1))).trans (hHeld.2.2.2.2.2.2.2.2.2.2.2.2.1)
          have HS13_ := (hb.cell (World.block_lt_of_cell? _ _ (hHeld.2.2.2.2.2.2.2.2.2.2.2.2.2.1))).trans (hHeld.2.2.2.2.2.2.2.2.2.2.2.2.2.1)
          have HS14_ := (hb.cell (World.block_lt_of_cell? _ _ (hHeld.2.2.2.2.2.2.2.2.2.2.2.2.2.2.1))).trans (hHeld.2.2.2.2.2.2.2.2.2.2.2.2.2.2.1)
          have HS15_ := (hb.cell (World.block_lt_of_cell? _ _ (hHeld.2.2.2.2.2.2.2.2.2.2.2.2.2.2.2.1))).trans (hHeld.2.2.2.2.2.2.2.2.2.2.2.2.2.2.2.1)
          have HS16_ := (hb.cell (World.block_lt_of_cell? _ _ (hHeld.2.2.2.2.2.2.2.2.2.2.2.2.2.2.2.2.1))).trans (hHeld.2.2.2.2.2.2.2.2.2.2.2.2.2.2.2.2.1)
          have HS17_ := (hb.cell (World.block_lt_of_cell? _ _ (hHeld.2.2.2.2.2.2.2.2.2.2.2.2.2.2.2.2.2.1))).trans (hHeld.2.2.2.2.2.2.2.2.2.2.2.2.2.2.2.2.2.1)
          have HS18_ := (hb.cell (World.block_lt_of_cell? _ _ (hHeld.2.2.2.2.2.2.2.2.2.2.2.2.2.2.2.2.2.2.1))).trans (hHeld.2.2.2.2.2.2.2.2.2.2.2.2.2.2.2.2.2.2.1)
          have HS19_ := (hb.cell (World.block_lt_of_cell? _ _ (hHeld.2.2.2.2.2.2.2.2.2.2.2.2.2.2.2.2.2.2.2))).trans (hHeld.2.2.2.2.2.2.2.2.2.2.2.2.2.2.2.2.2.2.2)
          refine ⟨_, rfl, ?_⟩
          have n0_ := Aside0.mk (Kd.R_below (by (with_reducible repeat (first | apply Kd.R_alloc | apply Kd.R_drewN | apply Kd.R_drew)); exact HO407.out) hb)
          have n1_ := Aside0.mk (Kd.R_below (by (with_reducible repeat (first | apply Kd.R_alloc | apply Kd.R_drewN | apply Kd.R_drew)); exact HO410.out) hb)
          have n2_ := Aside0.mk (Kd.R_below (by (with_reducible repeat (first | apply Kd.R_alloc | apply Kd.R_drewN | apply Kd.R_drew)); exact HO413.out) hb)
          have n3_ := Aside0.mk (blk_below (g := gb419) (o := .cells #[.string t414, .int .u64 t415, .int .i64 t416, .string t417] 32 (0, 0)) (by (with_reducible repeat (first | refine blk_drewN ?_ _ | refine blk_drew ?_ | refine blk_alloc ?_ _)); exact BK419.out) hb)
          have n4_ := Aside0.mk (below_step (by repeat (first | (with_reducible first | exact HB.out | apply below_alloc | apply pw_below_drewN | apply below_drew1 | refine below_set ?_ GE419.out) | exact HB.out)) hb)
          clear HO407
          clear HO410
          clear HO413
          clear BK419
          clear HB
          have HO407 := n0_
          have HO410 := n1_
          have HO413 := n2_
          have BK419 := n3_
          have HB := n4_
          clear n0_ n1_ n2_ n3_ n4_
          (try clear hb)
          (try clear hb2)
          (try clear hk)
          (try clear hi)
          refine hK.out _ _ ⟨(blk_cell BK419.out 0).trans rfl, (blk_cell BK419.out 1).trans rfl, (blk_cell BK419.out 2).trans rfl, (blk_cell BK419.out 3).trans rfl, HS4_, HS5_, HS6_, HS7_, HS8_, HS9_, HS10_, HS11_, HS12_, HS13_, HS14_, HS15_, HS16_, HS17_, HS18_, HS19_⟩ (fun hHeld => ?_)
          clear hK K
          refine norm_ (a' := ?_) ?_ ?_
          rotate_left
          ·show Act.put _ (some 42) _ = _
           simp only [Act.put, List.setIfInBounds_toArray, List.set_cons_zero, List.set_cons_succ, i64_w, i32_w]
           rfl
          refine pure_ (i := 26) (N := some 43) (v := ?_) (a' := ?_) #[true, true, true, true, true, true, true, true, true, true, true, true, true, true, true, true, true, true, true, true, true, true, true, true, true, true, true, false, false, false, false, false, false, false, false, false, false, false, false, false] rfl rfl (any_of HT_.out (by kernel_rfl)) (fun _ _ _ h => h) (Or.inl ⟨by rfl, ?_⟩) ?_ ?_
          rotate_left
          ·intro w'
           go_simp
           with_reducible rfl
          rotate_left
          ·simp only [Act.put, List.setIfInBounds_toArray, List.set_cons_zero, List.set_cons_succ, i64_w, i32_w]
           rfl
          refine pure_ (i := 27) (N := some 44) (v := ?_) (a' := ?_) #[true, true, true, true, true, true, true, true, true, true, true, true, true, true, true, true, true, true, true, true, true, true, true, true, true, true, true, true, false, false, false, false, false, false, false, false, false, false, false, false] rfl rfl (any_of HT_.out (by kernel_rfl)) (fun _ _ _ h => h) (Or.inl ⟨by rfl, ?_⟩) ?_ ?_
          rotate_left
          ·intro w'
           go_simp
           with_reducible rfl
          rotate_left
          ·simp only [Act.put, List.setIfInBounds_toArray, List.set_cons_zero, List.set_cons_succ, i64_w, i32_w]
           rfl
          refine pure_ (i := 28) (N := some 45) (v := ?_) (a' := ?_) #[true, true, true, true, true, true, true, true, true, true, true, true, true, true, true, true, true, true, true, true, true, true, true, true, true, true, true, true, true, false, false, false, false, false, false, false, false, false, false, false] rfl rfl (any_of HT_.out (by kernel_rfl)) (fun _ _ _ h => h) (Or.inl ⟨by rfl, ?_⟩) ?_ ?_
          rotate_left
          ·intro w'
           go_simp
           with_reducible rfl
          rotate_left
          ·simp only [Act.put, List.setIfInBounds_toArray, List.set_cons_zero, List.set_cons_succ, i64_w, i32_w]
           rfl
          refine pure_ (i := 29) (N := some 46) (v := ?_) (a' := ?_) #[true, true, true, true, true, true, true, true, true, true, true, true, true, true, true, true, true, true, true, true, true, true, true, true, true, true, true, true, true, true, false, false, false, false, false, false, false, false, false, false] rfl rfl (any_of HT_.out (by kernel_rfl)) (fun _ _ _ h => h) (Or.inl ⟨by rfl, ?_⟩) ?_ ?_
          rotate_left
          ·intro w'
           go_simp
           with_reducible rfl
          rotate_left
          ·simp only [Act.put, List.setIfInBounds_toArray, List.set_cons_zero, List.set_cons_succ, i64_w, i32_w]
           rfl
          refine pure_ (i := 30) (N := some 47) (v := ?_) (a' := ?_) #[true, true, true, true, true, true, true, true, true, true, true, true, true, true, true, true, true, true, true, true, true, true, true, true, true, true, true, true, true, true, true, false, false, false, false, false, false, false, false, false] rfl rfl (any_of HT_.out (by kernel_rfl)) (fun _ _ _ h => h) (Or.inl ⟨by rfl, ?_⟩) ?_ ?_
          rotate_left
          ·intro w'
           go_simp
           with_reducible rfl
          rotate_left
          ·simp only [Act.put, List.setIfInBounds_toArray, List.set_cons_zero, List.set_cons_succ, i64_w, i32_w]
           rfl
          refine take_ (i := 31) (N := some 48) (v := ?_) (a' := ?_) #[true, true, true, true, true, true, true, true, true, true, true, true, true, true, true, true, true, true, true, true, true, true, true, true, true, true, true, true, true, true, true, true, false, false, false, false, false, false, false, false] rfl rfl (take_ofW HT_.out HW_.out (by kernel_rfl)) (fun _ _ _ h => h) (Or.inl ⟨by rfl, ?_⟩) hHeld ?_ ?_
          rotate_left
          ·rintro w' ⟨s0, s1, s2, s3, s4, s5, s6, s7, s8, s9, s10, s11, s12, s13, s14, s15, s16, s17, s18, s19⟩
           go_simp
           with_reducible rfl
          rotate_left
          ·simp only [Act.put, List.setIfInBounds_toArray, List.set_cons_zero, List.set_cons_succ, i64_w, i32_w]
           rfl
          refine one_ (i := 32) (N := some 49) #[true, true, true, true, true, true, true, true, true, true, true, true, true, true, true, true, true, true, true, true, true, true, true, true, true, true, true, true, true, true, true, true, true, false, false, false, false, false, false, false] rfl rfl (one_of HT_.out (by kernel_rfl)) (by decide) (fun K hK => ?_)
          refine goes_ Tryz.func46 (by kernel_rfl) rfl #[.agg #[.string ((rd_T32 y405 0).f0), .int .u64 ((rd_T32 y405 0).f1), .int .i64 ((rd_T32 y405 0).f2), .string ((rd_T32 y405 0).f3)]] (by rfl) rfl rfl (by (try simp only [List.map_toArray, List.map_cons, List.map_nil]); first | done | rfl | (simp only [List.length_drop, List.length_take]; rfl)) ?_
          with_reducible refine (ikey_Valid.calls k ((rd_T32 y405 0).f0) ((rd_T32 y405 0).f1) ((rd_T32 y405 0).f2) ((rd_T32 y405 0).f3) true _ A12.out).mono ?_
          rintro e w29 ⟨rfl, hb⟩
          have HS4_ := (hb.cell (World.block_lt_of_cell? _ _ (hHeld.2.2.2.2.1))).trans (hHeld.2.2.2.2.1)
          have HS5_ := (hb.cell (World.block_lt_of_cell? _ _ (hHeld.2.2.2.2.2.1))).trans (hHeld.2.2.2.2.2.1)
          have HS6_ := (hb.cell (World.block_lt_of_cell? _ _ (hHeld.2.2.2.2.2.2.1))).trans (hHeld.2.2.2.2.2.2.1)
          have HS7_ := (hb.cell (World.block_lt_of_cell? _ _ (hHeld.2.2.2.2.2.2.2.1))).trans (hHeld.2.2.2.2.2.2.2.1)
          have HS8_ := (hb.cell (World.block_lt_of_cell? _ _ (hHeld.2.2.2.2.2.2.2.2.1))).trans (hHeld.2.2.2.2.2.2.2.2.1)
          have HS9_ := (hb.cell (World.block_lt_of_cell? _ _ (hHeld.2.2.2.2.2.2.2.2.2.1))).trans (hHeld.2.2.2.2.2.2.2.2.2.1)
          have HS10_ := (hb.cell (World.block_lt_of_cell? _ _ (hHeld.2.2.2.2.2.2.2.2.2.2.1))).trans (hHeld.2.2.2.2.2.2.2.2.2.2.1)
          have HS11_ := (hb.cell (World.block_lt_of_cell? _ _ (hHeld.2.2.2.2.2.2.2.2.2.2.2.1))).trans (hHeld.2.2.2.2.2.2.2.2.2.2.2.1)
          have HS12_ := (hb.cell (World.block_lt_of_cell? _ _ (hHeld.2.2.2.2.2.2.2.2.2.2.2.2.1))).trans (hHeld.2.2.2.2.2.2.2.2.2.2.2.2.1)
          have HS13_ := (hb.cell (World.block_lt_of_cell? _ _ (hHeld.2.2.2.2.2.2.2.2.2.2.2.2.2.1))).trans (hHeld.2.2.2.2.2.2.2.2.2.2.2.2.2.1)
          have HS14_ := (hb.cell (World.block_lt_of_cell? _ _ (hHeld.2.2.2.2.2.2.2.2.2.2.2.2.2.2.1))).trans (hHeld.2.2.2.2.2.2.2.2.2.2.2.2.2.2.1)
          have HS15_ := (hb.cell (World.block_lt_of_cell? _ _ (hHeld.2.2.2.2.2.2.2.2.2.2.2.2.2.2.2.1))).trans (hHeld.2.2.2.2.2.2.2.2.2.2.2.2.2.2.2.1)
          have HS16_ := (hb.cell (World.block_lt_of_cell? _ _ (hHeld.2.2.2.2.2.2.2.2.2.2.2.2.2.2.2.2.1))).trans (hHeld.2.2.2.2.2.2.2.2.2.2.2.2.2.2.2.2.1)
          have HS17_ := (hb.cell (World.block_lt_of_cell? _ _ (hHeld.2.2.2.2.2.2.2.2.2.2.2.2.2.2.2.2.2.1))).trans (hHeld.2.2.2.2.2.2.2.2.2.2.2.2.2.2.2.2.2.1)
          have HS18_ := (hb.cell (World.block_lt_of_cell? _ _ (hHeld.2.2.2.2.2.2.2.2.2.2.2.2.2.2.2.2.2.2.1))).trans (hHeld.2.2.2.2.2.2.2.2.2.2.2.2.2.2.2.2.2.2.1)
          have HS19_ := (hb.cell (World.block_lt_of_cell? _ _ (hHeld.2.2.2.2.2.2.2.2.2.2.2.2.2.2.2.2.2.2.2))).trans (hHeld.2.2.2.2.2.2.2.2.2.2.2.2.2.2.2.2.2.2.2)
          refine ⟨_, rfl, ?_⟩
          have n0_ := Aside0.mk (Kd.R_below (by (with_reducible repeat (first | apply Kd.R_alloc | apply Kd.R_drewN | apply Kd.R_drew)); exact HO407.out) hb)
          have n1_ := Aside0.mk (Kd.R_below (by (with_reducible repeat (first | apply Kd.R_alloc | apply Kd.R_drewN | apply Kd.R_drew)); exact HO410.out) hb)
          have n2_ := Aside0.mk (Kd.R_below (by (with_reducible repeat (first | apply Kd.R_alloc | apply Kd.R_drewN | apply Kd.R_drew)); exact HO413.out) hb)
          have n3_ := Aside0.mk (blk_below (g := gb419) (o := .cells #[.string t414, .int .u64 t415, .int .i64 t416, .string t417] 32 (0, 0)) (by (with_reducible repeat (first | refine blk_drewN ?_ _ | refine blk_drew ?_ | refine blk_alloc ?_ _)); exact BK419.out) hb)
          have n4_ := Aside0.mk (below_step (by repeat (first | (with_reducible first | exact HB.out | apply below_alloc | apply pw_below_drewN | apply below_drew1 | refine below_set ?_ GE419.out) | exact HB.out)) hb)
          clear HO407
          clear HO410
          clear HO413
          clear BK419
          clear HB
          have HO407 := n0_
          have HO410 := n1_
          have HO413 := n2_
          have BK419 := n3_
          have HB := n4_
          clear n0_ n1_ n2_ n3_ n4_
          (try clear hb)
          (try clear hb2)
          (try clear hk)
          (try clear hi)
          refine hK.out _ _ ⟨(blk_cell BK419.out 0).trans rfl, (blk_cell BK419.out 1).trans rfl, (blk_cell BK419.out 2).trans rfl, (blk_cell BK419.out 3).trans rfl, HS4_, HS5_, HS6_, HS7_, HS8_, HS9_, HS10_, HS11_, HS12_, HS13_, HS14_, HS15_, HS16_, HS17_, HS18_, HS19_⟩ (fun hHeld => ?_)
          clear hK K
          refine norm_ (a' := ?_) ?_ ?_
          rotate_left
          ·show Act.put _ (some 49) _ = _
           simp only [Act.put, List.setIfInBounds_toArray, List.set_cons_zero, List.set_cons_succ, i64_w, i32_w]
           rfl
          refine pure_ (i := 33) (N := some 50) (v := ?_) (a' := ?_) #[true, true, true, true, true, true, true, true, true, true, true, true, true, true, true, true, true, true, true, true, true, true, true, true, true, true, true, true, true, true, true, true, true, true, false, false, false, false, false, false] rfl rfl (any_of HT_.out (by kernel_rfl)) (fun _ _ _ h => h) (Or.inl ⟨by rfl, ?_⟩) ?_ ?_
          rotate_left
          ·intro w'
           go_simp
           with_reducible rfl
          rotate_left
          ·simp only [Act.put, List.setIfInBounds_toArray, List.set_cons_zero, List.set_cons_succ, i64_w, i32_w]
           rfl
          refine pure_ (i := 34) (N := some 51) (v := ?_) (a' := ?_) #[true, true, true, true, true, true, true, true, true, true, true, true, true, true, true, true, true, true, true, true, true, true, true, true, true, true, true, true, true, true, true, true, true, true, true, false, false, false, false, false] rfl rfl (any_of HT_.out (by kernel_rfl)) (fun _ _ _ h => h) (Or.inl ⟨by rfl, ?_⟩) ?_ ?_
          rotate_left
          ·intro w'
           go_simp
           with_reducible rfl
          rotate_left
          ·simp only [Act.put, List.setIfInBounds_toArray, List.set_cons_zero, List.set_cons_succ, i64_w, i32_w]
           rfl
          refine pure_ (i := 35) (N := some 52) (v := ?_) (a' := ?_) #[true, true, true, true, true, true, true, true, true, true, true, true, true, true, true, true, true, true, true, true, true, true, true, true, true, true, true, true, true, true, true, true, true, true, true, true, false, false, false, false] rfl rfl (any_of HT_.out (by kernel_rfl)) (fun _ _ _ h => h) (Or.inl ⟨by rfl, ?_⟩) ?_ ?_
          rotate_left
          ·intro w'
           go_simp
           with_reducible rfl
          rotate_left
          ·simp only [Act.put, List.setIfInBounds_toArray, List.set_cons_zero, List.set_cons_succ, i64_w, i32_w]
           rfl
          refine one_ (i := 36) (N := some 53) #[true, true, true, true, true, true, true, true, true, true, true, true, true, true, true, true, true, true, true, true, true, true, true, true, true, true, true, true, true, true, true, true, true, true, true, true, true, false, false, false] rfl rfl (one_of HT_.out (by kernel_rfl)) (by decide) (fun K hK => ?_)
          refine goes_ Tryz.func46 (by kernel_rfl) rfl #[.agg #[.string (⟨#[97]⟩ : ByteArray), .int .u64 0, .int .i64 0, .string (⟨#[]⟩ : ByteArray)]] (by rfl) rfl rfl (by (try simp only [List.map_toArray, List.map_cons, List.map_nil]); first | done | rfl | (simp only [List.length_drop, List.length_take]; rfl)) ?_
          with_reducible refine (ikey_Valid.calls k (⟨#[97]⟩ : ByteArray) 0 0 (⟨#[]⟩ : ByteArray) t426 _ A14.out).mono ?_
          rintro e w30 ⟨rfl, hb⟩
          have HS4_ := (hb.cell (World.block_lt_of_cell? _ _ (hHeld.2.2.2.2.1))).trans (hHeld.2.2.2.2.1)
          have HS5_ := (hb.cell (World.block_lt_of_cell? _ _ (hHeld.2.2.2.2.2.1))).trans (hHeld.2.2.2.2.2.1)
          have HS6_ := (hb.cell (World.block_lt_of_cell? _ _ (hHeld.2.2.2.2.2.2.1))).trans (hHeld.2.2.2.2.2.2.1)
          have HS7_ := (hb.cell (World.block_lt_of_cell? _ _ (hHeld.2.2.2.2.2.2.2.1))).trans (hHeld.2.2.2.2.2.2.2.1)
          have HS8_ := (hb.cell (World.block_lt_of_cell? _ _ (hHeld.2.2.2.2.2.2.2.2.1))).trans (hHeld.2.2.2.2.2.2.2.2.1)
          have HS9_ := (hb.cell (World.block_lt_of_cell? _ _ (hHeld.2.2.2.2.2.2.2.2.2.1))).trans (hHeld.2.2.2.2.2.2.2.2.2.1)
          have HS10_ := (hb.cell (World.block_lt_of_cell? _ _ (hHeld.2.2.2.2.2.2.2.2.2.2.1))).trans (hHeld.2.2.2.2.2.2.2.2.2.2.1)
          have HS11_ := (hb.cell (World.block_lt_of_cell? _ _ (hHeld.2.2.2.2.2.2.2.2.2.2.2.1))).trans (hHeld.2.2.2.2.2.2.2.2.2.2.2.1)
          have HS12_ := (hb.cell (World.block_lt_of_cell? _ _ (hHeld.2.2.2.2.2.2.2.2.2.2.2.2.1))).trans (hHeld.2.2.2.2.2.2.2.2.2.2.2.2.1)
          have HS13_ := (hb.cell (World.block_lt_of_cell? _ _ (hHeld.2.2.2.2.2.2.2.2.2.2.2.2.2.1))).trans (hHeld.2.2.2.2.2.2.2.2.2.2.2.2.2.1)
          have HS14_ := (hb.cell (World.block_lt_of_cell? _ _ (hHeld.2.2.2.2.2.2.2.2.2.2.2.2.2.2.1))).trans (hHeld.2.2.2.2.2.2.2.2.2.2.2.2.2.2.1)
          have HS15_ := (hb.cell (World.block_lt_of_cell? _ _ (hHeld.2.2.2.2.2.2.2.2.2.2.2.2.2.2.2.1))).trans (hHeld.2.2.2.2.2.2.2.2.2.2.2.2.2.2.2.1)
          have HS16_ := (hb.cell (World.block_lt_of_cell? _ _ (hHeld.2.2.2.2.2.2.2.2.2.2.2.2.2.2.2.2.1))).trans (hHeld.2.2.2.2.2.2.2.2.2.2.2.2.2.2.2.2.1)
          have HS17_ := (hb.cell (World.block_lt_of_cell? _ _ (hHeld.2.2.2.2.2.2.2.2.2.2.2.2.2.2.2.2.2.1))).trans (hHeld.2.2.2.2.2.2.2.2.2.2.2.2.2.2.2.2.2.1)
          have HS18_ := (hb.cell (World.block_lt_of_cell? _ _ (hHeld.2.2.2.2.2.2.2.2.2.2.2.2.2.2.2.2.2.2.1))).trans (hHeld.2.2.2.2.2.2.2.2.2.2.2.2.2.2.2.2.2.2.1)
          have HS19_ := (hb.cell (World.block_lt_of_cell? _ _ (hHeld.2.2.2.2.2.2.2.2.2.2.2.2.2.2.2.2.2.2.2))).trans (hHeld.2.2.2.2.2.2.2.2.2.2.2.2.2.2.2.2.2.2.2)
          refine ⟨_, rfl, ?_⟩
          have n0_ := Aside0.mk (Kd.R_below (by (with_reducible repeat (first | apply Kd.R_alloc | apply Kd.R_drewN | apply Kd.R_drew)); exact HO407.out) hb)
          have n1_ := Aside0.mk (Kd.R_below (by (with_reducible repeat (first | apply Kd.R_alloc | apply Kd.R_drewN | apply Kd.R_drew)); exact HO410.out) hb)
          have n2_ := Aside0.mk (Kd.R_below (by (with_reducible repeat (first | apply Kd.R_alloc | apply Kd.R_drewN | apply Kd.R_drew)); exact HO413.out) hb)
          have n3_ := Aside0.mk (blk_below (g := gb419) (o := .cells #[.string t414, .int .u64 t415, .int .i64 t416, .string t417] 32 (0, 0)) (by (with_reducible repeat (first | refine blk_drewN ?_ _ | refine blk_drew ?_ | refine blk_alloc ?_ _)); exact BK419.out) hb)
          have n4_ := Aside0.mk (below_step (by repeat (first | (with_reducible first | exact HB.out | apply below_alloc | apply pw_below_drewN | apply below_drew1 | refine below_set ?_ GE419.out) | exact HB.out)) hb)
          clear HO407
          clear HO410
          clear HO413
          clear BK419
          clear HB
          have HO407 := n0_
          have HO410 := n1_
          have HO413 := n2_
          have BK419 := n3_
          have HB := n4_
          clear n0_ n1_ n2_ n3_ n4_
          (try clear hb)
          (try clear hb2)
          (try clear hk)
          (try clear hi)
          refine hK.out _ _ ⟨(blk_cell BK419.out 0).trans rfl, (blk_cell BK419.out 1).trans rfl, (blk_cell BK419.out 2).trans rfl, (blk_cell BK419.out 3).trans rfl, HS4_, HS5_, HS6_, HS7_, HS8_, HS9_, HS10_, HS11_, HS12_, HS13_, HS14_, HS15_, HS16_, HS17_, HS18_, HS19_⟩ (fun hHeld => ?_)
          clear hK K
          refine norm_ (a' := ?_) ?_ ?_
          rotate_left
          ·show Act.put _ (some 53) _ = _
           simp only [Act.put, List.setIfInBounds_toArray, List.set_cons_zero, List.set_cons_succ, i64_w, i32_w]
           rfl
          refine pure_ (i := 37) (N := some 54) (v := ?_) (a' := ?_) #[true, true, true, true, true, true, true, true, true, true, true, true, true, true, true, true, true, true, true, true, true, true, true, true, true, true, true, true, true, true, true, true, true, true, true, true, true, true, false, false] rfl rfl (any_of HT_.out (by kernel_rfl)) (fun _ _ _ h => h) (Or.inl ⟨by rfl, ?_⟩) ?_ ?_
          rotate_left
          ·intro w'
           go_simp
           with_reducible rfl
          rotate_left
          ·simp only [Act.put, List.setIfInBounds_toArray, List.set_cons_zero, List.set_cons_succ, i64_w, i32_w]
           rfl
          refine pure_ (i := 38) (N := some 55) (v := ?_) (a' := ?_) #[true, true, true, true, true, true, true, true, true, true, true, true, true, true, true, true, true, true, true, true, true, true, true, true, true, true, true, true, true, true, true, true, true, true, true, true, true, true, true, false] rfl rfl (any_of HT_.out (by kernel_rfl)) (fun _ _ _ h => h) (Or.inl ⟨by rfl, ?_⟩) ?_ ?_
          rotate_left
          ·intro w'
           go_simp
           with_reducible rfl
          rotate_left
          ·simp only [Act.put, List.setIfInBounds_toArray, List.set_cons_zero, List.set_cons_succ, i64_w, i32_w]
           rfl
          refine pure_ (i := 39) (N := some 0) (v := ?_) (a' := ?_) #[true, true, true, true, true, true, true, true, true, true, true, true, true, true, true, true, true, true, true, true, true, true, true, true, true, true, true, true, true, true, true, true, true, true, true, true, true, true, true, true] rfl rfl (any_of HT_.out (by kernel_rfl)) (fun _ _ _ h => h) (Or.inl ⟨by rfl, ?_⟩) ?_ ?_
          rotate_left
          ·intro w'
           go_simp
           with_reducible rfl
          rotate_left
          ·simp only [Act.put, List.setIfInBounds_toArray, List.set_cons_zero, List.set_cons_succ, i64_w, i32_w]
           rfl
          refine done_ (done_of HT_.out (by kernel_rfl)) ?_
          try go_wp2
          go_ret
          exact ⟨by first | rfl | (simp [errW_none, errW_some] <;> rfl) | (simp [*, errW_none, errW_some] <;> rfl), by repeat (first | (with_reducible first | exact HB.out | apply below_alloc | apply pw_below_drewN | apply below_drew1 | refine below_set ?_ GE419.out) | exact HB.out)⟩
         ·replace c13 := Bool.eq_false_iff.mpr c13
          subst c13
          have H1 : (none) = some r := by rw [if_neg (show ¬ (false = true) by decide)] at H; exact H
          clear H
          have H := H1
          clear H1
          exact absurd H (by simp)
        ·rw [if_neg c11] at H
         have c11b0 : (t423 == (-1)) = false := beq_eq_false_iff_ne.mpr c11
         have c11b1 : (t423 != (-1)) = true := bne_iff_ne.mpr c11
         exact absurd H (by simp)
       ·rw [if_neg c9] at H
        exact absurd H (by simp)
      ·rw [if_neg c8] at H
       exact absurd H (by simp)
     ·rw [if_neg c7] at H
      have c7b0 : (t415 == 3) = false := beq_eq_false_iff_ne.mpr c7
      have c7b1 : (t415 != 3) = true := bne_iff_ne.mpr c7
      exact absurd H (by simp)
    ·replace c6 := Bool.eq_false_iff.mpr c6
     subst c6
     have H1 : (none) = some r := by rw [if_neg (show ¬ (false = true) by decide)] at H; exact H
     clear H
     have H := H1
     clear H1
     exact absurd H (by simp)
   ·rw [if_neg c5] at H
    have c5b0 : (((rd_T32 t411 1).f1) == 3) = false := beq_eq_false_iff_ne.mpr c5
    have c5b1 : (((rd_T32 t411 1).f1) != 3) = true := bne_iff_ne.mpr c5
    exact absurd H (by simp)
  ·rw [if_neg c4] at H
   exact absurd H (by simp)
 ·rw [if_neg c3] at H
  have c3b0 : ((t411.length : Int) == 2) = false := beq_eq_false_iff_ne.mpr c3
  have c3b1 : ((t411.length : Int) != 2) = true := bne_iff_ne.mpr c3
  exact absurd H (by simp)
end Go.Proofs.YtchgpcgolgcfdaaGreat.PNum
end
section
namespace Go.Proofs.YtchgpcgolgcfdaaGreat.PuNum
open Go Go.RowKit Go.Proofs.YtchgpcgolgcfdaaGreat.PNum Go.Proofs.YtchgpcgolgcfdaaGreatW.PrintWords Go.Proofs.YtchgpcgolgcfdaaGreatW.PrintLast Go.Proofs.YtchgpcgolgcfdaaGreatW.PrintMore Go.Proofs.YtchgpcgolgcfdaaGreatW.Pu
def vb (n : Nat) : List Int := if n < 128 then [(n : Int)] else ((n % 128 + 128 : Nat) : Int) :: vb (n / 128)
theorem vb_low {n : Nat} (h : n < 128) : vb n = [(n : Int)] := by rw [vb, if_pos h]
theorem vb_high {n : Nat} (h : ¬ n < 128) : vb n = ((n % 128 + 128 : Nat) : Int) :: vb (n / 128) := by rw [vb, if_neg h]
theorem vb_len (k : Nat) : ∀ n, n < 128 ^ (k + 1) → (vb n).length ≤ k + 1 := by
 induction k with
 | zero => intro n h; rw [vb_low (by simpa using h)]; simp
 | succ k ih =>
  intro n h
  by_cases hn : n < 128
  ·rw [vb_low hn]; simp
  ·rw [vb_high hn, List.length_cons]
   have := ih (n / 128) (by rw [Nat.pow_succ] at h; omega)
   omega
theorem vb_len10 {n : Nat} (h : n < 18446744073709551616) : (vb n).length ≤ 10 := vb_len 9 n (by omega)
theorem vb_pos (n : Nat) : 0 < (vb n).length := by rw [vb]; split <;> simp
theorem vb_ok (n : Nat) : ok8 (vb n) := by
 induction n using Nat.strongRecOn with
 | _ n ih =>
  by_cases hn : n < 128
  ·rw [vb_low hn]; exact ok8_cons (by omega) ok8_nil
  ·rw [vb_high hn]; exact ok8_cons (by omega) (ih _ (by omega))
theorem or128 : ∀ m : Fin 256, m.val ||| 128 = m.val % 128 + 128 := by decide +kernel
theorem or_more (n : Nat) : Go.bits .or .u8 ((n : Int) % 256) 128 = ((n % 128 + 128 : Nat) : Int) := by
 rw [show ((n : Int) % 256) = ((n % 256 : Nat) : Int) from by omega]
 have h := or_u8 (n % 256) 128 (by omega) (by decide)
 refine h.trans ?_
 have := or128 ⟨n % 256, by omega⟩
 simp only at this
 rw [this]
 congr 1
 omega
theorem Var_l1 (l6 : List Int) (x7 x8 : Int) (r : ByteArray) (n : Nat) : ∀ (x3 : List Int), n < 18446744073709551616 → x3.length + 10 < 140737488355328 →
  Ev (fun k => num_Var.l0 k (x3 ++ vb n) l6 x7 (wrap64 (x8 + 1))) r → Ev (fun k => num_Var.l1 k x3 n l6 x7 x8) r := by
 have key : ∀ (j : Nat) (n : Nat) (x3 : List Int), (vb n).length ≤ j → x3.length + j < 140737488355328 →
   Ev (fun k => num_Var.l0 k (x3 ++ vb n) l6 x7 (wrap64 (x8 + 1))) r → Ev (fun k => num_Var.l1 k x3 n l6 x7 x8) r := by
  intro j
  induction j with
  | zero => intro n x3 h; have := vb_pos n; omega
  | succ j ih =>
   intro n x3 h hl he
   refine Ev.step (fun k => by rw [num_Var.l1]) ?_
   by_cases hn : n < 128
   ·refine ev_neg (by omega) (ev_pos (by omega) ?_)
    rw [vb_low hn] at he
    rw [show ((n : Int) % 256) = n from by omega]
    exact he
   ·refine ev_pos (by omega) (ev_pos (by omega) ?_)
    rw [vb_high hn] at h he
    rw [or_more, show ((n : Int) / 128) = ((n / 128 : Nat) : Int) from by omega]
    exact ih (n / 128) _ (by simpa using h) (by simp; omega) (by simpa using he)
 intro x3 hn hl he
 exact key 10 n x3 (vb_len10 hn) (by omega) he
def u64s (l : List Int) : Prop := ∀ x ∈ l, 0 ≤ x ∧ x ≤ 18446744073709551615
def vbs (l : List Int) : List Int := l.flatMap fun x => vb x.toNat
theorem vbs_cons (x : Int) (l : List Int) : vbs (x :: l) = vb x.toNat ++ vbs l := rfl
theorem rd_nat (l : List Int) (i : Nat) (h : i < l.length) : rd l (i : Int) = l[i] := by
 simp [rd, List.getD_eq_getElem?_getD, List.getElem?_eq_getElem h]
theorem Var_l0 (l : List Int) (hl : u64s l) (hb : 10 * l.length < 140737488355328) (d : Nat) : ∀ (i : Nat) (x3 : List Int), i + d = l.length → x3.length ≤ 10 * i →
  Ev (fun k => num_Var.l0 k x3 l (l.length : Int) (i : Int)) (strOfNums (x3 ++ vbs (l.drop i))) := by
 induction d with
 | zero =>
  intro i x3 hi h3
  refine Ev.step (fun k => by rw [num_Var.l0]) ?_
  refine ev_neg (by omega) ?_
  rw [List.drop_of_length_le (by omega)]
  exact ev_const (by simp [vbs])
 | succ d ih =>
  intro i x3 hi h3
  have hlt : i < l.length := by omega
  have hx := hl l[i] (List.getElem_mem hlt)
  refine Ev.step (fun k => by rw [num_Var.l0]) ?_
  refine ev_pos (by omega) (ev_pos (by omega) (ev_pos (by omega) ?_))
  rw [rd_nat l i hlt]
  obtain ⟨n, hn⟩ := Int.eq_ofNat_of_zero_le hx.1
  have hn' : n < 18446744073709551616 := by omega
  have hd : vbs (l.drop i) = vb n ++ vbs (l.drop (i + 1)) := by
   rw [List.drop_eq_getElem_cons hlt, vbs_cons, hn]; rfl
  rw [hd, hn]
  refine Var_l1 l _ _ _ n x3 hn' (by omega) ?_
  rw [wrap64_id (by omega), show ((i : Int) + 1) = ((i + 1 : Nat) : Int) from by omega]
  have := ih (i + 1) (x3 ++ vb n) (by omega) (by have := vb_len10 hn'; simp; omega)
  simpa using this
theorem Var_ev {l : List Int} (hl : u64s l) (hb : 10 * l.length < 140737488355328) : Ev (fun k => num_Var.f k l) (strOfNums (vbs l)) := by
 have := Var_l0 l hl hb l.length 0 [] (by omega) (by simp)
 simpa [num_Var.f] using this
end Go.Proofs.YtchgpcgolgcfdaaGreat.PuNum
end
section
namespace Go.Proofs.YtchgpcgolgcfdaaGreat.PNum
open Go.RowKit Go.Proofs.YtchgpcgolgcfdaaGreatW.PrintWords Go.Proofs.YtchgpcgolgcfdaaGreatW.PrintLast Go.Proofs.YtchgpcgolgcfdaaGreatW.PrintMore
attribute [local go_sem] max2_int min2_int max_two min_two max_three min_three max_four min_four   -- for this text's walks alone
set_option linter.unusedVariables false
set_option linter.unusedSimpArgs false
def num_Reader_Left.f (s0_0 : ByteArray) (s0_1 : Int) : Option (Int × ByteArray × Int) := some ((s0_0.size : Int), s0_0, s0_1)
set_option maxHeartbeats 8000000 in
set_option maxRecDepth 100000 in
theorem num_Reader_Left.calls (g : Nat) (s0_0 : ByteArray) (s0_1 : Int) (r1 : Int) (r2 : ByteArray) (r3 : Int) (w0 w : World) (hI : IsS206 w0 w g s0_0 s0_1) (hB : Below w0.heap.size w0 w) (h : num_Reader_Left.f s0_0 s0_1 = some (r1, r2, r3)) :
  Calls Tryz.prog 53 #[.pointer (some ⟨g, 0, none⟩)] w fun e w' => e = .returned (.int .i64 r1) ∧ IsS206 w0 w' g r2 r3 ∧ Below w0.heap.size w0 w' ∧ KeepBut w w' g none := by
 have HI0 := Aside0.mk hI
 have HK := Aside0.mk (KeepBut.refl w g none)
 have HL := Aside0.mk hB.size
 clear hI
 have HW0 := Aside0.mk hB.size
 have HB := Aside0.mk hB
 clear hB
 have H : (some ((s0_0.size : Int), s0_0, s0_1)) = some (r1, r2, r3) := h
 clear h
 simp only [Option.some.injEq, Prod.mk.injEq] at H
 obtain ⟨rfl, rfl, rfl⟩ := H
 obtain ⟨HGz2, hgz2⟩ := HI0.out
 have hcz2_0 := cellS206_0 HGz2
 have hcz2_1 := cellS206_1 HGz2
 have hfz2_0 := blk_frozen HGz2 0
 have hfz2_1 := blk_frozen HGz2 1
 clear HGz2 hgz2
 go_enter Tryz.func53, Tryz.ntmps53
 go_wp2
 go_ret
 exact ⟨by first | rfl | (simp [errW_none, errW_some] <;> rfl) | (simp [*, errW_none, errW_some] <;> rfl), by repeat (first | (with_reducible first | exact HI0.out | apply IsS206.alloc | apply IsS206.drewN | apply IsS206.drew | apply IsS206.set_0 | apply IsS206.set_1) | exact HI0.out), by repeat (first | (with_reducible first | exact HB.out | apply below_alloc | apply pw_below_drewN | apply below_drew1 | refine below_set ?_ (IsS206.ge HI0.out)) | exact HB.out), by repeat (first | (with_reducible first | exact HK.out | apply KeepBut.set_ | apply keep_drewN | apply keep_drew | apply keep_alloc) | exact HK.out)⟩
end Go.Proofs.YtchgpcgolgcfdaaGreat.PNum
end
