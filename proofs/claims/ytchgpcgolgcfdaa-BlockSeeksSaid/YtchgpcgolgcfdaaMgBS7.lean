/- Texts of this claim, put together and cut down to what is used (BS7). -/
import Derived.Laws.Cover1
import Derived.Test.YtchgpcgolgcfdaaMgBS3
import Derived.Test.YtchgpcgolgcfdaaMgBS6
import Derived.Test.YtchgpcgolgcfdaaMgBS4
import Derived.Test.YtchgpcgolgcfdaaMgBS5
import Derived.Test.YtchgpcgolgcfdaaMgBS1
section
namespace Go.Proofs.Ytchgpcgolgcfdaa.PNum
open Go.RowKit Go.Proofs.YtchgpcgolgcfdaaW.PrintWords Go.Proofs.YtchgpcgolgcfdaaW.PrintLast Go.Proofs.YtchgpcgolgcfdaaW.PrintMore
attribute [local go_sem] max2_int min2_int max_two min_two max_three min_three max_four min_four   -- for this text's walks alone
set_option linter.unusedVariables false
set_option linter.unusedSimpArgs false
attribute [local go_sem high] eqA29
def cornucopialaw10_alive.f (k : Nat)  : Option (Bool) := (some (([(⟨(⟨#[97]⟩ : ByteArray), 2, 1, (⟨#[]⟩ : ByteArray)⟩ : S29), (⟨(⟨#[97]⟩ : ByteArray), 1, 1, (⟨#[]⟩ : ByteArray)⟩ : S29), (⟨(⟨#[98]⟩ : ByteArray), 1, 2, (⟨#[]⟩ : ByteArray)⟩ : S29)] : List (S29)) : List (S29))).bind fun y319 => ((block_Put.f k y319).bind fun bt322 => ((block_Get.f k bt322.1).bind fun bt324 => ((block_Seek.f k bt322.1 (⟨#[98]⟩ : ByteArray)).bind fun bt328 => ((block_Shared.f k (⟨#[97, 98, 99]⟩ : ByteArray) (⟨#[97, 98, 100]⟩ : ByteArray)).bind fun t332 => (if t332 = 2 then (if bt322.2 = 0 then (if bt324.2 = 0 then ((cornucopiabook_SameEntries.f k bt324.1 y319).bind fun t333 => (if t333 = true then (if bt328.2 = 0 then (if (bt328.1.length : Int) = 1 then (if 0 < (bt328.1.length : Int) then (if 2 < (y319.length : Int) then (some ((((rd_T29 bt328.1 0).f0).toList) == (((rd_T29 y319 2).f0).toList) && (((rd_T29 bt328.1 0).f1) == ((rd_T29 y319 2).f1) && (((rd_T29 bt328.1 0).f2) == ((rd_T29 y319 2).f2) && ((((rd_T29 bt328.1 0).f3).toList) == (((rd_T29 y319 2).f3).toList)))))) else (none)) else (none)) else (none)) else (none)) else (none))) else (none)) else (none)) else (none))))))
theorem cornucopialaw10_alive.mono : ∀ k, LeO (cornucopialaw10_alive.f k ) (cornucopialaw10_alive.f (k + 1) ) := by
  intro  k
  unfold cornucopialaw10_alive.f
  repeat' first
      | (with_reducible exact block_Get.mono _ _)
      | (with_reducible exact block_Put.mono _ _)
      | (with_reducible exact block_Seek.mono _ _ _)
      | (with_reducible exact block_Shared.mono _ _ _)
      | (with_reducible exact cornucopiabook_SameEntries.mono _ _ _)
      | (with_reducible exact LeO.refl _)
      | (with_reducible exact LeO.none _)
      | (with_reducible refine LeO.ite ?_ ?_)
      | (with_reducible refine LeO.bind ?_ (fun _ => ?_))
      | exact block_Get.mono _ _
      | exact block_Put.mono _ _
      | exact block_Seek.mono _ _ _
      | exact block_Shared.mono _ _ _
      | exact cornucopiabook_SameEntries.mono _ _ _
      | exact LeO.none _
      | refine LeO.ite ?_ ?_
      | refine LeO.bind ?_ (fun _ => ?_)
def cornucopialaw10_alive.T5 : Bool × List (List Nat × List Nat) := (true, [([], []), ([0], [0]), ([1, 0], [1]), ([2], [2]), ([3, 2], [2, 3]), ([2, 4], [2, 4]), ([5, 2], [5]), ([6], [6]), ([7, 6], [6, 7]), ([6, 8], [6, 8]), ([9, 6], [9]), ([10], [10]), ([10], [10]), ([11, 12, 10, 10], [10, 11, 12]), ([10, 13], [10, 13]), ([14, 13], [14]), ([15], [15]), ([16, 15], [15, 16]), ([15, 17], [15, 17]), ([18, 15], [18]), ([19], [19]), ([20, 19], [19, 20]), ([21, 19], [19, 21]), ([19, 22], [19, 22]), ([23, 19], [23]), ([24], [24]), ([25, 24], [24, 25]), ([26, 24], [24, 26]), ([24], [24]), ([28, 24], [24, 28]), ([29, 24], [24, 29]), ([27, 30, 24], [24, 27, 30]), ([24, 31], [24, 31]), ([32, 24, 0, 1, 2, 3, 4, 5, 6, 7, 8, 9, 10, 11, 12, 13, 14, 15, 16, 17, 18, 19, 20, 21, 22, 23, 24, 25, 26, 27, 28, 29, 30, 31, 32], [32])])
def cornucopialaw10_alive.B5 : List Nat := [0, 1, 3, 7, 15, 31, 63, 127, 255, 511, 1023, 2047, 2047, 8191, 16383, 32767, 65535, 131071, 262143, 524287, 1048575, 2097151, 4194303, 8388607, 16777215, 33554431, 67108863, 134217727, 33554431, 301989887, 838860799, 2147483647, 4294967295, 8589934591]
theorem cornucopialaw10_alive.tab5 : rtab .any (opsOf Try.f21 5) = cornucopialaw10_alive.T5 := by kernel_rfl
theorem cornucopialaw10_alive.bits5 : waitsOk cornucopialaw10_alive.T5.2 cornucopialaw10_alive.B5 = true := by kernel_rfl
set_option maxHeartbeats 8000000 in
set_option maxRecDepth 100000 in
theorem cornucopialaw10_alive.calls (k : Nat)  (r : Bool) (w : World) (h : cornucopialaw10_alive.f k  = some r) :
    Calls Try.prog 21 #[] w fun e w' => e = .returned (.bool r) ∧ Below w.heap.size w w' := by
  have hu29 := Try.underlying29
  have HB := Aside0.mk (Below.refl w.heap.size w)
  have H : ((some (([(⟨(⟨#[97]⟩ : ByteArray), 2, 1, (⟨#[]⟩ : ByteArray)⟩ : S29), (⟨(⟨#[97]⟩ : ByteArray), 1, 1, (⟨#[]⟩ : ByteArray)⟩ : S29), (⟨(⟨#[98]⟩ : ByteArray), 1, 2, (⟨#[]⟩ : ByteArray)⟩ : S29)] : List (S29)) : List (S29))).bind fun y319 => ((block_Put.f k y319).bind fun bt322 => ((block_Get.f k bt322.1).bind fun bt324 => ((block_Seek.f k bt322.1 (⟨#[98]⟩ : ByteArray)).bind fun bt328 => ((block_Shared.f k (⟨#[97, 98, 99]⟩ : ByteArray) (⟨#[97, 98, 100]⟩ : ByteArray)).bind fun t332 => (if t332 = 2 then (if bt322.2 = 0 then (if bt324.2 = 0 then ((cornucopiabook_SameEntries.f k bt324.1 y319).bind fun t333 => (if t333 = true then (if bt328.2 = 0 then (if (bt328.1.length : Int) = 1 then (if 0 < (bt328.1.length : Int) then (if 2 < (y319.length : Int) then (some ((((rd_T29 bt328.1 0).f0).toList) == (((rd_T29 y319 2).f0).toList) && (((rd_T29 bt328.1 0).f1) == ((rd_T29 y319 2).f1) && (((rd_T29 bt328.1 0).f2) == ((rd_T29 y319 2).f2) && ((((rd_T29 bt328.1 0).f3).toList) == (((rd_T29 y319 2).f3).toList)))))) else (none)) else (none)) else (none)) else (none)) else (none))) else (none)) else (none)) else (none))))))) = some r := h
  clear h
  obtain ⟨y319, hy319⟩ : ∃ y_ : List (S29), y_ = (([(⟨(⟨#[97]⟩ : ByteArray), 2, 1, (⟨#[]⟩ : ByteArray)⟩ : S29), (⟨(⟨#[97]⟩ : ByteArray), 1, 1, (⟨#[]⟩ : ByteArray)⟩ : S29), (⟨(⟨#[98]⟩ : ByteArray), 1, 2, (⟨#[]⟩ : ByteArray)⟩ : S29)] : List (S29))) := ⟨_, rfl⟩
  replace H : ((block_Put.f k y319).bind fun bt322 => ((block_Get.f k bt322.1).bind fun bt324 => ((block_Seek.f k bt322.1 (⟨#[98]⟩ : ByteArray)).bind fun bt328 => ((block_Shared.f k (⟨#[97, 98, 99]⟩ : ByteArray) (⟨#[97, 98, 100]⟩ : ByteArray)).bind fun t332 => (if t332 = 2 then (if bt322.2 = 0 then (if bt324.2 = 0 then ((cornucopiabook_SameEntries.f k bt324.1 y319).bind fun t333 => (if t333 = true then (if bt328.2 = 0 then (if (bt328.1.length : Int) = 1 then (if 0 < (bt328.1.length : Int) then (if 2 < (y319.length : Int) then (some ((((rd_T29 bt328.1 0).f0).toList) == (((rd_T29 y319 2).f0).toList) && (((rd_T29 bt328.1 0).f1) == ((rd_T29 y319 2).f1) && (((rd_T29 bt328.1 0).f2) == ((rd_T29 y319 2).f2) && ((((rd_T29 bt328.1 0).f3).toList) == (((rd_T29 y319 2).f3).toList)))))) else (none)) else (none)) else (none)) else (none)) else (none))) else (none)) else (none)) else (none)))))) = some r := by first | (rw [hy319]; with_reducible exact H) | (have H2_ := (Option.bind_some _ _).symm.trans H; rw [hy319]; with_reducible exact H2_) | (have H2_ := (Option.bind_some _ _).symm.trans H; with_reducible exact H2_) | with_reducible exact H | (rw [hy319]; exact H) | exact H
  have Ny319 := Aside0.mk hy319
  clear hy319
  replace H := Option.bind_eq_some_iff.mp H
  obtain ⟨⟨t322, t323⟩, A10, H⟩ := H
  replace H : ((block_Get.f k t322).bind fun bt324 => ((block_Seek.f k t322 (⟨#[98]⟩ : ByteArray)).bind fun bt328 => ((block_Shared.f k (⟨#[97, 98, 99]⟩ : ByteArray) (⟨#[97, 98, 100]⟩ : ByteArray)).bind fun t332 => (if t332 = 2 then (if t323 = 0 then (if bt324.2 = 0 then ((cornucopiabook_SameEntries.f k bt324.1 y319).bind fun t333 => (if t333 = true then (if bt328.2 = 0 then (if (bt328.1.length : Int) = 1 then (if 0 < (bt328.1.length : Int) then (if 2 < (y319.length : Int) then (some ((((rd_T29 bt328.1 0).f0).toList) == (((rd_T29 y319 2).f0).toList) && (((rd_T29 bt328.1 0).f1) == ((rd_T29 y319 2).f1) && (((rd_T29 bt328.1 0).f2) == ((rd_T29 y319 2).f2) && ((((rd_T29 bt328.1 0).f3).toList) == (((rd_T29 y319 2).f3).toList)))))) else (none)) else (none)) else (none)) else (none)) else (none))) else (none)) else (none)) else (none))))) = some r := H
  have A1 := Aside0.mk A10
  clear A10
  replace H := Option.bind_eq_some_iff.mp H
  obtain ⟨⟨t324, t325⟩, A20, H⟩ := H
  replace H : ((block_Seek.f k t322 (⟨#[98]⟩ : ByteArray)).bind fun bt328 => ((block_Shared.f k (⟨#[97, 98, 99]⟩ : ByteArray) (⟨#[97, 98, 100]⟩ : ByteArray)).bind fun t332 => (if t332 = 2 then (if t323 = 0 then (if t325 = 0 then ((cornucopiabook_SameEntries.f k t324 y319).bind fun t333 => (if t333 = true then (if bt328.2 = 0 then (if (bt328.1.length : Int) = 1 then (if 0 < (bt328.1.length : Int) then (if 2 < (y319.length : Int) then (some ((((rd_T29 bt328.1 0).f0).toList) == (((rd_T29 y319 2).f0).toList) && (((rd_T29 bt328.1 0).f1) == ((rd_T29 y319 2).f1) && (((rd_T29 bt328.1 0).f2) == ((rd_T29 y319 2).f2) && ((((rd_T29 bt328.1 0).f3).toList) == (((rd_T29 y319 2).f3).toList)))))) else (none)) else (none)) else (none)) else (none)) else (none))) else (none)) else (none)) else (none)))) = some r := H
  have A2 := Aside0.mk A20
  clear A20
  replace H := Option.bind_eq_some_iff.mp H
  obtain ⟨⟨t328, t329⟩, A30, H⟩ := H
  replace H : ((block_Shared.f k (⟨#[97, 98, 99]⟩ : ByteArray) (⟨#[97, 98, 100]⟩ : ByteArray)).bind fun t332 => (if t332 = 2 then (if t323 = 0 then (if t325 = 0 then ((cornucopiabook_SameEntries.f k t324 y319).bind fun t333 => (if t333 = true then (if t329 = 0 then (if (t328.length : Int) = 1 then (if 0 < (t328.length : Int) then (if 2 < (y319.length : Int) then (some ((((rd_T29 t328 0).f0).toList) == (((rd_T29 y319 2).f0).toList) && (((rd_T29 t328 0).f1) == ((rd_T29 y319 2).f1) && (((rd_T29 t328 0).f2) == ((rd_T29 y319 2).f2) && ((((rd_T29 t328 0).f3).toList) == (((rd_T29 y319 2).f3).toList)))))) else (none)) else (none)) else (none)) else (none)) else (none))) else (none)) else (none)) else (none))) = some r := H
  have A3 := Aside0.mk A30
  clear A30
  replace H := Option.bind_eq_some_iff.mp H
  obtain ⟨t332, A40, H⟩ := H
  replace H : (if t332 = 2 then (if t323 = 0 then (if t325 = 0 then ((cornucopiabook_SameEntries.f k t324 y319).bind fun t333 => (if t333 = true then (if t329 = 0 then (if (t328.length : Int) = 1 then (if 0 < (t328.length : Int) then (if 2 < (y319.length : Int) then (some ((((rd_T29 t328 0).f0).toList) == (((rd_T29 y319 2).f0).toList) && (((rd_T29 t328 0).f1) == ((rd_T29 y319 2).f1) && (((rd_T29 t328 0).f2) == ((rd_T29 y319 2).f2) && ((((rd_T29 t328 0).f3).toList) == (((rd_T29 y319 2).f3).toList)))))) else (none)) else (none)) else (none)) else (none)) else (none))) else (none)) else (none)) else (none)) = some r := H
  have A4 := Aside0.mk A40
  clear A40
  by_cases c5 : t332 = 2
  · rw [if_pos c5] at H
    have c5b0 : (t332 == 2) = true := beq_iff_eq.mpr c5
    have c5b1 : (t332 != 2) = false := bne_eq_false_iff_eq.mpr c5
    clear c5
    by_cases c6 : t323 = 0
    · rw [if_pos c6] at H
      have c6b0 : (t323 == 0) = true := beq_iff_eq.mpr c6
      have c6b1 : (t323 != 0) = false := bne_eq_false_iff_eq.mpr c6
      clear c6
      by_cases c7 : t325 = 0
      · rw [if_pos c7] at H
        have c7b0 : (t325 == 0) = true := beq_iff_eq.mpr c7
        have c7b1 : (t325 != 0) = false := bne_eq_false_iff_eq.mpr c7
        clear c7
        replace H := Option.bind_eq_some_iff.mp H
        obtain ⟨t333, A80, H⟩ := H
        replace H : (if t333 = true then (if t329 = 0 then (if (t328.length : Int) = 1 then (if 0 < (t328.length : Int) then (if 2 < (y319.length : Int) then (some ((((rd_T29 t328 0).f0).toList) == (((rd_T29 y319 2).f0).toList) && (((rd_T29 t328 0).f1) == ((rd_T29 y319 2).f1) && (((rd_T29 t328 0).f2) == ((rd_T29 y319 2).f2) && ((((rd_T29 t328 0).f3).toList) == (((rd_T29 y319 2).f3).toList)))))) else (none)) else (none)) else (none)) else (none)) else (none)) = some r := H
        have A8 := Aside0.mk A80
        clear A80
        by_cases c9 : t333 = true
        · subst c9
          have H1 : (if t329 = 0 then (if (t328.length : Int) = 1 then (if 0 < (t328.length : Int) then (if 2 < (y319.length : Int) then (some ((((rd_T29 t328 0).f0).toList) == (((rd_T29 y319 2).f0).toList) && (((rd_T29 t328 0).f1) == ((rd_T29 y319 2).f1) && (((rd_T29 t328 0).f2) == ((rd_T29 y319 2).f2) && ((((rd_T29 t328 0).f3).toList) == (((rd_T29 y319 2).f3).toList)))))) else (none)) else (none)) else (none)) else (none)) = some r := by rw [if_pos rfl] at H; exact H
          clear H
          have H := H1
          clear H1
          by_cases c10 : t329 = 0
          · rw [if_pos c10] at H
            have c10b0 : (t329 == 0) = true := beq_iff_eq.mpr c10
            have c10b1 : (t329 != 0) = false := bne_eq_false_iff_eq.mpr c10
            clear c10
            by_cases c11 : (t328.length : Int) = 1
            · rw [if_pos c11] at H
              have c11b0 : ((t328.length : Int) == 1) = true := beq_iff_eq.mpr c11
              have c11b1 : ((t328.length : Int) != 1) = false := bne_eq_false_iff_eq.mpr c11
              clear c11
              by_cases c12 : 0 < (t328.length : Int)
              · rw [if_pos c12] at H
                have c12b0 : decide (0 < (t328.length : Int)) = true := decide_eq_true c12
                have c12b1 : decide (0 < t328.length) = true := decide_eq_true (by omega)
                clear c12
                by_cases c13 : 2 < (y319.length : Int)
                · rw [if_pos c13] at H
                  have c13b0 : decide (2 < (y319.length : Int)) = true := decide_eq_true c13
                  have c13b1 : decide (2 < y319.length) = true := decide_eq_true (by omega)
                  clear c13
                  obtain rfl := Option.some.inj H
                  go_enter Try.func21, Try.ntmps21
                  try go_wp2_with (first | ((with_reducible refine gate_dst (N := 11) rfl ?_); (try (refine gate_guard (by rfl) ?_; dsimp only)); refine Kd.R_lit k29 _ 29 ?hg (N := 11) ?hd (xs := ([(⟨(⟨#[97]⟩ : ByteArray), 2, 1, (⟨#[]⟩ : ByteArray)⟩ : S29), (⟨(⟨#[97]⟩ : ByteArray), 1, 1, (⟨#[]⟩ : ByteArray)⟩ : S29), (⟨(⟨#[98]⟩ : ByteArray), 1, 2, (⟨#[]⟩ : ByteArray)⟩ : S29)] : List (S29))) (inner := [.string (⟨#[97]⟩ : ByteArray), .int .u64 2, .int .i64 1, .string (⟨#[]⟩ : ByteArray), .string (⟨#[97]⟩ : ByteArray), .int .u64 1, .int .i64 1, .string (⟨#[]⟩ : ByteArray), .string (⟨#[98]⟩ : ByteArray), .int .u64 1, .int .i64 2, .string (⟨#[]⟩ : ByteArray)]) (ok := fun _ => True) (okp := fun _ => True) ?hr ?hp (fun _ hk => hk) trivial (Below.refl _ _) (Nat.le_refl _) (by simp) ?_; (case hd => rfl); (case hg => rfl); (case hr => first | (go_simp; done) | (go_simp; rfl)); (case hp => exact (Reps.c4 (show Kd.M k29 _ _ _ (⟨(⟨#[97]⟩ : ByteArray), 2, 1, (⟨#[]⟩ : ByteArray)⟩ : S29) [.string (⟨#[97]⟩ : ByteArray), .int .u64 2, .int .i64 1, .string (⟨#[]⟩ : ByteArray)] from (k29_mkM _ _ _ (⟨(⟨#[97]⟩ : ByteArray), 2, 1, (⟨#[]⟩ : ByteArray)⟩ : S29) )) (Reps.c4 (show Kd.M k29 _ _ _ (⟨(⟨#[97]⟩ : ByteArray), 1, 1, (⟨#[]⟩ : ByteArray)⟩ : S29) [.string (⟨#[97]⟩ : ByteArray), .int .u64 1, .int .i64 1, .string (⟨#[]⟩ : ByteArray)] from (k29_mkM _ _ _ (⟨(⟨#[97]⟩ : ByteArray), 1, 1, (⟨#[]⟩ : ByteArray)⟩ : S29) )) (Reps.c4 (show Kd.M k29 _ _ _ (⟨(⟨#[98]⟩ : ByteArray), 1, 2, (⟨#[]⟩ : ByteArray)⟩ : S29) [.string (⟨#[98]⟩ : ByteArray), .int .u64 1, .int .i64 2, .string (⟨#[]⟩ : ByteArray)] from (k29_mkM _ _ _ (⟨(⟨#[98]⟩ : ByteArray), 1, 2, (⟨#[]⟩ : ByteArray)⟩ : S29) )) (Reps.none _ _))))); intro v320 w14 ho15 hb hg_ hnew_; clear hg_ hnew_; (first | rw [← Ny319.out] at ho15 | (simp only [Int.reduceToNat] at ho15; rw [← Ny319.out] at ho15)); have n0_ := Aside0.mk (Kd.R_lower ho15 (below_size (by repeat (first | (with_reducible first | exact HB.out | apply below_alloc | apply pw_below_drewN | apply below_drew1) | exact HB.out)))); have n1_ := Aside0.mk (below_step (by repeat (first | (with_reducible first | exact HB.out | apply below_alloc | apply pw_below_drewN | apply below_drew1) | exact HB.out)) hb); clear HB; have HO321 := n0_; have HB := n1_; clear n0_ n1_; clear hb ho15; obtain ⟨Ao16, co16, eo16⟩ := Kd.R_slice HO321.out; subst eo16) | ((with_reducible refine gate_callee (f := 22) rfl ?_); refine goesL_ (some 14) rfl rfl Try.func22 (by kernel_rfl) rfl #[.slice Ao16 y319.length co16] rfl (by (try simp only [List.map_toArray, List.map_cons, List.map_nil]); first | done | rfl | (simp only [List.length_drop, List.length_take]; rfl)) ?_; (with_reducible refine (block_Put.calls k _ _ y319 t322 t323 _ ?side1 ?side2 A1.out).mono ?_); (case side1 => repeat (first | exact (Kd.R_reads' HO321.out).2.2 | (with_reducible refine Kd.C_alloc ?_ _) | (with_reducible refine Kd.C_drewN ?_ _) | (with_reducible refine Kd.C_drew ?_))); (case side2 => exact (Kd.R_reads' HO321.out).2.1); rintro e w17 ⟨rfl, hb⟩; refine ⟨_, rfl, ?_⟩; have n0_ := Aside0.mk (Kd.R_below (by (with_reducible repeat (first | apply Kd.R_alloc | apply Kd.R_drewN | apply Kd.R_drew)); exact HO321.out) hb); have n1_ := Aside0.mk (below_step (by repeat (first | (with_reducible first | exact HB.out | apply below_alloc | apply pw_below_drewN | apply below_drew1) | exact HB.out)) hb); clear HO321; clear HB; have HO321 := n0_; have HB := n1_; clear n0_ n1_; (try clear hb); (try clear hb2); (try clear hk); (try clear hi)) | ((with_reducible refine gate_callee (f := 23) rfl ?_); refine goesL_ (some 19) rfl rfl Try.func23 (by kernel_rfl) rfl #[.string t322] rfl (by (try simp only [List.map_toArray, List.map_cons, List.map_nil]); first | done | rfl | (simp only [List.length_drop, List.length_take]; rfl)) ?_; (with_reducible refine (block_Get.calls k t322 t324 t325 _ A2.out).mono ?_); rintro e w18 ⟨v326, rfl, ho0, hb⟩; refine ⟨_, rfl, ?_⟩; have n0_ := Aside0.mk (Kd.R_elder' (by (with_reducible repeat (first | apply Kd.R_alloc | apply Kd.R_drewN | apply Kd.R_drew)); exact HO321.out) (by first | exact Kd.R_base ho0 | exact Kd.S_base ho0 | exact Kd.R_base ho0) hb); have n1_ := Aside0.mk (Kd.R_lower (Kd.R_new' ho0 (Kd.R_lt (by (with_reducible repeat (first | apply Kd.R_alloc | apply Kd.R_drewN | apply Kd.R_drew)); exact HO321.out))) (below_size (by repeat (first | (with_reducible first | exact HB.out | apply below_alloc | apply pw_below_drewN | apply below_drew1) | exact HB.out)))); have n2_ := Aside0.mk (below_step (by repeat (first | (with_reducible first | exact HB.out | apply below_alloc | apply pw_below_drewN | apply below_drew1) | exact HB.out)) hb); clear HO321; clear HB; have HO321 := n0_; have HO327 := n1_; have HB := n2_; clear n0_ n1_ n2_; (try clear hb); (try clear hb2); (try clear hk); (try clear hi); (try clear ho0)) | ((with_reducible refine gate_callee (f := 24) rfl ?_); refine goesL_ (some 24) rfl rfl Try.func24 (by kernel_rfl) rfl #[.string t322, .string (⟨#[98]⟩ : ByteArray)] rfl (by (try simp only [List.map_toArray, List.map_cons, List.map_nil]); first | done | rfl | (simp only [List.length_drop, List.length_take]; rfl)) ?_; (with_reducible refine (block_Seek.calls k t322 (⟨#[98]⟩ : ByteArray) t328 t329 _ A3.out).mono ?_); rintro e w19 ⟨v330, rfl, ho0, hb⟩; refine ⟨_, rfl, ?_⟩; have n0_ := Aside0.mk (Kd.R_elder' (by (with_reducible repeat (first | apply Kd.R_alloc | apply Kd.R_drewN | apply Kd.R_drew)); exact HO321.out) (by first | exact Kd.Q_base ho0 | exact Kd.S_base ho0 | exact Kd.R_base ho0) hb); have n1_ := Aside0.mk (Kd.R_elder' (by (with_reducible repeat (first | apply Kd.R_alloc | apply Kd.R_drewN | apply Kd.R_drew)); exact HO327.out) (by first | exact Kd.Q_base ho0 | exact Kd.S_base ho0 | exact Kd.R_base ho0) hb); have n2_ := Aside0.mk (Kd.Q_lower (Kd.Q_new' (Kd.Q_new' ho0 (Kd.R_lt (by (with_reducible repeat (first | apply Kd.R_alloc | apply Kd.R_drewN | apply Kd.R_drew)); exact HO321.out))) (Kd.R_lt (by (with_reducible repeat (first | apply Kd.R_alloc | apply Kd.R_drewN | apply Kd.R_drew)); exact HO327.out))) (below_size (by repeat (first | (with_reducible first | exact HB.out | apply below_alloc | apply pw_below_drewN | apply below_drew1) | exact HB.out)))); have n3_ := Aside0.mk (below_step (by repeat (first | (with_reducible first | exact HB.out | apply below_alloc | apply pw_below_drewN | apply below_drew1) | exact HB.out)) hb); clear HO321; clear HO327; clear HB; have HO321 := n0_; have HO327 := n1_; have HO331 := n2_; have HB := n3_; clear n0_ n1_ n2_ n3_; (try clear hb); (try clear hb2); (try clear hk); (try clear hi); (try clear ho0)))
                  have n0_ := Aside0.mk (Kd.R_drew HO321.out)
                  have n1_ := Aside0.mk (Kd.R_drew HO327.out)
                  have n2_ := Aside0.mk (Kd.Q_drew HO331.out)
                  have n3_ := Aside0.mk (below_drew1 HB.out)
                  clear HO321
                  clear HO327
                  clear HO331
                  clear HB
                  have HO321 := n0_
                  have HO327 := n1_
                  have HO331 := n2_
                  have HB := n3_
                  clear n0_ n1_ n2_ n3_
                  have p334 : 0 ≤ (0 : Int) := (by omega)
                  have q334 : 0 < (t328.length : Int) := of_decide_eq_true (by first | (with_reducible assumption) | assumption)
                  obtain ⟨Aq334, cq334, eq334, _⟩ := Kd.Q_slice HO331.out
                  subst eq334
                  obtain ⟨ad334, e334, hx334_0, hx334_1, hx334_2, hx334_3⟩ := at_T29 (Kd.Q_reads' HO331.out).2.2 0 p334 q334
                  cases e334
                  have qi334 : (0 < t328.length) = True := eq_true (by omega)
                  (try rw [show ((0 : Int)).toNat = 0 from rfl] at hx334_0)
                  (try rw [show 0 * 4 = 0 from rfl] at hx334_0)
                  (try rw [Addr.add_zero'] at hx334_0)
                  (try rw [show ((0 : Int)).toNat = 0 from rfl] at hx334_1)
                  (try rw [show 0 * 4 = 0 from rfl] at hx334_1)
                  (try rw [Addr.add_zero'] at hx334_1)
                  (try rw [show ((0 : Int)).toNat = 0 from rfl] at hx334_2)
                  (try rw [show 0 * 4 = 0 from rfl] at hx334_2)
                  (try rw [Addr.add_zero'] at hx334_2)
                  (try rw [show ((0 : Int)).toNat = 0 from rfl] at hx334_3)
                  (try rw [show 0 * 4 = 0 from rfl] at hx334_3)
                  (try rw [Addr.add_zero'] at hx334_3)
                  replace p334 := eq_true p334
                  replace q334 := eq_true q334
                  have p335 : 0 ≤ (2 : Int) := (by omega)
                  have q335 : 2 < (y319.length : Int) := of_decide_eq_true (by first | (with_reducible assumption) | assumption)
                  obtain ⟨ad335, e335, hx335_0, hx335_1, hx335_2, hx335_3⟩ := at_T29 (Kd.R_reads' HO321.out).2.2 2 p335 q335
                  cases e335
                  (try simp only [show (2 : Int).toNat = 2 from rfl, Nat.reduceMul, Nat.reduceEqDiff, Go.Addr.add, ↓reduceIte] at hx335_0)
                  (try simp only [show (2 : Int).toNat = 2 from rfl, Nat.reduceMul, Nat.reduceEqDiff, Go.Addr.add, ↓reduceIte] at hx335_1)
                  (try simp only [show (2 : Int).toNat = 2 from rfl, Nat.reduceMul, Nat.reduceEqDiff, Go.Addr.add, ↓reduceIte] at hx335_2)
                  (try simp only [show (2 : Int).toNat = 2 from rfl, Nat.reduceMul, Nat.reduceEqDiff, Go.Addr.add, ↓reduceIte] at hx335_3)
                  have qi335 : (2 < y319.length) = True := eq_true (by omega)
                  (try rw [show ((2 : Int)).toNat = 2 from rfl] at hx335_0)
                  (try rw [show 2 * 4 = 8 from rfl] at hx335_0)
                  (try rw [show ((2 : Int)).toNat = 2 from rfl] at hx335_1)
                  (try rw [show 2 * 4 = 8 from rfl] at hx335_1)
                  (try rw [show ((2 : Int)).toNat = 2 from rfl] at hx335_2)
                  (try rw [show 2 * 4 = 8 from rfl] at hx335_2)
                  (try rw [show ((2 : Int)).toNat = 2 from rfl] at hx335_3)
                  (try rw [show 2 * 4 = 8 from rfl] at hx335_3)
                  replace p335 := eq_true p335
                  replace q335 := eq_true q335
                  refine start_ (n := 34) (S := fun w' => w'.cell? ad334 = some (.string ((rd_T29 t328 0).f0)) ∧ w'.cell? ⟨ad334.block, ad334.off + 1, none⟩ = some (.int .u64 ((rd_T29 t328 0).f1)) ∧ w'.cell? ⟨ad334.block, ad334.off + 2, none⟩ = some (.int .i64 ((rd_T29 t328 0).f2)) ∧ w'.cell? ⟨ad334.block, ad334.off + 3, none⟩ = some (.string ((rd_T29 t328 0).f3)) ∧ w'.cell? ⟨ad335.block, ad335.off + 8, none⟩ = some (.string ((rd_T29 y319 2).f0)) ∧ w'.cell? ⟨ad335.block, ad335.off + 8 + 1, none⟩ = some (.int .u64 ((rd_T29 y319 2).f1)) ∧ w'.cell? ⟨ad335.block, ad335.off + 8 + 2, none⟩ = some (.int .i64 ((rd_T29 y319 2).f2)) ∧ w'.cell? ⟨ad335.block, ad335.off + 8 + 3, none⟩ = some (.string ((rd_T29 y319 2).f3))) (ds := []) #[false, false, false, false, false, false, false, false, false, false, false, false, false, false, false, false, false, false, false, false, false, false, false, false, false, false, false, false, false, false, false, false, false, false] (by kernel_rfl) rfl rfl ⟨hx334_0, hx334_1, hx334_2, hx334_3, hx335_0, hx335_1, hx335_2, hx335_3⟩ (fun hHeld => ?_); refine with_tabW cornucopialaw10_alive.tab5 cornucopialaw10_alive.bits5 (fun HT_ HW_ => ?_)
                  generalize w19.drew = w20 at HO321 HO327 HO331 HB hx334_0 hx334_1 hx334_2 hx334_3 hx335_0 hx335_1 hx335_2 hx335_3 hHeld ⊢
                  refine one_ (i := 0) (N := some 27) #[true, false, false, false, false, false, false, false, false, false, false, false, false, false, false, false, false, false, false, false, false, false, false, false, false, false, false, false, false, false, false, false, false, false] rfl rfl (one_of HT_.out (by kernel_rfl)) (by decide) (fun K hK => ?_)
                  refine goes_ Try.func26 (by kernel_rfl) rfl #[.string (⟨#[97, 98, 99]⟩ : ByteArray), .string (⟨#[97, 98, 100]⟩ : ByteArray)] (by rfl) rfl rfl (by (try simp only [List.map_toArray, List.map_cons, List.map_nil]); first | done | rfl | (simp only [List.length_drop, List.length_take]; rfl)) ?_
                  with_reducible refine (block_Shared.calls k (⟨#[97, 98, 99]⟩ : ByteArray) (⟨#[97, 98, 100]⟩ : ByteArray) t332 _ A4.out).mono ?_
                  rintro e w' ⟨rfl, ⟨nd, rfl⟩⟩
                  refine ⟨_, rfl, ?_⟩
                  obtain ⟨Ao21, co21, eo21⟩ := Kd.R_slice HO327.out
                  (first | subst eo21 | (injection eo21 with f1_ f2_ f3_; have f4_ := f1_.symm; have f5_ := f3_.symm; clear f1_ f2_ f3_; subst f4_; subst f5_))
                  refine hK.out _ _ ⟨hHeld.1, hHeld.2.1, hHeld.2.2.1, hHeld.2.2.2.1, hHeld.2.2.2.2.1, hHeld.2.2.2.2.2.1, hHeld.2.2.2.2.2.2.1, hHeld.2.2.2.2.2.2.2⟩ (fun hHeld => ?_)
                  clear hK K
                  refine norm_ (a' := ?_) ?_ ?_
                  rotate_left
                  · show Act.put _ (some 27) _ = _
                    simp only [Act.put, List.setIfInBounds_toArray, List.set_cons_zero, List.set_cons_succ, i64_w, i32_w]
                    rfl
                  refine pure_ (i := 1) (N := some 28) (v := ?_) (a' := ?_) #[true, true, false, false, false, false, false, false, false, false, false, false, false, false, false, false, false, false, false, false, false, false, false, false, false, false, false, false, false, false, false, false, false, false] rfl rfl (any_of HT_.out (by kernel_rfl)) (fun _ _ _ h => h) (Or.inl ⟨by rfl, ?_⟩) ?_ ?_
                  rotate_left
                  · intro w'
                    go_simp
                    with_reducible rfl
                  rotate_left
                  · simp only [Act.put, List.setIfInBounds_toArray, List.set_cons_zero, List.set_cons_succ, i64_w, i32_w]
                    rfl
                  refine pure_ (i := 2) (N := some 29) (v := ?_) (a' := ?_) #[true, true, true, false, false, false, false, false, false, false, false, false, false, false, false, false, false, false, false, false, false, false, false, false, false, false, false, false, false, false, false, false, false, false] rfl rfl (any_of HT_.out (by kernel_rfl)) (fun _ _ _ h => h) (Or.inl ⟨by rfl, ?_⟩) ?_ ?_
                  rotate_left
                  · intro w'
                    go_simp
                    with_reducible rfl
                  rotate_left
                  · simp only [Act.put, List.setIfInBounds_toArray, List.set_cons_zero, List.set_cons_succ, i64_w, i32_w]
                    rfl
                  refine pure_ (i := 3) (N := some 30) (v := ?_) (a' := ?_) #[true, true, true, true, false, false, false, false, false, false, false, false, false, false, false, false, false, false, false, false, false, false, false, false, false, false, false, false, false, false, false, false, false, false] rfl rfl (any_of HT_.out (by kernel_rfl)) (fun _ _ _ h => h) (Or.inl ⟨by rfl, ?_⟩) ?_ ?_
                  rotate_left
                  · intro w'
                    go_simp
                    with_reducible rfl
                  rotate_left
                  · simp only [Act.put, List.setIfInBounds_toArray, List.set_cons_zero, List.set_cons_succ, i64_w, i32_w]
                    rfl
                  refine pure_ (i := 4) (N := some 31) (v := ?_) (a' := ?_) #[true, true, true, true, true, false, false, false, false, false, false, false, false, false, false, false, false, false, false, false, false, false, false, false, false, false, false, false, false, false, false, false, false, false] rfl rfl (any_of HT_.out (by kernel_rfl)) (fun _ _ _ h => h) (Or.inl ⟨by rfl, ?_⟩) ?_ ?_
                  rotate_left
                  · intro w'
                    go_simp
                    with_reducible rfl
                  rotate_left
                  · simp only [Act.put, List.setIfInBounds_toArray, List.set_cons_zero, List.set_cons_succ, i64_w, i32_w]
                    rfl
                  refine pure_ (i := 5) (N := some 32) (v := ?_) (a' := ?_) #[true, true, true, true, true, true, false, false, false, false, false, false, false, false, false, false, false, false, false, false, false, false, false, false, false, false, false, false, false, false, false, false, false, false] rfl rfl (any_of HT_.out (by kernel_rfl)) (fun _ _ _ h => h) (Or.inl ⟨by rfl, ?_⟩) ?_ ?_
                  rotate_left
                  · intro w'
                    go_simp
                    with_reducible rfl
                  rotate_left
                  · simp only [Act.put, List.setIfInBounds_toArray, List.set_cons_zero, List.set_cons_succ, i64_w, i32_w]
                    rfl
                  refine pure_ (i := 6) (N := some 33) (v := ?_) (a' := ?_) #[true, true, true, true, true, true, true, false, false, false, false, false, false, false, false, false, false, false, false, false, false, false, false, false, false, false, false, false, false, false, false, false, false, false] rfl rfl (any_of HT_.out (by kernel_rfl)) (fun _ _ _ h => h) (Or.inl ⟨by rfl, ?_⟩) ?_ ?_
                  rotate_left
                  · intro w'
                    go_simp
                    with_reducible rfl
                  rotate_left
                  · simp only [Act.put, List.setIfInBounds_toArray, List.set_cons_zero, List.set_cons_succ, i64_w, i32_w]
                    rfl
                  refine pure_ (i := 7) (N := some 34) (v := ?_) (a' := ?_) #[true, true, true, true, true, true, true, true, false, false, false, false, false, false, false, false, false, false, false, false, false, false, false, false, false, false, false, false, false, false, false, false, false, false] rfl rfl (any_of HT_.out (by kernel_rfl)) (fun _ _ _ h => h) (Or.inl ⟨by rfl, ?_⟩) ?_ ?_
                  rotate_left
                  · intro w'
                    go_simp
                    with_reducible rfl
                  rotate_left
                  · simp only [Act.put, List.setIfInBounds_toArray, List.set_cons_zero, List.set_cons_succ, i64_w, i32_w]
                    rfl
                  refine pure_ (i := 8) (N := some 35) (v := ?_) (a' := ?_) #[true, true, true, true, true, true, true, true, true, false, false, false, false, false, false, false, false, false, false, false, false, false, false, false, false, false, false, false, false, false, false, false, false, false] rfl rfl (any_of HT_.out (by kernel_rfl)) (fun _ _ _ h => h) (Or.inl ⟨by rfl, ?_⟩) ?_ ?_
                  rotate_left
                  · intro w'
                    go_simp
                    with_reducible rfl
                  rotate_left
                  · simp only [Act.put, List.setIfInBounds_toArray, List.set_cons_zero, List.set_cons_succ, i64_w, i32_w]
                    rfl
                  refine pure_ (i := 9) (N := some 36) (v := ?_) (a' := ?_) #[true, true, true, true, true, true, true, true, true, true, false, false, false, false, false, false, false, false, false, false, false, false, false, false, false, false, false, false, false, false, false, false, false, false] rfl rfl (any_of HT_.out (by kernel_rfl)) (fun _ _ _ h => h) (Or.inl ⟨by rfl, ?_⟩) ?_ ?_
                  rotate_left
                  · intro w'
                    go_simp
                    with_reducible rfl
                  rotate_left
                  · simp only [Act.put, List.setIfInBounds_toArray, List.set_cons_zero, List.set_cons_succ, i64_w, i32_w]
                    rfl
                  refine pure_ (i := 10) (N := some 37) (v := ?_) (a' := ?_) #[true, true, true, true, true, true, true, true, true, true, true, false, false, false, false, false, false, false, false, false, false, false, false, false, false, false, false, false, false, false, false, false, false, false] rfl rfl (any_of HT_.out (by kernel_rfl)) (fun _ _ _ h => h) (Or.inl ⟨by rfl, ?_⟩) ?_ ?_
                  rotate_left
                  · intro w'
                    go_simp
                    with_reducible rfl
                  rotate_left
                  · simp only [Act.put, List.setIfInBounds_toArray, List.set_cons_zero, List.set_cons_succ, i64_w, i32_w]
                    rfl
                  refine pure_ (i := 11) (N := some 38) (v := ?_) (a' := ?_) #[true, true, true, true, true, true, true, true, true, true, true, true, false, false, false, false, false, false, false, false, false, false, false, false, false, false, false, false, false, false, false, false, false, false] rfl rfl (any_of HT_.out (by kernel_rfl)) (fun _ _ _ h => h) (Or.inl ⟨by rfl, ?_⟩) ?_ ?_
                  rotate_left
                  · intro w'
                    go_simp
                    with_reducible rfl
                  rotate_left
                  · simp only [Act.put, List.setIfInBounds_toArray, List.set_cons_zero, List.set_cons_succ, i64_w, i32_w]
                    rfl
                  refine pure_ (i := 12) (N := some 39) (v := ?_) (a' := ?_) #[true, true, true, true, true, true, true, true, true, true, true, true, true, false, false, false, false, false, false, false, false, false, false, false, false, false, false, false, false, false, false, false, false, false] rfl rfl (any_of HT_.out (by kernel_rfl)) (fun _ _ _ h => h) (Or.inl ⟨by rfl, ?_⟩) ?_ ?_
                  rotate_left
                  · intro w'
                    go_simp
                    with_reducible rfl
                  rotate_left
                  · simp only [Act.put, List.setIfInBounds_toArray, List.set_cons_zero, List.set_cons_succ, i64_w, i32_w]
                    rfl
                  refine one_ (i := 13) (N := some 40) #[true, true, true, true, true, true, true, true, true, true, true, true, true, true, false, false, false, false, false, false, false, false, false, false, false, false, false, false, false, false, false, false, false, false] rfl rfl (one_of HT_.out (by kernel_rfl)) (by decide) (fun K hK => ?_)
                  refine goes_ Try.func13 (by kernel_rfl) rfl #[.slice Ao21 t324.length co21, .slice (some ad335) y319.length co16] (by rfl) rfl rfl (by (try simp only [List.map_toArray, List.map_cons, List.map_nil]); first | done | rfl | (simp only [List.length_drop, List.length_take]; rfl)) ?_
                  with_reducible refine (cornucopiabook_SameEntries.calls k _ _ t324 _ _ y319 true _ ?side1 ?side2 ?side3 ?side4 A8.out).mono ?_
                  (case side1 => repeat (first | exact (Kd.R_reads' HO327.out).2.2 | (with_reducible refine Kd.C_alloc ?_ _) | (with_reducible refine Kd.C_drewN ?_ _) | (with_reducible refine Kd.C_drew ?_)))
                  (case side2 => exact (Kd.R_reads' HO327.out).2.1)
                  (case side3 => repeat (first | exact (Kd.R_reads' HO321.out).2.2 | (with_reducible refine Kd.C_alloc ?_ _) | (with_reducible refine Kd.C_drewN ?_ _) | (with_reducible refine Kd.C_drew ?_)))
                  (case side4 => exact (Kd.R_reads' HO321.out).2.1)
                  rintro e w' ⟨rfl, ⟨nd, rfl⟩⟩
                  refine ⟨_, rfl, ?_⟩
                  obtain ⟨Ao22, co22, eo22, _⟩ := Kd.Q_slice HO331.out
                  (first | subst eo22 | (injection eo22 with f1_ f2_ f3_; have f4_ := f1_.symm; have f5_ := f3_.symm; clear f1_ f2_ f3_; subst f4_; subst f5_))
                  refine hK.out _ _ ⟨hHeld.1, hHeld.2.1, hHeld.2.2.1, hHeld.2.2.2.1, hHeld.2.2.2.2.1, hHeld.2.2.2.2.2.1, hHeld.2.2.2.2.2.2.1, hHeld.2.2.2.2.2.2.2⟩ (fun hHeld => ?_)
                  clear hK K
                  refine norm_ (a' := ?_) ?_ ?_
                  rotate_left
                  · show Act.put _ (some 40) _ = _
                    simp only [Act.put, List.setIfInBounds_toArray, List.set_cons_zero, List.set_cons_succ, i64_w, i32_w]
                    rfl
                  refine pure_ (i := 14) (N := some 41) (v := ?_) (a' := ?_) #[true, true, true, true, true, true, true, true, true, true, true, true, true, true, true, false, false, false, false, false, false, false, false, false, false, false, false, false, false, false, false, false, false, false] rfl rfl (any_of HT_.out (by kernel_rfl)) (fun _ _ _ h => h) (Or.inl ⟨by rfl, ?_⟩) ?_ ?_
                  rotate_left
                  · intro w'
                    go_simp
                    with_reducible rfl
                  rotate_left
                  · simp only [Act.put, List.setIfInBounds_toArray, List.set_cons_zero, List.set_cons_succ, i64_w, i32_w]
                    rfl
                  refine pure_ (i := 15) (N := some 42) (v := ?_) (a' := ?_) #[true, true, true, true, true, true, true, true, true, true, true, true, true, true, true, true, false, false, false, false, false, false, false, false, false, false, false, false, false, false, false, false, false, false] rfl rfl (any_of HT_.out (by kernel_rfl)) (fun _ _ _ h => h) (Or.inl ⟨by rfl, ?_⟩) ?_ ?_
                  rotate_left
                  · intro w'
                    go_simp
                    with_reducible rfl
                  rotate_left
                  · simp only [Act.put, List.setIfInBounds_toArray, List.set_cons_zero, List.set_cons_succ, i64_w, i32_w]
                    rfl
                  refine pure_ (i := 16) (N := some 43) (v := ?_) (a' := ?_) #[true, true, true, true, true, true, true, true, true, true, true, true, true, true, true, true, true, false, false, false, false, false, false, false, false, false, false, false, false, false, false, false, false, false] rfl rfl (any_of HT_.out (by kernel_rfl)) (fun _ _ _ h => h) (Or.inl ⟨by rfl, ?_⟩) ?_ ?_
                  rotate_left
                  · intro w'
                    go_simp
                    with_reducible rfl
                  rotate_left
                  · simp only [Act.put, List.setIfInBounds_toArray, List.set_cons_zero, List.set_cons_succ, i64_w, i32_w]
                    rfl
                  refine pure_ (i := 17) (N := some 44) (v := ?_) (a' := ?_) #[true, true, true, true, true, true, true, true, true, true, true, true, true, true, true, true, true, true, false, false, false, false, false, false, false, false, false, false, false, false, false, false, false, false] rfl rfl (any_of HT_.out (by kernel_rfl)) (fun _ _ _ h => h) (Or.inl ⟨by rfl, ?_⟩) ?_ ?_
                  rotate_left
                  · intro w'
                    go_simp
                    with_reducible rfl
                  rotate_left
                  · simp only [Act.put, List.setIfInBounds_toArray, List.set_cons_zero, List.set_cons_succ, i64_w, i32_w]
                    rfl
                  refine pure_ (i := 18) (N := some 45) (v := ?_) (a' := ?_) #[true, true, true, true, true, true, true, true, true, true, true, true, true, true, true, true, true, true, true, false, false, false, false, false, false, false, false, false, false, false, false, false, false, false] rfl rfl (any_of HT_.out (by kernel_rfl)) (fun _ _ _ h => h) (Or.inl ⟨by rfl, ?_⟩) ?_ ?_
                  rotate_left
                  · intro w'
                    go_simp
                    with_reducible rfl
                  rotate_left
                  · simp only [Act.put, List.setIfInBounds_toArray, List.set_cons_zero, List.set_cons_succ, i64_w, i32_w]
                    rfl
                  refine pure_ (i := 19) (N := some 46) (v := ?_) (a' := ?_) #[true, true, true, true, true, true, true, true, true, true, true, true, true, true, true, true, true, true, true, true, false, false, false, false, false, false, false, false, false, false, false, false, false, false] rfl rfl (any_of HT_.out (by kernel_rfl)) (fun _ _ _ h => h) (Or.inl ⟨by rfl, ?_⟩) ?_ ?_
                  rotate_left
                  · intro w'
                    go_simp
                    with_reducible rfl
                  rotate_left
                  · simp only [Act.put, List.setIfInBounds_toArray, List.set_cons_zero, List.set_cons_succ, i64_w, i32_w]
                    rfl
                  refine pure_ (i := 20) (N := some 47) (v := ?_) (a' := ?_) #[true, true, true, true, true, true, true, true, true, true, true, true, true, true, true, true, true, true, true, true, true, false, false, false, false, false, false, false, false, false, false, false, false, false] rfl rfl (any_of HT_.out (by kernel_rfl)) (fun _ _ _ h => h) (Or.inl ⟨by rfl, ?_⟩) ?_ ?_
                  rotate_left
                  · intro w'
                    go_simp
                    with_reducible rfl
                  rotate_left
                  · simp only [Act.put, List.setIfInBounds_toArray, List.set_cons_zero, List.set_cons_succ, i64_w, i32_w]
                    rfl
                  refine pure_ (i := 21) (N := some 48) (v := ?_) (a' := ?_) #[true, true, true, true, true, true, true, true, true, true, true, true, true, true, true, true, true, true, true, true, true, true, false, false, false, false, false, false, false, false, false, false, false, false] rfl rfl (any_of HT_.out (by kernel_rfl)) (fun _ _ _ h => h) (Or.inl ⟨by rfl, ?_⟩) ?_ ?_
                  rotate_left
                  · intro w'
                    go_simp
                    with_reducible rfl
                  rotate_left
                  · simp only [Act.put, List.setIfInBounds_toArray, List.set_cons_zero, List.set_cons_succ, i64_w, i32_w]
                    rfl
                  refine pure_ (i := 22) (N := some 49) (v := ?_) (a' := ?_) #[true, true, true, true, true, true, true, true, true, true, true, true, true, true, true, true, true, true, true, true, true, true, true, false, false, false, false, false, false, false, false, false, false, false] rfl rfl (any_of HT_.out (by kernel_rfl)) (fun _ _ _ h => h) (Or.inl ⟨by rfl, ?_⟩) ?_ ?_
                  rotate_left
                  · intro w'
                    go_simp
                    with_reducible rfl
                  rotate_left
                  · simp only [Act.put, List.setIfInBounds_toArray, List.set_cons_zero, List.set_cons_succ, i64_w, i32_w]
                    rfl
                  refine pure_ (i := 23) (N := some 50) (v := ?_) (a' := ?_) #[true, true, true, true, true, true, true, true, true, true, true, true, true, true, true, true, true, true, true, true, true, true, true, true, false, false, false, false, false, false, false, false, false, false] rfl rfl (any_of HT_.out (by kernel_rfl)) (fun _ _ _ h => h) (Or.inl ⟨by rfl, ?_⟩) ?_ ?_
                  rotate_left
                  · intro w'
                    go_simp
                    with_reducible rfl
                  rotate_left
                  · simp only [Act.put, List.setIfInBounds_toArray, List.set_cons_zero, List.set_cons_succ, i64_w, i32_w]
                    rfl
                  refine pure_ (i := 24) (N := some 51) (v := ?_) (a' := ?_) #[true, true, true, true, true, true, true, true, true, true, true, true, true, true, true, true, true, true, true, true, true, true, true, true, true, false, false, false, false, false, false, false, false, false] rfl rfl (any_of HT_.out (by kernel_rfl)) (fun _ _ _ h => h) (Or.inl ⟨by rfl, ?_⟩) ?_ ?_
                  rotate_left
                  · intro w'
                    go_simp
                    with_reducible rfl
                  rotate_left
                  · simp only [Act.put, List.setIfInBounds_toArray, List.set_cons_zero, List.set_cons_succ, i64_w, i32_w]
                    rfl
                  refine pure_ (i := 25) (N := some 52) (v := ?_) (a' := ?_) #[true, true, true, true, true, true, true, true, true, true, true, true, true, true, true, true, true, true, true, true, true, true, true, true, true, true, false, false, false, false, false, false, false, false] rfl rfl (any_of HT_.out (by kernel_rfl)) (fun _ _ _ h => h) (Or.inl ⟨by rfl, ?_⟩) ?_ ?_
                  rotate_left
                  · intro w'
                    go_simp
                    with_reducible rfl
                  rotate_left
                  · simp only [Act.put, List.setIfInBounds_toArray, List.set_cons_zero, List.set_cons_succ, i64_w, i32_w]
                    rfl
                  refine pure_ (i := 26) (N := some 53) (v := ?_) (a' := ?_) #[true, true, true, true, true, true, true, true, true, true, true, true, true, true, true, true, true, true, true, true, true, true, true, true, true, true, true, false, false, false, false, false, false, false] rfl rfl (any_of HT_.out (by kernel_rfl)) (fun _ _ _ h => h) (Or.inl ⟨by rfl, ?_⟩) ?_ ?_
                  rotate_left
                  · intro w'
                    go_simp
                    with_reducible rfl
                  rotate_left
                  · simp only [Act.put, List.setIfInBounds_toArray, List.set_cons_zero, List.set_cons_succ, i64_w, i32_w]
                    rfl
                  refine pure_ (i := 28) (N := some 55) (v := ?_) (a' := ?_) #[true, true, true, true, true, true, true, true, true, true, true, true, true, true, true, true, true, true, true, true, true, true, true, true, true, true, true, false, true, false, false, false, false, false] rfl rfl (any_of HT_.out (by kernel_rfl)) (fun _ _ _ h => h) (Or.inl ⟨by rfl, ?_⟩) ?_ ?_
                  rotate_left
                  · intro w'
                    go_simp
                    with_reducible rfl
                  rotate_left
                  · simp only [Act.put, List.setIfInBounds_toArray, List.set_cons_zero, List.set_cons_succ, i64_w, i32_w]
                    rfl
                  refine pure_ (i := 29) (N := some 56) (v := ?_) (a' := ?_) #[true, true, true, true, true, true, true, true, true, true, true, true, true, true, true, true, true, true, true, true, true, true, true, true, true, true, true, false, true, true, false, false, false, false] rfl rfl (any_of HT_.out (by kernel_rfl)) (fun _ _ _ h => h) (Or.inl ⟨by rfl, ?_⟩) ?_ ?_
                  rotate_left
                  · intro w'
                    go_simp
                    with_reducible rfl
                  rotate_left
                  · simp only [Act.put, List.setIfInBounds_toArray, List.set_cons_zero, List.set_cons_succ, i64_w, i32_w]
                    rfl
                  refine take_ (i := 27) (N := some 54) (v := ?_) (a' := ?_) #[true, true, true, true, true, true, true, true, true, true, true, true, true, true, true, true, true, true, true, true, true, true, true, true, true, true, true, true, true, true, false, false, false, false] rfl rfl (take_ofW HT_.out HW_.out (by kernel_rfl)) (fun _ _ _ h => h) (Or.inl ⟨by rfl, ?_⟩) hHeld ?_ ?_
                  rotate_left
                  · rintro w' ⟨s0, s1, s2, s3, s4, s5, s6, s7⟩
                    go_simp
                    with_reducible rfl
                  rotate_left
                  · simp only [Act.put, List.setIfInBounds_toArray, List.set_cons_zero, List.set_cons_succ, i64_w, i32_w]
                    rfl
                  refine take_ (i := 30) (N := some 57) (v := ?_) (a' := ?_) #[true, true, true, true, true, true, true, true, true, true, true, true, true, true, true, true, true, true, true, true, true, true, true, true, true, true, true, true, true, true, true, false, false, false] rfl rfl (take_ofW HT_.out HW_.out (by kernel_rfl)) (fun _ _ _ h => h) (Or.inl ⟨by rfl, ?_⟩) hHeld ?_ ?_
                  rotate_left
                  · rintro w' ⟨s0, s1, s2, s3, s4, s5, s6, s7⟩
                    go_simp
                    with_reducible rfl
                  rotate_left
                  · simp only [Act.put, List.setIfInBounds_toArray, List.set_cons_zero, List.set_cons_succ, i64_w, i32_w]
                    rfl
                  refine pure_ (i := 31) (N := some 58) (v := ?_) (a' := ?_) #[true, true, true, true, true, true, true, true, true, true, true, true, true, true, true, true, true, true, true, true, true, true, true, true, true, true, true, true, true, true, true, true, false, false] rfl rfl (any_of HT_.out (by kernel_rfl)) (fun _ _ _ h => h) (Or.inl ⟨by rfl, ?_⟩) ?_ ?_
                  rotate_left
                  · intro w'
                    go_simp
                    with_reducible rfl
                  rotate_left
                  · simp only [Act.put, List.setIfInBounds_toArray, List.set_cons_zero, List.set_cons_succ, i64_w, i32_w]
                    rfl
                  refine pure_ (i := 32) (N := some 59) (v := ?_) (a' := ?_) #[true, true, true, true, true, true, true, true, true, true, true, true, true, true, true, true, true, true, true, true, true, true, true, true, true, true, true, true, true, true, true, true, true, false] rfl rfl (any_of HT_.out (by kernel_rfl)) (fun _ _ _ h => h) (Or.inl ⟨by rfl, ?_⟩) ?_ ?_
                  rotate_left
                  · intro w'
                    go_simp
                    with_reducible rfl
                  rotate_left
                  · simp only [Act.put, List.setIfInBounds_toArray, List.set_cons_zero, List.set_cons_succ, i64_w, i32_w]
                    rfl
                  refine pure_ (i := 33) (N := some 0) (v := ?_) (a' := ?_) #[true, true, true, true, true, true, true, true, true, true, true, true, true, true, true, true, true, true, true, true, true, true, true, true, true, true, true, true, true, true, true, true, true, true] rfl rfl (any_of HT_.out (by kernel_rfl)) (fun _ _ _ h => h) (Or.inl ⟨by rfl, ?_⟩) ?_ ?_
                  rotate_left
                  · intro w'
                    go_simp
                    with_reducible rfl
                  rotate_left
                  · simp only [Act.put, List.setIfInBounds_toArray, List.set_cons_zero, List.set_cons_succ, i64_w, i32_w]
                    rfl
                  refine done_ (done_of HT_.out (by kernel_rfl)) ?_
                  try go_wp2
                  go_ret
                  exact ⟨by first | rfl | (simp [errW_none, errW_some] <;> rfl) | (simp [*, errW_none, errW_some] <;> rfl), by repeat (first | (with_reducible first | exact HB.out | apply below_alloc | apply pw_below_drewN | apply below_drew1) | exact HB.out)⟩
                · rw [if_neg c13] at H
                  exact absurd H (by simp)
              · rw [if_neg c12] at H
                exact absurd H (by simp)
            · rw [if_neg c11] at H
              have c11b0 : ((t328.length : Int) == 1) = false := beq_eq_false_iff_ne.mpr c11
              have c11b1 : ((t328.length : Int) != 1) = true := bne_iff_ne.mpr c11
              exact absurd H (by simp)
          · rw [if_neg c10] at H
            have c10b0 : (t329 == 0) = false := beq_eq_false_iff_ne.mpr c10
            have c10b1 : (t329 != 0) = true := bne_iff_ne.mpr c10
            exact absurd H (by simp)
        · replace c9 := Bool.eq_false_iff.mpr c9
          subst c9
          have H1 : (none) = some r := by rw [if_neg (show ¬ (false = true) by decide)] at H; exact H
          clear H
          have H := H1
          clear H1
          exact absurd H (by simp)
      · rw [if_neg c7] at H
        have c7b0 : (t325 == 0) = false := beq_eq_false_iff_ne.mpr c7
        have c7b1 : (t325 != 0) = true := bne_iff_ne.mpr c7
        exact absurd H (by simp)
    · rw [if_neg c6] at H
      have c6b0 : (t323 == 0) = false := beq_eq_false_iff_ne.mpr c6
      have c6b1 : (t323 != 0) = true := bne_iff_ne.mpr c6
      exact absurd H (by simp)
  · rw [if_neg c5] at H
    have c5b0 : (t332 == 2) = false := beq_eq_false_iff_ne.mpr c5
    have c5b1 : (t332 != 2) = true := bne_iff_ne.mpr c5
    exact absurd H (by simp)
end Go.Proofs.Ytchgpcgolgcfdaa.PNum
end
section
namespace Go.Proofs.Ytchgpcgolgcfdaa.PNum
open Go.RowKit Go.Proofs.YtchgpcgolgcfdaaW.PrintWords Go.Proofs.YtchgpcgolgcfdaaW.PrintLast Go.Proofs.YtchgpcgolgcfdaaW.PrintMore
attribute [local go_sem] max2_int min2_int max_two min_two max_three min_three max_four min_four   -- for this text's walks alone
set_option linter.unusedVariables false
set_option linter.unusedSimpArgs false
attribute [local go_sem high] eqA29
mutual
def cornucopialaw10_BlockSeeks.j0 : Nat → List (S29) → ByteArray → Bool → Option (Bool)
  | 0, _, _, _ => none
  | k + 1, x0, x1, x22 => if x22 = true then ((cornucopialaw10_alive.f k).bind fun t379 => (some t379)) else ((block_Put.f k x0).bind fun bt380 => (if bt380.2 = 0 then ((block_Seek.f k bt380.1 x1).bind fun bt383 => ((block_Seek.f k bt380.1 (⟨#[]⟩ : ByteArray)).bind fun bt387 => (cornucopialaw10_BlockSeeks.l0 k x0 x1 bt383.1 bt383.2 bt387.1 bt387.2 0 0))) else ((cornucopialaw10_alive.f k).bind fun t382 => (some t382))))
def cornucopialaw10_BlockSeeks.l0 : Nat → List (S29) → ByteArray → List (S29) → Int → List (S29) → Int → Int → Int → Option (Bool)
  | 0, _, _, _, _, _, _, _, _ => none
  | k + 1, x0, x1, x7, x8, x9, x10, x11, x12 => if x12 < (x0.length : Int) then (if 0 ≤ x12 then (if (Op.bytesLess (((rd_T29 x0 x12).f0).toList) x1.toList) = true then (cornucopialaw10_BlockSeeks.l0 k x0 x1 x7 x8 x9 x10 x11 (wrap64 (x12 + 1))) else (if x11 ≥ (x7.length : Int) then (none) else (if 0 ≤ x11 then (if x11 < (x7.length : Int) then (if (!((((rd_T29 x7 x11).f0).toList) == (((rd_T29 x0 x12).f0).toList)) || (!(((rd_T29 x7 x11).f1) == ((rd_T29 x0 x12).f1)) || (!(((rd_T29 x7 x11).f2) == ((rd_T29 x0 x12).f2)) || (!((((rd_T29 x7 x11).f3).toList) == (((rd_T29 x0 x12).f3).toList)))))) = true then (none) else (cornucopialaw10_BlockSeeks.l0 k x0 x1 x7 x8 x9 x10 (wrap64 (x11 + 1)) (wrap64 (x12 + 1)))) else (none)) else (none)))) else (none)) else ((block_Shared.f k x1 x1).bind fun t391 => ((block_Shared.f k x1 (⟨#[]⟩ : ByteArray)).bind fun t392 => ((cornucopialaw10_alive.f k).bind fun t393 => (if t393 = true then (if x8 = 0 then (if x10 = 0 then (if x11 = (x7.length : Int) then (if (x9.length : Int) = (x0.length : Int) then (if t391 = (x1.size : Int) then (some (t392 == 0)) else (none)) else (none)) else (none)) else (none)) else (none)) else (none)))))
end
def cornucopialaw10_BlockSeeks.f (k : Nat) (l0 : List (S29)) (a1 : ByteArray) : Option (Bool) := (cornucopialaw5_Small.f k l0).bind fun t378 => (if t378 = true then (cornucopialaw10_BlockSeeks.j0 k l0 a1 (decide ((a1.size : Int) > 300))) else (cornucopialaw10_BlockSeeks.j0 k l0 a1 true))
theorem cornucopialaw10_BlockSeeks.mono_l : ∀ k, (∀ y0 y1 y2, LeO (cornucopialaw10_BlockSeeks.j0 k y0 y1 y2) (cornucopialaw10_BlockSeeks.j0 (k + 1) y0 y1 y2)) ∧ (∀ y0 y1 y2 y3 y4 y5 y6 y7, LeO (cornucopialaw10_BlockSeeks.l0 k y0 y1 y2 y3 y4 y5 y6 y7) (cornucopialaw10_BlockSeeks.l0 (k + 1) y0 y1 y2 y3 y4 y5 y6 y7))
  | 0 => ⟨fun _ _ _ r h => by simp [cornucopialaw10_BlockSeeks.j0] at h, fun _ _ _ _ _ _ _ _ r h => by simp [cornucopialaw10_BlockSeeks.l0] at h⟩
  | k + 1 => by
    obtain ⟨ih0, ih1⟩ := cornucopialaw10_BlockSeeks.mono_l k
    refine ⟨?_, ?_⟩
    · intro y0 y1 y2
      unfold cornucopialaw10_BlockSeeks.j0
      repeat' first
      | (with_reducible exact ih0 _ _ _)
      | (with_reducible exact ih1 _ _ _ _ _ _ _ _)
      | (with_reducible exact block_Put.mono _ _)
      | (with_reducible exact block_Seek.mono _ _ _)
      | (with_reducible exact block_Shared.mono _ _ _)
      | (with_reducible exact cornucopialaw10_alive.mono _)
      | (with_reducible exact cornucopialaw5_Small.mono _ _)
      | (with_reducible exact LeO.refl _)
      | (with_reducible exact LeO.none _)
      | (with_reducible refine LeO.ite ?_ ?_)
      | (with_reducible refine LeO.bind ?_ (fun _ => ?_))
      | exact ih0 _ _ _
      | exact ih1 _ _ _ _ _ _ _ _
      | exact block_Put.mono _ _
      | exact block_Seek.mono _ _ _
      | exact block_Shared.mono _ _ _
      | exact cornucopialaw10_alive.mono _
      | exact cornucopialaw5_Small.mono _ _
      | exact LeO.none _
      | refine LeO.ite ?_ ?_
      | refine LeO.bind ?_ (fun _ => ?_)
    · intro y0 y1 y2 y3 y4 y5 y6 y7
      unfold cornucopialaw10_BlockSeeks.l0
      repeat' first
      | (with_reducible exact ih0 _ _ _)
      | (with_reducible exact ih1 _ _ _ _ _ _ _ _)
      | (with_reducible exact block_Put.mono _ _)
      | (with_reducible exact block_Seek.mono _ _ _)
      | (with_reducible exact block_Shared.mono _ _ _)
      | (with_reducible exact cornucopialaw10_alive.mono _)
      | (with_reducible exact cornucopialaw5_Small.mono _ _)
      | (with_reducible exact LeO.refl _)
      | (with_reducible exact LeO.none _)
      | (with_reducible refine LeO.ite ?_ ?_)
      | (with_reducible refine LeO.bind ?_ (fun _ => ?_))
      | exact ih0 _ _ _
      | exact ih1 _ _ _ _ _ _ _ _
      | exact block_Put.mono _ _
      | exact block_Seek.mono _ _ _
      | exact block_Shared.mono _ _ _
      | exact cornucopialaw10_alive.mono _
      | exact cornucopialaw5_Small.mono _ _
      | exact LeO.none _
      | refine LeO.ite ?_ ?_
      | refine LeO.bind ?_ (fun _ => ?_)
theorem cornucopialaw10_BlockSeeks.mono : ∀ a0 a1 k, LeO (cornucopialaw10_BlockSeeks.f k a0 a1) (cornucopialaw10_BlockSeeks.f (k + 1) a0 a1) := by
  intro a0 a1 k
  obtain ⟨ih0, ih1⟩ := cornucopialaw10_BlockSeeks.mono_l k
  unfold cornucopialaw10_BlockSeeks.f
  repeat' first
      | (with_reducible exact ih0 _ _ _)
      | (with_reducible exact ih1 _ _ _ _ _ _ _ _)
      | (with_reducible exact block_Put.mono _ _)
      | (with_reducible exact block_Seek.mono _ _ _)
      | (with_reducible exact block_Shared.mono _ _ _)
      | (with_reducible exact cornucopialaw10_alive.mono _)
      | (with_reducible exact cornucopialaw5_Small.mono _ _)
      | (with_reducible exact LeO.refl _)
      | (with_reducible exact LeO.none _)
      | (with_reducible refine LeO.ite ?_ ?_)
      | (with_reducible refine LeO.bind ?_ (fun _ => ?_))
      | exact ih0 _ _ _
      | exact ih1 _ _ _ _ _ _ _ _
      | exact block_Put.mono _ _
      | exact block_Seek.mono _ _ _
      | exact block_Shared.mono _ _ _
      | exact cornucopialaw10_alive.mono _
      | exact cornucopialaw5_Small.mono _ _
      | exact LeO.none _
      | refine LeO.ite ?_ ?_
      | refine LeO.bind ?_ (fun _ => ?_)
set_option maxHeartbeats 8000000 in
set_option maxRecDepth 100000 in
theorem cornucopialaw10_BlockSeeks.calls (k : Nat) (A0 : Option Addr) (c0 : Nat) (l0 : List (S29)) (a1 : ByteArray) (r : Bool) (w : World) (hr0 : Kd.C k29 w A0 l0.length l0) (hc0 : l0.length ≤ c0) (h : cornucopialaw10_BlockSeeks.f k l0 a1 = some r) :
    Calls Try.prog 8 #[.slice A0 l0.length c0, .string a1] w fun e w' => e = .returned (.bool r) ∧ Below w.heap.size w w' := by
  have hu29 := Try.underlying29
  have HR0 := Aside0.mk hr0
  have HC0 := Aside0.mk hc0
  clear hr0 hc0
  have HB := Aside0.mk (Below.refl w.heap.size w)
  have H : ((cornucopialaw5_Small.f k l0).bind fun t378 => (if t378 = true then (cornucopialaw10_BlockSeeks.j0 k l0 a1 (decide ((a1.size : Int) > 300))) else (cornucopialaw10_BlockSeeks.j0 k l0 a1 true))) = some r := h
  clear h
  have HC3 := Aside0.mk H
  clear H
  go_enter Try.func8, Try.ntmps8
  go_upto_region 1 with (fail)
  repeat (go_quiet (fail); go_upto_region 1 with (fail))
  go_cut [22] (fun v22 wc => ∃ (kq : Nat) (x22_2 : Bool), v22 = .bool x22_2 ∧ Aside0 (cornucopialaw10_BlockSeeks.j0 kq l0 a1 x22_2 = some r) ∧ Aside0 (kq ≤ k) ∧ Aside0 (Below w.heap.size w wc))
  case first =>
    have H := HC3.out
    clear HC3
    replace H := Option.bind_eq_some_iff.mp H
    obtain ⟨t378, A40, H⟩ := H
    replace H : (if t378 = true then (cornucopialaw10_BlockSeeks.j0 k l0 a1 (decide ((a1.size : Int) > 300))) else (cornucopialaw10_BlockSeeks.j0 k l0 a1 true)) = some r := H
    have A4 := Aside0.mk A40
    clear A40
    by_cases c5 : t378 = true
    · subst c5
      have H1 : (cornucopialaw10_BlockSeeks.j0 k l0 a1 (decide ((a1.size : Int) > 300))) = some r := by rw [if_pos rfl] at H; exact H
      clear H
      have H := H1
      clear H1
      have H' := Aside0.mk H
      clear H
      go_wp2_with (first | (go_at_call 9; (with_reducible refine (cornucopialaw5_Small.calls k _ _ l0 true _ ?side1 ?side2 A4.out).mono ?_); (case side1 => repeat (first | exact (Kd.C_below HR0.out HB.out) | (with_reducible refine Kd.C_alloc ?_ _) | (with_reducible refine Kd.C_drewN ?_ _) | (with_reducible refine Kd.C_drew ?_))); (case side2 => exact HC0.out); rintro e w6 ⟨rfl, hb⟩; have n0_ := Aside0.mk (below_step (by repeat (first | (with_reducible first | exact HB.out | apply below_alloc | apply pw_below_drewN | apply below_drew1) | exact HB.out)) hb); clear HB; have HB := n0_; clear n0_; (try clear hb); (try clear hb2); (try clear hk); (try clear hi)))
      repeat (go_quiet (first | (go_at_call 9; (with_reducible refine (cornucopialaw5_Small.calls k _ _ l0 true _ ?side1 ?side2 A4.out).mono ?_); (case side1 => repeat (first | exact (Kd.C_below HR0.out HB.out) | (with_reducible refine Kd.C_alloc ?_ _) | (with_reducible refine Kd.C_drewN ?_ _) | (with_reducible refine Kd.C_drew ?_))); (case side2 => exact HC0.out); rintro e w6 ⟨rfl, hb⟩; have n0_ := Aside0.mk (below_step (by repeat (first | (with_reducible first | exact HB.out | apply below_alloc | apply pw_below_drewN | apply below_drew1) | exact HB.out)) hb); clear HB; have HB := n0_; clear n0_; (try clear hb); (try clear hb2); (try clear hk); (try clear hi))); try go_wp2_with (first | (go_at_call 9; (with_reducible refine (cornucopialaw5_Small.calls k _ _ l0 true _ ?side1 ?side2 A4.out).mono ?_); (case side1 => repeat (first | exact (Kd.C_below HR0.out HB.out) | (with_reducible refine Kd.C_alloc ?_ _) | (with_reducible refine Kd.C_drewN ?_ _) | (with_reducible refine Kd.C_drew ?_))); (case side2 => exact HC0.out); rintro e w6 ⟨rfl, hb⟩; have n0_ := Aside0.mk (below_step (by repeat (first | (with_reducible first | exact HB.out | apply below_alloc | apply pw_below_drewN | apply below_drew1) | exact HB.out)) hb); clear HB; have HB := n0_; clear n0_; (try clear hb); (try clear hb2); (try clear hk); (try clear hi))))
      go_meet
      case rel => exact ⟨_, (decide ((a1.size : Int) > 300)), (by first | rfl | (simp; done) | (simp [*]; done)), H', ⟨by first | omega | exact Nat.le_refl _⟩, ⟨by repeat (first | (with_reducible first | exact HB.out | apply below_alloc | apply pw_below_drewN | apply below_drew1) | exact HB.out)⟩⟩
    · replace c5 := Bool.eq_false_iff.mpr c5
      subst c5
      have H1 : (cornucopialaw10_BlockSeeks.j0 k l0 a1 true) = some r := by rw [if_neg (show ¬ (false = true) by decide)] at H; exact H
      clear H
      have H := H1
      clear H1
      have H' := Aside0.mk H
      clear H
      go_wp2_with (first | (go_at_call 9; (with_reducible refine (cornucopialaw5_Small.calls k _ _ l0 false _ ?side1 ?side2 A4.out).mono ?_); (case side1 => repeat (first | exact (Kd.C_below HR0.out HB.out) | (with_reducible refine Kd.C_alloc ?_ _) | (with_reducible refine Kd.C_drewN ?_ _) | (with_reducible refine Kd.C_drew ?_))); (case side2 => exact HC0.out); rintro e w7 ⟨rfl, hb⟩; have n0_ := Aside0.mk (below_step (by repeat (first | (with_reducible first | exact HB.out | apply below_alloc | apply pw_below_drewN | apply below_drew1) | exact HB.out)) hb); clear HB; have HB := n0_; clear n0_; (try clear hb); (try clear hb2); (try clear hk); (try clear hi)))
      repeat (go_quiet (first | (go_at_call 9; (with_reducible refine (cornucopialaw5_Small.calls k _ _ l0 false _ ?side1 ?side2 A4.out).mono ?_); (case side1 => repeat (first | exact (Kd.C_below HR0.out HB.out) | (with_reducible refine Kd.C_alloc ?_ _) | (with_reducible refine Kd.C_drewN ?_ _) | (with_reducible refine Kd.C_drew ?_))); (case side2 => exact HC0.out); rintro e w7 ⟨rfl, hb⟩; have n0_ := Aside0.mk (below_step (by repeat (first | (with_reducible first | exact HB.out | apply below_alloc | apply pw_below_drewN | apply below_drew1) | exact HB.out)) hb); clear HB; have HB := n0_; clear n0_; (try clear hb); (try clear hb2); (try clear hk); (try clear hi))); try go_wp2_with (first | (go_at_call 9; (with_reducible refine (cornucopialaw5_Small.calls k _ _ l0 false _ ?side1 ?side2 A4.out).mono ?_); (case side1 => repeat (first | exact (Kd.C_below HR0.out HB.out) | (with_reducible refine Kd.C_alloc ?_ _) | (with_reducible refine Kd.C_drewN ?_ _) | (with_reducible refine Kd.C_drew ?_))); (case side2 => exact HC0.out); rintro e w7 ⟨rfl, hb⟩; have n0_ := Aside0.mk (below_step (by repeat (first | (with_reducible first | exact HB.out | apply below_alloc | apply pw_below_drewN | apply below_drew1) | exact HB.out)) hb); clear HB; have HB := n0_; clear n0_; (try clear hb); (try clear hb2); (try clear hk); (try clear hi))))
      go_meet
      case rel => exact ⟨_, (true), (by first | rfl | (simp; done) | (simp [*]; done)), H', ⟨by first | omega | exact Nat.le_refl _⟩, ⟨by repeat (first | (with_reducible first | exact HB.out | apply below_alloc | apply pw_below_drewN | apply below_drew1) | exact HB.out)⟩⟩
  case rest =>
    clear HC3
    try clear p2
    try clear c5
    obtain ⟨kq, x22_2, rfl, HA, HJ2, HB⟩ := hcut
    cases kq with
    | zero => exact absurd HA.out (by simp [cornucopialaw10_BlockSeeks.j0])
    | succ kj2 =>
      have H := HA.out
      clear HA
      simp only [cornucopialaw10_BlockSeeks.j0] at H
      by_cases c8 : x22_2 = true
      · subst c8
        have H1 : ((cornucopialaw10_alive.f kj2).bind fun t379 => (some t379)) = some r := by rw [if_pos rfl] at H; exact H
        clear H
        have H := H1
        clear H1
        replace H := Option.bind_eq_some_iff.mp H
        obtain ⟨t379, A90, H⟩ := H
        replace H : (some t379) = some r := H
        have A9 := Aside0.mk A90
        clear A90
        obtain rfl := Option.some.inj H
        go_wp2_with (first | (go_at_call 21; (with_reducible refine (cornucopialaw10_alive.calls kj2  t379 _ A9.out).mono ?_); rintro e w10 ⟨rfl, hb⟩; have n0_ := Aside0.mk (below_step (by repeat (first | (with_reducible first | exact HB.out | apply below_alloc | apply pw_below_drewN | apply below_drew1) | exact HB.out)) hb); clear HB; have HB := n0_; clear n0_; (try clear hb); (try clear hb2); (try clear hk); (try clear hi)))
        repeat (go_quiet (first | (go_at_call 21; (with_reducible refine (cornucopialaw10_alive.calls kj2  t379 _ A9.out).mono ?_); rintro e w10 ⟨rfl, hb⟩; have n0_ := Aside0.mk (below_step (by repeat (first | (with_reducible first | exact HB.out | apply below_alloc | apply pw_below_drewN | apply below_drew1) | exact HB.out)) hb); clear HB; have HB := n0_; clear n0_; (try clear hb); (try clear hb2); (try clear hk); (try clear hi))); try go_wp2_with (first | (go_at_call 21; (with_reducible refine (cornucopialaw10_alive.calls kj2  t379 _ A9.out).mono ?_); rintro e w10 ⟨rfl, hb⟩; have n0_ := Aside0.mk (below_step (by repeat (first | (with_reducible first | exact HB.out | apply below_alloc | apply pw_below_drewN | apply below_drew1) | exact HB.out)) hb); clear HB; have HB := n0_; clear n0_; (try clear hb); (try clear hb2); (try clear hk); (try clear hi))))
        go_ret
        exact ⟨by first | rfl | (simp [errW_none, errW_some] <;> rfl) | (simp [*, errW_none, errW_some] <;> rfl), by repeat (first | (with_reducible first | exact HB.out | apply below_alloc | apply pw_below_drewN | apply below_drew1) | exact HB.out)⟩
      · replace c8 := Bool.eq_false_iff.mpr c8
        subst c8
        have H1 : ((block_Put.f kj2 l0).bind fun bt380 => (if bt380.2 = 0 then ((block_Seek.f kj2 bt380.1 a1).bind fun bt383 => ((block_Seek.f kj2 bt380.1 (⟨#[]⟩ : ByteArray)).bind fun bt387 => (cornucopialaw10_BlockSeeks.l0 kj2 l0 a1 bt383.1 bt383.2 bt387.1 bt387.2 0 0))) else ((cornucopialaw10_alive.f kj2).bind fun t382 => (some t382)))) = some r := by rw [if_neg (show ¬ (false = true) by decide)] at H; exact H
        clear H
        have H := H1
        clear H1
        replace H := Option.bind_eq_some_iff.mp H
        obtain ⟨⟨t380, t381⟩, A110, H⟩ := H
        replace H : (if t381 = 0 then ((block_Seek.f kj2 t380 a1).bind fun bt383 => ((block_Seek.f kj2 t380 (⟨#[]⟩ : ByteArray)).bind fun bt387 => (cornucopialaw10_BlockSeeks.l0 kj2 l0 a1 bt383.1 bt383.2 bt387.1 bt387.2 0 0))) else ((cornucopialaw10_alive.f kj2).bind fun t382 => (some t382))) = some r := H
        have A11 := Aside0.mk A110
        clear A110
        by_cases c12 : t381 = 0
        · rw [if_pos c12] at H
          have c12b0 : (t381 == 0) = true := beq_iff_eq.mpr c12
          have c12b1 : (t381 != 0) = false := bne_eq_false_iff_eq.mpr c12
          clear c12
          replace H := Option.bind_eq_some_iff.mp H
          obtain ⟨⟨t383, t384⟩, A130, H⟩ := H
          replace H : ((block_Seek.f kj2 t380 (⟨#[]⟩ : ByteArray)).bind fun bt387 => (cornucopialaw10_BlockSeeks.l0 kj2 l0 a1 t383 t384 bt387.1 bt387.2 0 0)) = some r := H
          have A13 := Aside0.mk A130
          clear A130
          replace H := Option.bind_eq_some_iff.mp H
          obtain ⟨⟨t387, t388⟩, A140, H⟩ := H
          replace H : (cornucopialaw10_BlockSeeks.l0 kj2 l0 a1 t383 t384 t387 t388 0 0) = some r := H
          have A14 := Aside0.mk A140
          clear A140
          have H' := Aside0.mk H
          clear H
          go_wp2_with (first | (go_at_call 22; (with_reducible refine (block_Put.calls kj2 _ _ l0 t380 t381 _ ?side1 ?side2 A11.out).mono ?_); (case side1 => repeat (first | exact (Kd.C_below HR0.out HB.out) | (with_reducible refine Kd.C_alloc ?_ _) | (with_reducible refine Kd.C_drewN ?_ _) | (with_reducible refine Kd.C_drew ?_))); (case side2 => exact HC0.out); rintro e w15 ⟨rfl, hb⟩; have n0_ := Aside0.mk (below_step (by repeat (first | (with_reducible first | exact HB.out | apply below_alloc | apply pw_below_drewN | apply below_drew1) | exact HB.out)) hb); clear HB; have HB := n0_; clear n0_; (try clear hb); (try clear hb2); (try clear hk); (try clear hi)) | (go_at_call 24; (with_reducible refine (block_Seek.calls kj2 t380 a1 t383 t384 _ A13.out).mono ?_); rintro e w16 ⟨v385, rfl, ho0, hb⟩; have n0_ := Aside0.mk (Kd.Q_lower ho0 (below_size (by repeat (first | (with_reducible first | exact HB.out | apply below_alloc | apply pw_below_drewN | apply below_drew1) | exact HB.out)))); have n1_ := Aside0.mk (below_step (by repeat (first | (with_reducible first | exact HB.out | apply below_alloc | apply pw_below_drewN | apply below_drew1) | exact HB.out)) hb); clear HB; have HO386 := n0_; have HB := n1_; clear n0_ n1_; (try clear hb); (try clear hb2); (try clear hk); (try clear hi); (try clear ho0)) | (go_at_call 24; (with_reducible refine (block_Seek.calls kj2 t380 (⟨#[]⟩ : ByteArray) t387 t388 _ A14.out).mono ?_); rintro e w17 ⟨v389, rfl, ho0, hb⟩; have n0_ := Aside0.mk (Kd.Q_elder' (by (with_reducible repeat (first | apply Kd.Q_alloc | apply Kd.Q_drewN | apply Kd.Q_drew)); exact HO386.out) (by first | exact Kd.Q_base ho0 | exact Kd.S_base ho0 | exact Kd.R_base ho0) hb); have n1_ := Aside0.mk (Kd.Q_lower (Kd.Q_new' ho0 (Kd.Q_lt (by (with_reducible repeat (first | apply Kd.Q_alloc | apply Kd.Q_drewN | apply Kd.Q_drew)); exact HO386.out))) (below_size (by repeat (first | (with_reducible first | exact HB.out | apply below_alloc | apply pw_below_drewN | apply below_drew1) | exact HB.out)))); have n2_ := Aside0.mk (below_step (by repeat (first | (with_reducible first | exact HB.out | apply below_alloc | apply pw_below_drewN | apply below_drew1) | exact HB.out)) hb); clear HO386; clear HB; have HO386 := n0_; have HO390 := n1_; have HB := n2_; clear n0_ n1_ n2_; (try clear hb); (try clear hb2); (try clear hk); (try clear hi); (try clear ho0)))
          repeat (go_quiet (first | (go_at_call 22; (with_reducible refine (block_Put.calls kj2 _ _ l0 t380 t381 _ ?side1 ?side2 A11.out).mono ?_); (case side1 => repeat (first | exact (Kd.C_below HR0.out HB.out) | (with_reducible refine Kd.C_alloc ?_ _) | (with_reducible refine Kd.C_drewN ?_ _) | (with_reducible refine Kd.C_drew ?_))); (case side2 => exact HC0.out); rintro e w15 ⟨rfl, hb⟩; have n0_ := Aside0.mk (below_step (by repeat (first | (with_reducible first | exact HB.out | apply below_alloc | apply pw_below_drewN | apply below_drew1) | exact HB.out)) hb); clear HB; have HB := n0_; clear n0_; (try clear hb); (try clear hb2); (try clear hk); (try clear hi)) | (go_at_call 24; (with_reducible refine (block_Seek.calls kj2 t380 a1 t383 t384 _ A13.out).mono ?_); rintro e w16 ⟨v385, rfl, ho0, hb⟩; have n0_ := Aside0.mk (Kd.Q_lower ho0 (below_size (by repeat (first | (with_reducible first | exact HB.out | apply below_alloc | apply pw_below_drewN | apply below_drew1) | exact HB.out)))); have n1_ := Aside0.mk (below_step (by repeat (first | (with_reducible first | exact HB.out | apply below_alloc | apply pw_below_drewN | apply below_drew1) | exact HB.out)) hb); clear HB; have HO386 := n0_; have HB := n1_; clear n0_ n1_; (try clear hb); (try clear hb2); (try clear hk); (try clear hi); (try clear ho0)) | (go_at_call 24; (with_reducible refine (block_Seek.calls kj2 t380 (⟨#[]⟩ : ByteArray) t387 t388 _ A14.out).mono ?_); rintro e w17 ⟨v389, rfl, ho0, hb⟩; have n0_ := Aside0.mk (Kd.Q_elder' (by (with_reducible repeat (first | apply Kd.Q_alloc | apply Kd.Q_drewN | apply Kd.Q_drew)); exact HO386.out) (by first | exact Kd.Q_base ho0 | exact Kd.S_base ho0 | exact Kd.R_base ho0) hb); have n1_ := Aside0.mk (Kd.Q_lower (Kd.Q_new' ho0 (Kd.Q_lt (by (with_reducible repeat (first | apply Kd.Q_alloc | apply Kd.Q_drewN | apply Kd.Q_drew)); exact HO386.out))) (below_size (by repeat (first | (with_reducible first | exact HB.out | apply below_alloc | apply pw_below_drewN | apply below_drew1) | exact HB.out)))); have n2_ := Aside0.mk (below_step (by repeat (first | (with_reducible first | exact HB.out | apply below_alloc | apply pw_below_drewN | apply below_drew1) | exact HB.out)) hb); clear HO386; clear HB; have HO386 := n0_; have HO390 := n1_; have HB := n2_; clear n0_ n1_ n2_; (try clear hb); (try clear hb2); (try clear hk); (try clear hi); (try clear ho0))); try go_wp2_with (first | (go_at_call 22; (with_reducible refine (block_Put.calls kj2 _ _ l0 t380 t381 _ ?side1 ?side2 A11.out).mono ?_); (case side1 => repeat (first | exact (Kd.C_below HR0.out HB.out) | (with_reducible refine Kd.C_alloc ?_ _) | (with_reducible refine Kd.C_drewN ?_ _) | (with_reducible refine Kd.C_drew ?_))); (case side2 => exact HC0.out); rintro e w15 ⟨rfl, hb⟩; have n0_ := Aside0.mk (below_step (by repeat (first | (with_reducible first | exact HB.out | apply below_alloc | apply pw_below_drewN | apply below_drew1) | exact HB.out)) hb); clear HB; have HB := n0_; clear n0_; (try clear hb); (try clear hb2); (try clear hk); (try clear hi)) | (go_at_call 24; (with_reducible refine (block_Seek.calls kj2 t380 a1 t383 t384 _ A13.out).mono ?_); rintro e w16 ⟨v385, rfl, ho0, hb⟩; have n0_ := Aside0.mk (Kd.Q_lower ho0 (below_size (by repeat (first | (with_reducible first | exact HB.out | apply below_alloc | apply pw_below_drewN | apply below_drew1) | exact HB.out)))); have n1_ := Aside0.mk (below_step (by repeat (first | (with_reducible first | exact HB.out | apply below_alloc | apply pw_below_drewN | apply below_drew1) | exact HB.out)) hb); clear HB; have HO386 := n0_; have HB := n1_; clear n0_ n1_; (try clear hb); (try clear hb2); (try clear hk); (try clear hi); (try clear ho0)) | (go_at_call 24; (with_reducible refine (block_Seek.calls kj2 t380 (⟨#[]⟩ : ByteArray) t387 t388 _ A14.out).mono ?_); rintro e w17 ⟨v389, rfl, ho0, hb⟩; have n0_ := Aside0.mk (Kd.Q_elder' (by (with_reducible repeat (first | apply Kd.Q_alloc | apply Kd.Q_drewN | apply Kd.Q_drew)); exact HO386.out) (by first | exact Kd.Q_base ho0 | exact Kd.S_base ho0 | exact Kd.R_base ho0) hb); have n1_ := Aside0.mk (Kd.Q_lower (Kd.Q_new' ho0 (Kd.Q_lt (by (with_reducible repeat (first | apply Kd.Q_alloc | apply Kd.Q_drewN | apply Kd.Q_drew)); exact HO386.out))) (below_size (by repeat (first | (with_reducible first | exact HB.out | apply below_alloc | apply pw_below_drewN | apply below_drew1) | exact HB.out)))); have n2_ := Aside0.mk (below_step (by repeat (first | (with_reducible first | exact HB.out | apply below_alloc | apply pw_below_drewN | apply below_drew1) | exact HB.out)) hb); clear HO386; clear HB; have HO386 := n0_; have HO390 := n1_; have HB := n2_; clear n0_ n1_ n2_; (try clear hb); (try clear hb2); (try clear hk); (try clear hi); (try clear ho0))))
          go_loopg [11, 12] kj2 (fun kq v11 v12 w' => ∃ (x11_2 : Int) (x12_2 : Int), v11 = .int .i64 x11_2 ∧ v12 = .int .i64 x12_2 ∧ Aside0 (cornucopialaw10_BlockSeeks.l0 kq l0 a1 t383 t384 t387 t388 x11_2 x12_2 = some r) ∧ Aside0 (kq ≤ kj2) ∧ Aside0 (Kd.Q k29 29 w' w.heap.size (fun k_ => some k_ ≠ (v389 : Value).ownBlock) v385 t383) ∧ Aside0 (Kd.Q k29 29 w' w.heap.size (fun k_ => some k_ ≠ (v385 : Value).ownBlock) v389 t387) ∧ Aside0 (Below w.heap.size w w'))
          case atStart => exact ⟨(0), (0), (by first | rfl | (simp; done) | (simp [*]; done)), (by first | rfl | (simp; done) | (simp [*]; done)), H', ⟨Nat.le_refl _⟩, ⟨by (with_reducible repeat (first | apply Kd.Q_alloc | apply Kd.Q_drewN | apply Kd.Q_drew)); exact Kd.Q_mono HO386.out (fun _ hk => hk.2)⟩, ⟨by (with_reducible repeat (first | apply Kd.Q_alloc | apply Kd.Q_drewN | apply Kd.Q_drew)); exact Kd.Q_mono HO390.out (fun _ hk => hk.2)⟩, ⟨by repeat (first | (with_reducible first | exact HB.out | apply below_alloc | apply pw_below_drewN | apply below_drew1) | exact HB.out)⟩⟩
          case round =>
            clear H'
            try clear c1
            try clear p2
            try clear c5
            try clear c8
            try clear c12
            try clear c12b0
            try clear c12b1
            try clear p2
            obtain ⟨x11_2, x12_2, rfl, rfl, HA, HK2, HO_7, HO_9, HB⟩ := hrel
            cases gk with
            | zero => exact absurd HA.out (by simp [cornucopialaw10_BlockSeeks.l0])
            | succ k2 =>
              have H := HA.out
              clear HA
              simp only [cornucopialaw10_BlockSeeks.l0] at H
              by_cases c18 : x12_2 < (l0.length : Int)
              · rw [if_pos c18] at H
                have c18b0 : decide (x12_2 < (l0.length : Int)) = true := decide_eq_true c18
                clear c18
                by_cases c19 : 0 ≤ x12_2
                · rw [if_pos c19] at H
                  have c19b0 : decide (0 ≤ x12_2) = true := decide_eq_true c19
                  clear c19
                  by_cases c20 : (Op.bytesLess (((rd_T29 l0 x12_2).f0).toList) a1.toList) = true
                  · rw [if_pos c20] at H
                    have c20b0 : (Op.bytesLess (((rd_T29 l0 x12_2).f0).toList) a1.toList) = true := c20
                    clear c20
                    have H' := Aside0.mk H
                    clear H
                    have p394 : 0 ≤ (x12_2 : Int) := of_decide_eq_true (by first | (with_reducible assumption) | assumption)
                    have q394 : x12_2 < (l0.length : Int) := of_decide_eq_true (by first | (with_reducible assumption) | assumption)
                    obtain ⟨ad394, e394, hx394_0, hx394_1, hx394_2, hx394_3⟩ := at_T29 HR0.out x12_2 p394 q394
                    cases e394
                    replace hx394_0 := (HB.out.cell (World.block_lt_of_cell? w _ hx394_0)).trans hx394_0
                    replace hx394_1 := (HB.out.cell (World.block_lt_of_cell? w _ hx394_1)).trans hx394_1
                    replace hx394_2 := (HB.out.cell (World.block_lt_of_cell? w _ hx394_2)).trans hx394_2
                    replace hx394_3 := (HB.out.cell (World.block_lt_of_cell? w _ hx394_3)).trans hx394_3
                    replace p394 := eq_true p394
                    replace q394 := eq_true q394
                    go_wp2
                    repeat (go_quiet (fail); try go_wp2)
                    go_roundg k2
                    case measure => have := HJ2.out; have := HK2.out; omega
                    case rel => exact ⟨(x11_2), (wrap64 (x12_2 + 1)), (by first | rfl | (simp; done) | (simp [*]; done)), (by first | rfl | (simp; done) | (simp [*]; done)), H', ⟨by have := HJ2.out; have := HK2.out; omega⟩, ⟨by (with_reducible repeat (first | apply Kd.Q_alloc | apply Kd.Q_drewN | apply Kd.Q_drew)); exact HO_7.out⟩, ⟨by (with_reducible repeat (first | apply Kd.Q_alloc | apply Kd.Q_drewN | apply Kd.Q_drew)); exact HO_9.out⟩, ⟨by repeat (first | (with_reducible first | exact HB.out | apply below_alloc | apply pw_below_drewN | apply below_drew1) | exact HB.out)⟩⟩
                  · rw [if_neg c20] at H
                    have c20b0 : (Op.bytesLess (((rd_T29 l0 x12_2).f0).toList) a1.toList) = false := by simpa using c20
                    clear c20
                    by_cases c21 : x11_2 ≥ (t383.length : Int)
                    · rw [if_pos c21] at H
                      exact absurd H (by simp)
                    · rw [if_neg c21] at H
                      have c21b0 : decide ((t383.length : Int) ≤ x11_2) = false := decide_eq_false c21
                      clear c21
                      by_cases c22 : 0 ≤ x11_2
                      · rw [if_pos c22] at H
                        have c22b0 : decide (0 ≤ x11_2) = true := decide_eq_true c22
                        clear c22
                        by_cases c23 : x11_2 < (t383.length : Int)
                        · rw [if_pos c23] at H
                          have c23b0 : decide (x11_2 < (t383.length : Int)) = true := decide_eq_true c23
                          clear c23
                          by_cases c24 : (!((((rd_T29 t383 x11_2).f0).toList) == (((rd_T29 l0 x12_2).f0).toList)) || (!(((rd_T29 t383 x11_2).f1) == ((rd_T29 l0 x12_2).f1)) || (!(((rd_T29 t383 x11_2).f2) == ((rd_T29 l0 x12_2).f2)) || (!((((rd_T29 t383 x11_2).f3).toList) == (((rd_T29 l0 x12_2).f3).toList)))))) = true
                          · rw [if_pos c24] at H
                            exact absurd H (by simp)
                          · rw [if_neg c24] at H
                            have c24b0 : (!((((rd_T29 t383 x11_2).f0).toList) == (((rd_T29 l0 x12_2).f0).toList)) || (!(((rd_T29 t383 x11_2).f1) == ((rd_T29 l0 x12_2).f1)) || (!(((rd_T29 t383 x11_2).f2) == ((rd_T29 l0 x12_2).f2)) || (!((((rd_T29 t383 x11_2).f3).toList) == (((rd_T29 l0 x12_2).f3).toList)))))) = false := by simpa using c24
                            clear c24
                            have H' := Aside0.mk H
                            clear H
                            have p394 : 0 ≤ (x12_2 : Int) := of_decide_eq_true (by first | (with_reducible assumption) | assumption)
                            have q394 : x12_2 < (l0.length : Int) := of_decide_eq_true (by first | (with_reducible assumption) | assumption)
                            obtain ⟨ad394, e394, hx394_0, hx394_1, hx394_2, hx394_3⟩ := at_T29 HR0.out x12_2 p394 q394
                            cases e394
                            replace hx394_0 := (HB.out.cell (World.block_lt_of_cell? w _ hx394_0)).trans hx394_0
                            replace hx394_1 := (HB.out.cell (World.block_lt_of_cell? w _ hx394_1)).trans hx394_1
                            replace hx394_2 := (HB.out.cell (World.block_lt_of_cell? w _ hx394_2)).trans hx394_2
                            replace hx394_3 := (HB.out.cell (World.block_lt_of_cell? w _ hx394_3)).trans hx394_3
                            replace p394 := eq_true p394
                            replace q394 := eq_true q394
                            obtain ⟨Ao25, co25, eo25, _⟩ := Kd.Q_slice HO_7.out
                            subst eo25
                            have p395 : 0 ≤ (x11_2 : Int) := of_decide_eq_true (by first | (with_reducible assumption) | assumption)
                            have q395 : x11_2 < (t383.length : Int) := of_decide_eq_true (by first | (with_reducible assumption) | assumption)
                            obtain ⟨ad395, e395, hx395_0, hx395_1, hx395_2, hx395_3⟩ := at_T29 (Kd.Q_reads' HO_7.out).2.2 x11_2 p395 q395
                            cases e395
                            replace p395 := eq_true p395
                            replace q395 := eq_true q395
                            have p396 : 0 ≤ (x12_2 : Int) := of_decide_eq_true (by first | (with_reducible assumption) | assumption)
                            have q396 : x12_2 < (l0.length : Int) := of_decide_eq_true (by first | (with_reducible assumption) | assumption)
                            obtain ⟨ad396, e396, hx396_0, hx396_1, hx396_2, hx396_3⟩ := at_T29 HR0.out x12_2 p396 q396
                            obtain rfl : ad394 = ad396 := (by injection e396)
                            replace hx396_0 := (HB.out.cell (World.block_lt_of_cell? w _ hx396_0)).trans hx396_0
                            replace hx396_1 := (HB.out.cell (World.block_lt_of_cell? w _ hx396_1)).trans hx396_1
                            replace hx396_2 := (HB.out.cell (World.block_lt_of_cell? w _ hx396_2)).trans hx396_2
                            replace hx396_3 := (HB.out.cell (World.block_lt_of_cell? w _ hx396_3)).trans hx396_3
                            replace p396 := eq_true p396
                            replace q396 := eq_true q396
                            go_wp2
                            repeat (go_quiet (fail); try go_wp2)
                            go_roundg k2
                            case measure => have := HJ2.out; have := HK2.out; omega
                            case rel => exact ⟨(wrap64 (x11_2 + 1)), (wrap64 (x12_2 + 1)), (by first | rfl | (simp; done) | (simp [*]; done)), (by first | rfl | (simp; done) | (simp [*]; done)), H', ⟨by have := HJ2.out; have := HK2.out; omega⟩, ⟨by (with_reducible repeat (first | apply Kd.Q_alloc | apply Kd.Q_drewN | apply Kd.Q_drew)); exact HO_7.out⟩, ⟨by (with_reducible repeat (first | apply Kd.Q_alloc | apply Kd.Q_drewN | apply Kd.Q_drew)); exact HO_9.out⟩, ⟨by repeat (first | (with_reducible first | exact HB.out | apply below_alloc | apply pw_below_drewN | apply below_drew1) | exact HB.out)⟩⟩
                        · rw [if_neg c23] at H
                          exact absurd H (by simp)
                      · rw [if_neg c22] at H
                        exact absurd H (by simp)
                · rw [if_neg c19] at H
                  exact absurd H (by simp)
              · rw [if_neg c18] at H
                have c18b0 : decide (x12_2 < (l0.length : Int)) = false := decide_eq_false c18
                clear c18
                replace H := Option.bind_eq_some_iff.mp H
                obtain ⟨t391, A260, H⟩ := H
                replace H : ((block_Shared.f k2 a1 (⟨#[]⟩ : ByteArray)).bind fun t392 => ((cornucopialaw10_alive.f k2).bind fun t393 => (if t393 = true then (if t384 = 0 then (if t388 = 0 then (if x11_2 = (t383.length : Int) then (if (t387.length : Int) = (l0.length : Int) then (if t391 = (a1.size : Int) then (some (t392 == 0)) else (none)) else (none)) else (none)) else (none)) else (none)) else (none)))) = some r := H
                have A26 := Aside0.mk A260
                clear A260
                replace H := Option.bind_eq_some_iff.mp H
                obtain ⟨t392, A270, H⟩ := H
                replace H : ((cornucopialaw10_alive.f k2).bind fun t393 => (if t393 = true then (if t384 = 0 then (if t388 = 0 then (if x11_2 = (t383.length : Int) then (if (t387.length : Int) = (l0.length : Int) then (if t391 = (a1.size : Int) then (some (t392 == 0)) else (none)) else (none)) else (none)) else (none)) else (none)) else (none))) = some r := H
                have A27 := Aside0.mk A270
                clear A270
                replace H := Option.bind_eq_some_iff.mp H
                obtain ⟨t393, A280, H⟩ := H
                replace H : (if t393 = true then (if t384 = 0 then (if t388 = 0 then (if x11_2 = (t383.length : Int) then (if (t387.length : Int) = (l0.length : Int) then (if t391 = (a1.size : Int) then (some (t392 == 0)) else (none)) else (none)) else (none)) else (none)) else (none)) else (none)) = some r := H
                have A28 := Aside0.mk A280
                clear A280
                by_cases c29 : t393 = true
                · subst c29
                  have H1 : (if t384 = 0 then (if t388 = 0 then (if x11_2 = (t383.length : Int) then (if (t387.length : Int) = (l0.length : Int) then (if t391 = (a1.size : Int) then (some (t392 == 0)) else (none)) else (none)) else (none)) else (none)) else (none)) = some r := by rw [if_pos rfl] at H; exact H
                  clear H
                  have H := H1
                  clear H1
                  by_cases c30 : t384 = 0
                  · rw [if_pos c30] at H
                    have c30b0 : (t384 == 0) = true := beq_iff_eq.mpr c30
                    have c30b1 : (t384 != 0) = false := bne_eq_false_iff_eq.mpr c30
                    clear c30
                    by_cases c31 : t388 = 0
                    · rw [if_pos c31] at H
                      have c31b0 : (t388 == 0) = true := beq_iff_eq.mpr c31
                      have c31b1 : (t388 != 0) = false := bne_eq_false_iff_eq.mpr c31
                      clear c31
                      by_cases c32 : x11_2 = (t383.length : Int)
                      · rw [if_pos c32] at H
                        have c32b0 : (x11_2 == (t383.length : Int)) = true := beq_iff_eq.mpr c32
                        have c32b1 : (x11_2 != (t383.length : Int)) = false := bne_eq_false_iff_eq.mpr c32
                        clear c32
                        by_cases c33 : (t387.length : Int) = (l0.length : Int)
                        · rw [if_pos c33] at H
                          have c33b0 : ((t387.length : Int) == (l0.length : Int)) = true := beq_iff_eq.mpr c33
                          have c33b1 : ((t387.length : Int) != (l0.length : Int)) = false := bne_eq_false_iff_eq.mpr c33
                          have c33b2 : (t387.length == l0.length) = true := by first | simpa using c33 | (simp at c33 ⊢; omega)
                          clear c33
                          by_cases c34 : t391 = (a1.size : Int)
                          · rw [if_pos c34] at H
                            have c34b0 : (t391 == (a1.size : Int)) = true := beq_iff_eq.mpr c34
                            have c34b1 : (t391 != (a1.size : Int)) = false := bne_eq_false_iff_eq.mpr c34
                            clear c34
                            obtain rfl := Option.some.inj H
                            go_wp2_with (first | (go_at_call 26; (with_reducible refine (block_Shared.calls k2 a1 a1 t391 _ A26.out).mono ?_); rintro e w' ⟨rfl, ⟨nd, rfl⟩⟩; (try first | exact ⟨rfl, _, World.drewN_drewN _ _ _⟩ | exact ⟨rfl, _, Eq.trans (World.drewN_drewN _ _ _) (congrArg (World.drewN _) (Nat.add_assoc _ _ _))⟩)) | (go_at_call 26; (with_reducible refine (block_Shared.calls k2 a1 (⟨#[]⟩ : ByteArray) t392 _ A27.out).mono ?_); rintro e w' ⟨rfl, ⟨nd, rfl⟩⟩; (try first | exact ⟨rfl, _, World.drewN_drewN _ _ _⟩ | exact ⟨rfl, _, Eq.trans (World.drewN_drewN _ _ _) (congrArg (World.drewN _) (Nat.add_assoc _ _ _))⟩)) | (go_at_call 21; (with_reducible refine (cornucopialaw10_alive.calls k2  true _ A28.out).mono ?_); rintro e w35 ⟨rfl, hb⟩; have n0_ := Aside0.mk (Kd.Q_below (by (with_reducible repeat (first | apply Kd.Q_alloc | apply Kd.Q_drewN | apply Kd.Q_drew)); exact HO_7.out) hb); have n1_ := Aside0.mk (Kd.Q_below (by (with_reducible repeat (first | apply Kd.Q_alloc | apply Kd.Q_drewN | apply Kd.Q_drew)); exact HO_9.out) hb); have n2_ := Aside0.mk (below_step (by repeat (first | (with_reducible first | exact HB.out | apply below_alloc | apply pw_below_drewN | apply below_drew1) | exact HB.out)) hb); clear HO_7; clear HO_9; clear HB; have HO_7 := n0_; have HO_9 := n1_; have HB := n2_; clear n0_ n1_ n2_; (try clear hb); (try clear hb2); (try clear hk); (try clear hi); obtain ⟨Ao36, co36, eo36, _⟩ := Kd.Q_slice HO_7.out; subst eo36; obtain ⟨Ao37, co37, eo37, _⟩ := Kd.Q_slice HO_9.out; subst eo37))
                            repeat (go_quiet (first | (go_at_call 26; (with_reducible refine (block_Shared.calls k2 a1 a1 t391 _ A26.out).mono ?_); rintro e w' ⟨rfl, ⟨nd, rfl⟩⟩; (try first | exact ⟨rfl, _, World.drewN_drewN _ _ _⟩ | exact ⟨rfl, _, Eq.trans (World.drewN_drewN _ _ _) (congrArg (World.drewN _) (Nat.add_assoc _ _ _))⟩)) | (go_at_call 26; (with_reducible refine (block_Shared.calls k2 a1 (⟨#[]⟩ : ByteArray) t392 _ A27.out).mono ?_); rintro e w' ⟨rfl, ⟨nd, rfl⟩⟩; (try first | exact ⟨rfl, _, World.drewN_drewN _ _ _⟩ | exact ⟨rfl, _, Eq.trans (World.drewN_drewN _ _ _) (congrArg (World.drewN _) (Nat.add_assoc _ _ _))⟩)) | (go_at_call 21; (with_reducible refine (cornucopialaw10_alive.calls k2  true _ A28.out).mono ?_); rintro e w35 ⟨rfl, hb⟩; have n0_ := Aside0.mk (Kd.Q_below (by (with_reducible repeat (first | apply Kd.Q_alloc | apply Kd.Q_drewN | apply Kd.Q_drew)); exact HO_7.out) hb); have n1_ := Aside0.mk (Kd.Q_below (by (with_reducible repeat (first | apply Kd.Q_alloc | apply Kd.Q_drewN | apply Kd.Q_drew)); exact HO_9.out) hb); have n2_ := Aside0.mk (below_step (by repeat (first | (with_reducible first | exact HB.out | apply below_alloc | apply pw_below_drewN | apply below_drew1) | exact HB.out)) hb); clear HO_7; clear HO_9; clear HB; have HO_7 := n0_; have HO_9 := n1_; have HB := n2_; clear n0_ n1_ n2_; (try clear hb); (try clear hb2); (try clear hk); (try clear hi); obtain ⟨Ao36, co36, eo36, _⟩ := Kd.Q_slice HO_7.out; subst eo36; obtain ⟨Ao37, co37, eo37, _⟩ := Kd.Q_slice HO_9.out; subst eo37)); try go_wp2_with (first | (go_at_call 26; (with_reducible refine (block_Shared.calls k2 a1 a1 t391 _ A26.out).mono ?_); rintro e w' ⟨rfl, ⟨nd, rfl⟩⟩; (try first | exact ⟨rfl, _, World.drewN_drewN _ _ _⟩ | exact ⟨rfl, _, Eq.trans (World.drewN_drewN _ _ _) (congrArg (World.drewN _) (Nat.add_assoc _ _ _))⟩)) | (go_at_call 26; (with_reducible refine (block_Shared.calls k2 a1 (⟨#[]⟩ : ByteArray) t392 _ A27.out).mono ?_); rintro e w' ⟨rfl, ⟨nd, rfl⟩⟩; (try first | exact ⟨rfl, _, World.drewN_drewN _ _ _⟩ | exact ⟨rfl, _, Eq.trans (World.drewN_drewN _ _ _) (congrArg (World.drewN _) (Nat.add_assoc _ _ _))⟩)) | (go_at_call 21; (with_reducible refine (cornucopialaw10_alive.calls k2  true _ A28.out).mono ?_); rintro e w35 ⟨rfl, hb⟩; have n0_ := Aside0.mk (Kd.Q_below (by (with_reducible repeat (first | apply Kd.Q_alloc | apply Kd.Q_drewN | apply Kd.Q_drew)); exact HO_7.out) hb); have n1_ := Aside0.mk (Kd.Q_below (by (with_reducible repeat (first | apply Kd.Q_alloc | apply Kd.Q_drewN | apply Kd.Q_drew)); exact HO_9.out) hb); have n2_ := Aside0.mk (below_step (by repeat (first | (with_reducible first | exact HB.out | apply below_alloc | apply pw_below_drewN | apply below_drew1) | exact HB.out)) hb); clear HO_7; clear HO_9; clear HB; have HO_7 := n0_; have HO_9 := n1_; have HB := n2_; clear n0_ n1_ n2_; (try clear hb); (try clear hb2); (try clear hk); (try clear hi); obtain ⟨Ao36, co36, eo36, _⟩ := Kd.Q_slice HO_7.out; subst eo36; obtain ⟨Ao37, co37, eo37, _⟩ := Kd.Q_slice HO_9.out; subst eo37)))
                            go_ret
                            exact ⟨by first | rfl | (simp [errW_none, errW_some] <;> rfl) | (simp [*, errW_none, errW_some] <;> rfl), by repeat (first | (with_reducible first | exact HB.out | apply below_alloc | apply pw_below_drewN | apply below_drew1) | exact HB.out)⟩
                          · rw [if_neg c34] at H
                            exact absurd H (by simp)
                        · rw [if_neg c33] at H
                          exact absurd H (by simp)
                      · rw [if_neg c32] at H
                        exact absurd H (by simp)
                    · rw [if_neg c31] at H
                      exact absurd H (by simp)
                  · rw [if_neg c30] at H
                    exact absurd H (by simp)
                · replace c29 := Bool.eq_false_iff.mpr c29
                  subst c29
                  have H1 : (none) = some r := by rw [if_neg (show ¬ (false = true) by decide)] at H; exact H
                  clear H
                  have H := H1
                  clear H1
                  exact absurd H (by simp)
        · rw [if_neg c12] at H
          have c12b0 : (t381 == 0) = false := beq_eq_false_iff_ne.mpr c12
          have c12b1 : (t381 != 0) = true := bne_iff_ne.mpr c12
          replace H := Option.bind_eq_some_iff.mp H
          obtain ⟨t382, A380, H⟩ := H
          replace H : (some t382) = some r := H
          have A38 := Aside0.mk A380
          clear A380
          obtain rfl := Option.some.inj H
          go_wp2_with (first | (go_at_call 22; (with_reducible refine (block_Put.calls kj2 _ _ l0 t380 t381 _ ?side1 ?side2 A11.out).mono ?_); (case side1 => repeat (first | exact (Kd.C_below HR0.out HB.out) | (with_reducible refine Kd.C_alloc ?_ _) | (with_reducible refine Kd.C_drewN ?_ _) | (with_reducible refine Kd.C_drew ?_))); (case side2 => exact HC0.out); rintro e w39 ⟨rfl, hb⟩; have n0_ := Aside0.mk (below_step (by repeat (first | (with_reducible first | exact HB.out | apply below_alloc | apply pw_below_drewN | apply below_drew1) | exact HB.out)) hb); clear HB; have HB := n0_; clear n0_; (try clear hb); (try clear hb2); (try clear hk); (try clear hi)) | (go_at_call 21; (with_reducible refine (cornucopialaw10_alive.calls kj2  t382 _ A38.out).mono ?_); rintro e w40 ⟨rfl, hb⟩; have n0_ := Aside0.mk (below_step (by repeat (first | (with_reducible first | exact HB.out | apply below_alloc | apply pw_below_drewN | apply below_drew1) | exact HB.out)) hb); clear HB; have HB := n0_; clear n0_; (try clear hb); (try clear hb2); (try clear hk); (try clear hi)))
          repeat (go_quiet (first | (go_at_call 22; (with_reducible refine (block_Put.calls kj2 _ _ l0 t380 t381 _ ?side1 ?side2 A11.out).mono ?_); (case side1 => repeat (first | exact (Kd.C_below HR0.out HB.out) | (with_reducible refine Kd.C_alloc ?_ _) | (with_reducible refine Kd.C_drewN ?_ _) | (with_reducible refine Kd.C_drew ?_))); (case side2 => exact HC0.out); rintro e w39 ⟨rfl, hb⟩; have n0_ := Aside0.mk (below_step (by repeat (first | (with_reducible first | exact HB.out | apply below_alloc | apply pw_below_drewN | apply below_drew1) | exact HB.out)) hb); clear HB; have HB := n0_; clear n0_; (try clear hb); (try clear hb2); (try clear hk); (try clear hi)) | (go_at_call 21; (with_reducible refine (cornucopialaw10_alive.calls kj2  t382 _ A38.out).mono ?_); rintro e w40 ⟨rfl, hb⟩; have n0_ := Aside0.mk (below_step (by repeat (first | (with_reducible first | exact HB.out | apply below_alloc | apply pw_below_drewN | apply below_drew1) | exact HB.out)) hb); clear HB; have HB := n0_; clear n0_; (try clear hb); (try clear hb2); (try clear hk); (try clear hi))); try go_wp2_with (first | (go_at_call 22; (with_reducible refine (block_Put.calls kj2 _ _ l0 t380 t381 _ ?side1 ?side2 A11.out).mono ?_); (case side1 => repeat (first | exact (Kd.C_below HR0.out HB.out) | (with_reducible refine Kd.C_alloc ?_ _) | (with_reducible refine Kd.C_drewN ?_ _) | (with_reducible refine Kd.C_drew ?_))); (case side2 => exact HC0.out); rintro e w39 ⟨rfl, hb⟩; have n0_ := Aside0.mk (below_step (by repeat (first | (with_reducible first | exact HB.out | apply below_alloc | apply pw_below_drewN | apply below_drew1) | exact HB.out)) hb); clear HB; have HB := n0_; clear n0_; (try clear hb); (try clear hb2); (try clear hk); (try clear hi)) | (go_at_call 21; (with_reducible refine (cornucopialaw10_alive.calls kj2  t382 _ A38.out).mono ?_); rintro e w40 ⟨rfl, hb⟩; have n0_ := Aside0.mk (below_step (by repeat (first | (with_reducible first | exact HB.out | apply below_alloc | apply pw_below_drewN | apply below_drew1) | exact HB.out)) hb); clear HB; have HB := n0_; clear n0_; (try clear hb); (try clear hb2); (try clear hk); (try clear hi))))
          go_ret
          exact ⟨by first | rfl | (simp [errW_none, errW_some] <;> rfl) | (simp [*, errW_none, errW_some] <;> rfl), by repeat (first | (with_reducible first | exact HB.out | apply below_alloc | apply pw_below_drewN | apply below_drew1) | exact HB.out)⟩
def cornucopialaw10_BlockSeeks.Pure : Prop := ∀ (l0 : List (S29)) (a1 : ByteArray), l0.length * 48 ≤ 140737488351232 → (∀ x_ ∈ l0, wfS29 x_) → a1.size ≤ 140737488351232 → ∃ k, cornucopialaw10_BlockSeeks.f k l0 a1 = some true
theorem cornucopialaw10_BlockSeeks.walk (P : cornucopialaw10_BlockSeeks.Pure) (A0 : Option Addr) (c0 : Nat) (l0 : List (S29)) (a1 : ByteArray) (w : World) (hr0 : Kd.C k29 w A0 l0.length l0) (hc0 : l0.length ≤ c0) (w0_0 : l0.length * 48 ≤ 140737488351232) (w0_1 : (∀ x_ ∈ l0, wfS29 x_)) (w1_0 : a1.size ≤ 140737488351232) :
    Calls Try.prog 8 #[.slice A0 l0.length c0, .string a1] w fun e w' => e = .returned (.bool true) ∧ Below w.heap.size w w' := by
  obtain ⟨k, h⟩ := P l0 a1 w0_0 w0_1 w1_0
  refine (cornucopialaw10_BlockSeeks.calls k _ _ l0 a1 true w hr0 hc0 h).mono ?_
  rintro e w' ⟨rfl, hd⟩
  exact ⟨rfl, hd⟩
end Go.Proofs.Ytchgpcgolgcfdaa.PNum
end
section
namespace Go.Proofs.Ytchgpcgolgcfdaa.PuVt
open Go Go.RowKit Go.Proofs.Ytchgpcgolgcfdaa.PNum Go.Proofs.YtchgpcgolgcfdaaW.PrintWords Go.Proofs.YtchgpcgolgcfdaaW.PrintLast Go.Proofs.YtchgpcgolgcfdaaW.PrintMore Go.Proofs.YtchgpcgolgcfdaaW.Pu
def vb (n : Nat) : List Int := if n < 128 then [(n : Int)] else ((n % 128 + 128 : Nat) : Int) :: vb (n / 128)
theorem vb_low {n : Nat} (h : n < 128) : vb n = [(n : Int)] := by rw [vb, if_pos h]
theorem vb_high {n : Nat} (h : ¬ n < 128) : vb n = ((n % 128 + 128 : Nat) : Int) :: vb (n / 128) := by rw [vb, if_neg h]
theorem vb_len (k : Nat) : ∀ n, n < 128 ^ (k + 1) → (vb n).length ≤ k + 1 := by
  induction k with
  | zero => intro n h; rw [vb_low (by simpa using h)]; simp
  | succ k ih =>
    intro n h
    by_cases hn : n < 128
    · rw [vb_low hn]; simp
    · rw [vb_high hn, List.length_cons]
      have := ih (n / 128) (by rw [Nat.pow_succ] at h; omega)
      omega
theorem vb_len10 {n : Nat} (h : n < 18446744073709551616) : (vb n).length ≤ 10 := vb_len 9 n (by omega)
theorem vb_pos (n : Nat) : 0 < (vb n).length := by rw [vb]; split <;> simp
theorem vb_ok (n : Nat) : ok8 (vb n) := by
  induction n using Nat.strongRecOn with
  | _ n ih =>
    by_cases hn : n < 128
    · rw [vb_low hn]; exact ok8_cons (by omega) ok8_nil
    · rw [vb_high hn]; exact ok8_cons (by omega) (ih _ (by omega))
theorem or128 : ∀ m : Fin 256, m.val ||| 128 = m.val % 128 + 128 := by decide +kernel
theorem or_more (n : Nat) : Go.bits .or .u8 ((n : Int) % 256) 128 = ((n % 128 + 128 : Nat) : Int) := by
  rw [show ((n : Int) % 256) = ((n % 256 : Nat) : Int) from by omega]
  have h := or_u8 (n % 256) 128 (by omega) (by decide)
  refine h.trans ?_
  have := or128 ⟨n % 256, by omega⟩
  simp only at this
  rw [this]
  congr 1
  omega
theorem Var_l1 (l6 : List Int) (x7 x8 : Int) (r : ByteArray) (n : Nat) : ∀ (x3 : List Int), n < 18446744073709551616 → x3.length + 10 < 140737488355328 →
    Ev (fun k => num_Var.l0 k (x3 ++ vb n) l6 x7 (wrap64 (x8 + 1))) r → Ev (fun k => num_Var.l1 k x3 n l6 x7 x8) r := by
  have key : ∀ (j : Nat) (n : Nat) (x3 : List Int), (vb n).length ≤ j → x3.length + j < 140737488355328 →
      Ev (fun k => num_Var.l0 k (x3 ++ vb n) l6 x7 (wrap64 (x8 + 1))) r → Ev (fun k => num_Var.l1 k x3 n l6 x7 x8) r := by
    intro j
    induction j with
    | zero => intro n x3 h; have := vb_pos n; omega
    | succ j ih =>
      intro n x3 h hl he
      refine Ev.step (fun k => by rw [num_Var.l1]) ?_
      by_cases hn : n < 128
      · refine ev_neg (by omega) (ev_pos (by omega) ?_)
        rw [vb_low hn] at he
        rw [show ((n : Int) % 256) = n from by omega]
        exact he
      · refine ev_pos (by omega) (ev_pos (by omega) ?_)
        rw [vb_high hn] at h he
        rw [or_more, show ((n : Int) / 128) = ((n / 128 : Nat) : Int) from by omega]
        exact ih (n / 128) _ (by simpa using h) (by simp; omega) (by simpa using he)
  intro x3 hn hl he
  exact key 10 n x3 (vb_len10 hn) (by omega) he
def u64s (l : List Int) : Prop := ∀ x ∈ l, 0 ≤ x ∧ x ≤ 18446744073709551615
def vbs (l : List Int) : List Int := l.flatMap fun x => vb x.toNat
theorem vbs_cons (x : Int) (l : List Int) : vbs (x :: l) = vb x.toNat ++ vbs l := rfl
theorem rd_nat (l : List Int) (i : Nat) (h : i < l.length) : rd l (i : Int) = l[i] := by
  simp [rd, List.getD_eq_getElem?_getD, List.getElem?_eq_getElem h]
theorem Var_l0 (l : List Int) (hl : u64s l) (hb : 10 * l.length < 140737488355328) (d : Nat) : ∀ (i : Nat) (x3 : List Int), i + d = l.length → x3.length ≤ 10 * i →
    Ev (fun k => num_Var.l0 k x3 l (l.length : Int) (i : Int)) (strOfNums (x3 ++ vbs (l.drop i))) := by
  induction d with
  | zero =>
    intro i x3 hi h3
    refine Ev.step (fun k => by rw [num_Var.l0]) ?_
    refine ev_neg (by omega) ?_
    rw [List.drop_of_length_le (by omega)]
    exact ev_const (by simp [vbs])
  | succ d ih =>
    intro i x3 hi h3
    have hlt : i < l.length := by omega
    have hx := hl l[i] (List.getElem_mem hlt)
    refine Ev.step (fun k => by rw [num_Var.l0]) ?_
    refine ev_pos (by omega) (ev_pos (by omega) (ev_pos (by omega) ?_))
    rw [rd_nat l i hlt]
    obtain ⟨n, hn⟩ := Int.eq_ofNat_of_zero_le hx.1
    have hn' : n < 18446744073709551616 := by omega
    have hd : vbs (l.drop i) = vb n ++ vbs (l.drop (i + 1)) := by
      rw [List.drop_eq_getElem_cons hlt, vbs_cons, hn]; rfl
    rw [hd, hn]
    refine Var_l1 l _ _ _ n x3 hn' (by omega) ?_
    rw [wrap64_id (by omega), show ((i : Int) + 1) = ((i + 1 : Nat) : Int) from by omega]
    have := ih (i + 1) (x3 ++ vb n) (by omega) (by have := vb_len10 hn'; simp; omega)
    simpa using this
theorem Var_ev {l : List Int} (hl : u64s l) (hb : 10 * l.length < 140737488355328) : Ev (fun k => num_Var.f k l) (strOfNums (vbs l)) := by
  have := Var_l0 l hl hb l.length 0 [] (by omega) (by simp)
  simpa [num_Var.f] using this
def tx (l : List ByteArray) : List Int := l.flatMap fun s => vb s.size ++ bytesOf s
theorem tx_cons (s : ByteArray) (l : List ByteArray) : tx (s :: l) = (vb s.size ++ bytesOf s) ++ tx l := rfl
def room (l : List ByteArray) : Nat := (l.map fun s => s.size + 10).sum
theorem Text_go (l : List ByteArray) : ∀ (acc : ByteArray), acc.size + room l < 140737488355328 → Ev (fun k => num_Text.go k l acc) (acc ++ strOfNums (tx l)) := by
  induction l with
  | nil =>
    intro acc _
    refine ev_const ?_
    simp only [tx, List.flatMap_nil, S_nil]
    exact congrArg some (ByteArray.ext (by simp [ByteArray.data_append]))
  | cons s l ih =>
    intro acc h
    have e : room (s :: l) = s.size + 10 + room l := rfl
    rw [e] at h
    have h1 := vb_len10 (n := s.size) (by omega)
    have hv := Var_ev (l := [(s.size : Int)]) (by intro x hx; simp at hx; omega) (by simp)
    have ev : vbs [(s.size : Int)] = vb s.size := by simp [vbs]
    rw [ev] at hv
    refine Ev.congr (fun k => by rw [num_Text.go]) (Ev.bind hv (ev_pos ?_ ?_))
    · rw [S_size]
      omega
    have := ih (acc ++ (strOfNums (vb s.size) ++ s)) (by rw [ByteArray.size_append, ByteArray.size_append, S_size]; omega)
    rw [tx_cons, ← S_append, ← S_append, S_of]
    rw [ByteArray.append_assoc] at this
    exact this
theorem room_mem {l : List ByteArray} {s : ByteArray} (h : s ∈ l) : s.size + 10 ≤ room l := by
  induction l with
  | nil => simp at h
  | cons x l ih =>
    have e : room (x :: l) = x.size + 10 + room l := rfl
    rcases List.mem_cons.1 h with rfl | h
    · omega
    · have := ih h
      omega
theorem Text_ev (l : List ByteArray) (h : room l < 140737488355328) : Ev (fun k => num_Text.f k l) (strOfNums (tx l)) := by
  have hs : ∀ s ∈ l, s.size ≤ 140737488355328 := by
    intro s hs
    have := room_mem hs
    omega
  have := Text_go l ⟨#[]⟩ (by show 0 + room l < _; omega)
  refine Ev.congr (fun k => by rw [num_Text.f, if_pos hs]) ?_
  have e : (⟨#[]⟩ : ByteArray) ++ strOfNums (tx l) = strOfNums (tx l) := ByteArray.ext (by simp [ByteArray.data_append])
  rw [e] at this
  exact this
end Go.Proofs.Ytchgpcgolgcfdaa.PuVt
end
section
namespace Go.Proofs.Ytchgpcgolgcfdaa.PuVr
open Go Go.RowKit Go.Proofs.Ytchgpcgolgcfdaa.PNum Go.Proofs.Ytchgpcgolgcfdaa.PuVt Go.Proofs.YtchgpcgolgcfdaaW.PrintWords Go.Proofs.YtchgpcgolgcfdaaW.PrintLast Go.Proofs.YtchgpcgolgcfdaaW.PrintMore Go.Proofs.YtchgpcgolgcfdaaW.Pu
def be : Nat → Nat → List Int
  | 0, _ => []
  | n + 1, v => be n (v / 256) ++ [((v % 256 : Nat) : Int)]
theorem be_len : ∀ n v, (be n v).length = n
  | 0, _ => rfl
  | n + 1, v => by simp [be, be_len n]
theorem be_ok : ∀ n v, ok8 (be n v)
  | 0, _ => ok8_nil
  | n + 1, v => ok8_append (be_ok n _) (ok8_cons (by omega) ok8_nil)
theorem be_get : ∀ (n v i : Nat), i < n → (be n v)[i]? = some (((v / 256 ^ (n - 1 - i)) % 256 : Nat) : Int)
  | n + 1, v, i, h => by
    by_cases hi : i = n
    · subst hi
      rw [be, List.getElem?_append_right (by rw [be_len]; omega), be_len]
      simp
    · rw [be, List.getElem?_append_left (by rw [be_len]; omega), be_get n _ i (by omega), Nat.div_div_eq_div_mul]
      rw [show n + 1 - 1 - i = (n - 1 - i) + 1 from by omega, Nat.pow_succ, Nat.mul_comm]
theorem shr8 (v : Nat) (m : Nat) (hm : m ≤ 8) : shr .u64 (v : Int) ((8 * m : Nat) : Int) = ((v / 256 ^ m : Nat) : Int) := by
  unfold shr
  rw [show min ((8 * m : Nat) : Int).toNat IntKind.u64.bits = 8 * m from by simp [IntKind.bits]; omega]
  have e : (256 : Nat) ^ m = 2 ^ (8 * m) := by rw [Nat.pow_mul]
  rw [e]
  norm_cast
theorem Fix_l0 (v n : Nat) (hn : n ≤ 8) (d : Nat) : ∀ (i : Nat) (x6 : List Int), i + d = n → x6.length = n → x6.take i = (be n v).take i →
    Ev (fun k => num_Fix.l0 k (v : Int) (n : Int) x6 (n : Int) (i : Int)) (strOfNums (be n v), 0) := by
  induction d with
  | zero =>
    intro i x6 hi hl ht
    refine Ev.step (fun k => by rw [num_Fix.l0]) ?_
    refine ev_neg (by omega) ?_
    rw [List.take_of_length_le (by omega), List.take_of_length_le (by rw [be_len]; omega)] at ht
    exact ev_const (by rw [ht])
  | succ d ih =>
    intro i x6 hi hl ht
    have e1 : wrap64 ((n : Int) - 1) = (n : Int) - 1 := wrap64_id (by omega)
    have e2 : wrap64 ((n : Int) - 1 - (i : Int)) = ((n - 1 - i : Nat) : Int) := by rw [wrap64_id (by omega)]; omega
    have e3 : wrap64 (8 * ((n - 1 - i : Nat) : Int)) = ((8 * (n - 1 - i) : Nat) : Int) := by rw [wrap64_id (by omega)]; omega
    refine Ev.step (fun k => by rw [num_Fix.l0, e1, e2, e3]) ?_
    refine ev_pos (by omega) (ev_pos (by omega) (ev_pos (by omega) (ev_pos (by omega) ?_)))
    rw [shr8 v _ (by omega), wrap64_id (by omega), show ((i : Int) + 1) = ((i + 1 : Nat) : Int) from by omega]
    refine ih (i + 1) _ (by omega) (by simpa using hl) ?_
    apply List.ext_getElem?
    intro j
    by_cases hj : j < i + 1
    · rw [List.getElem?_take_of_lt hj, List.getElem?_take_of_lt hj]
      by_cases hji : j = i
      · subst hji
        rw [be_get n v j (by omega), Int.toNat_natCast, List.getElem?_set_self (by omega)]
        generalize v / 256 ^ (n - 1 - j) = q
        exact congrArg some (by omega)
      · have := congrArg (fun l => l[j]?) ht
        simp only [List.getElem?_take_of_lt (show j < i by omega)] at this
        rw [Int.toNat_natCast, List.getElem?_set_ne (by omega), this]
    · rw [List.getElem?_eq_none (by simp; omega), List.getElem?_eq_none (by simp; omega)]
theorem Fix_yes {v n : Nat} (h1 : 1 ≤ n) (h8 : n ≤ 8) (h : n = 8 ∨ v < 256 ^ n) : Ev (fun k => num_Fix.f k (v : Int) (n : Int)) (strOfNums (be n v), 0) := by
  have h0 : Ev (fun k => num_Fix.j0 k (v : Int) (n : Int) false) (strOfNums (be n v), 0) := by
    refine Ev.step (fun k => by rw [num_Fix.j0]) ?_
    refine ev_neg (by simp) (ev_pos (by omega) (ev_pos (by omega) (ev_some ?_)))
    rw [Int.toNat_natCast, List.length_replicate]
    exact Fix_l0 v n h8 n 0 _ (by omega) (by simp) (by simp)
  refine Ev.congr (fun k => by rw [num_Fix.f]) ?_
  refine ev_neg (by omega) (ev_neg (by omega) ?_)
  by_cases hn : n < 8
  · have e3 : wrap64 (8 * (n : Int)) = ((8 * n : Nat) : Int) := by rw [wrap64_id (by omega)]; omega
    refine ev_pos (by omega) ?_
    rw [e3]
    refine ev_pos (by omega) ?_
    rw [shr8 v n (by omega), Nat.div_eq_of_lt (by omega)]
    exact h0
  · exact ev_neg (by omega) h0
def un (l : List Int) : Nat := l.foldl (fun a c => a * 256 + c.toNat) 0
theorem un_app (l : List Int) (c : Int) : un (l ++ [c]) = un l * 256 + c.toNat := by simp [un]
theorem un_lt (n : Nat) : ∀ (l : List Int), ok8 l → l.length = n → un l < 256 ^ n := by
  induction n with
  | zero => intro l _ h; rw [List.eq_nil_of_length_eq_zero h]; decide
  | succ n ih =>
    intro l ho hl
    have hne : l ≠ [] := by intro h; rw [h] at hl; simp at hl
    rw [← List.dropLast_concat_getLast hne, un_app, Nat.pow_succ]
    have h1 := ih l.dropLast (fun x hx => ho x (List.dropLast_subset _ hx)) (by simp [hl])
    have h2 := ho _ (List.getLast_mem hne)
    omega
theorem un_be (n : Nat) : ∀ v, v < 256 ^ n → un (be n v) = v := by
  induction n with
  | zero => intro v h; simp at h; subst h; rfl
  | succ n ih =>
    intro v h
    rw [Nat.pow_succ] at h
    rw [be, un_app, ih (v / 256) (by omega)]
    simp only [Int.toNat_natCast]
    omega
theorem Unfix_l0 (s : ByteArray) (at_ n : Nat) (hn : n ≤ 8) (ha : at_ + n ≤ s.size) (hs : s.size ≤ 9223372036854775807) (d : Nat) : ∀ i, i + d = n →
    Ev (fun k => num_Unfix.l0 k s (at_ : Int) ((un (((bytesOf s).drop at_).take i) : Nat) : Int) (n : Int) (i : Int)) (((un (((bytesOf s).drop at_).take n) : Nat) : Int), 0) := by
  have hok : ∀ i, ok8 (((bytesOf s).drop at_).take i) := fun i x hx => ok8_of s x (List.mem_of_mem_drop (List.mem_of_mem_take hx))
  induction d with
  | zero =>
    intro i hi
    obtain rfl : i = n := by omega
    refine Ev.step (fun k => by rw [num_Unfix.l0]) ?_
    exact ev_neg (by omega) (ev_const rfl)
  | succ d ih =>
    intro i hi
    have hb : (bytesOf s).length = s.size := bytesOf_length s
    have hlt : i < ((bytesOf s).drop at_).length := by rw [List.length_drop, hb]; omega
    have hw : wrap64 ((at_ : Int) + (i : Int)) = ((at_ + i : Nat) : Int) := by rw [wrap64_id (by omega)]; omega
    have hbt : bt s ((at_ + i : Nat) : Int) = ((bytesOf s).drop at_)[i] := by
      rw [bt_eq, List.getElem_drop]
      simp [List.getD_eq_getElem?_getD, List.getElem?_eq_getElem (show at_ + i < (bytesOf s).length by omega)]
    have et : ((bytesOf s).drop at_).take (i + 1) = ((bytesOf s).drop at_).take i ++ [((bytesOf s).drop at_)[i]] := by rw [List.take_succ_eq_append_getElem hlt]
    have hc := hok (i + 1) (((bytesOf s).drop at_)[i]) (by rw [et]; simp)
    have hl1 := un_lt i _ (hok i) (by rw [List.length_take]; omega)
    have ih' := ih (i + 1) (by omega)
    rw [et, un_app] at ih'
    generalize ((bytesOf s).drop at_)[i] = c at *
    obtain ⟨c, rfl⟩ := Int.eq_ofNat_of_zero_le hc.1
    generalize un (((bytesOf s).drop at_).take i) = a at *
    have hp : (256 : Nat) ^ i ≤ 256 ^ 7 := Nat.pow_le_pow_right (by decide) (by omega)
    refine Ev.step (fun k => by rw [num_Unfix.l0, hw, hbt]) ?_
    refine ev_pos (by omega) (ev_pos (by omega) (ev_pos (by omega) ?_))
    rw [wu64_id (x := (a : Int) * 256) (by omega), wu64_id (x := (c : Int)) (by omega), wrap64_id (by omega), show ((i : Int) + 1) = ((i + 1 : Nat) : Int) from by omega]
    have e : Go.bits .or .u64 ((a : Int) * 256) (c : Int) = ((a * 256 + c : Nat) : Int) := by
      rw [show ((a : Int) * 256) = ((a * 256 : Nat) : Int) from by omega]
      refine (or_u64 (a * 256) c (by omega) (by omega)).trans ?_
      congr 1
      rw [Nat.mul_comm]
      exact (Nat.two_pow_add_eq_or_of_lt (i := 8) (by omega) a).symm
    rw [e]
    simpa using ih'
theorem Unfix_yes (s : ByteArray) (at_ n : Nat) (h1 : 1 ≤ n) (hn : n ≤ 8) (ha : at_ + n ≤ s.size) (hs : s.size ≤ 9223372036854775807) :
    Ev (fun k => num_Unfix.f k s (at_ : Int) (n : Int)) (((un (((bytesOf s).drop at_).take n) : Nat) : Int), 0) := by
  refine Ev.congr (fun k => by rw [num_Unfix.f]) (ev_neg (by omega) (ev_neg (by omega) ?_))
  rw [decide_eq_false (show ¬ ((at_ : Int) < 0) by omega)]
  refine Ev.step (fun k => by rw [num_Unfix.j0]) ?_
  refine ev_neg (by simp) (ev_neg (by omega) (ev_neg ?_ ?_))
  · rw [wrap64_id (by omega)]; omega
  · have := Unfix_l0 s at_ n hn ha hs n 0 (by omega)
    rw [List.take_zero] at this
    exact this
def rv : List Int → Nat → Nat → Int × List Int × Int
  | [], _, _ => (0, [], 5)
  | c :: t, i, acc => if i = 9 ∧ 1 < c then (0, [], 4) else if 128 ≤ c then rv t (i + 1) (acc + (c.toNat % 128) * 128 ^ i) else if c = 0 ∧ 0 < i then (0, [], 4) else (((acc + c.toNat * 128 ^ i : Nat) : Int), t, 0)
theorem and128 : ∀ m : Fin 256, (m.val &&& 128 = 0) ↔ m.val < 128 := by decide +kernel
theorem pow128 (i : Nat) : (128 : Nat) ^ i = 2 ^ (7 * i) := by rw [Nat.pow_mul]
theorem or_group (acc c i : Nat) (hi : i ≤ 9) (ha : acc < 128 ^ i) (hc : c < 256) (h9 : i = 9 → c ≤ 1) :
    Go.bits .or .u64 (acc : Int) (shl .u64 (IntKind.u64.wrap (Go.bits .and .u8 (c : Int) 127)) (wrap64 (7 * (i : Int)))) = ((acc + (c % 128) * 128 ^ i : Nat) : Int) := by
  have e1 : Go.bits .and .u8 (c : Int) 127 = ((c % 128 : Nat) : Int) := by
    have h := and_u8 c 127 (by omega) (by decide)
    refine h.trans ?_
    rw [show (127 : Nat) = 2 ^ 7 - 1 from rfl, Nat.and_two_pow_sub_one_eq_mod]
  have e2 : wrap64 (7 * (i : Int)) = ((7 * i : Nat) : Int) := by rw [wrap64_id (by omega)]; omega
  have hp : (128 : Nat) ^ i ≤ 2 ^ 63 := by rw [pow128]; exact Nat.pow_le_pow_right (by decide) (by omega)
  have hb : (c % 128) * 128 ^ i + 128 ^ i ≤ 2 ^ 64 := by
    by_cases h : i = 9
    · have h1 := h9 h
      have h2 : (c % 128) * 128 ^ i ≤ 1 * 128 ^ i := Nat.mul_le_mul_right _ (by omega)
      omega
    · have hq : (128 : Nat) ^ i ≤ 2 ^ 56 := by rw [pow128]; exact Nat.pow_le_pow_right (by decide) (by omega)
      have h2 : (c % 128) * 128 ^ i ≤ 127 * 128 ^ i := Nat.mul_le_mul_right _ (by omega)
      omega
  rw [e1, e2, wu64_id (by omega)]
  have e3 : shl .u64 ((c % 128 : Nat) : Int) ((7 * i : Nat) : Int) = (((c % 128) * 128 ^ i : Nat) : Int) := by
    unfold shl
    rw [show min ((7 * i : Nat) : Int).toNat IntKind.u64.bits = 7 * i from by simp [IntKind.bits]; omega, pow128]
    have : ((c % 128 : Nat) : Int) * 2 ^ (7 * i) = (((c % 128) * 2 ^ (7 * i) : Nat) : Int) := by push_cast; rfl
    rw [this]
    rw [pow128] at hb
    have hp2 : 0 < (2 : Nat) ^ (7 * i) := Nat.pow_pos (by decide)
    exact wu64_id ⟨by omega, by omega⟩
  rw [e3]
  have hpos : 0 < (128 : Nat) ^ i := Nat.pow_pos (by decide)
  have h := or_u64 acc ((c % 128) * 128 ^ i) (by omega) (by omega)
  refine h.trans ?_
  congr 1
  rw [Nat.or_comm, Nat.add_comm, Nat.mul_comm, pow128]
  rw [pow128] at ha
  exact (Nat.two_pow_add_eq_or_of_lt ha _).symm
theorem number_l0 (s : ByteArray) (d : Nat) : ∀ (i acc : Nat), i + d = s.size → i ≤ 9 → acc < 128 ^ i →
    Ev (fun k => num_number.l0 k s (acc : Int) (i : Int)) ((rv ((bytesOf s).drop i) i acc).1, strOfNums (rv ((bytesOf s).drop i) i acc).2.1, (rv ((bytesOf s).drop i) i acc).2.2) := by
  induction d with
  | zero =>
    intro i acc hi h9 ha
    refine Ev.step (fun k => by rw [num_number.l0]) ?_
    rw [List.drop_of_length_le (by rw [bytesOf_length]; omega)]
    exact ev_pos (by omega) (ev_const rfl)
  | succ d ih =>
    intro i acc hi h9 ha
    have hlt : i < (bytesOf s).length := by rw [bytesOf_length]; omega
    have hdrop : (bytesOf s).drop i = (bytesOf s)[i] :: (bytesOf s).drop (i + 1) := List.drop_eq_getElem_cons hlt
    have hbt : bt s (i : Int) = (bytesOf s)[i] := by rw [bt_eq]; simp [List.getD_eq_getElem?_getD, List.getElem?_eq_getElem hlt]
    have hc := ok8_of s (bytesOf s)[i] (List.getElem_mem hlt)
    rw [hdrop]
    generalize (bytesOf s)[i] = c at *
    obtain ⟨c, rfl⟩ := Int.eq_ofNat_of_zero_le hc.1
    have e2 : wrap64 (7 * (i : Int)) = ((7 * i : Nat) : Int) := by rw [wrap64_id (by omega)]; omega
    have e4 : wrap64 ((i : Int) + 1) = ((i + 1 : Nat) : Int) := by rw [wrap64_id (by omega)]; omega
    have hj : ¬ (i = 9 ∧ 1 < (c : Int)) → Ev (fun k => num_number.j1 k s (acc : Int) (i : Int) (c : Int) false) ((rv ((c : Int) :: (bytesOf s).drop (i + 1)) i acc).1, strOfNums (rv ((c : Int) :: (bytesOf s).drop (i + 1)) i acc).2.1, (rv ((c : Int) :: (bytesOf s).drop (i + 1)) i acc).2.2) := by
      intro hn
      have hor := or_group acc c i h9 ha (by omega) (by omega)
      have e5 : Go.bits .and .u8 (c : Int) 128 = ((c &&& 128 : Nat) : Int) := and_u8 c 128 (by omega) (by decide)
      have e6 := and128 ⟨c, by omega⟩
      simp only at e6
      refine Ev.step (fun k => by rw [num_number.j1, hor, e5, e4, e2]) ?_
      refine ev_neg (by simp) (ev_pos (by omega) ?_)
      rw [rv, if_neg hn]
      by_cases h128 : 128 ≤ (c : Int)
      · rw [if_pos h128]
        have hne : ¬ ((c &&& 128 : Nat) : Int) = 0 := by
          intro h
          have := e6.1 (by omega)
          omega
        refine ev_neg hne ?_
        have hi9 : i ≠ 9 := by
          intro h
          exact hn ⟨h, by omega⟩
        have := ih (i + 1) (acc + (c % 128) * 128 ^ i) (by omega) (by omega) (by
          rw [Nat.pow_succ]
          have : (c % 128) * 128 ^ i ≤ 127 * 128 ^ i := Nat.mul_le_mul_right _ (by omega)
          omega)
        exact this
      · rw [if_neg h128]
        have h0 : ((c &&& 128 : Nat) : Int) = 0 := by
          have := e6.2 (by omega)
          omega
        refine ev_pos h0 ?_
        have ecm : c % 128 = c := by omega
        have hrest : s.extract ((i + 1 : Nat) : Int).toNat s.size = strOfNums ((bytesOf s).drop (i + 1)) := by
          rw [Int.toNat_natCast]
          apply bytesOf_inj
          rw [bytesOf_extract, of_S (fun x hx => ok8_of s x (List.mem_of_mem_drop hx)), List.take_of_length_le (by rw [bytesOf_length]; omega)]
        by_cases hz : (c : Int) = 0
        · refine ev_pos hz ?_
          by_cases hi0 : 0 < i
          · rw [if_pos (show (c : Int) = 0 ∧ 0 < i from ⟨hz, hi0⟩)]
            exact ev_pos (by omega) (ev_const rfl)
          · rw [if_neg (show ¬ ((c : Int) = 0 ∧ 0 < i) from by omega)]
            refine ev_neg (by omega) (ev_pos (by omega) (ev_pos (by omega) (ev_const ?_)))
            rw [hrest, ecm, Int.toNat_natCast]
        · rw [if_neg (show ¬ ((c : Int) = 0 ∧ 0 < i) from by omega)]
          refine ev_neg hz (ev_pos (by omega) (ev_pos (by omega) (ev_const ?_)))
          rw [hrest, ecm, Int.toNat_natCast]
    refine Ev.step (fun k => by rw [num_number.l0, hbt]) ?_
    refine ev_neg (by omega) (ev_pos (by omega) (ev_pos (by omega) ?_))
    by_cases h9' : i = 9
    · refine ev_pos (by omega) ?_
      by_cases h1 : 1 < (c : Int)
      · rw [rv, if_pos ⟨h9', h1⟩]
        refine Ev.step (fun k => by rw [num_number.j1]) ?_
        exact ev_pos (decide_eq_true (by omega)) (ev_const rfl)
      · rw [show decide ((c : Int) > 1) = false from decide_eq_false (by omega)]
        exact hj (by omega)
    · exact ev_neg (by omega) (hj (by omega))
theorem number_ev (s : ByteArray) :
    Ev (fun k => num_number.f k s) ((rv (bytesOf s) 0 0).1, strOfNums (rv (bytesOf s) 0 0).2.1, (rv (bytesOf s) 0 0).2.2) := by
  have := number_l0 s s.size 0 0 (by omega) (by omega) (by decide)
  simpa [num_number.f] using this
theorem rv_nonneg : ∀ l i acc, 0 ≤ (rv l i acc).1
  | [], _, _ => by simp [rv]
  | c :: t, i, acc => by
    rw [rv]
    split
    · simp
    · split
      · exact rv_nonneg t _ _
      · split
        · simp
        · exact Int.natCast_nonneg _
def rVar (b : List Int) (e : Int) : Int × List Int × Int := if e = 0 then (if (rv b 0 0).2.2 = 0 then ((rv b 0 0).1, (rv b 0 0).2.1, 0) else (0, b, (rv b 0 0).2.2)) else (0, b, e)
theorem rVar_nonneg (b : List Int) (e : Int) : 0 ≤ (rVar b e).1 := by
  unfold rVar
  split
  · split
    · exact rv_nonneg _ _ _
    · simp
  · simp
theorem off_eq (s : ByteArray) (e : Int) : num_Reader_off.f s e = some ((e != 0), s, e) := rfl
theorem Var_ev {b : List Int} (hb : ok8 b) (e : Int) : Ev (fun k => num_Reader_Var.f k (strOfNums b) e) ((rVar b e).1, strOfNums (rVar b e).2.1, (rVar b e).2.2) := by
  refine Ev.congr (fun k => by rw [num_Reader_Var.f]) (ev_call (off_eq _ _) ?_)
  unfold rVar
  by_cases he : e = 0
  · subst he
    refine ev_neg (show ¬ ((0 : Int) != 0) = true from by decide) ?_
    have hn := number_ev (strOfNums b)
    rw [of_S hb] at hn
    refine Ev.bind hn ?_
    by_cases h : (rv b 0 0).2.2 = 0
    · refine ev_pos h (ev_const ?_)
      rw [if_pos rfl, if_pos h]
    · refine ev_neg h (ev_const ?_)
      rw [if_pos rfl, if_neg h]
  · refine ev_pos (show (e != 0) = true from by rw [bne_iff_ne]; exact he) (ev_const ?_)
    rw [if_neg he]
def rCount (b : List Int) (e most : Int) : Int × List Int × Int := if (rVar b e).2.2 = 0 then (if most < 0 ∨ most < (rVar b e).1 then (0, (rVar b e).2.1, 2) else ((rVar b e).1, (rVar b e).2.1, 0)) else (0, (rVar b e).2.1, (rVar b e).2.2)
theorem rCount_range (b : List Int) (e most : Int) (hm : most ≤ 9223372036854775807) : 0 ≤ (rCount b e most).1 ∧ (rCount b e most).1 ≤ 9223372036854775807 := by
  have := rVar_nonneg b e
  unfold rCount
  split
  · split
    · simp
    · simp only; omega
  · simp
theorem Count_ev {b : List Int} (hb : ok8 b) (e most : Int) (hm : -9223372036854775808 ≤ most ∧ most ≤ 9223372036854775807) : Ev (fun k => num_Reader_Count.f k (strOfNums b) e most) ((rCount b e most).1, strOfNums (rCount b e most).2.1, (rCount b e most).2.2) := by
  refine Ev.congr (fun k => by rw [num_Reader_Count.f]) (Ev.bind (Var_ev hb e) (ev_call (off_eq _ _) ?_))
  have hnn := rVar_nonneg b e
  unfold rCount
  by_cases h : (rVar b e).2.2 = 0
  · rw [if_pos h]
    refine ev_neg (by simp [h]) ?_
    by_cases h0 : most < 0
    · rw [if_pos (Or.inl h0)]
      exact ev_pos h0 (ev_const rfl)
    · refine ev_neg h0 ?_
      rw [wu64_id (by omega)]
      by_cases h1 : most < (rVar b e).1
      · rw [if_pos (Or.inr h1)]
        exact ev_pos h1 (ev_const rfl)
      · rw [if_neg (show ¬ (most < 0 ∨ most < (rVar b e).1) from by omega)]
        refine ev_neg h1 (ev_const ?_)
        rw [wrap64_id (by omega), h]
  · rw [if_neg h]
    exact ev_pos (by rw [bne_iff_ne]; exact h) (ev_const rfl)
def rTake (b : List Int) (e n : Int) : List Int × List Int × Int := if e = 0 then (if (b.length : Int) < n then ([], b, 5) else (b.take n.toNat, b.drop n.toNat, 0)) else ([], b, e)
theorem take_eq {b : List Int} (e n : Int) (hn : 0 ≤ n) : num_Reader_take.f (strOfNums b) e n = some (strOfNums (rTake b e n).1, strOfNums (rTake b e n).2.1, (rTake b e n).2.2) := by
  unfold num_Reader_take.f rTake
  rw [off_eq]
  simp only [Option.bind_some, S_size]
  by_cases he : e = 0
  · subst he
    rw [if_neg (show ¬ ((0 : Int) != 0) = true from by decide), if_pos rfl]
    by_cases h : n > (b.length : Int)
    · rw [if_pos h, if_pos h]; rfl
    · rw [if_neg h, if_neg h, if_pos hn, if_pos (by omega), S_extract, S_extract]
      simp
  · rw [if_pos (show (e != 0) = true from by rw [bne_iff_ne]; exact he), if_neg he]; rfl
def rText (b : List Int) (e most : Int) : List Int × List Int × Int := rTake (rCount b e most).2.1 (rCount b e most).2.2 (rCount b e most).1
theorem Text_ev {b : List Int} (hb : ok8 b) (e most : Int) (hm : -9223372036854775808 ≤ most ∧ most ≤ 9223372036854775807) : Ev (fun k => num_Reader_Text.f k (strOfNums b) e most) (strOfNums (rText b e most).1, strOfNums (rText b e most).2.1, (rText b e most).2.2) := by
  refine Ev.congr (fun k => by rw [num_Reader_Text.f]) (Ev.bind (Count_ev hb e most hm) ?_)
  exact ev_call (take_eq _ _ (rCount_range b e most hm.2).1) (ev_const rfl)
theorem Err_eq (s : ByteArray) (e : Int) : num_Reader_Err.f s e = some (e, s, e) := rfl
theorem Left_eq (s : ByteArray) (e : Int) : num_Reader_Left.f s e = some ((s.size : Int), s, e) := rfl
theorem New_eq (s : ByteArray) (h : s.size ≤ 281474976710656) : num_NewReader.f s = some (s, 0) := by
  unfold num_NewReader.f strings_Clone.f stringslite_Clone.f
  rw [if_pos h]
  rfl
theorem rv_vb (rest : List Int) (n : Nat) : ∀ (i acc : Nat), acc + n * 128 ^ i < 18446744073709551616 → i ≤ 9 → (0 < i → 0 < n) → rv (vb n ++ rest) i acc = (((acc + n * 128 ^ i : Nat) : Int), rest, 0) := by
  induction n using Nat.strongRecOn with
  | _ n ih =>
    intro i acc hb hi h0
    have h9 : i = 9 → n ≤ 1 := by
      intro h
      subst h
      have : (128 : Nat) ^ 9 = 9223372036854775808 := by decide
      rw [this] at hb
      omega
    by_cases hn : n < 128
    · rw [vb_low hn]
      simp only [List.cons_append, List.nil_append, rv]
      rw [if_neg (show ¬ (i = 9 ∧ 1 < (n : Int)) from by omega), if_neg (by omega), if_neg (show ¬ ((n : Int) = 0 ∧ 0 < i) from by omega), Int.toNat_natCast]
    · rw [vb_high hn]
      simp only [List.cons_append, rv]
      rw [if_neg (show ¬ (i = 9 ∧ 1 < ((n % 128 + 128 : Nat) : Int)) from by omega), if_pos (by omega), Int.toNat_natCast, show (n % 128 + 128) % 128 = n % 128 from by omega]
      have e : acc + n % 128 * 128 ^ i + n / 128 * 128 ^ (i + 1) = acc + n * 128 ^ i := by
        rw [Nat.pow_succ, Nat.mul_comm (128 ^ i) 128, ← Nat.mul_assoc, Nat.add_assoc, ← Nat.add_mul]
        congr 2
        omega
      rw [ih (n / 128) (by omega) (i + 1) _ (by rw [e]; exact hb) (by omega) (by omega), e]
theorem rVar_vb {n : Nat} (h : n < 18446744073709551616) (rest : List Int) : rVar (vb n ++ rest) 0 = ((n : Int), rest, 0) := by
  have := rv_vb rest n 0 0 (by simpa using h) (by omega) (by omega)
  unfold rVar
  rw [this]
  simp
theorem rText_tx {s : ByteArray} {most : Int} (h : (s.size : Int) ≤ most) (hm : most ≤ 9223372036854775807) (rest : List Int) : rText ((vb s.size ++ bytesOf s) ++ rest) 0 most = (bytesOf s, rest, 0) := by
  unfold rText rCount
  rw [List.append_assoc, rVar_vb (by omega)]
  simp only
  rw [if_pos trivial, if_neg (by omega)]
  unfold rTake
  have hl : (bytesOf s).length = s.size := bytesOf_length s
  simp only
  rw [if_pos trivial, if_neg (by simp [hl]; omega), Int.toNat_natCast, List.take_left' hl, List.drop_left' hl]
end Go.Proofs.Ytchgpcgolgcfdaa.PuVr
end
section
namespace Go.Proofs.Ytchgpcgolgcfdaa.PuBk
open Go Go.RowKit Go.Proofs.Ytchgpcgolgcfdaa.PNum Go.Proofs.Ytchgpcgolgcfdaa.PuVt Go.Proofs.Ytchgpcgolgcfdaa.PuVr Go.Proofs.YtchgpcgolgcfdaaW.PrintWords Go.Proofs.YtchgpcgolgcfdaaW.PrintLast Go.Proofs.YtchgpcgolgcfdaaW.PrintMore Go.Proofs.YtchgpcgolgcfdaaW.Pu Go.Proofs.Ytchgpcgolgcfdaa.Bl2
def sh : List Int → List Int → Nat
  | a :: x, b :: y => if a = b then sh x y + 1 else 0
  | _, _ => 0
theorem sh_nl (y : List Int) : sh [] y = 0 := by cases y <;> rfl
theorem sh_nil (x : List Int) : sh x [] = 0 := by cases x <;> rfl
theorem sh_eq {a b : Int} (h : a = b) (x y : List Int) : sh (a :: x) (b :: y) = sh x y + 1 := by rw [sh, if_pos h]
theorem sh_ne {a b : Int} (h : a ≠ b) (x y : List Int) : sh (a :: x) (b :: y) = 0 := by rw [sh, if_neg h]
theorem sh_le (x : List Int) : ∀ y, sh x y ≤ x.length ∧ sh x y ≤ y.length := by
  induction x with
  | nil => intro y; rw [sh_nl]; exact ⟨Nat.zero_le _, Nat.zero_le _⟩
  | cons a x ih =>
    intro y
    cases y with
    | nil => rw [sh_nil]; exact ⟨Nat.zero_le _, Nat.zero_le _⟩
    | cons b y =>
      by_cases h : a = b
      · rw [sh_eq h, List.length_cons, List.length_cons]
        have := ih y
        omega
      · rw [sh_ne h]; exact ⟨Nat.zero_le _, Nat.zero_le _⟩
theorem sh_take (x : List Int) : ∀ y, x.take (sh x y) = y.take (sh x y) := by
  induction x with
  | nil => intro y; rw [sh_nl, List.take_zero, List.take_zero]
  | cons a x ih =>
    intro y
    cases y with
    | nil => rw [sh_nil, List.take_zero, List.take_zero]
    | cons b y =>
      by_cases h : a = b
      · rw [sh_eq h, List.take_succ_cons, List.take_succ_cons, h, ih y]
      · rw [sh_ne h, List.take_zero, List.take_zero]
theorem sh_self (x : List Int) : sh x x = x.length := by
  induction x with
  | nil => rfl
  | cons a x ih => rw [sh_eq rfl, ih, List.length_cons]
theorem Shared_l0 (a b : ByteArray) (ha : a.size ≤ 9223372036854775806) (d : Nat) : ∀ i, i + d = a.size → i ≤ b.size →
    Ev (fun k => block_Shared.l0 k a b (i : Int)) (((i + sh ((bytesOf a).drop i) ((bytesOf b).drop i) : Nat)) : Int) := by
  have la : (bytesOf a).length = a.size := bytesOf_length a
  have lb : (bytesOf b).length = b.size := bytesOf_length b
  induction d with
  | zero =>
    intro i hi hb
    have h1 : (bytesOf a).drop i = [] := List.drop_eq_nil_of_le (by omega)
    rw [h1, sh_nl, Nat.add_zero]
    exact Ev.step (fun k => by rw [block_Shared.l0]) (ev_neg (by omega) (ev_const rfl))
  | succ d ih =>
    intro i hi hb
    by_cases hbi : i < b.size
    · have hw : wrap64 ((i : Int) + 1) = ((i + 1 : Nat) : Int) := by rw [wrap64_id (by omega)]; omega
      have c1 : (i : Int) < (a.size : Int) := by omega
      have c2 : (i : Int) < (b.size : Int) := by omega
      have c3 : (0 : Int) ≤ (i : Int) := by omega
      have h := ih (i + 1) (by omega) (by omega)
      have ea : (bytesOf a).drop i = (bytesOf a)[i]'(by omega) :: (bytesOf a).drop (i + 1) := List.drop_eq_getElem_cons (by omega)
      have eb : (bytesOf b).drop i = (bytesOf b)[i]'(by omega) :: (bytesOf b).drop (i + 1) := List.drop_eq_getElem_cons (by omega)
      have ba : bt a (i : Int) = (bytesOf a)[i]'(by omega) := by rw [bt_eq]; simp [la, show i < a.size by omega]
      have bb : bt b (i : Int) = (bytesOf b)[i]'(by omega) := by rw [bt_eq]; simp [lb, hbi]
      refine Ev.step (fun k => by rw [block_Shared.l0, hw]) (ev_pos c1 (ev_pos c2 (ev_pos c3 ?_)))
      rw [ea, eb]
      by_cases hq : (bytesOf a)[i]'(by omega) = (bytesOf b)[i]'(by omega)
      · refine ev_pos (by rw [ba, bb, hq]) ?_
        rw [sh_eq hq, show i + (sh ((bytesOf a).drop (i + 1)) ((bytesOf b).drop (i + 1)) + 1) = i + 1 + sh ((bytesOf a).drop (i + 1)) ((bytesOf b).drop (i + 1)) from by rw [Nat.add_comm (sh _ _) 1, Nat.add_assoc]]
        exact h
      · refine ev_neg (by rw [ba, bb]; exact hq) (ev_const ?_)
        rw [sh_ne hq, Nat.add_zero]
    · have h1 : (bytesOf b).drop i = [] := List.drop_eq_nil_of_le (by omega)
      rw [h1, sh_nil]
      exact Ev.step (fun k => by rw [block_Shared.l0]) (ev_pos (by omega) (ev_neg (by omega) (ev_const (by rw [Nat.add_zero]))))
theorem Shared_ev (a b : ByteArray) (ha : a.size ≤ 9223372036854775806) : Ev (fun k => block_Shared.f k a b) ((sh (bytesOf a) (bytesOf b) : Nat) : Int) := by
  have h := Shared_l0 a b ha a.size 0 (Nat.zero_add _) (Nat.zero_le _)
  rw [List.drop_zero, List.drop_zero, Nat.zero_add] at h
  exact h
theorem four_ev (n : Nat) (h : n < 4294967296) : Ev (fun k => block_four.f k (n : Int)) (strOfNums (be 4 n)) := by
  unfold block_four.f
  have hm : ((n : Int)) % 4294967296 = (n : Int) := Int.emod_eq_of_lt (by omega) (by omega)
  rw [hm]
  exact Ev.bind (Fix_yes (v := n) (n := 4) (by omega) (by omega) (Or.inr (by omega))) (ev_const rfl)
def pc (e : E) (n : Nat) : List Int := vb n ++ ((vb (e.f0.size - n) ++ (bytesOf e.f0).drop n) ++ ((vb e.f1.toNat ++ vb e.f2.toNat) ++ (vb e.f3.size ++ bytesOf e.f3)))
structure Ok (e : E) : Prop where
  key : e.f0.size ≤ 300
  seq : 0 ≤ e.f1 ∧ e.f1 ≤ 18446744073709551615
  kind : e.f2 = 1 ∨ e.f2 = 2
  val : e.f3.size ≤ 60000
theorem pc_len {e : E} (h : Ok e) {n : Nat} (hn : n ≤ e.f0.size) : (pc e n).length ≤ 60400 := by
  have h1 := vb_len10 (n := n) (by have := h.key; omega)
  have h2 := vb_len10 (n := e.f0.size - n) (by have := h.key; omega)
  have h3 := vb_len10 (n := e.f1.toNat) (by have := h.seq; omega)
  have h4 := vb_len10 (n := e.f2.toNat) (by rcases h.kind with h | h <;> rw [h] <;> decide)
  have h5 := vb_len10 (n := e.f3.size) (by have := h.val; omega)
  have h6 := h.key
  have h7 := h.val
  have h8 : (bytesOf e.f0).length = e.f0.size := bytesOf_length _
  have h9 : (bytesOf e.f3).length = e.f3.size := bytesOf_length _
  unfold pc
  simp only [List.length_append, List.length_drop]
  omega
theorem pc_ok (e : E) (n : Nat) : ok8 (pc e n) := ok8_append (vb_ok _) (ok8_append (ok8_append (vb_ok _) (fun x hx => ok8_of e.f0 x (List.mem_of_mem_drop hx))) (ok8_append (ok8_append (vb_ok _) (vb_ok _)) (ok8_append (vb_ok _) (ok8_of _))))
theorem piece_ev {e : E} (h : Ok e) {n : Nat} (hn : n ≤ e.f0.size) : Ev (fun k => piece k e (n : Int)) (strOfNums (pc e n)) := by
  have hk := h.key
  have hs := h.seq
  have hv := h.val
  have h2 : 0 ≤ e.f2 ∧ e.f2 ≤ 2 := by rcases h.kind with q | q <;> rw [q] <;> decide
  have hw : IntKind.u64.wrap e.f2 = e.f2 := wu64_id (by omega)
  have hx : (e.f0.extract (n : Int).toNat e.f0.size).size = e.f0.size - n := by simp
  have hb : bytesOf (e.f0.extract (n : Int).toNat e.f0.size) = (bytesOf e.f0).drop n := by
    rw [bytesOf_extract, List.take_of_length_le (by rw [bytesOf_length]; omega)]
    rfl
  have h8 : (bytesOf e.f0).length = e.f0.size := bytesOf_length _
  have h9 : (bytesOf e.f3).length = e.f3.size := bytesOf_length _
  have v1 := Go.Proofs.Ytchgpcgolgcfdaa.PuVt.Var_ev (l := [(n : Int)]) (by intro x hx; simp at hx; omega) (by simp)
  have v2 := Go.Proofs.Ytchgpcgolgcfdaa.PuVt.Text_ev [e.f0.extract (n : Int).toNat e.f0.size] (by simp [room]; omega)
  have v3 := Go.Proofs.Ytchgpcgolgcfdaa.PuVt.Var_ev (l := [e.f1, e.f2]) (by intro x hx; simp at hx; rcases hx with rfl | rfl <;> omega) (by simp)
  have v4 := Go.Proofs.Ytchgpcgolgcfdaa.PuVt.Text_ev [e.f3] (by simp [room]; omega)
  have w1 : vbs [(n : Int)] = vb n := by simp [vbs]
  have w2 : tx [e.f0.extract (n : Int).toNat e.f0.size] = vb (e.f0.size - n) ++ (bytesOf e.f0).drop n := by simp only [tx, List.flatMap_cons, List.flatMap_nil, List.append_nil]; rw [hx, hb]
  have w3 : vbs [e.f1, e.f2] = vb e.f1.toNat ++ vb e.f2.toNat := by simp [vbs]
  have w4 : tx [e.f3] = vb e.f3.size ++ bytesOf e.f3 := by simp [tx]
  rw [w1] at v1
  rw [w2] at v2
  rw [w3] at v3
  rw [w4] at v4
  have hl := pc_len h hn
  unfold piece
  rw [hw]
  refine Ev.bind v1 (Ev.bind v2 (Ev.bind v3 (Ev.bind v4 (ev_pos ?_ (ev_const ?_)))))
  · simp only [S_size]
    unfold pc at hl
    simp only [List.length_append] at hl ⊢
    unfold lim
    omega
  · rw [S_append, S_append, S_append]
    unfold pc
    simp only [List.append_assoc]
end Go.Proofs.Ytchgpcgolgcfdaa.PuBk
end
section
namespace Go.Proofs.Ytchgpcgolgcfdaa.PuBk
open Go Go.RowKit Go.Proofs.Ytchgpcgolgcfdaa.PNum Go.Proofs.Ytchgpcgolgcfdaa.PuVt Go.Proofs.Ytchgpcgolgcfdaa.PuVr Go.Proofs.YtchgpcgolgcfdaaW.PrintWords Go.Proofs.YtchgpcgolgcfdaaW.PrintLast Go.Proofs.YtchgpcgolgcfdaaW.PrintMore Go.Proofs.YtchgpcgolgcfdaaW.Pu Go.Proofs.Ytchgpcgolgcfdaa.Bl2
def hd (i : Nat) (p : ByteArray) (e : E) : Nat := if i % 4 = 0 then 0 else sh (bytesOf p) (bytesOf e.f0)
def layB : Nat → ByteArray → List E → List Int
  | _, _, [] => []
  | i, p, e :: l => pc e (hd i p e) ++ layB (i + 1) e.f0 l
theorem hd_le (i : Nat) (p : ByteArray) (e : E) : hd i p e ≤ p.size ∧ hd i p e ≤ e.f0.size := by
  have := sh_le (bytesOf p) (bytesOf e.f0)
  rw [bytesOf_length, bytesOf_length] at this
  unfold hd
  split <;> omega
theorem hd_take (i : Nat) (p : ByteArray) (e : E) : (bytesOf p).take (hd i p e) = (bytesOf e.f0).take (hd i p e) := by
  unfold hd
  split
  · rw [List.take_zero, List.take_zero]
  · exact sh_take _ _
theorem layB_ok : ∀ (l : List E) i p, ok8 (layB i p l)
  | [], _, _ => ok8_nil
  | e :: l, i, p => ok8_append (pc_ok e _) (layB_ok l (i + 1) e.f0)
theorem layB_len : ∀ (l : List E) i p, (∀ e ∈ l, Ok e) → (layB i p l).length ≤ l.length * 60400
  | [], _, _, _ => by simp [layB]
  | e :: l, i, p, h => by
    have h1 := pc_len (h e List.mem_cons_self) (hd_le i p e).2
    have h2 := layB_len l (i + 1) e.f0 (fun x hx => h x (List.mem_cons_of_mem _ hx))
    rw [layB, List.length_append, List.length_cons]
    omega
theorem at_nat (l : List E) (i : Nat) (h : i < l.length) : rdE l (i : Int) = l[i] := by
  simp [rdE, rd_T29, h]
theorem app_nil (b : ByteArray) : b ++ strOfNums [] = b := by
  have h := S_append (bytesOf b) []
  rw [List.append_nil, S_of] at h
  exact h
theorem app_S (b : ByteArray) (x y : List Int) : (b ++ strOfNums x) ++ strOfNums y = b ++ strOfNums (x ++ y) := by
  have h1 := S_append (bytesOf b) x
  have h2 := S_append (bytesOf b ++ x) y
  have h3 := S_append (bytesOf b) (x ++ y)
  rw [S_of] at h1 h3
  rw [h1, h3, h2, List.append_assoc]
theorem ahead_ev (l : List E) (hl : ∀ e ∈ l, Ok e) (i : Nat) (hi : i < l.length) (h400 : l.length ≤ 400) (p b r : ByteArray) (hp : 0 < i → p = (rdE l ((i : Int) - 1)).f0) (hps : p.size ≤ 300) (hb : b.size ≤ i * 60400) (hr : r.size = 4 * ((i + 3) / 4)) :
    ∃ r' : ByteArray, r'.size = 4 * ((i + 1 + 3) / 4) ∧ Ev (fun k => Go.Proofs.Ytchgpcgolgcfdaa.Bl2.ahead k l i b r) (((hd i p l[i] : Nat) : Int), r') := by
  have he := at_nat l i hi
  by_cases h4 : i % 4 = 0
  · have hx : (strOfNums (be 4 b.size)).size = 4 := by rw [S_size, be_len]
    refine ⟨r ++ strOfNums (be 4 b.size), ?_, ?_⟩
    · rw [ByteArray.size_append, hx, hr]
      omega
    · unfold Go.Proofs.Ytchgpcgolgcfdaa.Bl2.ahead hd
      simp only [if_pos h4]
      refine Ev.bind (four_ev b.size (by omega)) (ev_pos ?_ (ev_const rfl))
      rw [hx, hr]
      unfold lim
      omega
  · refine ⟨r, by omega, ?_⟩
    have hpe := hp (by omega)
    have hsh := hd_le i p l[i]
    have hd1 : hd i p l[i] = sh (bytesOf p) (bytesOf l[i].f0) := by unfold hd; rw [if_neg h4]
    unfold Go.Proofs.Ytchgpcgolgcfdaa.Bl2.ahead
    simp only [if_neg h4]
    rw [he, ← hpe, hd1]
    rw [hd1] at hsh
    refine Ev.bind (Shared_ev p l[i].f0 (by omega)) (ev_pos ⟨⟨by omega, by omega⟩, ?_⟩ (ev_const rfl))
    unfold lim
    omega
theorem go_ev (l : List E) (hl : ∀ e ∈ l, Ok e) (h400 : l.length ≤ 400) (n : Nat) : ∀ i p b r, i + n = l.length → (0 < i → p = (rdE l ((i : Int) - 1)).f0) → p.size ≤ 300 → b.size ≤ i * 60400 → r.size = 4 * ((i + 3) / 4) →
    ∃ r' : ByteArray, r'.size = 4 * ((l.length + 3) / 4) ∧ Ev (fun k => go k l n i b r) (b ++ strOfNums (layB i p (l.drop i)), r') := by
  induction n with
  | zero =>
    intro i p b r hi hp hps hb hr
    obtain rfl : i = l.length := by omega
    refine ⟨r, hr, ?_⟩
    rw [List.drop_length, layB, app_nil]
    exact ev_const rfl
  | succ n ih =>
    intro i p b r hi hp hps hb hr
    have hlt : i < l.length := by omega
    have he := at_nat l i hlt
    have hok := hl _ (List.getElem_mem hlt)
    obtain ⟨r1, hr1, ha⟩ := ahead_ev l hl i hlt h400 p b r hp hps hb hr
    have hd2 := hd_le i p l[i]
    have hpl := pc_len hok hd2.2
    have hps2 : (strOfNums (pc l[i] (hd i p l[i]))).size = (pc l[i] (hd i p l[i])).length := S_size _
    obtain ⟨r2, hr2, hg⟩ := ih (i + 1) l[i].f0 (b ++ strOfNums (pc l[i] (hd i p l[i]))) r1 (by omega) (fun _ => by rw [show (((i + 1 : Nat) : Int) - 1) = (i : Int) by omega, he]) hok.key (by rw [ByteArray.size_append, hps2]; omega) hr1
    refine ⟨r2, hr2, ?_⟩
    rw [List.drop_eq_getElem_cons hlt, layB, ← app_S]
    show Ev (fun k => (Go.Proofs.Ytchgpcgolgcfdaa.Bl2.ahead k l i b r).bind fun x => (piece k (rdE l (i : Int)) x.1).bind fun p => if b.size + p.size ≤ lim then go k l n (i + 1) (b ++ p) x.2 else none) _
    rw [he]
    refine Ev.bind ha (Ev.bind (piece_ev hok hd2.2) (ev_pos ?_ hg))
    rw [hps2]
    unfold lim
    omega
theorem rCount_vb {n : Nat} {m : Int} (h : (n : Int) ≤ m) (hm : m ≤ 9223372036854775807) (rest : List Int) : rCount (vb n ++ rest) 0 m = ((n : Int), rest, 0) := by
  unfold rCount
  rw [rVar_vb (by omega)]
  simp only
  rw [if_pos trivial, if_neg (by omega)]
theorem vers_ev (l : List E) : ∀ i p acc, (∀ e ∈ l, Ok e) → p.size ≤ 300 → acc.length + l.length ≤ 400 → Ev (fun k => block_versions.l0 k acc p (strOfNums (layB i p l)) 0) (acc ++ l, true) := by
  induction l with
  | nil =>
    intro i p acc _ _ _
    rw [layB, List.append_nil]
    refine Ev.step (fun k => by rw [block_versions.l0, Left_eq, Option.bind_some]) (ev_neg ?_ (ev_const rfl))
    rw [S_size]
    simp
  | cons e l ih =>
    intro i p acc hok hp hlen
    have ho := hok e List.mem_cons_self
    obtain ⟨hn1, hn2⟩ := hd_le i p e
    have htk := hd_take i p e
    have hrest := layB_ok l (i + 1) e.f0
    rw [layB]
    generalize hd i p e = n at *
    generalize hX : layB (i + 1) e.f0 l = X at *
    have hk := ho.key
    have hs := ho.seq
    have hv := ho.val
    rw [List.length_cons] at hlen
    have h2 : 0 ≤ e.f2 ∧ e.f2 ≤ 2 := by rcases ho.kind with q | q <;> rw [q] <;> decide
    have o4 : ok8 ((vb e.f3.size ++ bytesOf e.f3) ++ X) := ok8_append (ok8_append (vb_ok _) (ok8_of _)) hrest
    have o3 : ok8 (vb e.f2.toNat ++ ((vb e.f3.size ++ bytesOf e.f3) ++ X)) := ok8_append (vb_ok _) o4
    have o2 : ok8 (vb e.f1.toNat ++ (vb e.f2.toNat ++ ((vb e.f3.size ++ bytesOf e.f3) ++ X))) := ok8_append (vb_ok _) o3
    have od : ok8 (vb (e.f0.size - n) ++ (bytesOf e.f0).drop n) := ok8_append (vb_ok _) (fun x hx => ok8_of e.f0 x (List.mem_of_mem_drop hx))
    have o1 := ok8_append od o2
    have o0 := ok8_append (vb_ok n) o1
    have hall : pc e n ++ X = vb n ++ ((vb (e.f0.size - n) ++ (bytesOf e.f0).drop n) ++ (vb e.f1.toNat ++ (vb e.f2.toNat ++ ((vb e.f3.size ++ bytesOf e.f3) ++ X)))) := by
      unfold pc
      simp only [List.append_assoc]
    rw [hall]
    have hb : bytesOf (e.f0.extract n e.f0.size) = (bytesOf e.f0).drop n := by
      rw [bytesOf_extract, List.take_of_length_le (by rw [bytesOf_length]; omega)]
    have hbs : (e.f0.extract n e.f0.size).size = e.f0.size - n := by simp
    have c1 := Count_ev o0 0 (p.size : Int) (by omega)
    rw [rCount_vb (by omega) (by omega)] at c1
    have c2 := Go.Proofs.Ytchgpcgolgcfdaa.PuVr.Text_ev o1 0 300 (by omega)
    have t2 := rText_tx (s := e.f0.extract n e.f0.size) (most := 300) (by omega) (by omega) (vb e.f1.toNat ++ (vb e.f2.toNat ++ ((vb e.f3.size ++ bytesOf e.f3) ++ X)))
    rw [hbs, hb] at t2
    rw [t2] at c2
    have c3 := Go.Proofs.Ytchgpcgolgcfdaa.PuVr.Var_ev o2 0
    rw [rVar_vb (by omega)] at c3
    have c4 := Go.Proofs.Ytchgpcgolgcfdaa.PuVr.Var_ev o3 0
    rw [rVar_vb (by omega)] at c4
    have c5 := Go.Proofs.Ytchgpcgolgcfdaa.PuVr.Text_ev o4 0 60000 (by omega)
    rw [rText_tx (by omega) (by omega)] at c5
    have z1 : ((e.f1.toNat : Nat) : Int) = e.f1 := Int.toNat_of_nonneg hs.1
    have z2 : ((e.f2.toNat : Nat) : Int) = e.f2 := Int.toNat_of_nonneg h2.1
    rw [z1] at c3
    rw [z2] at c4
    rw [S_of] at c5
    have hkey : p.extract 0 n ++ strOfNums ((bytesOf e.f0).drop n) = e.f0 := by
      have q : p.extract 0 n = strOfNums ((bytesOf e.f0).take n) := by
        rw [← htk, ← S_of (p.extract 0 n), bytesOf_extract, List.drop_zero]
      rw [q, S_append, List.take_append_drop, S_of]
    have hgo := ih (i + 1) e.f0 (acc ++ [e]) (fun x hx => hok x (List.mem_cons_of_mem _ hx)) hk (by simp; omega)
    rw [hX, List.append_assoc, List.singleton_append] at hgo
    have hj : ∀ y, Ev (fun k => block_versions.j1 k acc p (n : Int) (strOfNums ((bytesOf e.f0).drop n)) (strOfNums ((vb e.f3.size ++ bytesOf e.f3) ++ X)) 0 y e.f1 (wrap64 e.f2) ⟨#[]⟩) (acc ++ e :: l, true) := by
      intro y
      have hcl : strings_Clone.f e.f3 = some e.f3 := by
        unfold strings_Clone.f stringslite_Clone.f
        rw [if_pos (by omega)]
        rfl
      have hq1 : (p.extract 0 n).size ≤ p.size := by rw [ByteArray.size_extract]; omega
      have hq2 : (strOfNums ((bytesOf e.f0).drop n)).size ≤ e.f0.size := by rw [S_size, List.length_drop, bytesOf_length]; omega
      have hq : (p.extract 0 ((n : Int)).toNat).size + (strOfNums ((bytesOf e.f0).drop n)).size ≤ 9223372036854775807 := by rw [Int.toNat_natCast]; omega
      have hw : wrap64 e.f2 = e.f2 := wrap64_id (by omega)
      have g1 : (0 : Int) ≤ (n : Int) := by omega
      have g2 : (n : Int) ≤ (p.size : Int) := by omega
      have g3 : acc.length < 2932031007402 := by omega
      have c6 : Ev (fun k => num_Reader_Text.f k (strOfNums ((vb e.f3.size ++ bytesOf e.f3) ++ X)) 0 60000) (e.f3, strOfNums X, 0) := c5
      have hend : Ev (fun k => if 0 ≤ (n : Int) then (if (n : Int) ≤ (p.size : Int) then (if (p.extract 0 ((n : Int)).toNat).size + (strOfNums ((bytesOf e.f0).drop n)).size ≤ 9223372036854775807 then (if acc.length < 2932031007402 then block_versions.l0 k (acc ++ [(⟨p.extract 0 ((n : Int)).toNat ++ strOfNums ((bytesOf e.f0).drop n), e.f1, wrap64 e.f2, e.f3⟩ : E)]) (p.extract 0 ((n : Int)).toNat ++ strOfNums ((bytesOf e.f0).drop n)) (strOfNums X) 0 else none) else none) else none) else none) (acc ++ e :: l, true) := by
        refine ev_pos g1 (ev_pos g2 (ev_pos hq (ev_pos g3 ?_)))
        rw [Int.toNat_natCast, hkey, hw]
        exact hgo
      refine Ev.step (fun k => by rw [block_versions.j1]) (Ev.bind c6 (ev_call hcl (ev_call (Err_eq _ _) (ev_pos rfl ?_))))
      exact hend
    refine Ev.step (fun k => by rw [block_versions.l0, Left_eq, Option.bind_some]) (ev_pos ?_ (Ev.bind c1 (Ev.bind c2 (Ev.bind c3 (Ev.bind c4 (ev_pos h2.2 (hj _)))))))
    rw [S_size, List.length_append]
    have := vb_pos n
    omega
end Go.Proofs.Ytchgpcgolgcfdaa.PuBk
end
section
namespace Go.Proofs.Ytchgpcgolgcfdaa.PuCrc
open Go Go.RowKit Go.Proofs.Ytchgpcgolgcfdaa.PNum Go.Proofs.YtchgpcgolgcfdaaW.PrintWords Go.Proofs.YtchgpcgolgcfdaaW.PrintLast Go.Proofs.YtchgpcgolgcfdaaW.PrintMore Go.Proofs.YtchgpcgolgcfdaaW.Pu
def Tot (f : Nat → Option Int) : Prop := ∃ r, (0 ≤ r ∧ r < 4294967296) ∧ Ev f r
theorem u32_range (x : Int) : 0 ≤ IntKind.u32.wrap x ∧ IntKind.u32.wrap x < 4294967296 := by
  simp [IntKind.wrap, IntKind.bits, IntKind.signed]
  omega
theorem xor_range (x y : Int) : 0 ≤ Go.bits .xor .u32 x y ∧ Go.bits .xor .u32 x y < 4294967296 := u32_range _
theorem l2_tot (s : ByteArray) (L : List ByteArray) (n j m i : Int) (h : ∀ x, Tot (fun k => sum_Crc.l1 k x s L n j m (wrap64 (i + 1)))) (d : Nat) : ∀ (c : Nat) x, c + d = 8 → Tot (fun k => sum_Crc.l2 k x s L n j m i (c : Int)) := by
  induction d with
  | zero =>
    intro c x hc
    obtain ⟨r, hr, he⟩ := h x
    exact ⟨r, hr, Ev.step (fun k => by rw [sum_Crc.l2]) (ev_neg (by omega) he)⟩
  | succ d ih =>
    intro c x hc
    have hw : wrap64 ((c : Int) + 1) = ((c + 1 : Nat) : Int) := by rw [wrap64_id (by omega)]; omega
    by_cases hb : Go.bits .and .u32 x 1 = 1
    · obtain ⟨r, hr, he⟩ := ih (c + 1) (Go.bits .xor .u32 (x / 2) 2197175160) (by omega)
      exact ⟨r, hr, Ev.step (fun k => by rw [sum_Crc.l2, hw]) (ev_pos (by omega) (ev_pos hb he))⟩
    · obtain ⟨r, hr, he⟩ := ih (c + 1) (x / 2) (by omega)
      exact ⟨r, hr, Ev.step (fun k => by rw [sum_Crc.l2, hw]) (ev_pos (by omega) (ev_neg hb he))⟩
theorem l1_tot (s : ByteArray) (hs : s.size ≤ 9223372036854775806) (L : List ByteArray) (n j : Int) (h : ∀ x, Tot (fun k => sum_Crc.l0 k x L n (wrap64 (j + 1)))) (d : Nat) : ∀ (i : Nat) x, i + d = s.size → Tot (fun k => sum_Crc.l1 k x s L n j (s.size : Int) (i : Int)) := by
  induction d with
  | zero =>
    intro i x hi
    obtain ⟨r, hr, he⟩ := h x
    exact ⟨r, hr, Ev.step (fun k => by rw [sum_Crc.l1]) (ev_neg (by omega) he)⟩
  | succ d ih =>
    intro i x hi
    have hw : wrap64 ((i : Int) + 1) = ((i + 1 : Nat) : Int) := by rw [wrap64_id (by omega)]; omega
    obtain ⟨r, hr, he⟩ := l2_tot s L n j (s.size : Int) (i : Int) (fun x => by rw [hw]; exact ih (i + 1) x (by omega)) 8 0 (Go.bits .xor .u32 x ((bt s (i : Int)) % 4294967296)) rfl
    have he2 : Ev (fun k => sum_Crc.l2 k (Go.bits .xor .u32 x ((bt s (i : Int)) % 4294967296)) s L n j (s.size : Int) (i : Int) 0) r := he
    exact ⟨r, hr, Ev.step (fun k => by rw [sum_Crc.l1]) (ev_pos (by omega) (ev_pos (by omega) (ev_pos (by omega) he2)))⟩
theorem Crc_ev (s : ByteArray) (hs : s.size ≤ 9223372036854775806) : Tot (fun k => sum_Crc.f k [s]) := by
  have h0 : ∀ x, Tot (fun k => sum_Crc.l0 k x [s] (([s] : List ByteArray).length : Int) (wrap64 (0 + 1))) := fun x =>
    ⟨Go.bits .xor .u32 4294967295 x, xor_range _ _, Ev.step (fun k => by rw [sum_Crc.l0]) (ev_neg (by rw [wrap64_id (by omega)]; simp) (ev_const rfl))⟩
  obtain ⟨r, hr, he⟩ := l1_tot s hs [s] (([s] : List ByteArray).length : Int) 0 h0 s.size 0 4294967295 (Nat.zero_add _)
  refine ⟨r, hr, ?_⟩
  unfold sum_Crc.f
  have hr0 : rdOf ByteArray.empty [s] 0 = s := rfl
  have he2 : Ev (fun k => sum_Crc.l1 k 4294967295 s [s] (([s] : List ByteArray).length : Int) 0 (s.size : Int) 0) r := he
  exact Ev.step (fun k => by rw [sum_Crc.l0, hr0]) (ev_pos (by simp) (ev_pos (by omega) (ev_pos (by simp) he2)))
end Go.Proofs.Ytchgpcgolgcfdaa.PuCrc
end
section
namespace Go.Proofs.Ytchgpcgolgcfdaa.PuBk
open Go Go.RowKit Go.Proofs.Ytchgpcgolgcfdaa.PNum Go.Proofs.Ytchgpcgolgcfdaa.PuVt Go.Proofs.Ytchgpcgolgcfdaa.PuVr Go.Proofs.Ytchgpcgolgcfdaa.PuCrc Go.Proofs.YtchgpcgolgcfdaaW.PrintWords Go.Proofs.YtchgpcgolgcfdaaW.PrintLast Go.Proofs.YtchgpcgolgcfdaaW.PrintMore Go.Proofs.YtchgpcgolgcfdaaW.Pu Go.Proofs.Ytchgpcgolgcfdaa.Bl2
theorem Clone_eq (s : ByteArray) (h : s.size ≤ 281474976710656) : strings_Clone.f s = some s := by
  unfold strings_Clone.f stringslite_Clone.f
  rw [if_pos h]
  rfl
theorem Seal_ev (s : ByteArray) (hs : s.size ≤ 140737488355328) : ∃ t : ByteArray, t.size = 4 ∧ Ev (fun k => sum_Seal.f k s) (s ++ t) ∧ Ev (fun k => sum_Open.f k (s ++ t)) (s, 0) := by
  obtain ⟨c, hc, he⟩ := Crc_ev s (by omega)
  obtain ⟨v, rfl⟩ : ∃ v : Nat, c = (v : Int) := ⟨c.toNat, by omega⟩
  have hv : v < 256 ^ 4 := by omega
  have h4 : (be 4 v).length = 4 := be_len 4 v
  have ht : (strOfNums (be 4 v)).size = 4 := by rw [S_size, h4]
  have hF := Fix_yes (v := v) (n := 4) (by omega) (by omega) (Or.inr hv)
  have hw : IntKind.u64.wrap (v : Int) = (v : Int) := wu64_id (by omega)
  refine ⟨strOfNums (be 4 v), ht, ?_, ?_⟩
  · unfold sum_Seal.f sum_four.f
    refine Ev.bind he ?_
    simp only [hw]
    refine Ev.bind (Ev.bind hF (ev_const rfl)) (ev_pos ?_ (ev_const rfl))
    show s.size + (strOfNums (be 4 v)).size ≤ _
    omega
  · have hsz : (s ++ strOfNums (be 4 v)).size = s.size + 4 := by rw [ByteArray.size_append, ht]
    have hw4 : wrap64 (((s ++ strOfNums (be 4 v)).size : Int) - 4) = (s.size : Int) := by rw [hsz, wrap64_id (by omega)]; omega
    have hU := Unfix_yes (s ++ strOfNums (be 4 v)) s.size 4 (by omega) (by omega) (by omega) (by omega)
    have hb : bytesOf (s ++ strOfNums (be 4 v)) = bytesOf s ++ be 4 v := by rw [bytesOf_append, of_S (be_ok 4 v)]
    have hl : (bytesOf s).length = s.size := bytesOf_length s
    rw [hb, List.drop_left' hl, List.take_of_length_le (by omega), un_be 4 v hv] at hU
    have hex : (s ++ strOfNums (be 4 v)).extract 0 s.size = s := by
      rw [← S_of ((s ++ strOfNums (be 4 v)).extract 0 s.size), bytesOf_extract, hb, List.take_left' hl, List.drop_zero, S_of]
    unfold sum_Open.f sum_get.f
    rw [hw4]
    simp only [Int.toNat_natCast, hex]
    refine ev_neg (by omega) (Ev.bind (Ev.bind hU (ev_const rfl)) (ev_pos (by omega) (ev_pos (by rw [hsz]; omega) (Ev.bind he (ev_pos ?_ (ev_call (Clone_eq s (by omega)) (ev_const rfl)))))))
    show ((v : Nat) : Int) % 4294967296 = (v : Int)
    omega
theorem Right_l0 (l : List E) (hlen : l.length ≤ 9223372036854775806) (d : Nat) : ∀ i, i + d = l.length → ∃ b, Ev (fun k => block_Right.l0 k l l (l.length : Int) (i : Int)) b ∧
    (b = true → ∀ j (h : j < l.length), i ≤ j → Go.Proofs.Ytchgpcgolgcfdaa.PuIkC.valid l[j].f0 l[j].f2 l[j].f3 = true ∧ (∀ h0 : 0 < j, Go.Proofs.Ytchgpcgolgcfdaa.PuIkC.ce (l[j - 1]'(by omega)) l[j] = -1)) := by
  induction d with
  | zero =>
    intro i hi
    exact ⟨true, Ev.step (fun k => by rw [block_Right.l0]) (ev_neg (by omega) (ev_const rfl)), fun _ j h hj => by omega⟩
  | succ d ih =>
    intro i hi
    have hlt : i < l.length := by omega
    have he : rd_T29 l (i : Int) = l[i] := at_nat l i hlt
    have c1 : (i : Int) < (l.length : Int) := by omega
    have c2 : (0 : Int) ≤ (i : Int) := by omega
    have hw : wrap64 ((i : Int) + 1) = ((i + 1 : Nat) : Int) := by rw [wrap64_id (by omega)]; omega
    have hV := Go.Proofs.Ytchgpcgolgcfdaa.PuIkC.Valid_ev l[i].f0 l[i].f1 l[i].f2 l[i].f3
    obtain ⟨b, hb, hbt⟩ := ih (i + 1) (by omega)
    cases hv : Go.Proofs.Ytchgpcgolgcfdaa.PuIkC.valid l[i].f0 l[i].f2 l[i].f3 with
    | false =>
      rw [hv] at hV
      refine ⟨false, ?_, fun h => by cases h⟩
      refine Ev.step (fun k => by rw [block_Right.l0, he]) (ev_pos c1 (ev_pos c2 (ev_pos c1 ?_)))
      exact Ev.bind hV (ev_neg Bool.false_ne_true (ev_const rfl))
    | true =>
      rw [hv] at hV
      by_cases h0 : i = 0
      · subst h0
        have c0 : ¬ (((0 : Nat) : Int) > 0) := by omega
        refine ⟨b, ?_, fun h j hj hij => ?_⟩
        · refine Ev.step (fun k => by rw [block_Right.l0, he, hw]) (ev_pos c1 (ev_pos c2 (ev_pos c1 ?_)))
          exact Ev.bind hV (ev_pos rfl (ev_neg c0 hb))
        · by_cases hj0 : j = 0
          · subst hj0
            exact ⟨hv, fun h => absurd h (by omega)⟩
          · exact hbt h j hj (by omega)
      · have hw1 : wrap64 ((i : Int) - 1) = ((i - 1 : Nat) : Int) := by rw [wrap64_id (by omega)]; omega
        have he1 : rd_T29 l ((i - 1 : Nat) : Int) = l[i - 1]'(by omega) := at_nat l (i - 1) (by omega)
        have c3 : (i : Int) > 0 := by omega
        have c4 : (0 : Int) ≤ ((i - 1 : Nat) : Int) := by omega
        have c5 : ((i - 1 : Nat) : Int) < (l.length : Int) := by omega
        have hC := Go.Proofs.Ytchgpcgolgcfdaa.PuIkC.Compare_ev (l[i - 1]'(by omega)) l[i]
        by_cases hce : Go.Proofs.Ytchgpcgolgcfdaa.PuIkC.ce (l[i - 1]'(by omega)) l[i] ≥ 0
        · refine ⟨false, ?_, fun h => by cases h⟩
          refine Ev.step (fun k => by rw [block_Right.l0, he, hw1, he1]) (ev_pos c1 (ev_pos c2 (ev_pos c1 ?_)))
          refine Ev.bind hV (ev_pos rfl (ev_pos c3 (ev_pos c4 (ev_pos c5 ?_))))
          exact Ev.bind hC (ev_pos hce (ev_const rfl))
        · refine ⟨b, ?_, fun h j hj hij => ?_⟩
          · refine Ev.step (fun k => by rw [block_Right.l0, he, hw1, he1, hw]) (ev_pos c1 (ev_pos c2 (ev_pos c1 ?_)))
            refine Ev.bind hV (ev_pos rfl (ev_pos c3 (ev_pos c4 (ev_pos c5 ?_))))
            exact Ev.bind hC (ev_neg hce hb)
          · by_cases hji : j = i
            · subst hji
              refine ⟨hv, fun _ => ?_⟩
              rcases Go.Proofs.Ytchgpcgolgcfdaa.PuIkC.ce_range (l[j - 1]'(by omega)) l[j] with q | q | q
              · exact q
              · exact absurd (by rw [q]; decide) hce
              · exact absurd (by rw [q]; decide) hce
            · exact hbt h j hj (by omega)
theorem Right_ev (l : List E) (hlen : l.length ≤ 9223372036854775806) : ∃ b, Ev (fun k => block_Right.f k l) b ∧
    (b = true → ∀ j (h : j < l.length), Go.Proofs.Ytchgpcgolgcfdaa.PuIkC.valid l[j].f0 l[j].f2 l[j].f3 = true ∧ (∀ h0 : 0 < j, Go.Proofs.Ytchgpcgolgcfdaa.PuIkC.ce (l[j - 1]'(by omega)) l[j] = -1)) := by
  obtain ⟨b, hb, hbt⟩ := Right_l0 l hlen l.length 0 (Nat.zero_add _)
  exact ⟨b, hb, fun h j hj => hbt h j hj (Nat.zero_le _)⟩
end Go.Proofs.Ytchgpcgolgcfdaa.PuBk
end
section
namespace Go.Proofs.Ytchgpcgolgcfdaa.PuBk
open Go Go.RowKit Go.Proofs.Ytchgpcgolgcfdaa.PNum Go.Proofs.Ytchgpcgolgcfdaa.PuVt Go.Proofs.Ytchgpcgolgcfdaa.PuVr Go.Proofs.Ytchgpcgolgcfdaa.PuCrc Go.Proofs.YtchgpcgolgcfdaaW.PrintWords Go.Proofs.YtchgpcgolgcfdaaW.PrintLast Go.Proofs.YtchgpcgolgcfdaaW.PrintMore Go.Proofs.YtchgpcgolgcfdaaW.Pu Go.Proofs.Ytchgpcgolgcfdaa.Bl2
theorem nil_app (x : ByteArray) : (⟨#[]⟩ : ByteArray) ++ x = x := by
  have h := S_append [] (bytesOf x)
  rw [List.nil_append, S_of] at h
  exact h
theorem versions_ev (l : List E) (hl : ∀ e ∈ l, Ok e) (h400 : l.length ≤ 400) : Ev (fun k => block_versions.f k (strOfNums (layB 0 ⟨#[]⟩ l))) (l, true) := by
  have hlen := layB_len l 0 ⟨#[]⟩ hl
  have hn := New_eq (strOfNums (layB 0 ⟨#[]⟩ l)) (by rw [S_size]; omega)
  have hv := vers_ev l 0 ⟨#[]⟩ [] hl (by decide) (by simpa using h400)
  unfold block_versions.f
  exact ev_call hn hv
theorem aw1 {D n : Nat} (h : D = n + 4) (hs : D ≤ 1000000000000) : wrap64 ((D : Int) - 4) = (n : Int) := by rw [wrap64_id (by omega)]; omega
theorem aw2 {n : Nat} (hs : n ≤ 1000000000000) : wrap64 (Int.tdiv (n : Int) 4) = ((n / 4 : Nat) : Int) := by
  have h1 : Int.tdiv (n : Int) 4 = ((n / 4 : Nat) : Int) := by rw [Int.tdiv_eq_ediv_of_nonneg (by omega)]; rfl
  rw [h1, wrap64_id (by omega)]
theorem aw5 {m : Nat} (hs : m ≤ 1000000000000) : wrap64 ((m : Int) * 4) = ((4 * m : Nat) : Int) := by rw [wrap64_id (by omega)]; omega
theorem aw6 {n b m : Nat} (h : n = b + 4 * m) (hs : n ≤ 1000000000000) : wrap64 ((n : Int) - ((4 * m : Nat) : Int)) = (b : Int) := by rw [wrap64_id (by omega)]; omega
theorem Put_ev (l : List E) (hl : ∀ e ∈ l, Ok e) (h400 : l.length ≤ 400) (hR : Ev (fun k => block_Right.f k l) true) : ∃ s : ByteArray, 8 ≤ s.size ∧ Ev (fun k => block_Put.f k l) (s, 0) ∧ Ev (fun k => block_Get.f k s) (l, 0) := by
  have hlen := layB_len l 0 ⟨#[]⟩ hl
  obtain ⟨r, hr, hg⟩ := go_ev l hl h400 l.length 0 ⟨#[]⟩ ⟨#[]⟩ ⟨#[]⟩ (Nat.zero_add _) (fun h => absurd h (by omega)) (by decide) (by decide) rfl
  rw [List.drop_zero, nil_app] at hg
  obtain ⟨m, hm⟩ : ∃ m, m = (l.length + 3) / 4 := ⟨_, rfl⟩
  rw [← hm] at hr
  have hz := four_ev m (by omega)
  have hzs : (strOfNums (be 4 m)).size = 4 := by rw [S_size, be_len]
  have hB : (strOfNums (layB 0 ⟨#[]⟩ l)).size = (layB 0 ⟨#[]⟩ l).length := S_size _
  generalize hBB : layB 0 ⟨#[]⟩ l = B at *
  have hD : ((strOfNums B ++ r) ++ strOfNums (be 4 m)).size = B.length + r.size + 4 := by rw [ByteArray.size_append, ByteArray.size_append, hB, hzs]
  obtain ⟨t, ht, hS, hO⟩ := Seal_ev ((strOfNums B ++ r) ++ strOfNums (be 4 m)) (by rw [hD]; omega)
  have hP : Ev (fun k => block_Put.f k l) ((((strOfNums B ++ r) ++ strOfNums (be 4 m)) ++ t), 0) := by
    show Ev (fun k => putF k l) _
    unfold putF
    refine Ev.bind hR (ev_pos rfl (ev_pos (by unfold lim; omega) ?_))
    rw [← hm]
    refine Ev.bind hg (Ev.bind hz (ev_pos ?_ ?_))
    · show (strOfNums B).size + r.size + (strOfNums (be 4 m)).size ≤ lim
      rw [hB, hzs]
      unfold lim
      omega
    · exact Ev.bind hS (ev_const rfl)
  refine ⟨_, ?_, hP, ?_⟩
  · rw [ByteArray.size_append, ht, hD]
    omega
  · have hex : ((strOfNums B ++ r) ++ strOfNums (be 4 m)).extract 0 B.length = strOfNums B := by
      have hb : bytesOf ((strOfNums B ++ r) ++ strOfNums (be 4 m)) = B ++ (bytesOf r ++ be 4 m) := by
        rw [bytesOf_append, bytesOf_append, of_S (be_ok 4 m), of_S (by rw [← hBB]; exact layB_ok _ _ _), List.append_assoc]
      rw [← S_of (((strOfNums B ++ r) ++ strOfNums (be 4 m)).extract 0 B.length), bytesOf_extract, hb, List.take_left' rfl, List.drop_zero]
    have hU := Unfix_yes ((strOfNums B ++ r) ++ strOfNums (be 4 m)) (B.length + r.size) 4 (by omega) (by omega) (by omega) (by omega)
    have hbD : bytesOf ((strOfNums B ++ r) ++ strOfNums (be 4 m)) = (bytesOf (strOfNums B ++ r)) ++ be 4 m := by rw [bytesOf_append, of_S (be_ok 4 m)]
    have hlD : (bytesOf (strOfNums B ++ r)).length = B.length + r.size := by rw [bytesOf_length, ByteArray.size_append, hB]
    rw [hbD, List.drop_left' hlD, List.take_of_length_le (by rw [be_len]; omega), un_be 4 m (by omega)] at hU
    have hV := versions_ev l hl h400
    rw [hBB] at hV
    generalize hDD : (strOfNums B ++ r) ++ strOfNums (be 4 m) = D at *
    have q1 : D.size ≤ 1000000000000 := by omega
    have q2 : B.length + r.size ≤ 1000000000000 := by omega
    have q3 : m ≤ 1000000000000 := by omega
    have q4 : B.length + r.size = B.length + 4 * m := by omega
    have q5 : 0 ≤ (((B.length + r.size) / 4 : Nat) : Int) ∧ (((B.length + r.size) / 4 : Nat) : Int) ≤ 18446744073709551615 := by omega
    have q6 : -9223372036854775808 ≤ (m : Int) ∧ (m : Int) ≤ 9223372036854775807 := by omega
    have n1 : ¬ (((B.length + r.size : Nat) : Int) < 0) := by omega
    have n2 : ¬ ((m : Int) > (((B.length + r.size) / 4 : Nat) : Int)) := by omega
    have n3 : (0 : Int) ≤ (B.length : Int) := by omega
    have n4 : (B.length : Int) ≤ (D.size : Int) := by omega
    have w1 := aw1 hD q1
    have w2 := aw2 q2
    have w3 := wu64_id q5
    have w4 := wrap64_id q6
    have w5 := aw5 q3
    have w6 := aw6 q4 q2
    unfold block_Get.f
    refine Ev.bind hO (ev_pos rfl ?_)
    dsimp only
    rw [w1, w2, w3]
    refine ev_neg n1 (Ev.bind hU ?_)
    dsimp only
    rw [w4, w5, w6, Int.toNat_natCast, hex]
    refine ev_neg n2 (ev_pos n3 (ev_pos n4 (Ev.bind hV (Ev.bind hP (ev_pos rfl (ev_pos rfl (ev_pos rfl (ev_const rfl))))))))
end Go.Proofs.Ytchgpcgolgcfdaa.PuBk
end
section
namespace Go.Proofs.Ytchgpcgolgcfdaa.PuLess
open Go Go.RowKit Go.Proofs.Ytchgpcgolgcfdaa.PNum Go.Proofs.Ytchgpcgolgcfdaa.PuIkC Go.Proofs.YtchgpcgolgcfdaaW.PrintWords Go.Proofs.YtchgpcgolgcfdaaW.PrintLast Go.Proofs.YtchgpcgolgcfdaaW.PrintMore Go.Proofs.YtchgpcgolgcfdaaW.Pu
abbrev E := S29
theorem bt_at (s : ByteArray) (i : Nat) (h : i < s.data.toList.length) : bt s (i : Int) = (s.data.toList[i].toNat : Int) := by
  have h' : i < s.data.size := by simpa using h
  rw [bt_eq]
  simp only [bytesOf, List.getD_eq_getElem?_getD, List.getElem?_map, Array.getElem?_toList, Array.getElem_toList]
  rw [Array.getElem?_eq_getElem h']
  rfl
end Go.Proofs.Ytchgpcgolgcfdaa.PuLess
end
section
namespace Go.Proofs.Ytchgpcgolgcfdaa.PuCut
open Go Go.RowKit Go.Proofs.Ytchgpcgolgcfdaa.PNum Go.Proofs.Ytchgpcgolgcfdaa.PuIkC Go.Proofs.YtchgpcgolgcfdaaW.PrintWords Go.Proofs.YtchgpcgolgcfdaaW.PrintLast Go.Proofs.YtchgpcgolgcfdaaW.PrintMore Go.Proofs.YtchgpcgolgcfdaaW.Pu
abbrev E := S29
abbrev ends (most : Int) (piece : List E) (e : E) (r : List E) : Prop := r.isEmpty = true ∨ (most ≤ (piece.length : Int) + 1 ∧ r.head?.map (·.f0) ≠ some e.f0)
def cutS (most : Int) : List E → List E → List (List E)
  | _, [] => []
  | piece, e :: r => if ends most piece e r then (piece ++ [e]) :: cutS most [] r else cutS most (piece ++ [e]) r
theorem cutS_nil (most : Int) (piece : List E) : cutS most piece [] = [] := by rw [cutS]
end Go.Proofs.Ytchgpcgolgcfdaa.PuCut
end
section
namespace Go.Proofs.Ytchgpcgolgcfdaa.PuSm
open Go Go.RowKit Go.Proofs.Ytchgpcgolgcfdaa.PNum Go.Proofs.Ytchgpcgolgcfdaa.PuIkC Go.Proofs.YtchgpcgolgcfdaaW.PrintWords Go.Proofs.YtchgpcgolgcfdaaW.PrintLast Go.Proofs.YtchgpcgolgcfdaaW.PrintMore Go.Proofs.YtchgpcgolgcfdaaW.Pu
theorem at_nat (l : List S29) (i : Nat) (h : i < l.length) : rd_T29 l (i : Int) = l[i] := by
  simp [rd_T29, h]
theorem Small_l0 (l : List S29) (hs : ∀ e ∈ l, e.f0.size ≤ 140737488351232 ∧ e.f3.size ≤ 140737488351232) (d : Nat) : ∀ (i : Nat) (r : Int), i + d = 400 → -1 ≤ r → r ≤ 20000 →
    ∃ b, Ev (fun k => cornucopialaw5_Small.l0 k l r (i : Int)) b ∧ (b = true → l.length ≤ 150) := by
  have leaf : ∀ (i : Nat) (r : Int), ∃ b, Ev (fun _ : Nat => if (l.length : Int) ≤ 150 then (some (decide (r ≥ 0))) else (some false)) b ∧ (b = true → l.length ≤ 150) := by
    intro i r
    by_cases h : (l.length : Int) ≤ 150
    · exact ⟨decide (r ≥ 0), ev_pos h (ev_const rfl), fun _ => by omega⟩
    · exact ⟨false, ev_neg h (ev_const rfl), fun k => by cases k⟩
  induction d with
  | zero =>
    intro i r hi h0 h1
    obtain ⟨b, hb, hl⟩ := leaf i r
    refine ⟨b, Ev.step (fun k => by rw [cornucopialaw5_Small.l0]) ?_, hl⟩
    by_cases h : (i : Int) < (l.length : Int)
    · exact ev_pos h (ev_neg (by omega) hb)
    · exact ev_neg h hb
  | succ d ih =>
    intro i r hi h0 h1
    by_cases h : (i : Int) < (l.length : Int)
    · by_cases hr : r ≥ 0
      · have hlt : i < l.length := by omega
        have hsz := hs l[i] (List.getElem_mem hlt)
        obtain ⟨q, hq, q0, q1⟩ := Room_ev r (l[i].f0.size : Int) (l[i].f3.size : Int) ⟨h0, h1⟩ ⟨by omega, by omega⟩ ⟨by omega, by omega⟩
        obtain ⟨b, hb, hl⟩ := ih (i + 1) q (by omega) q0 q1
        refine ⟨b, Ev.step (fun k => by rw [cornucopialaw5_Small.l0, at_nat l i hlt]) (ev_pos h (ev_pos (by omega) (ev_pos hr (ev_pos (by omega) (Ev.bind hq ?_))))), hl⟩
        rw [wrap64_id (by omega), show ((i : Int) + 1) = ((i + 1 : Nat) : Int) from by omega]
        exact hb
      · obtain ⟨b, hb, hl⟩ := leaf i r
        exact ⟨b, Ev.step (fun k => by rw [cornucopialaw5_Small.l0]) (ev_pos h (ev_pos (by omega) (ev_neg hr hb))), hl⟩
    · obtain ⟨b, hb, hl⟩ := leaf i r
      exact ⟨b, Ev.step (fun k => by rw [cornucopialaw5_Small.l0]) (ev_neg h hb), hl⟩
theorem Small_ev (l : List S29) (hs : ∀ e ∈ l, e.f0.size ≤ 140737488351232 ∧ e.f3.size ≤ 140737488351232) : ∃ b, Ev (fun k => cornucopialaw5_Small.f k l) b ∧ (b = true → l.length ≤ 150) := by
  obtain ⟨b, hb, hl⟩ := Small_l0 l hs 400 0 20000 (by omega) (by omega) (by omega)
  exact ⟨b, Ev.congr (fun k => by rw [cornucopialaw5_Small.f]; rfl) hb, hl⟩
end Go.Proofs.Ytchgpcgolgcfdaa.PuSm
end
section
namespace Go.Proofs.Ytchgpcgolgcfdaa.PuOrd
open Go Go.RowKit Go.Proofs.Ytchgpcgolgcfdaa.PNum Go.Proofs.Ytchgpcgolgcfdaa.PuIkC Go.Proofs.Ytchgpcgolgcfdaa.PuLess Go.Proofs.YtchgpcgolgcfdaaW.PrintWords Go.Proofs.YtchgpcgolgcfdaaW.PrintLast Go.Proofs.YtchgpcgolgcfdaaW.PrintMore Go.Proofs.YtchgpcgolgcfdaaW.Pu
theorem at_nat (l : List E) (i : Nat) (h : i < l.length) : rd_T29 l (i : Int) = l[i] := by
  simp [rd_T29, h]
end Go.Proofs.Ytchgpcgolgcfdaa.PuOrd
end
section
namespace Go.Proofs.Ytchgpcgolgcfdaa.PuAl14
open Go Go.RowKit Go.Proofs.Ytchgpcgolgcfdaa.PNum Go.Proofs.Ytchgpcgolgcfdaa.PuIkC Go.Proofs.Ytchgpcgolgcfdaa.PuCut Go.Proofs.YtchgpcgolgcfdaaW.PrintWords Go.Proofs.YtchgpcgolgcfdaaW.PrintLast Go.Proofs.YtchgpcgolgcfdaaW.PrintMore Go.Proofs.YtchgpcgolgcfdaaW.Pu
theorem at_nat (l : List E) (i : Nat) (h : i < l.length) : rd_T29 l (i : Int) = l[i] := by
  simp [rd_T29, h]
theorem same_l (l : List E) (hl : l.length ≤ 1000000) : ∀ (d i : Nat), i + d = l.length → ∀ k, d < k → cornucopiabook_SameEntries.l0 k l l (i : Int) = some true
  | 0, i, hi, k, hk => by
    obtain ⟨k, rfl⟩ : ∃ m, k = m + 1 := ⟨k - 1, by omega⟩
    rw [cornucopiabook_SameEntries.l0, if_neg (by omega)]
  | d + 1, i, hi, k, hk => by
    obtain ⟨k, rfl⟩ : ∃ m, k = m + 1 := ⟨k - 1, by omega⟩
    rw [cornucopiabook_SameEntries.l0, if_pos (by omega), if_pos (by omega), if_pos (by omega), if_pos (by simp), wrap64_id (by omega)]
    exact same_l l hl d (i + 1) (by omega) k (by omega)
theorem Same_ev (l : List E) (hl : l.length ≤ 1000000) : Ev (fun k => cornucopiabook_SameEntries.f k l l) true :=
  ⟨l.length + 1, fun k hk => by
    show cornucopiabook_SameEntries.f k l l = some true
    rw [cornucopiabook_SameEntries.f, if_pos rfl]
    exact same_l l hl l.length 0 (by omega) k (by omega)⟩
theorem Cut_l0 (most : Int) (l : List E) (hl : l.length ≤ 1000000) (d : Nat) : ∀ (i p : Nat) (out : List (List E)), i + d = l.length → p ≤ i → out.length ≤ i →
    Ev (fun k => merge_Cut.l0 k most l out (p : Int) (l.length : Int) (i : Int)) (out ++ cutS (mx most 1) ((l.take i).drop p) (l.drop i)) := by
  induction d with
  | zero =>
    intro i p out hi hp ho
    have hn : l.drop i = [] := List.drop_of_length_le (by omega)
    rw [hn, cutS_nil, List.append_nil]
    exact Ev.step (fun k => by rw [merge_Cut.l0]) (ev_neg (by omega) (ev_const rfl))
  | succ d ih =>
    intro i p out hi hp ho
    have h0 : i < l.length := by omega
    have hw : wrap64 ((i : Int) + 1) = ((i + 1 : Nat) : Int) := by rw [wrap64_id (by omega)]; omega
    have hd : l.drop i = l[i] :: l.drop (i + 1) := List.drop_eq_getElem_cons h0
    have hpl : ((l.take i).drop p).length = i - p := by rw [List.length_drop, List.length_take]; omega
    have hpe : (l.take i).drop p ++ [l[i]] = (l.take (i + 1)).drop p := by
      rw [List.take_succ_eq_append_getElem h0, List.drop_append_of_le_length (by rw [List.length_take]; omega)]
    have hcl : ((l.take (i + 1)).drop p).length = i + 1 - p := by rw [List.length_drop, List.length_take]; omega
    have hnil : (l.take (i + 1)).drop (i + 1) = [] := List.drop_of_length_le (by rw [List.length_take]; omega)
    have hgo : ∀ (y : List E), y = (l.take (i + 1)).drop p → Ev (fun k => if ([] : List E).length + y.length < 2932031007402 then (if out.length < 5864062014805 then (merge_Cut.l0 k most l (out ++ [([] : List E) ++ y]) ((i + 1 : Nat) : Int) (l.length : Int) ((i + 1 : Nat) : Int)) else none) else none) (out ++ ((l.take (i + 1)).drop p) :: cutS (mx most 1) [] (l.drop (i + 1))) := by
      intro y hy
      subst hy
      refine ev_pos (by rw [hcl]; simp; omega) (ev_pos (by omega) ?_)
      have := ih (i + 1) (i + 1) (out ++ [([] : List E) ++ (l.take (i + 1)).drop p]) (by omega) (Nat.le_refl _) (by simp; omega)
      rw [hnil, List.nil_append, List.append_assoc] at this
      exact this
    refine Ev.step (fun k => by rw [merge_Cut.l0, hw]) (ev_pos (by omega) ?_)
    rw [hd, cutS, hpe]
    by_cases hend : i + 1 = l.length
    · rw [if_pos (show ends (mx most 1) ((l.take i).drop p) l[i] (l.drop (i + 1)) from .inl (by rw [List.drop_of_length_le (by omega)]; rfl))]
      refine ev_pos (by omega) (ev_pos (by omega) (ev_pos (by omega) (ev_pos (by omega) (ev_some (hgo _ ?_)))))
      simp
    · have h1 : i + 1 < l.length := by omega
      have hne : l.drop (i + 1) = l[i + 1] :: l.drop (i + 1 + 1) := List.drop_eq_getElem_cons h1
      have hws : wrap64 (((i + 1 : Nat) : Int) - (p : Int)) = ((i + 1 : Nat) : Int) - (p : Int) := wrap64_id (by omega)
      refine ev_neg (by omega) ?_
      rw [hws]
      have hstay : ¬ ends (mx most 1) ((l.take i).drop p) l[i] (l.drop (i + 1)) → Ev (fun k => merge_Cut.l0 k most l out (p : Int) (l.length : Int) ((i + 1 : Nat) : Int)) (out ++ (if ends (mx most 1) ((l.take i).drop p) l[i] (l.drop (i + 1)) then (l.take (i + 1)).drop p :: cutS (mx most 1) [] (l.drop (i + 1)) else cutS (mx most 1) ((l.take (i + 1)).drop p) (l.drop (i + 1)))) := by
        intro hn
        rw [if_neg hn]
        exact ih (i + 1) p out (by omega) (by omega) (by omega)
      have hhd : (l.drop (i + 1)).head?.map (·.f0) = some l[i + 1].f0 := by rw [hne]; rfl
      have hem : (l.drop (i + 1)).isEmpty = false := by rw [hne]; rfl
      by_cases hm : ((i + 1 : Nat) : Int) - (p : Int) ≥ mx most 1
      · refine ev_pos hm (ev_pos (by omega) (ev_pos (by omega) (ev_pos (by omega) (ev_pos (by omega) ?_))))
        rw [at_nat l i h0, at_nat l (i + 1) h1]
        by_cases hk : l[i + 1].f0 = l[i].f0
        · refine ev_pos (tl_ext.2 hk) (hstay ?_)
          rintro (q | q)
          · rw [hem] at q; cases q
          · exact q.2 (by rw [hhd, hk])
        · refine ev_neg (fun q => hk (tl_ext.1 q)) (ev_pos (by omega) (ev_pos (by omega) (ev_pos (by omega) (ev_some ?_))))
          rw [if_pos (show ends (mx most 1) ((l.take i).drop p) l[i] (l.drop (i + 1)) from .inr ⟨by rw [hpl]; omega, by rw [hhd]; exact fun q => hk (Option.some.inj q)⟩)]
          refine hgo _ ?_
          simp
      · refine ev_neg hm (hstay ?_)
        rintro (q | q)
        · rw [hem] at q; cases q
        · have := q.1
          rw [hpl] at this
          omega
theorem Cut_ev (most : Int) (l : List E) (hl : l.length ≤ 1000000) : Ev (fun k => merge_Cut.f k most l) (cutS (mx most 1) [] l) := by
  have := Cut_l0 most l hl l.length 0 0 [] (by omega) (Nat.le_refl _) (Nat.le_refl _)
  simp only [List.take_zero, List.drop_nil, List.drop_zero, List.nil_append] at this
  exact Ev.congr (fun k => by rw [merge_Cut.f]; rfl) this
abbrev ka : ByteArray := ⟨#[97]⟩
abbrev kb : ByteArray := ⟨#[98]⟩
abbrev kn : ByteArray := ⟨#[]⟩
theorem first_latest : merge_Latest.f 2 [[⟨ka, 3, 1, kn⟩], [⟨ka, 1, 2, kn⟩, ⟨kb, 2, 1, kn⟩]] = some [⟨kb, kn⟩] := by kernel_rfl
theorem first_all : merge_All.f [] = some [] := by kernel_rfl
theorem first_cut : cutS (mx 1 1) [] [⟨ka, 2, 0, kn⟩, ⟨ka, 1, 0, kn⟩, ⟨kb, 1, 0, kn⟩] = [[⟨ka, 2, 0, kn⟩, ⟨ka, 1, 0, kn⟩], [⟨kb, 1, 0, kn⟩]] := by kernel_rfl
theorem alive_ev : Ev (fun k => cornucopialaw14_alive.f k) true := by
  have hc := Cut_ev 1 [⟨ka, 2, 0, kn⟩, ⟨ka, 1, 0, kn⟩, ⟨kb, 1, 0, kn⟩] (by simp)
  rw [first_cut] at hc
  refine Ev.congr (fun k => by rw [cornucopialaw14_alive.f]) (ev_call first_latest (Ev.bind hc ?_))
  refine ev_pos rfl (ev_pos (by decide) (ev_pos (show kb.toList = [98] by rw [toList_data]) (ev_pos rfl (ev_pos (by decide) (ev_pos rfl (ev_call first_all (ev_const rfl)))))))
end Go.Proofs.Ytchgpcgolgcfdaa.PuAl14
end
