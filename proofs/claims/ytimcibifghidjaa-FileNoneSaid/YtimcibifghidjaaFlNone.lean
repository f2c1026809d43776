/- FileNone: of a nil and of a zero system. -/
import Derived.Test.YtimcibifghidjaaFs12
import Derived.Laws.IdiomRangeMap
namespace Go.Proofs.Ytimcibifghidjaa.Fs
open Go Go.RowKit Go.Maps Go.Sort Go.Proofs.Ytimcibifghidjaa.PFil Go.Proofs.Ytimcibifghidjaa.FsM Go.Proofs.YtimcibifghidjaaW.PrintWords Go.Proofs.YtimcibifghidjaaW.PrintLast Go.Proofs.YtimcibifghidjaaW.PrintMore
set_option linter.unusedVariables false
set_option linter.unusedSimpArgs false
set_option maxHeartbeats 8000000 in
set_option maxRecDepth 100000 in
theorem nil_restore (w : World) :
    Calls Try.prog 15 #[.pointer none] w fun e w' => e = .returned (.tuple #[]) ∧ w' = w := by
  go_enter Try.func15, Try.ntmps15
  go_wp2_with (fail)
  first | go_end0 | ((try simp only [Exit.inBlock, Exit.then]); refine bodyPost_ret (results_none rfl _ _ _) rfl ?_)
  exact ⟨rfl, rfl⟩
set_option maxHeartbeats 8000000 in
set_option maxRecDepth 100000 in
theorem nil_read (w : World) (a : ByteArray) :
    Calls Try.prog 20 #[.pointer none, .string a] w fun e w' => e = .returned (.tuple #[.string ⟨#[]⟩, .int .i64 14]) ∧ w' = w := by
  go_enter Try.func20, Try.ntmps20
  go_wp2_with (first | (go_at_call 32; refine (off_nil _).mono ?_; rintro e w1 ⟨rfl, rfl⟩))
  go_ret2
  exact ⟨rfl, rfl⟩
set_option maxHeartbeats 8000000 in
set_option maxRecDepth 100000 in
theorem nil_crash (w : World) (d : Int) (v : Value) :
    Calls Try.prog 14 #[.pointer none, .int .i64 d, v] w fun e w' => e = .returned (.tuple #[]) ∧ w' = w := by
  go_enter Try.func14, Try.ntmps14
  go_wp2_with (fail)
  first | go_end0 | ((try simp only [Exit.inBlock, Exit.then]); refine bodyPost_ret (results_none rfl _ _ _) rfl ?_)
  exact ⟨rfl, rfl⟩
set_option maxHeartbeats 8000000 in
set_option maxRecDepth 100000 in
theorem nil_fuse (w : World) (d : Int) :
    Calls Try.prog 17 #[.pointer none, .int .i64 d] w fun e w' => e = .returned (.tuple #[]) ∧ w' = w := by
  go_enter Try.func17, Try.ntmps17
  go_wp2_with (fail)
  first | go_end0 | ((try simp only [Exit.inBlock, Exit.then]); refine bodyPost_ret (results_none rfl _ _ _) rfl ?_)
  exact ⟨rfl, rfl⟩
set_option maxHeartbeats 8000000 in
set_option maxRecDepth 100000 in
theorem nil_bad (w : World) (d : Int) :
    Calls Try.prog 28 #[.pointer none, .int .i64 d] w fun e w' => e = .returned (.tuple #[]) ∧ w' = w := by
  go_enter Try.func28, Try.ntmps28
  go_wp2_with (fail)
  first | go_end0 | ((try simp only [Exit.inBlock, Exit.then]); refine bodyPost_ret (results_none rfl _ _ _) rfl ?_)
  exact ⟨rfl, rfl⟩
set_option maxHeartbeats 8000000 in
set_option maxRecDepth 100000 in
theorem nil_create (w : World) (a : ByteArray) :
    Calls Try.prog 13 #[.pointer none, .string a] w fun e w' => e = .returned (.int .i64 14) ∧ w' = w := by
  go_enter Try.func13, Try.ntmps13
  go_wp2_with (first | (go_at_call 32; refine (off_nil _).mono ?_; rintro e w1 ⟨rfl, rfl⟩))
  go_ret
  exact ⟨rfl, rfl⟩
set_option maxHeartbeats 8000000 in
set_option maxRecDepth 100000 in
theorem nil_append (w : World) (a b : ByteArray) :
    Calls Try.prog 18 #[.pointer none, .string a, .string b] w fun e w' => e = .returned (.int .i64 14) ∧ w' = w := by
  go_enter Try.func18, Try.ntmps18
  go_wp2_with (first | (go_at_call 32; refine (off_nil _).mono ?_; rintro e w1 ⟨rfl, rfl⟩))
  go_ret
  exact ⟨rfl, rfl⟩
set_option maxHeartbeats 8000000 in
set_option maxRecDepth 100000 in
theorem nil_sync (w : World) (a : ByteArray) :
    Calls Try.prog 24 #[.pointer none, .string a] w fun e w' => e = .returned (.int .i64 14) ∧ w' = w := by
  go_enter Try.func24, Try.ntmps24
  go_wp2_with (first | (go_at_call 32; refine (off_nil _).mono ?_; rintro e w1 ⟨rfl, rfl⟩))
  go_ret
  exact ⟨rfl, rfl⟩
set_option maxHeartbeats 8000000 in
set_option maxRecDepth 100000 in
theorem nil_syncdir (w : World) :
    Calls Try.prog 25 #[.pointer none] w fun e w' => e = .returned (.int .i64 14) ∧ w' = w := by
  go_enter Try.func25, Try.ntmps25
  go_wp2_with (first | (go_at_call 32; refine (off_nil _).mono ?_; rintro e w1 ⟨rfl, rfl⟩))
  go_ret
  exact ⟨rfl, rfl⟩
set_option maxHeartbeats 8000000 in
set_option maxRecDepth 100000 in
theorem nil_rename (w : World) (a b : ByteArray) :
    Calls Try.prog 27 #[.pointer none, .string a, .string b] w fun e w' => e = .returned (.int .i64 14) ∧ w' = w := by
  go_enter Try.func27, Try.ntmps27
  go_wp2_with (first | (go_at_call 32; refine (off_nil _).mono ?_; rintro e w1 ⟨rfl, rfl⟩))
  go_ret
  exact ⟨rfl, rfl⟩
set_option maxHeartbeats 8000000 in
set_option maxRecDepth 100000 in
theorem nil_remove (w : World) (a : ByteArray) :
    Calls Try.prog 23 #[.pointer none, .string a] w fun e w' => e = .returned (.int .i64 14) ∧ w' = w := by
  go_enter Try.func23, Try.ntmps23
  go_wp2_with (first | (go_at_call 32; refine (off_nil _).mono ?_; rintro e w1 ⟨rfl, rfl⟩))
  go_ret
  exact ⟨rfl, rfl⟩
set_option maxHeartbeats 8000000 in
set_option maxRecDepth 100000 in
theorem nil_names (w : World) :
    Calls Try.prog 16 #[.pointer none] w fun e w' => e = .returned (.slice none 0 0) ∧ w' = w := by
  go_enter Try.func16, Try.ntmps16
  go_wp2_with (first | (go_at_call 32; refine (off_nil _).mono ?_; rintro e w1 ⟨rfl, rfl⟩))
  go_ret
  exact ⟨rfl, rfl⟩
set_option maxHeartbeats 8000000 in
set_option maxRecDepth 100000 in
theorem nil_used (w : World) :
    Calls Try.prog 22 #[.pointer none] w fun e w' => e = .returned (.int .i64 0) ∧ w' = w := by
  go_enter Try.func22, Try.ntmps22
  go_wp2_with (fail)
  go_ret
  exact ⟨rfl, rfl⟩
set_option maxHeartbeats 8000000 in
set_option maxRecDepth 100000 in
theorem nil_steps (w : World) :
    Calls Try.prog 21 #[.pointer none] w fun e w' => e = .returned (.int .i64 0) ∧ w' = w := by
  go_enter Try.func21, Try.ntmps21
  go_wp2_with (fail)
  go_ret
  exact ⟨rfl, rfl⟩
set_option maxHeartbeats 8000000 in
set_option maxRecDepth 100000 in
theorem nil_on (w : World) :
    Calls Try.prog 19 #[.pointer none] w fun e w' => e = .returned (.bool false) ∧ w' = w := by
  go_enter Try.func19, Try.ntmps19
  go_wp2_with (first | (go_at_call 32; refine (off_nil _).mono ?_; rintro e w1 ⟨rfl, rfl⟩))
  go_ret
  exact ⟨rfl, rfl⟩
set_option maxHeartbeats 8000000 in
set_option maxRecDepth 100000 in
theorem nil_twin (w : World) :
    Calls Try.prog 31 #[.pointer none] w fun e w' => e = .returned (.pointer none) ∧ w' = w := by
  go_enter Try.func31, Try.ntmps31
  go_wp2_with (fail)
  go_ret
  exact ⟨rfl, rfl⟩
/-- A zero system. -/
def Zs (w : World) (g : Nat) : Prop := w.heap[g]? = some (.cells #[.int .i64 0, .bool false, .bool false, .int .i64 0, .bool false, .int .i64 0, .int .i64 0, .map none, .map none, .slice none 0 0] 55 (0, 0))
theorem Zs.cells {w : World} {g : Nat} (h : Zs w g) : w.cell? ⟨g, 1, none⟩ = some (.bool false) ∧ w.cell? ⟨g, 7, none⟩ = some (.map none) := ⟨(blk_cell h 1).trans rfl, (blk_cell h 7).trans rfl⟩
theorem Zs.below {w w1 : World} {g : Nat} (h : Zs w g) (hb : Below w.heap.size w w1) : Zs w1 g := blk_below h hb
theorem neq_none (w : World) : (binOp BinOp.neq 52 (.map none) (.map none)).run Try.prog w = .ok (.bool false) w := by
  simp only [binOp]
  simp [show Op.equal 52 (.map none) (.map none) = Op.equalIn (9999 + 1) 52 (.map none) (.map none) from rfl, run_equalIn_map_nil_sl w 9999 _ _ _ none Try.underlying52]
set_option maxHeartbeats 8000000 in
set_option maxRecDepth 100000 in
theorem z_off (w : World) (g : Nat) (h : Zs w g) :
    Calls Try.prog 32 #[.pointer (some ⟨g, 0, none⟩)] w fun e w' => e = .returned (.bool true) ∧ w' = w := by
  obtain ⟨c1, c7⟩ := h.cells
  clear h
  go_enter Try.func32, Try.ntmps32
  go_wp2_with (fail)
  go_ret
  exact ⟨rfl, rfl⟩
set_option maxHeartbeats 8000000 in
set_option maxRecDepth 100000 in
theorem z_restore (w : World) (g : Nat) (h : Zs w g) :
    Calls Try.prog 15 #[.pointer (some ⟨g, 0, none⟩)] w fun e w' => e = .returned (.tuple #[]) ∧ w' = w := by
  have hq := neq_none
  obtain ⟨c1, c7⟩ := h.cells
  clear h
  go_enter Try.func15, Try.ntmps15
  go_wp2_with (fail)
  first | go_end0 | ((try simp only [Exit.inBlock, Exit.then]); refine bodyPost_ret (results_none rfl _ _ _) rfl ?_)
  exact ⟨rfl, rfl⟩
set_option maxHeartbeats 8000000 in
set_option maxRecDepth 100000 in
theorem z_read (w : World) (g : Nat) (h : Zs w g) (a : ByteArray) :
    Calls Try.prog 20 #[.pointer (some ⟨g, 0, none⟩), .string a] w fun e w' => e = .returned (.tuple #[.string ⟨#[]⟩, .int .i64 14]) ∧ w' = w := by
  have HO := Aside0.mk (z_off w g h)
  obtain ⟨c1, c7⟩ := h.cells
  clear h
  go_enter Try.func20, Try.ntmps20
  go_wp2_with (first | (go_at_call 32; refine HO.out.mono ?_; rintro e w1 ⟨rfl, rfl⟩))
  go_ret2
  exact ⟨rfl, rfl⟩
set_option maxHeartbeats 8000000 in
set_option maxRecDepth 100000 in
theorem z_create (w : World) (g : Nat) (h : Zs w g) (a : ByteArray) :
    Calls Try.prog 13 #[.pointer (some ⟨g, 0, none⟩), .string a] w fun e w' => e = .returned (.int .i64 14) ∧ w' = w := by
  have HO := Aside0.mk (z_off w g h)
  obtain ⟨c1, c7⟩ := h.cells
  clear h
  go_enter Try.func13, Try.ntmps13
  go_wp2_with (first | (go_at_call 32; refine HO.out.mono ?_; rintro e w1 ⟨rfl, rfl⟩))
  go_ret
  exact ⟨rfl, rfl⟩
set_option maxHeartbeats 8000000 in
set_option maxRecDepth 100000 in
theorem z_names (w : World) (g : Nat) (h : Zs w g) :
    Calls Try.prog 16 #[.pointer (some ⟨g, 0, none⟩)] w fun e w' => e = .returned (.slice none 0 0) ∧ w' = w := by
  have HO := Aside0.mk (z_off w g h)
  obtain ⟨c1, c7⟩ := h.cells
  clear h
  go_enter Try.func16, Try.ntmps16
  go_wp2_with (first | (go_at_call 32; refine HO.out.mono ?_; rintro e w1 ⟨rfl, rfl⟩))
  go_ret
  exact ⟨rfl, rfl⟩
set_option maxHeartbeats 8000000 in
set_option maxRecDepth 100000 in
theorem z_on (w : World) (g : Nat) (h : Zs w g) :
    Calls Try.prog 19 #[.pointer (some ⟨g, 0, none⟩)] w fun e w' => e = .returned (.bool false) ∧ w' = w := by
  have HO := Aside0.mk (z_off w g h)
  obtain ⟨c1, c7⟩ := h.cells
  clear h
  go_enter Try.func19, Try.ntmps19
  go_wp2_with (first | (go_at_call 32; refine HO.out.mono ?_; rintro e w1 ⟨rfl, rfl⟩))
  go_ret
  exact ⟨rfl, rfl⟩
set_option maxHeartbeats 8000000 in
set_option maxRecDepth 100000 in
theorem z_used (w : World) (g : Nat) (h : Zs w g) :
    Calls Try.prog 22 #[.pointer (some ⟨g, 0, none⟩)] w fun e w' => e = .returned (.int .i64 0) ∧ Below w.heap.size w w' := by
  obtain ⟨c1, c7⟩ := h.cells
  clear h
  have hrg := run_range_nilMap (P := Try.prog) w 52 _ _ Try.underlying52
  go_enter Try.func22, Try.ntmps22
  go_wp2_with (fail)
  clear hrg
  go_loopw [3] (fun v3 w' => v3 = .int .i64 0 ∧ w' = w.alloc (.mapIter none 0 #[] 0)) (fun _ _ => 0)
  case atStart => exact ⟨rfl, rfl⟩
  case round =>
    obtain ⟨rfl, rfl⟩ := hrel
    have hnx := fun ty => run_next_nilMap (P := Try.prog) w ty 0 0 #[]
    go_wp2_with (fail)
    go_ret
    exact ⟨rfl, below_alloc (Below.refl _ _) _⟩
set_option maxHeartbeats 8000000 in
set_option maxRecDepth 100000 in
theorem none_in (w : World) (a b : ByteArray) (hs : a.size + b.size ≤ 3000) :
    Calls Try.prog 10 #[.string a, .string b] w fun e w' => e = .returned (.bool true) ∧ Below w.heap.size w w' := by
  have hwx : IntKind.i64.wrap ((a.size : Int) + (b.size : Int)) = (a.size : Int) + (b.size : Int) := by rw [IntKind.wrap_i64]; omega
  have q0 : decide (3000 < (a.size : Int) + (b.size : Int)) = false := decide_eq_false (by omega)
  have q1 : decide (3000 < (a.size : Int)) = false := decide_eq_false (by omega)
  have q2 : decide (3000 < (b.size : Int)) = false := decide_eq_false (by omega)
  have HZ0 : Aside0 (Zs (w.alloc (.cells #[.int .i64 0, .bool false, .bool false, .int .i64 0, .bool false, .int .i64 0, .int .i64 0, .map none, .map none, .slice none 0 0] 55)) w.heap.size) := ⟨blk_new w _⟩
  have HB := Aside0.mk (below_alloc (Below.refl w.heap.size w) (.cells #[.int .i64 0, .bool false, .bool false, .int .i64 0, .bool false, .int .i64 0, .int .i64 0, .map none, .map none, .slice none 0 0] 55))
  have T1_Restore : Aside0 True := ⟨trivial⟩
  have T1_Read : Aside0 True := ⟨trivial⟩
  have T1_Crash : Aside0 True := ⟨trivial⟩
  have T1_Fuse : Aside0 True := ⟨trivial⟩
  have T1_Bad : Aside0 True := ⟨trivial⟩
  have T1_Create : Aside0 True := ⟨trivial⟩
  have T1_Append : Aside0 True := ⟨trivial⟩
  have T1_Sync : Aside0 True := ⟨trivial⟩
  have T1_SyncDir : Aside0 True := ⟨trivial⟩
  have T1_Rename : Aside0 True := ⟨trivial⟩
  have T1_Remove : Aside0 True := ⟨trivial⟩
  have T1_Names : Aside0 True := ⟨trivial⟩
  have T1_Used : Aside0 True := ⟨trivial⟩
  have T1_Steps : Aside0 True := ⟨trivial⟩
  have T1_On : Aside0 True := ⟨trivial⟩
  have T1_Twin : Aside0 True := ⟨trivial⟩
  go_enter Try.func10, Try.ntmps10
  go_wp2_with (first
    | (go_at_call 15; have tk_ := T1_Restore; clear tk_ T1_Restore; have T2_Restore : Aside0 True := ⟨trivial⟩; refine (z_restore _ _ HZ0.out).mono ?_; rintro e w_ ⟨rfl, rfl⟩)
    | (go_at_call 20; have tk_ := T1_Read; clear tk_ T1_Read; have T2_Read : Aside0 True := ⟨trivial⟩; refine (nil_read _ a).mono ?_; rintro e w_ ⟨rfl, rfl⟩)
    | (go_at_call 20; have tk_ := T2_Read; clear tk_ T2_Read; have T3_Read : Aside0 True := ⟨trivial⟩; refine (z_read _ _ HZ0.out a).mono ?_; rintro e w_ ⟨rfl, rfl⟩)
    | (go_at_call 14; have tk_ := T1_Crash; clear tk_ T1_Crash; have T2_Crash : Aside0 True := ⟨trivial⟩; refine (nil_crash _ 1 _).mono ?_; rintro e w_ ⟨rfl, rfl⟩)
    | (go_at_call 17; have tk_ := T1_Fuse; clear tk_ T1_Fuse; have T2_Fuse : Aside0 True := ⟨trivial⟩; refine (nil_fuse _ 1).mono ?_; rintro e w_ ⟨rfl, rfl⟩)
    | (go_at_call 28; have tk_ := T1_Bad; clear tk_ T1_Bad; have T2_Bad : Aside0 True := ⟨trivial⟩; refine (nil_bad _ 1).mono ?_; rintro e w_ ⟨rfl, rfl⟩)
    | (go_at_call 15; have tk_ := T2_Restore; clear tk_ T2_Restore; have T3_Restore : Aside0 True := ⟨trivial⟩; refine (nil_restore _).mono ?_; rintro e w_ ⟨rfl, rfl⟩)
    | (go_at_call 11; refine (alive_calls _).mono ?_; rintro e w_ ⟨rfl, hb⟩; have HZ1 := Aside0.mk ((HZ0.out.below (below_alloc (Below.refl _ _) (.cells #[.int .i64 2] 3))).below hb); have HB1 := Aside0.mk (below_step (below_alloc HB.out (.cells #[.int .i64 2] 3)) hb); clear hb HB HZ0)
    | (go_at_call 13; have tk_ := T1_Create; clear tk_ T1_Create; have T2_Create : Aside0 True := ⟨trivial⟩; refine (nil_create _ a).mono ?_; rintro e w_ ⟨rfl, rfl⟩)
    | (go_at_call 13; have tk_ := T2_Create; clear tk_ T2_Create; have T3_Create : Aside0 True := ⟨trivial⟩; refine (z_create _ _ HZ1.out a).mono ?_; rintro e w_ ⟨rfl, rfl⟩)
    | (go_at_call 18; have tk_ := T1_Append; clear tk_ T1_Append; have T2_Append : Aside0 True := ⟨trivial⟩; refine (nil_append _ a b).mono ?_; rintro e w_ ⟨rfl, rfl⟩)
    | (go_at_call 24; have tk_ := T1_Sync; clear tk_ T1_Sync; have T2_Sync : Aside0 True := ⟨trivial⟩; refine (nil_sync _ a).mono ?_; rintro e w_ ⟨rfl, rfl⟩)
    | (go_at_call 25; have tk_ := T1_SyncDir; clear tk_ T1_SyncDir; have T2_SyncDir : Aside0 True := ⟨trivial⟩; refine (nil_syncdir _).mono ?_; rintro e w_ ⟨rfl, rfl⟩)
    | (go_at_call 27; have tk_ := T1_Rename; clear tk_ T1_Rename; have T2_Rename : Aside0 True := ⟨trivial⟩; refine (nil_rename _ a b).mono ?_; rintro e w_ ⟨rfl, rfl⟩)
    | (go_at_call 23; have tk_ := T1_Remove; clear tk_ T1_Remove; have T2_Remove : Aside0 True := ⟨trivial⟩; refine (nil_remove _ a).mono ?_; rintro e w_ ⟨rfl, rfl⟩)
    | (go_at_call 16; have tk_ := T1_Names; clear tk_ T1_Names; have T2_Names : Aside0 True := ⟨trivial⟩; refine (nil_names _).mono ?_; rintro e w_ ⟨rfl, rfl⟩)
    | (go_at_call 16; have tk_ := T2_Names; clear tk_ T2_Names; have T3_Names : Aside0 True := ⟨trivial⟩; refine (z_names _ _ HZ1.out).mono ?_; rintro e w_ ⟨rfl, rfl⟩)
    | (go_at_call 22; have tk_ := T1_Used; clear tk_ T1_Used; have T2_Used : Aside0 True := ⟨trivial⟩; refine (nil_used _).mono ?_; rintro e w_ ⟨rfl, rfl⟩)
    | (go_at_call 22; have tk_ := T2_Used; clear tk_ T2_Used; have T3_Used : Aside0 True := ⟨trivial⟩; refine (z_used _ _ HZ1.out).mono ?_; rintro e w_ ⟨rfl, hb⟩; have HZ2 := Aside0.mk (HZ1.out.below hb); have HB2 := Aside0.mk (below_step HB1.out hb); clear hb HB1 HZ1)
    | (go_at_call 21; have tk_ := T1_Steps; clear tk_ T1_Steps; have T2_Steps : Aside0 True := ⟨trivial⟩; refine (nil_steps _).mono ?_; rintro e w_ ⟨rfl, rfl⟩)
    | (go_at_call 19; have tk_ := T1_On; clear tk_ T1_On; have T2_On : Aside0 True := ⟨trivial⟩; refine (nil_on _).mono ?_; rintro e w_ ⟨rfl, rfl⟩)
    | (go_at_call 19; have tk_ := T2_On; clear tk_ T2_On; have T3_On : Aside0 True := ⟨trivial⟩; refine (z_on _ _ HZ2.out).mono ?_; rintro e w_ ⟨rfl, rfl⟩)
    | (go_at_call 31; have tk_ := T1_Twin; clear tk_ T1_Twin; have T2_Twin : Aside0 True := ⟨trivial⟩; refine (nil_twin _).mono ?_; rintro e w_ ⟨rfl, rfl⟩))
  go_ret
  exact ⟨rfl, HB2.out⟩
set_option maxHeartbeats 8000000 in
set_option maxRecDepth 100000 in
theorem none_calls (w : World) (a b : ByteArray) :
    Calls Try.prog 10 #[.string a, .string b] w fun e w' => e = .returned (.bool true) ∧ Below w.heap.size w w' := by
  by_cases h0 : a.size + b.size ≤ 3000
  · exact none_in w a b h0
  · obtain ⟨x, hx⟩ : ∃ x, IntKind.i64.wrap ((a.size : Int) + (b.size : Int)) = x := ⟨_, rfl⟩
    by_cases h1 : 3000 < x
    · have q0 : decide (3000 < x) = true := decide_eq_true h1
      go_enter Try.func10, Try.ntmps10
      go_wp2_with (first | (go_at_call 11; refine (alive_calls _).mono ?_; rintro e w_ ⟨rfl, hb⟩))
      go_ret
      exact ⟨rfl, hb⟩
    · have q0 : decide (3000 < x) = false := decide_eq_false h1
      by_cases h2 : 3000 < a.size
      · have q1 : decide (3000 < (a.size : Int)) = true := decide_eq_true (by omega)
        go_enter Try.func10, Try.ntmps10
        go_wp2_with (first | (go_at_call 11; refine (alive_calls _).mono ?_; rintro e w_ ⟨rfl, hb⟩))
        go_ret
        exact ⟨rfl, hb⟩
      · have q1 : decide (3000 < (a.size : Int)) = false := decide_eq_false (by omega)
        have q2 : decide (3000 < (b.size : Int)) = true := decide_eq_true (by
          refine Classical.byContradiction fun hc => h1 ?_
          rw [← hx, IntKind.wrap_i64]
          omega)
        go_enter Try.func10, Try.ntmps10
        go_wp2_with (first | (go_at_call 11; refine (alive_calls _).mono ?_; rintro e w_ ⟨rfl, hb⟩))
        go_ret
        exact ⟨rfl, hb⟩
end Go.Proofs.Ytimcibifghidjaa.Fs
