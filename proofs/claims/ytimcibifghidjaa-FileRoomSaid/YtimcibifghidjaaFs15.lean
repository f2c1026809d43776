/- string(make([]byte, n)), and i&1. -/
import Derived.Test.YtimcibifghidjaaFs14
import Derived.Laws.MakeOwn
namespace Go.Proofs.Ytimcibifghidjaa.Fs
open Go Go.RowKit Go.Maps Go.Sort Go.Proofs.Ytimcibifghidjaa.PFil Go.Proofs.Ytimcibifghidjaa.FsM Go.Proofs.YtimcibifghidjaaW.PrintWords Go.Proofs.YtimcibifghidjaaW.PrintLast Go.Proofs.YtimcibifghidjaaW.PrintMore
set_option linter.unusedVariables false
set_option linter.unusedSimpArgs false
theorem and1 (i : Nat) (h : i ≤ 40) : bits BinOp.and IntKind.i64 (i : Int) 1 = ((i % 2 : Nat) : Int) := by
  have h1 : ∀ k : Fin 41, bits BinOp.and IntKind.i64 ((k.val : Nat) : Int) 1 = ((k.val % 2 : Nat) : Int) := by decide +kernel
  exact h1 ⟨i, by omega⟩
theorem info8 : (Try.prog.info? 5).map (fun i => (i.zero, i.size, i.bytes)) = some (some (.int .u8 0), 1, 1) := by kernel_rfl
def zc (m : Nat) : Array Value := madeCells #[.int .u8 0] m
def zs (m : Nat) : ByteArray := strOfNums (List.replicate m 0)
theorem zs_size (m : Nat) : (zs m).size = m := by unfold zs; rw [strOfNums_size, List.length_replicate]
theorem mkz (W : World) (m : Nat) (hm : m ≤ 1000) : (Instr.makeSlice 27 (.int .i64 (m : Int)) (.int .i64 (m : Int))).run Try.prog W = .ok (.slice (some ⟨W.heap.size, 0, none⟩) m m) (W.alloc (.cells (zc m) 5)) := by
  obtain ⟨i0, hi, hzz⟩ := Option.map_eq_some_iff.1 info8
  simp only [Prod.mk.injEq] at hzz
  obtain ⟨hz0, hz1, hz2⟩ := hzz
  have hr := run_make (P := Try.prog) W 27 5 i0 (.int .u8 0) Try.underlying27 hi hz0 .i64 .i64 (m : Int) (m : Int) (by omega) (by omega) (by rw [hz2]; omega) (by omega)
  simp only [Int.toNat_natCast] at hr
  rw [hz1, Nat.mul_one] at hr
  exact hr
theorem zc_at (m j : Nat) (hj : j < m) : (zc m)[j]? = some (.int .u8 0) := by
  unfold zc madeCells
  rw [Array.getElem?_map, Array.getElem?_eq_getElem (by simpa using hj)]
  simp [Nat.mod_one]
theorem convz (W : World) (q m : Nat) (h : W.heap[q]? = some (.cells (zc m) 5 (0, 0))) : (convert 27 9 (.slice (some ⟨q, 0, none⟩) m m)).run Try.prog W = .ok (.string (zs m)) W :=
  Go.run_convert_bytes_arg (P := Try.prog) W 27 5 Try.underlying27 Try.underlying5 q 0 m m (List.replicate m 0) (by simp) (by
    intro j hj
    refine (blk_cell h (0 + j)).trans ?_
    rw [Nat.zero_add, zc_at m j hj]
    simp [List.getD, hj]) 9 Try.underlying9
end Go.Proofs.Ytimcibifghidjaa.Fs
