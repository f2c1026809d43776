/- Helpers of chapter 7's laws. -/
import Derived.Test.YtfldbgnmdkbfkaaSk8
import Derived.Test.YtfldbgnmdkbfkaaPuSm
import Derived.Test.YtfldbgnmdkbfkaaPNumx3
namespace Go.Proofs.Ytfldbgnmdkbfkaa.Sk
open Go Go.RowKit Go.Proofs.Ytfldbgnmdkbfkaa.PNum Go.Proofs.Ytfldbgnmdkbfkaa.SkM Go.Proofs.YtfldbgnmdkbfkaaW.PrintWords Go.Proofs.YtfldbgnmdkbfkaaW.PrintLast Go.Proofs.YtfldbgnmdkbfkaaW.PrintMore
set_option linter.unusedVariables false
set_option linter.unusedSimpArgs false
theorem one_C {V : World} {b : Nat} {e : E} (h : V.heap[b]? = some (.cells #[.string (e).f0, .int .u64 (e).f1, .int .i64 (e).f2, .string (e).f3] 24 (0, 0))) : Kd.C k24 V (some ⟨b, 0, none⟩) [e].length [e] := by
  refine ⟨rfl, by simp, fun _ => ⟨⟨b, 0, none⟩, rfl, fun j p hp => ?_⟩⟩
  match j, hp with
  | 0, hp =>
    obtain rfl : e = p := by simpa using hp
    refine ⟨[.string (e).f0, .int .u64 (e).f1, .int .i64 (e).f2, .string (e).f3], rfl, k24_mk V e, fun i u hu => ?_⟩
    match i, hu with
    | 0, hu => exact ((blk_cell h 0).trans rfl).trans hu
    | 1, hu => exact ((blk_cell h 1).trans rfl).trans hu
    | 2, hu => exact ((blk_cell h 2).trans rfl).trans hu
    | 3, hu => exact ((blk_cell h 3).trans rfl).trans hu
  | j + 1, hp => simp at hp
/-- Amid SkipNone: the version's box, and the one that was told. -/
structure JN (w V : World) (eb zb : Nat) (e : E) : Prop where
  b1 : V.heap[eb]? = some (.cells #[.string (e).f0, .int .u64 (e).f1, .int .i64 (e).f2, .string (e).f3] 24 (0, 0))
  b2 : V.heap[zb]? = some (.cells #[.string ⟨#[]⟩, .int .u64 0, .int .i64 0, .string ⟨#[]⟩] 24 (0, 0))
  bel : Below w.heap.size w V
theorem JN.below {w V V1 : World} {eb zb : Nat} {e : E} (h : JN w V eb zb e) (hb : Below V.heap.size V V1) : JN w V1 eb zb e := ⟨blk_below h.b1 hb, blk_below h.b2 hb, below_step h.bel hb⟩
theorem JN.drew {w V : World} {eb zb : Nat} {e : E} (h : JN w V eb zb e) : JN w V.drew eb zb e := h.below (below_drew (Below.refl _ _))
def CN (w V : World) (eb zb : Nat) (e : E) : Prop := V.cell? ⟨eb, 0, none⟩ = some (.string e.f0) ∧ V.cell? ⟨eb, 1, none⟩ = some (.int .u64 e.f1) ∧ V.cell? ⟨eb, 2, none⟩ = some (.int .i64 e.f2) ∧ V.cell? ⟨eb, 3, none⟩ = some (.string e.f3) ∧ V.cell? ⟨zb, 0, none⟩ = some (.string ⟨#[]⟩) ∧ V.cell? ⟨zb, 1, none⟩ = some (.int .u64 0) ∧ V.cell? ⟨zb, 2, none⟩ = some (.int .i64 0) ∧ V.cell? ⟨zb, 3, none⟩ = some (.string ⟨#[]⟩) ∧ Aside0 (JN w V eb zb e)
theorem JN.out {w V : World} {eb zb : Nat} {e : E} (h : JN w V eb zb e) : CN w V eb zb e := ⟨(blk_cell h.b1 0).trans rfl, (blk_cell h.b1 1).trans rfl, (blk_cell h.b1 2).trans rfl, (blk_cell h.b1 3).trans rfl, (blk_cell h.b2 0).trans rfl, (blk_cell h.b2 1).trans rfl, (blk_cell h.b2 2).trans rfl, (blk_cell h.b2 3).trans rfl, ⟨h⟩⟩
theorem JN.stepB {w V V1 : World} {eb zb : Nat} {e : E} (hb : Below V.heap.size V V1) (h : CN w V eb zb e) : CN w V1 eb zb e := (h.2.2.2.2.2.2.2.2.out.below hb).out
theorem JN.stepD {w V V1 : World} {eb zb : Nat} {e : E} (h : JN w V eb zb e) (hb : Below V.drew.heap.size V.drew V1) : CN w V1 eb zb e := (h.drew.below hb).out
theorem len_nil' (w : World) : Calls Try.prog 12 #[.pointer none] w fun e w' => e = .returned (.int .i64 0) ∧ Below w.heap.size w w' := (len_nil w).mono (fun e w' h => ⟨h.1, by rw [h.2]; exact Below.refl _ _⟩)
theorem height_nil' (w : World) : Calls Try.prog 13 #[.pointer none] w fun e w' => e = .returned (.int .i64 0) ∧ Below w.heap.size w w' := (height_nil w).mono (fun e w' h => ⟨h.1, by rw [h.2]; exact Below.refl _ _⟩)
theorem path_nil' (w : World) (key : ByteArray) : Calls Try.prog 14 #[.pointer none, .string key] w fun e w' => e = .returned (.slice none 0 0) ∧ Below w.heap.size w w' := (path_nil w key).mono (fun e w' h => ⟨h.1, by rw [h.2]; exact Below.refl _ _⟩)
theorem eqZ (V : World) : (binOp BinOp.eql 24 (.agg #[.string ⟨#[]⟩, .int .u64 0, .int .i64 0, .string ⟨#[]⟩]) (.agg #[.string ⟨#[]⟩, .int .u64 0, .int .i64 0, .string ⟨#[]⟩])).run Try.prog V = .ok (.bool true) V := by
  go_simp
end Go.Proofs.Ytfldbgnmdkbfkaa.Sk
