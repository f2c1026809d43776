/- A walk, written by a program of this session out of the translation (a printed Lean function, and that the Go code comes to its answer). Lean checks it. -/
import Derived.Test.YtkpjipfjhniddaaRows
import Derived.Test.YtkpjipfjhniddaaPNumx32
import Derived.Test.YtkpjipfjhniddaaPureIkeyOrder
import Derived.Test.YtkpjipfjhniddaaWRd
import Derived.WalkKit
import Derived.ProofKit
import Derived.OpenShut
import Derived.ShutString
import Derived.ChangeOld
import Derived.Below
import Derived.SizedLaws
import Derived.Carry
import Derived.KernelRfl
namespace Go.Proofs.Ytkpjipfjhniddaa.ikeyOrder
open Go.ChangeShapes Go.WideShapes Go.ChangeAt Go.RowKit Go.Proofs.YtkpjipfjhniddaaW.PrintWords Go.Proofs.YtkpjipfjhniddaaW.Rd Go.Proofs.Ytkpjipfjhniddaa.PNum
open Go.ChangeMaps (open_string shut_string)
set_option linter.unusedVariables false
theorem own : ownKnob Try.prog.godebug = none := by kernel_rfl
theorem laidOut : laidOutB Try.prog = true := by kernel_rfl
theorem opn29 : Opn Try.prog 29 k29 wfS29 := Opn.struct Try.underlying29 (by kernel_rfl) (OpnF.cons (Opn.string Try.underlying9 (by kernel_rfl)) rfl (OpnF.cons (Opn.int Try.underlying24 (by kernel_rfl)) rfl (OpnF.cons (Opn.int Try.underlying3 (by kernel_rfl)) rfl (OpnF.one (Opn.string Try.underlying9 (by kernel_rfl)))))) (fun x : S29 => (x.f0, x.f1, x.f2, x.f3)) (fun p => ⟨p.1, p.2.1, p.2.2.1, p.2.2.2⟩) (fun _ => rfl)
set_option maxRecDepth 100000 in
theorem lifted (os : Os) (started : os.Started) (H : Type) (enc : TypeId × Value → H) :
    ReturnsInHanded {} Try.checked os 4 .any (Rows.ikeyOrderSpec.pre6 enc Try.prog Try.f4 Rows.ikeyOrderRow.domain false) (Rows.ikeyOrderSpec.post enc Try.prog Try.f4 false true false false) := by
  refine returnsInHanded_of_change_sized (C := Try.checked) own started (by kernel_rfl) Try.func4
    (ChangeSpec.witness6 (enc := enc) (C := Try.checked) false ⟨#[], #[.agg #[.string ByteArray.empty, .int .u64 0, .int .i64 0, .string ByteArray.empty], .agg #[.string ByteArray.empty, .int .u64 0, .int .i64 0, .string ByteArray.empty], .agg #[.string ByteArray.empty, .int .u64 0, .int .i64 0, .string ByteArray.empty]], []⟩ 8 (by kernel_rfl) (by kernel_rfl) (by kernel_rfl) (by kernel_rfl)) ?_
  intro W base args ds gs before hval0 hW hcnd hsz0 _
  have hsz : (DataW.weightsEach Try.prog (Try.f4.params.toList ++ Rows.ikeyOrderSpec.plain.varTypes Try.prog) (ds ++ gs)).all (· ≤ reachBytes) = true := hsz0
  have hval : ∀ (j : Nat) t v, Try.f4.params[j]? = some t → args[j]? = some v → Value.okWide Try.prog W .any base t v := hval0
  have hW' := hW
  obtain ⟨p, q, hA0, hV, rfl, hfz, hnd⟩ := hW
  have hA : DataW.TrodAll enc Try.prog W 0 (fun _ => true) true Try.f4.params.toList args.toList ds p := hA0
  rw [Try.params4] at hA hval hsz
  obtain ⟨v0, vs0, d0, ds0, p0, q0, hargs, rfl, rfl, h0, r0⟩ := trodAll_cons hA
  obtain ⟨v1, vs1, d1, ds1, p1, q1, rfl, rfl, rfl, h1, r1⟩ := trodAll_cons r0
  obtain ⟨v2, vs2, d2, ds2, p2, q2, rfl, rfl, rfl, h2, r2⟩ := trodAll_cons r1
  obtain ⟨rfl, rfl, rfl⟩ := trodAll_nil r2
  obtain rfl : args = #[v0, v1, v2] := by cases args; simp_all
  obtain ⟨rfl, rfl⟩ := trodVars_none hV
  have k0 := h0
  have lt0 : ∀ x ∈ p0, x.block < W.heap.size := by obtain ⟨m, hm⟩ := k0; exact DataW.trod_lt m _ _ _ hm
  obtain ⟨cs0, s0, rfl, hk0, w0⟩ := arg_struct opn29 Try.underlying29 (hval 0 29 v0 rfl rfl) h0 (weights_of hsz (j := 0) (t := 29) rfl rfl)
  obtain rfl : cs0 = #[.string s0.f0, .int .u64 s0.f1, .int .i64 s0.f2, .string s0.f3] := Array.ext' (k29_open hk0)
  have k1 := h1
  have lt1 : ∀ x ∈ p1, x.block < W.heap.size := by obtain ⟨m, hm⟩ := k1; exact DataW.trod_lt m _ _ _ hm
  obtain ⟨cs1, s1, rfl, hk1, w1⟩ := arg_struct opn29 Try.underlying29 (hval 1 29 v1 rfl rfl) h1 (weights_of hsz (j := 1) (t := 29) rfl rfl)
  obtain rfl : cs1 = #[.string s1.f0, .int .u64 s1.f1, .int .i64 s1.f2, .string s1.f3] := Array.ext' (k29_open hk1)
  have k2 := h2
  have lt2 : ∀ x ∈ p2, x.block < W.heap.size := by obtain ⟨m, hm⟩ := k2; exact DataW.trod_lt m _ _ _ hm
  obtain ⟨cs2, s2, rfl, hk2, w2⟩ := arg_struct opn29 Try.underlying29 (hval 2 29 v2 rfl rfl) h2 (weights_of hsz (j := 2) (t := 29) rfl rfl)
  obtain rfl : cs2 = #[.string s2.f0, .int .u64 s2.f1, .int .i64 s2.f2, .string s2.f3] := Array.ext' (k29_open hk2)
  refine (cornucopialaw5_IkeyOrder.walk Pure.IkeyOrder s0 s1 s2 W w0 w1 w2).mono fun e W' ⟨he, bel⟩ => ?_
  subst he
  exact ⟨_, rfl, _, _, _, [], _, [], hW', trodAll_mk1 (shut_bool Try.underlying4 _), (trodAll_cons_mk (Below.trod laidOut (by kernel_rfl) (of_decide_eq_true (by kernel_rfl)) k0 bel lt0) (trodAll_cons_mk (Below.trod laidOut (by kernel_rfl) (of_decide_eq_true (by kernel_rfl)) k1 bel lt1) (trodAll_cons_mk (Below.trod laidOut (by kernel_rfl) (of_decide_eq_true (by kernel_rfl)) k2 bel lt2) trodAll_mk0))), rfl, bel.frame _, fun h => by cases h⟩
theorem over : Rows.ikeyOrderRow.holds Try.pinned (OpenSpec.ofChange Rows.ikeyOrderSpec) :=
  OpenClaim.holds_of_wide 4 Try.f4 rfl rfl rfl rfl rfl rfl rfl ⟨rfl, rfl, rfl, rfl, rfl⟩ rfl rfl rfl rfl rfl (by kernel_rfl) Try.func4 (by kernel_rfl)
    (of_decide_eq_true (by kernel_rfl)) (by unfold Func.isWrapper; first | (rw [if_pos (by decide +kernel)]; kernel_rfl) | (rw [if_neg (by decide +kernel)]; exact ⟨rfl, rfl⟩))
    (fun os started H enc _ => lifted os started H enc)
theorem proved : Rows.IkeyOrderSaid := over
#print axioms proved
end Go.Proofs.Ytkpjipfjhniddaa.ikeyOrder
namespace Go.Proofs.Ytkpjipfjhniddaa
/-- The row, under a short name, for the claim. -/
theorem ikeyOrder_holds : Rows.IkeyOrderSaid := ikeyOrder.proved
end Go.Proofs.Ytkpjipfjhniddaa
