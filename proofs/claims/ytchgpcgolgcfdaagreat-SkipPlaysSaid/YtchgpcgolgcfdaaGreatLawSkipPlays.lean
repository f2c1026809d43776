/- SkipPlays: the program's text comes to what the plain text says. -/
import Derived.Test.YtchgpcgolgcfdaaGreatRows
import Derived.WalkKit
import Derived.ProofKit
import Derived.OpenShut
import Derived.ShutString
import Derived.ChangeOld
import Derived.Below
import Derived.SizedLaws
import Derived.Carry
import Derived.KernelRfl
import Derived.Test.YtchgpcgolgcfdaaGreatMgPNumx40
import Derived.Test.YtchgpcgolgcfdaaGreatMgPureSkipPlays
import Derived.Test.YtchgpcgolgcfdaaGreatMgB
namespace Go.Proofs.YtchgpcgolgcfdaaGreat.skipPlays
open Go.ChangeShapes Go.WideShapes Go.ChangeAt Go.RowKit Go.Proofs.YtchgpcgolgcfdaaGreatW.PrintWords Go.Proofs.YtchgpcgolgcfdaaGreatW.Rd Go.Proofs.YtchgpcgolgcfdaaGreat.PNum
open Go.ChangeMaps (open_string shut_string)
set_option linter.unusedVariables false
theorem own : ownKnob Tryz.prog.godebug = none := by kernel_rfl
theorem laidOut : laidOutB Tryz.prog = true := by kernel_rfl
theorem opn32 : Opn Tryz.prog 32 k32 wfS32 := Opn.struct Tryz.underlying32 (by kernel_rfl) (OpnF.cons (Opn.string Tryz.underlying9 (by kernel_rfl)) rfl (OpnF.cons (Opn.int Tryz.underlying25 (by kernel_rfl)) rfl (OpnF.cons (Opn.int Tryz.underlying3 (by kernel_rfl)) rfl (OpnF.one (Opn.string Tryz.underlying9 (by kernel_rfl)))))) (fun x : S32 => (x.f0, x.f1, x.f2, x.f3)) (fun p => ⟨p.1, p.2.1, p.2.2.1, p.2.2.2⟩) (fun _ => rfl)
set_option maxRecDepth 100000 in
theorem lifted (os : Os) (started : os.Started) (H : Type) (enc : TypeId × Value → H) :
    ReturnsInHanded {} Tryz.checked os 3 .any (Rows.skipPlaysSpec.pre6 enc Tryz.prog Tryz.f3 Rows.skipPlaysRow.domain false) (Rows.skipPlaysSpec.post enc Tryz.prog Tryz.f3 false true false false) := by
  refine returnsInHanded_of_change_sized (C := Tryz.checked) own started (by kernel_rfl) Tryz.func3
    (ChangeSpec.witness6 (enc := enc) (C := Tryz.checked) false ⟨#[], #[.bool false, .slice none 0 0, .slice none 0 0, .slice none 0 0, .int .u64 0], []⟩ 8 (by kernel_rfl) (by kernel_rfl) (by kernel_rfl) (by kernel_rfl)) ?_
  intro W base args ds gs before hval0 hW hcnd hsz0 _
  have hsz : (DataW.weightsEach Tryz.prog (Tryz.f3.params.toList ++ Rows.skipPlaysSpec.plain.varTypes Tryz.prog) (ds ++ gs)).all (· ≤ reachBytes) = true := hsz0
  have hval : ∀ (j : Nat) t v, Tryz.f3.params[j]? = some t → args[j]? = some v → Value.okWide Tryz.prog W .any base t v := hval0
  have hW' := hW
  obtain ⟨p, q, hA0, hV, rfl, hfz, hnd⟩ := hW
  have hA : DataW.TrodAll enc Tryz.prog W 0 (fun _ => true) true Tryz.f3.params.toList args.toList ds p := hA0
  rw [Tryz.params3] at hA hval hsz
  obtain ⟨v0, vs0, d0, ds0, p0, q0, hargs, rfl, rfl, h0, r0⟩ := trodAll_cons hA
  obtain ⟨v1, vs1, d1, ds1, p1, q1, rfl, rfl, rfl, h1, r1⟩ := trodAll_cons r0
  obtain ⟨v2, vs2, d2, ds2, p2, q2, rfl, rfl, rfl, h2, r2⟩ := trodAll_cons r1
  obtain ⟨v3, vs3, d3, ds3, p3, q3, rfl, rfl, rfl, h3, r3⟩ := trodAll_cons r2
  obtain ⟨v4, vs4, d4, ds4, p4, q4, rfl, rfl, rfl, h4, r4⟩ := trodAll_cons r3
  obtain ⟨rfl, rfl, rfl⟩ := trodAll_nil r4
  obtain rfl : args = #[v0, v1, v2, v3, v4] := by cases args; simp_all
  obtain ⟨rfl, rfl⟩ := trodVars_none hV
  obtain ⟨a0, rfl, rfl, rfl⟩ := open_bool Tryz.underlying4 (hval 0 4 v0 rfl rfl) h0
  have k1 := h1
  have lt1 : ∀ x ∈ p1, x.block < W.heap.size := by obtain ⟨m, hm⟩ := k1; exact DataW.trod_lt m _ _ _ hm
  obtain ⟨A1, c1, l1, rfl, hc1, hr1, w1_0, w1_1⟩ := arg_slice (Opn.slice Tryz.underlying22 (by kernel_rfl) (by kernel_rfl) opn32) Tryz.underlying22 (hval 1 22 v1 rfl rfl) h1 (weights_of hsz (j := 1) (t := 22) rfl rfl)
  have k2 := h2
  have lt2 : ∀ x ∈ p2, x.block < W.heap.size := by obtain ⟨m, hm⟩ := k2; exact DataW.trod_lt m _ _ _ hm
  obtain ⟨A2, c2, l2, rfl, hc2, hr2, w2_0, w2_1⟩ := arg_slice (Opn.slice Tryz.underlying23 (by kernel_rfl) (by kernel_rfl) (Opn.int Tryz.underlying3 (by kernel_rfl))) Tryz.underlying23 (hval 2 23 v2 rfl rfl) h2 (weights_of hsz (j := 2) (t := 23) rfl rfl)
  have k3 := h3
  have lt3 : ∀ x ∈ p3, x.block < W.heap.size := by obtain ⟨m, hm⟩ := k3; exact DataW.trod_lt m _ _ _ hm
  obtain ⟨A3, c3, l3, rfl, hc3, hr3, w3_0, w3_1⟩ := arg_slice (Opn.slice Tryz.underlying24 (by kernel_rfl) (by kernel_rfl) (Opn.string Tryz.underlying9 (by kernel_rfl))) Tryz.underlying24 (hval 3 24 v3 rfl rfl) h3 (weights_of hsz (j := 3) (t := 24) rfl rfl)
  obtain ⟨a4, rfl, rfl, rfl, w4⟩ := open_int Tryz.underlying25 (hval 4 25 v4 rfl rfl) h4
  refine (cornucopialaw7_SkipPlays.walk Pure.SkipPlays a0 A1 c1 l1 A2 c2 l2 A3 c3 l3 a4 W hr1 hc1 w1_0 w1_1 hr2 hc2 w2_0 w2_1 hr3 hc3 w3_0 w3_1 w4).mono fun e W' ⟨he, bel⟩ => ?_
  subst he
  exact ⟨_, rfl, _, _, _, [], _, [], hW', trodAll_mk1 (shut_bool Tryz.underlying4 _), (trodAll_cons_mk (shut_bool Tryz.underlying4 _) (trodAll_cons_mk (Below.trod laidOut (by kernel_rfl) (of_decide_eq_true (by kernel_rfl)) k1 bel lt1) (trodAll_cons_mk (Below.trod laidOut (by kernel_rfl) (of_decide_eq_true (by kernel_rfl)) k2 bel lt2) (trodAll_cons_mk (Below.trod laidOut (by kernel_rfl) (of_decide_eq_true (by kernel_rfl)) k3 bel lt3) (trodAll_cons_mk (shut_int Tryz.underlying25 w4) trodAll_mk0))))), rfl, bel.frame _, fun h => by cases h⟩
theorem over : Rows.skipPlaysRow.holds Tryz.pinned (OpenSpec.ofChange Rows.skipPlaysSpec) :=
  OpenClaim.holds_of_wide 3 Tryz.f3 rfl rfl rfl rfl rfl rfl rfl ⟨rfl, rfl, rfl, rfl, rfl⟩ rfl rfl rfl rfl rfl (by kernel_rfl) Tryz.func3 (by kernel_rfl)
    (of_decide_eq_true (by kernel_rfl)) (by unfold Func.isWrapper; first | (rw [if_pos (by decide +kernel)]; kernel_rfl) | (rw [if_neg (by decide +kernel)]; exact ⟨rfl, rfl⟩))
    (fun os started H enc _ => lifted os started H enc)
theorem proved : Rows.SkipPlaysSaid := over
end Go.Proofs.YtchgpcgolgcfdaaGreat.skipPlays
namespace Go.Proofs.YtchgpcgolgcfdaaGreat
theorem skipPlays_holds : Rows.SkipPlaysSaid := skipPlays.proved
end Go.Proofs.YtchgpcgolgcfdaaGreat
