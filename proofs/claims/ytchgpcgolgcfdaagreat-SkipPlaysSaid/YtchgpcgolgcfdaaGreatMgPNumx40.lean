/- Texts of this claim, put together and cut down to what is used (PNumx40). -/
import Derived.Test.YtchgpcgolgcfdaaGreatMgP0
import Derived.Test.YtchgpcgolgcfdaaGreatMgSkPlay
import Derived.Test.YtchgpcgolgcfdaaGreatMgB
section
namespace Go.Proofs.YtchgpcgolgcfdaaGreat.PNum
open Go.RowKit Go.Proofs.YtchgpcgolgcfdaaGreatW.PrintWords Go.Proofs.YtchgpcgolgcfdaaGreatW.PrintLast Go.Proofs.YtchgpcgolgcfdaaGreatW.PrintMore
attribute [local go_sem] max2_int min2_int max_two min_two max_three min_three max_four min_four   -- for this text's walks alone
set_option linter.unusedVariables false
set_option linter.unusedSimpArgs false
def cornucopialaw7_SkipPlays.f (a0 : Bool) (l1 : List S32) (l2 : List Int) (l3 : List ByteArray) (a4 : Int) : Option Bool := if ((l1.all fun e => decide (e.f0.size ≤ 140737488351232 ∧ e.f3.size ≤ 140737488351232)) && l3.all fun s => decide (s.size ≤ 140737488351232)) = true then some true else none
theorem cornucopialaw7_SkipPlays.calls (a0 : Bool) (A1 : Option Addr) (c1 : Nat) (l1 : List S32) (A2 : Option Addr) (c2 : Nat) (l2 : List Int) (A3 : Option Addr) (c3 : Nat) (l3 : List ByteArray) (a4 : Int) (r : Bool) (w : World)
    (hr1 : Kd.C k32 w A1 l1.length l1) (hc1 : l1.length ≤ c1) (hr2 : Kd.C (Kd.int .i64) w A2 l2.length l2) (hc2 : l2.length ≤ c2) (hr3 : Kd.C Kd.string w A3 l3.length l3) (hc3 : l3.length ≤ c3) (h : cornucopialaw7_SkipPlays.f a0 l1 l2 l3 a4 = some r) :
    Calls Tryz.prog 3 #[.bool a0, .slice A1 l1.length c1, .slice A2 l2.length c2, .slice A3 l3.length c3, .int .u64 a4] w fun e w' => e = .returned (.bool r) ∧ Below w.heap.size w w' := by
  unfold cornucopialaw7_SkipPlays.f at h
  split at h
  case isFalse => cases h
  case isTrue hg =>
  obtain rfl : true = r := Option.some.inj h
  have hg2 := Bool.and_eq_true_iff.1 hg
  exact SkPlay.calls a0 A1 c1 l1 A2 c2 l2 A3 c3 l3 a4 w hr1 hc1 hr2 hc2 hr3 hc3 (fun e he => of_decide_eq_true (List.all_eq_true.1 hg2.1 e he)) (fun s hs => of_decide_eq_true (List.all_eq_true.1 hg2.2 s hs))
def cornucopialaw7_SkipPlays.Pure : Prop := ∀ (a0 : Bool) (l1 : List (S32)) (l2 : List Int) (l3 : List ByteArray) (a4 : Int), l1.length * 48 ≤ 140737488351232 → (∀ x_ ∈ l1, wfS32 x_) → l2.length * 8 ≤ 140737488351232 → (∀ x_ ∈ l2, (Lit.int .i64 x_).wf = true) → l3.length * 16 ≤ 140737488351232 → (∀ x_ ∈ l3, x_.size ≤ 140737488351232) → (Lit.int .u64 a4).wf = true → cornucopialaw7_SkipPlays.f a0 l1 l2 l3 a4 = some true
theorem cornucopialaw7_SkipPlays.walk (P : cornucopialaw7_SkipPlays.Pure) (a0 : Bool) (A1 : Option Addr) (c1 : Nat) (l1 : List (S32)) (A2 : Option Addr) (c2 : Nat) (l2 : List Int) (A3 : Option Addr) (c3 : Nat) (l3 : List ByteArray) (a4 : Int) (w : World) (hr1 : Kd.C k32 w A1 l1.length l1) (hc1 : l1.length ≤ c1) (w1_0 : l1.length * 48 ≤ 140737488351232) (w1_1 : (∀ x_ ∈ l1, wfS32 x_)) (hr2 : Kd.C (Kd.int .i64) w A2 l2.length l2) (hc2 : l2.length ≤ c2) (w2_0 : l2.length * 8 ≤ 140737488351232) (w2_1 : (∀ x_ ∈ l2, (Lit.int .i64 x_).wf = true)) (hr3 : Kd.C Kd.string w A3 l3.length l3) (hc3 : l3.length ≤ c3) (w3_0 : l3.length * 16 ≤ 140737488351232) (w3_1 : (∀ x_ ∈ l3, x_.size ≤ 140737488351232)) (w4_0 : (Lit.int .u64 a4).wf = true) :
    Calls Tryz.prog 3 #[.bool a0, .slice A1 l1.length c1, .slice A2 l2.length c2, .slice A3 l3.length c3, .int .u64 a4] w fun e w' => e = .returned (.bool true) ∧ Below w.heap.size w w' := by
  have h := P a0 l1 l2 l3 a4 w1_0 w1_1 w2_0 w2_1 w3_0 w3_1 w4_0
  refine (cornucopialaw7_SkipPlays.calls a0 _ _ l1 _ _ l2 _ _ l3 a4 true w hr1 hc1 hr2 hc2 hr3 hc3 h).mono ?_
  rintro e w' ⟨rfl, hd⟩
  exact ⟨rfl, hd⟩
end Go.Proofs.YtchgpcgolgcfdaaGreat.PNum
end
