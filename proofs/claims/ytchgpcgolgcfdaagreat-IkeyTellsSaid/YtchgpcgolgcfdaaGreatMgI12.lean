/- Texts of this claim, put together and cut down to what is used (I12). -/
import Derived.Test.YtchgpcgolgcfdaaGreatMgI3
import Derived.Test.YtchgpcgolgcfdaaGreatMgI11
import Derived.Test.YtchgpcgolgcfdaaGreatMgI1
section
namespace Go.Proofs.YtchgpcgolgcfdaaGreat.PNum
open Go.RowKit Go.Proofs.YtchgpcgolgcfdaaGreatW.PrintWords Go.Proofs.YtchgpcgolgcfdaaGreatW.PrintLast Go.Proofs.YtchgpcgolgcfdaaGreatW.PrintMore
attribute [local go_sem] max2_int min2_int max_two min_two max_three min_three max_four min_four   -- for this text's walks alone
set_option linter.unusedVariables false
set_option linter.unusedSimpArgs false
def cornucopialaw5_IkeyTells.f (l0 : List S32) (a1 a2 : ByteArray) (a3 : Int) (l4 : List Int) : Option Bool := if ((l0.all fun e => decide (e.f0.size ≤ 140737488351232 ∧ e.f3.size ≤ 140737488351232 ∧ 0 ≤ e.f1 ∧ e.f1 ≤ 18446744073709551615)) && l4.all fun x => (Lit.int .u64 x).wf) = true then some true else none
theorem cornucopialaw5_IkeyTells.calls (A0 : Option Addr) (c0 : Nat) (l0 : List S32) (a1 a2 : ByteArray) (a3 : Int) (A4 : Option Addr) (c4 : Nat) (l4 : List Int) (r : Bool) (w : World)
  (hr0 : Kd.C k32 w A0 l0.length l0) (hc0 : l0.length ≤ c0) (hr4 : Kd.C (Kd.int .u64) w A4 l4.length l4) (hc4 : l4.length ≤ c4) (h : cornucopialaw5_IkeyTells.f l0 a1 a2 a3 l4 = some r) :
  Calls Tryz.prog 5 #[.slice A0 l0.length c0, .string a1, .string a2, .int .u64 a3, .slice A4 l4.length c4] w fun e w' => e = .returned (.bool r) ∧ Below w.heap.size w w' := by
 unfold cornucopialaw5_IkeyTells.f at h
 split at h
 case isFalse => cases h
 case isTrue hg =>
 obtain rfl : true = r := Option.some.inj h
 have hg2 := Bool.and_eq_true_iff.1 hg
 have h1 := fun e he => of_decide_eq_true (List.all_eq_true.1 hg2.1 e he)
 exact IkT.calls A0 c0 l0 a1 a2 a3 A4 c4 l4 w hr0 hc0 hr4 hc4 (fun e he => ⟨(h1 e he).1, (h1 e he).2.1⟩) (fun e he => (h1 e he).2.2) (fun x hx => List.all_eq_true.1 hg2.2 x hx)
def cornucopialaw5_IkeyTells.Pure : Prop := ∀ (l0 : List (S32)) (a1 : ByteArray) (a2 : ByteArray) (a3 : Int) (l4 : List Int), l0.length * 48 ≤ 140737488351232 → (∀ x_ ∈ l0, wfS32 x_) → a1.size ≤ 140737488351232 → a2.size ≤ 140737488351232 → (Lit.int .u64 a3).wf = true → l4.length * 8 ≤ 140737488351232 → (∀ x_ ∈ l4, (Lit.int .u64 x_).wf = true) → cornucopialaw5_IkeyTells.f l0 a1 a2 a3 l4 = some true
theorem cornucopialaw5_IkeyTells.walk (P : cornucopialaw5_IkeyTells.Pure) (A0 : Option Addr) (c0 : Nat) (l0 : List (S32)) (a1 : ByteArray) (a2 : ByteArray) (a3 : Int) (A4 : Option Addr) (c4 : Nat) (l4 : List Int) (w : World) (hr0 : Kd.C k32 w A0 l0.length l0) (hc0 : l0.length ≤ c0) (w0_0 : l0.length * 48 ≤ 140737488351232) (w0_1 : (∀ x_ ∈ l0, wfS32 x_)) (w1_0 : a1.size ≤ 140737488351232) (w2_0 : a2.size ≤ 140737488351232) (w3_0 : (Lit.int .u64 a3).wf = true) (hr4 : Kd.C (Kd.int .u64) w A4 l4.length l4) (hc4 : l4.length ≤ c4) (w4_0 : l4.length * 8 ≤ 140737488351232) (w4_1 : (∀ x_ ∈ l4, (Lit.int .u64 x_).wf = true)) :
  Calls Tryz.prog 5 #[.slice A0 l0.length c0, .string a1, .string a2, .int .u64 a3, .slice A4 l4.length c4] w fun e w' => e = .returned (.bool true) ∧ Below w.heap.size w w' := by
 have h := P l0 a1 a2 a3 l4 w0_0 w0_1 w1_0 w2_0 w3_0 w4_0 w4_1
 refine (cornucopialaw5_IkeyTells.calls _ _ l0 a1 a2 a3 _ _ l4 true w hr0 hc0 hr4 hc4 h).mono ?_
 rintro e w' ⟨rfl, hd⟩
 exact ⟨rfl, hd⟩
end Go.Proofs.YtchgpcgolgcfdaaGreat.PNum
end
section
namespace Go.Proofs.YtchgpcgolgcfdaaGreat.Pure
open Go Go.RowKit Go.Proofs.YtchgpcgolgcfdaaGreat.PNum
theorem IkeyTells : cornucopialaw5_IkeyTells.Pure := by
 intro l0 a1 a2 a3 l4 _ h _ _ _ _ h4
 unfold cornucopialaw5_IkeyTells.f
 exact if_pos (Bool.and_eq_true_iff.2 ⟨List.all_eq_true.2 fun e he => decide_eq_true ⟨(h e he).1, (h e he).2.2.2, Go.Proofs.YtchgpcgolgcfdaaGreatW.Pu.u64_wf (h e he).2.1⟩, List.all_eq_true.2 fun x hx => h4 x hx⟩)
end Go.Proofs.YtchgpcgolgcfdaaGreat.Pure
end
