/- A walk, written by a program of this session out of the translation (a printed Lean function, and that the Go code comes to its answer). Lean checks it. -/
import Derived.Test.YtapgbpghdeimpaaPNumx0
import Derived.Test.YtapgbpghdeimpaaPNumx3
import Derived.Test.YtapgbpghdeimpaaMt5
import Derived.Test.YtapgbpghdeimpaaWRd
import Derived.Test.YtapgbpghdeimpaaWPu
namespace Go.Proofs.Ytapgbpghdeimpaa.PNum
open Go.RowKit Go.Proofs.YtapgbpghdeimpaaW.PrintWords Go.Proofs.YtapgbpghdeimpaaW.PrintLast Go.Proofs.YtapgbpghdeimpaaW.PrintMore
attribute [local go_sem] max2_int min2_int max_two min_two max_three min_three max_four min_four   -- for this text's walks alone
set_option linter.unusedVariables false
set_option linter.unusedSimpArgs false

-- OWNIMPORT Derived.Test.YtapgbpghdeimpaaMt5
-- OWNIMPORT Derived.Test.YtapgbpghdeimpaaWRd
-- OWNIMPORT Derived.Test.YtapgbpghdeimpaaWPu
/-! ### cornucopialaw8_MemNone: function 4 -/
/-- What a call comes to: true. -/
def cornucopialaw8_MemNone.f (a0 : Int) (l1 : List S32) : Option Bool := if (l1.all fun e => decide (e.f0.size ≤ 140737488351232 ∧ e.f1.size ≤ 140737488351232)) = true then some true else none
set_option maxHeartbeats 8000000 in
set_option maxRecDepth 100000 in
theorem cornucopialaw8_MemNone.calls (a0 : Int) (A1 : Option Addr) (c1 : Nat) (l1 : List S32) (r : Bool) (w : World) (hr1 : Kd.C k32 w A1 l1.length l1) (hc1 : l1.length ≤ c1) (h : cornucopialaw8_MemNone.f a0 l1 = some r) :
    Calls Try.prog 4 #[.int .u64 a0, .slice A1 l1.length c1] w fun e w' => e = .returned (.bool r) ∧ Below w.heap.size w w' := by
  unfold cornucopialaw8_MemNone.f at h
  split at h
  case isFalse => cases h
  case isTrue hg =>
  obtain rfl : true = r := Option.some.inj h
  obtain ⟨sb, ⟨ks, hks⟩, hsm⟩ := PuSw.SmallW_ev l1 (fun e he => of_decide_eq_true (List.all_eq_true.1 hg e he))
  have HKS := Aside0.mk (hks ks (Nat.le_refl _))
  have HR0 := Aside0.mk hr1
  have HC0 := Aside0.mk hc1
  clear h hg hks hr1 hc1
  have HB := Aside0.mk (Below.refl w.heap.size w)
  cases sb
  case false =>
    go_enter Try.func4, Try.ntmps4
    go_wp2_with (first | (go_at_call 6; refine (cornucopialaw6_SmallWrites.calls ks _ _ l1 false _ HR0.out HC0.out HKS.out).mono ?_; rintro e w1 ⟨rfl, hb⟩; have n0_ := Aside0.mk (below_step HB.out hb); clear HB; have HB := n0_; clear n0_; clear hb) | (go_at_call 7; refine (Mt.alive_calls _).mono ?_; rintro e w9 ⟨rfl, hb⟩; have n0_ := Aside0.mk (below_step HB.out hb); clear HB; have HB := n0_; clear n0_; clear hb))
    go_ret
    exact ⟨rfl, HB.out⟩
  case true =>
  go_enter Try.func4, Try.ntmps4
  go_wp2_with (first | (go_at_call 6; refine (cornucopialaw6_SmallWrites.calls ks _ _ l1 true _ HR0.out HC0.out HKS.out).mono ?_; rintro e w1 ⟨rfl, hb⟩; have n0_ := Aside0.mk (below_step HB.out hb); clear HB; have HB := n0_; clear n0_; clear hb) | (go_at_call 9; refine (Mt.add_nil _ a0 A1 l1.length c1).mono ?_; rintro e w2 ⟨rfl, hb⟩; have n0_ := Aside0.mk (below_step HB.out hb); clear HB; have HB := n0_; clear n0_; clear hb) | (go_at_call 10; refine (Mt.tget_nil _ ⟨#[97]⟩ 1).mono ?_; rintro e w3 ⟨rfl, hb⟩; have n0_ := Aside0.mk (below_step HB.out hb); clear HB; have HB := n0_; clear n0_; clear hb) | (go_at_call 7; refine (Mt.alive_calls _).mono ?_; rintro e w9 ⟨rfl, hb⟩; have n0_ := Aside0.mk (below_step (below_alloc HB.out _) hb); clear HB; have HB := n0_; clear n0_; clear hb) | (go_at_call 11; refine (Mt.range_nil' _ ⟨#[]⟩ ⟨#[]⟩).mono ?_; rintro e w10 ⟨rfl, hb⟩; have n0_ := Aside0.mk (below_step HB.out hb); clear HB; have HB := n0_; clear n0_; clear hb) | (go_at_call 12; refine (Mt.size_nil' _).mono ?_; rintro e w11 ⟨rfl, hb⟩; have n0_ := Aside0.mk (below_step HB.out hb); clear HB; have HB := n0_; clear n0_; clear hb) | (go_at_call 13; refine (Mt.tlen_nil' _).mono ?_; rintro e w12 ⟨rfl, hb⟩; have n0_ := Aside0.mk (below_step HB.out hb); clear HB; have HB := n0_; clear n0_; clear hb) | (go_at_call 14; refine (Mt.last_nil' _).mono ?_; rintro e w13 ⟨rfl, hb⟩; have n0_ := Aside0.mk (below_step HB.out hb); clear HB; have HB := n0_; clear n0_; clear hb))
  go_ret
  exact ⟨rfl, HB.out⟩


/-- THE ONE PURE STATEMENT of cornucopialaw8_MemNone. -/
def cornucopialaw8_MemNone.Pure : Prop := ∀ (a0 : Int) (l1 : List (S32)), (Lit.int .u64 a0).wf = true → l1.length * 40 ≤ 140737488351232 → (∀ x_ ∈ l1, wfS32 x_) → cornucopialaw8_MemNone.f a0 l1 = some true
theorem cornucopialaw8_MemNone.walk (P : cornucopialaw8_MemNone.Pure) (a0 : Int) (A1 : Option Addr) (c1 : Nat) (l1 : List (S32)) (w : World) (w0_0 : (Lit.int .u64 a0).wf = true) (hr1 : Kd.C k32 w A1 l1.length l1) (hc1 : l1.length ≤ c1) (w1_0 : l1.length * 40 ≤ 140737488351232) (w1_1 : (∀ x_ ∈ l1, wfS32 x_)) :
    Calls Try.prog 4 #[.int .u64 a0, .slice A1 l1.length c1] w fun e w' => e = .returned (.bool true) ∧ Below w.heap.size w w' := by
  have h := P a0 l1 w0_0 w1_0 w1_1
  refine (cornucopialaw8_MemNone.calls a0 _ _ l1 true w hr1 hc1 h).mono ?_
  rintro e w' ⟨rfl, hd⟩
  exact ⟨rfl, hd⟩

end Go.Proofs.Ytapgbpghdeimpaa.PNum
