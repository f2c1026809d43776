/- A walk, written by a program of this session out of the translation (a printed Lean function, and that the Go code comes to its answer). Lean checks it. -/
import Derived.Test.YtfldbgnmdkbfkaaPNumx0
import Derived.Test.YtfldbgnmdkbfkaaPNumx3
import Derived.Test.YtfldbgnmdkbfkaaSk9
import Derived.Test.YtfldbgnmdkbfkaaWRd
import Derived.Test.YtfldbgnmdkbfkaaWPu
namespace Go.Proofs.Ytfldbgnmdkbfkaa.PNum
open Go.RowKit Go.Proofs.YtfldbgnmdkbfkaaW.PrintWords Go.Proofs.YtfldbgnmdkbfkaaW.PrintLast Go.Proofs.YtfldbgnmdkbfkaaW.PrintMore
attribute [local go_sem] max2_int min2_int max_two min_two max_three min_three max_four min_four   -- for this text's walks alone
set_option linter.unusedVariables false
set_option linter.unusedSimpArgs false

-- OWNIMPORT Derived.Test.YtfldbgnmdkbfkaaSk9
-- OWNIMPORT Derived.Test.YtfldbgnmdkbfkaaWRd
-- OWNIMPORT Derived.Test.YtfldbgnmdkbfkaaWPu
/-! ### cornucopialaw7_SkipNone: function 3 -/
/-- What a call comes to: true. -/
def cornucopialaw7_SkipNone.f (x0 : ByteArray) (x1 x2 : Int) (x3 : ByteArray) (a1 : Int) : Option Bool := if x0.size ≤ 140737488351232 ∧ x3.size ≤ 140737488351232 then some true else none
set_option maxHeartbeats 8000000 in
set_option maxRecDepth 100000 in
theorem cornucopialaw7_SkipNone.calls (x0 : ByteArray) (x1 x2 : Int) (x3 : ByteArray) (a1 : Int) (r : Bool) (w : World) (h : cornucopialaw7_SkipNone.f x0 x1 x2 x3 a1 = some r) :
    Calls Try.prog 3 #[.agg #[.string x0, .int .u64 x1, .int .i64 x2, .string x3], .int .i64 a1] w fun e w' => e = .returned (.bool r) ∧ Below w.heap.size w w' := by
  unfold cornucopialaw7_SkipNone.f at h
  split at h
  · rename_i hg
    obtain rfl := Option.some.inj h
    obtain ⟨sb, ⟨ks, hks⟩, _⟩ := PuSm.Small_ev [(⟨x0, x1, x2, x3⟩ : S24)] (fun e he => by rcases List.mem_singleton.1 he with rfl; exact hg)
    have HKS := Aside0.mk (hks ks (Nat.le_refl _))
    clear h hg hks
    have h0 := blk_new w (.cells #[.string x0, .int .u64 x1, .int .i64 x2, .string x3] 24)
    have h1 := blk_new (w.alloc (.cells #[.string x0, .int .u64 x1, .int .i64 x2, .string x3] 24)) (.cells #[.string x0, .int .u64 x1, .int .i64 x2, .string x3] 24)
    have hs : (w.alloc (.cells #[.string x0, .int .u64 x1, .int .i64 x2, .string x3] 24)).heap.size = w.heap.size + 1 := by simp
    have HC : Aside0 (Kd.C k24 ((w.alloc (.cells #[.string x0, .int .u64 x1, .int .i64 x2, .string x3] 24)).alloc (.cells #[.string x0, .int .u64 x1, .int .i64 x2, .string x3] 24)) (some ⟨w.heap.size + 1, 0, none⟩) [(⟨x0, x1, x2, x3⟩ : S24)].length [(⟨x0, x1, x2, x3⟩ : S24)]) := ⟨by rw [← hs]; exact Sk.one_C h1⟩
    have HX : Aside0 (((w.alloc (.cells #[.string x0, .int .u64 x1, .int .i64 x2, .string x3] 24)).alloc (.cells #[.string x0, .int .u64 x1, .int .i64 x2, .string x3] 24)).heap[w.heap.size]? = some (.cells #[.string x0, .int .u64 x1, .int .i64 x2, .string x3] 24)) := ⟨blk_alloc h0 _⟩
    have HB := Aside0.mk (below_alloc (below_alloc (Below.refl w.heap.size w) (.cells #[.string x0, .int .u64 x1, .int .i64 x2, .string x3] 24)) (.cells #[.string x0, .int .u64 x1, .int .i64 x2, .string x3] 24))
    clear h0 h1 hs
    cases sb
    · go_enter Try.func3, Try.ntmps3
      go_wp2_with (first | (go_at_call 6; refine (cornucopialaw5_Small.calls ks _ _ [(⟨x0, x1, x2, x3⟩ : S24)] false _ HC.out (Nat.le_refl _) HKS.out).mono ?_; rintro e w1 ⟨rfl, hb⟩; have n0_ := Aside0.mk (below_step HB.out hb); clear HB HC hb; have HB := n0_; clear n0_) | (go_at_call 7; refine (Sk.alive_calls _).mono ?_; rintro e w1 ⟨rfl, hb⟩; have n0_ := Aside0.mk (below_step HB.out hb); clear HB hb; have HB := n0_; clear n0_))
      go_ret
      exact ⟨rfl, HB.out⟩
    · go_enter Try.func3, Try.ntmps3
      go_upto_region 5 with (first | (go_at_call 6; refine (cornucopialaw5_Small.calls ks _ _ [(⟨x0, x1, x2, x3⟩ : S24)] true _ HC.out (Nat.le_refl _) HKS.out).mono ?_; rintro e w1 ⟨rfl, hb⟩; have n0_ := Aside0.mk (below_step HB.out hb); have n1_ := Aside0.mk (blk_below HX.out hb); clear HB HX HC hb; have HB := n0_; have HX := n1_; clear n0_ n1_; have z0 : w1.cell? ⟨w.heap.size, 0, none⟩ = some (.string x0) := (blk_cell HX.out 0).trans rfl) | (go_at_call 8; refine (Sk.get_nil _ x0 9).mono ?_; rintro e w2 ⟨rfl, hb⟩; have n0_ := Aside0.mk (below_step HB.out hb); have n1_ := Aside0.mk (blk_below HX.out hb); clear HB HX hb z0; have HB := n0_; have HX := n1_; clear n0_ n1_))
      have hj : Sk.JN w (w2.alloc (.cells #[.string ⟨#[]⟩, .int .u64 0, .int .i64 0, .string ⟨#[]⟩] 24)) w.heap.size w2.heap.size (⟨x0, x1, x2, x3⟩ : S24) := ⟨blk_alloc HX.out _, blk_new w2 _, below_alloc HB.out _⟩
      have HJ := Aside0.mk hj
      have heq := Sk.eqZ
      clear hj HX HB HKS
      generalize World.alloc w2 _ = V at *
      generalize w2.heap.size = zb at *
      go_region_held3 (fun V => V.cell? ⟨w.heap.size, 0, none⟩ = some (.string x0) ∧ V.cell? ⟨w.heap.size, 1, none⟩ = some (.int .u64 x1) ∧ V.cell? ⟨w.heap.size, 2, none⟩ = some (.int .i64 x2) ∧ V.cell? ⟨w.heap.size, 3, none⟩ = some (.string x3) ∧ V.cell? ⟨zb, 0, none⟩ = some (.string ⟨#[]⟩) ∧ V.cell? ⟨zb, 1, none⟩ = some (.int .u64 0) ∧ V.cell? ⟨zb, 2, none⟩ = some (.int .i64 0) ∧ V.cell? ⟨zb, 3, none⟩ = some (.string ⟨#[]⟩) ∧ Aside0 (Sk.JN w V w.heap.size zb (⟨x0, x1, x2, x3⟩ : S24))) (first | exact Sk.JN.out HJ.out | exact Sk.JN.out (Sk.JN.drew HJ.out) | exact Sk.JN.stepD HJ.out hb | exact Sk.JN.stepB (w := w) (eb := w.heap.size) (zb := zb) (e := (⟨x0, x1, x2, x3⟩ : S24)) hb (by assumption)) (first | (go_at_call 7; refine (Sk.alive_calls _).mono ?_; rintro e w9 ⟨rfl, hb⟩) | (go_at_call 9; refine (Sk.put_nil _ (⟨x0, x1, x2, x3⟩ : S24) a1).mono ?_; rintro e w9 ⟨rfl, hb⟩) | (go_at_call 10; refine (Sk.all_nil _).mono ?_; rintro e w9 ⟨rfl, hb⟩) | (go_at_call 11; refine (Sk.from_nil _ ⟨#[]⟩).mono ?_; rintro e w9 ⟨rfl, hb⟩) | (go_at_call 12; refine (Sk.len_nil' _).mono ?_; rintro e w9 ⟨rfl, hb⟩) | (go_at_call 13; refine (Sk.height_nil' _).mono ?_; rintro e w9 ⟨rfl, hb⟩) | (go_at_call 14; refine (Sk.path_nil' _ x0).mono ?_; rintro e w9 ⟨rfl, hb⟩))
      have hfin : Sk.CN w w9 w.heap.size zb (⟨x0, x1, x2, x3⟩ : S24) := by unfold Sk.CN; assumption
      have HFB := Aside0.mk hfin.2.2.2.2.2.2.2.2.out.bel
      clear hfin
      go_wp2_with (fail)
      go_ret
      exact ⟨rfl, HFB.out⟩
  · cases h


/-- THE ONE PURE STATEMENT of cornucopialaw7_SkipNone. -/
def cornucopialaw7_SkipNone.Pure : Prop := ∀ (s0 : S24) (a1 : Int), wfS24 s0 → (Lit.int .i64 a1).wf = true → cornucopialaw7_SkipNone.f s0.f0 s0.f1 s0.f2 s0.f3 a1 = some true
theorem cornucopialaw7_SkipNone.walk (P : cornucopialaw7_SkipNone.Pure) (s0 : S24) (a1 : Int) (w : World) (w0_0 : wfS24 s0) (w1_0 : (Lit.int .i64 a1).wf = true) :
    Calls Try.prog 3 #[.agg #[.string s0.f0, .int .u64 s0.f1, .int .i64 s0.f2, .string s0.f3], .int .i64 a1] w fun e w' => e = .returned (.bool true) ∧ Below w.heap.size w w' := by
  have h := P s0 a1 w0_0 w1_0
  refine (cornucopialaw7_SkipNone.calls s0.f0 s0.f1 s0.f2 s0.f3 a1 true w h).mono ?_
  rintro e w' ⟨rfl, hd⟩
  exact ⟨rfl, hd⟩

end Go.Proofs.Ytfldbgnmdkbfkaa.PNum
