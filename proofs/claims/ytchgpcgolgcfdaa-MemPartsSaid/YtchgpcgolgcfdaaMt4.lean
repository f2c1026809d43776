/- What a first small table tells (chapter 8's first call). -/
import Derived.Test.YtchgpcgolgcfdaaMt3
namespace Go.Proofs.Ytchgpcgolgcfdaa.Mt
open Go Go.RowKit Go.Proofs.Ytchgpcgolgcfdaa.PNum Go.Proofs.Ytchgpcgolgcfdaa.RkM Go.Proofs.Ytchgpcgolgcfdaa.Rk Go.Proofs.YtchgpcgolgcfdaaW.PrintWords Go.Proofs.YtchgpcgolgcfdaaW.PrintLast Go.Proofs.YtchgpcgolgcfdaaW.PrintMore
set_option linter.unusedVariables false
set_option linter.unusedSimpArgs false
def wA : S79 := ⟨⟨#[97]⟩, ⟨#[]⟩, false⟩
def wB : S79 := ⟨⟨#[97]⟩, ⟨#[]⟩, true⟩
def eA : E := ⟨⟨#[97]⟩, 5, 1, ⟨#[]⟩⟩
def eB : E := ⟨⟨#[97]⟩, 6, 2, ⟨#[]⟩⟩
theorem two_ok : okW [wA, wB] = true := by decide +kernel
theorem two_list : addL 5 0 [wA, wB] [] = [eB, eA] := by
  have h1 : eOf 5 0 wA = eA := rfl
  have h2 : eOf 5 1 wB = eB := rfl
  have v1 : PuIkC.valid eA.f0 eA.f2 eA.f3 = true := by decide +kernel
  have v2 : PuIkC.valid eB.f0 eB.f2 eB.f3 = true := by decide +kernel
  have c1 : PuIkC.ce eA eB = 1 := by decide +kernel
  have i1 : insV eA [] = [eA] := by unfold insV; rw [if_pos v1]; rfl
  have i2 : insV eB [eA] = [eB, eA] := by unfold insV; rw [if_pos v2, ins, c1]; rfl
  rw [addL, h1, i1, addL, h2, i2, addL]
theorem two_size : sizeL [wA, wB] 0 = 34 := by decide +kernel
theorem two_a : pickL ⟨#[97]⟩ 5 [eB, eA] = some eA := by
  rw [pickL, if_neg (by rintro ⟨_, h⟩; exact absurd h (by decide)), pickL, if_pos ⟨rfl, by decide⟩]
theorem two_b : pickL ⟨#[97]⟩ 6 [eB, eA] = some eB := by rw [pickL, if_pos ⟨rfl, by decide⟩]
/-- A row of writes beside a table stays where the table grows. -/
theorem row_stays {w0 w : World} {b : Nat} {g : Nat} {d : Value} {ds : List Int} {ns : List Nd} {size last : Int} (h : OkT w0 w g d ds ns size last) {A : Option Addr} {c : Nat} {W : List S79} (hr : Kd.R k79 79 w b (fun _ => True) (.slice A W.length c) W) : ∀ V : World, FrO w V g ns → Below w0.heap.size w0 V → w.heap.size ≤ V.heap.size → Kd.C k79 V A W.length W := by
  intro V hf _ _
  obtain ⟨⟨a, ⟨⟨t, h1⟩, _, _⟩, _⟩, _⟩ := h
  have h2 := Kd.R_types hr (g := g) (t := 91) h1.hd (by intro q hq; simp at hq; rcases hq with rfl | hq; decide; simp [k79, Kd.iso, Kd.pair, Kd.string, Kd.bool, Kd.scalar] at hq)
  have h3 := Kd.R_bound h2
  refine (Kd.R_reads' (Kd.R_move h3 (fun k hk => hf k hk.2.2.1 hk.1.2 (fun hm => ?_)))).2.2
  obtain ⟨x, hx, rfl⟩ := List.mem_map.1 hm
  obtain ⟨p, q, rfl⟩ := List.append_of_mem hx
  obtain ⟨q', hq', cells, hc⟩ := hk.2.2.2
  rw [h1.ch.blk] at hc
  simp only [Option.some.injEq, Obj.cells.injEq] at hc
  simp [k79, Kd.iso, Kd.pair, Kd.string, Kd.bool, Kd.scalar] at hq'
  rw [hq'] at hc
  exact absurd hc.2.1 (by decide)
set_option maxHeartbeats 8000000 in
set_option maxRecDepth 100000 in
theorem alive_calls (w : World) :
    Calls Try.prog 16 #[] w fun e w' => e = .returned (.bool true) ∧ Below w.heap.size w w' := by
  have HB := Aside0.mk (Below.refl w.heap.size w)
  go_enter Try.func16, Try.ntmps16
  go_wp2_with (first
    | ((with_reducible refine gate_dst (N := 8) rfl ?_); refine Kd.R_lit (Kd.int .i64) _ 3 ?hg (N := 8) ?hd (xs := ([1, 2] : List Int)) (inner := [.int .i64 1, .int .i64 2]) (ok := fun _ => True) (okp := fun _ => True) ?hr ?hp (fun _ hk => hk) trivial (Below.refl _ _) (Nat.le_refl _) (by simp) ?_; (case hd => rfl); (case hg => rfl); (case hr => first | (go_simp; done) | (go_simp; rfl)); (case hp => exact Kd.reps_scalar (enc := Value.int .i64) [1, 2]); intro v9 w9 ho9 hb9 hg_ hnew_; clear hg_ hnew_; have HO9 := Aside0.mk ho9; have n0_ := Aside0.mk (below_step HB.out hb9); clear ho9 hb9 HB; have HB := n0_; clear n0_; obtain ⟨Ao, co, eo⟩ := Kd.R_slice HO9.out; subst eo)
    | (go_at_call 17; refine (new_calls w _ Ao co [1, 2] (Kd.R_reads' HO9.out).2.2 (by simp) HB.out).mono ?_; rintro e w1 ⟨g, d, rfl, ht, _, hb⟩; have HT0 := Aside0.mk ht; have n0_ := Aside0.mk (below_step HB.out hb); clear ht hb HB HO9; have HB := n0_; clear n0_)
    | ((with_reducible refine gate_dst (N := 16) rfl ?_); refine Kd.R_lit k79 _ 79 ?hg (N := 16) ?hd (xs := ([wA, wB] : List S79)) (inner := [.string wA.f0, .string wA.f1, .bool wA.f2, .string wB.f0, .string wB.f1, .bool wB.f2]) (ok := fun _ => True) (okp := fun _ => True) ?hr ?hp (fun _ hk => hk) trivial (Below.refl _ _) (Nat.le_refl _) (by simp) ?_; (case hd => rfl); (case hg => rfl); (case hr => first | (go_simp; done) | (go_simp; rfl)); (case hp => exact (Reps.c3 (k79_mkM _ _ _ wA) (Reps.c3 (k79_mkM _ _ _ wB) (Reps.none _ _)))); intro v19 w19 ho9 hb9 hg_ hnew_; clear hg_ hnew_; have HO19 := Aside0.mk ho9; have n0_ := Aside0.mk (below_step HB.out hb9); have n1_ := Aside0.mk (HT0.out.below hb9); clear ho9 hb9 HB HT0; have HB := n0_; have HT0 := n1_; clear n0_ n1_; obtain ⟨Aw, cw, eo⟩ := Kd.R_slice HO19.out; subst eo)
    | (go_at_call 18; refine (add_yes HT0.out Aw cw [wA, wB] 5 (row_stays HT0.out HO19.out) (by decide) (by decide) two_ok HB.out (by decide) (by decide) (by decide)).mono ?_; rintro e w2 ⟨rfl, ns, ht, hm, hb, _, _⟩; rw [two_size] at ht; have HM : Aside0 (ns.map (·.e) = [eB, eA]) := ⟨hm.trans two_list⟩; have HT1 : Aside0 (OkT w w2 g d [1, 2] ns 34 6) := ⟨ht⟩; clear ht hm HB HT0 HO19; have HB := Aside0.mk hb; clear hb)
    | (go_at_call 32; refine (tget_calls HT1.out ⟨#[97]⟩ 5).mono ?_; rintro e w3 ⟨rfl, hb⟩; rw [show pickL ⟨#[97]⟩ 5 (ns.map (·.e)) = some eA from by rw [HM.out]; exact two_a]; have HT2 := Aside0.mk (HT1.out.below hb); have n0_ := Aside0.mk (below_step HB.out hb); clear HT1 HB hb; have HB := n0_; clear n0_)
    | (go_at_call 32; refine (tget_calls (HT2.out.below (below_alloc (Below.refl _ _) _)) ⟨#[97]⟩ 6).mono ?_; rintro e w4 ⟨rfl, hb⟩; rw [show pickL ⟨#[97]⟩ 6 (ns.map (·.e)) = some eB from by rw [HM.out]; exact two_b]; have HX := Aside0.mk (blk_below (blk_new _ _) hb); have HT3 := Aside0.mk ((HT2.out.below (below_alloc (Below.refl _ _) _)).below hb); have n0_ := Aside0.mk (below_step (below_alloc HB.out _) hb); clear HT2 HB hb; have HB := n0_; clear n0_; have r1 : w4.cell? ⟨w3.heap.size, 1, none⟩ = some (.int .u64 5) := (blk_cell HX.out 1).trans rfl; have hlt := blk_lt HX.out; have hB2 : eB.f2 = 2 := rfl)
    | (go_at_call 20; refine (size_calls (HT3.out.below (below_alloc (Below.refl _ _) _))).mono ?_; rintro e w5 ⟨rfl, rfl⟩)
    | (go_at_call 33; refine (tlen_calls (HT3.out.below (below_alloc (Below.refl _ _) _))).mono ?_; rintro e w5 ⟨rfl, rfl⟩; rw [show ns.length = 2 from by have := congrArg List.length HM.out; simpa using this])
    | (go_at_call 34; refine (last_calls (HT3.out.below (below_alloc (Below.refl _ _) _))).mono ?_; rintro e w5 ⟨rfl, rfl⟩))
  go_ret
  exact ⟨rfl, below_alloc HB.out _⟩
end Go.Proofs.Ytchgpcgolgcfdaa.Mt
