/- Size of batch.Batch, and what a first small batch tells. -/
import Derived.Test.YtnaojalieecaeaaBat3
namespace Go.Proofs.Ytnaojalieecaeaa.Bat
open Go Go.RowKit Go.Maps Go.Sort Go.Proofs.Ytnaojalieecaeaa.PBat Go.Proofs.Ytnaojalieecaeaa.BatM Go.Proofs.YtnaojalieecaeaaW.PrintWords Go.Proofs.YtnaojalieecaeaaW.PrintLast Go.Proofs.YtnaojalieecaeaaW.PrintMore
set_option linter.unusedVariables false
set_option linter.unusedSimpArgs false
def szs (l : List S27) : Int := l.foldl (fun n x => wrap64 (n + wrap64 ((x.f0.size : Int) + (x.f1.size : Int)))) 0
theorem szs_take {l : List S27} {j : Nat} (h : j < l.length) : szs (l.take (j + 1)) = wrap64 (szs (l.take j) + wrap64 (((rd_T27 l (j : Int)).f0.size : Int) + ((rd_T27 l (j : Int)).f1.size : Int))) := by
  have e : rd_T27 l (j : Int) = l[j] := by simp [rd_T27, h]
  unfold szs
  rw [e, List.take_succ_eq_append_getElem h, List.foldl_append]
  rfl
set_option maxHeartbeats 8000000 in
set_option maxRecDepth 100000 in
theorem size_nil (w : World) :
    Calls Try.prog 14 #[.pointer none] w fun e w' => e = .returned (.int .i64 0) ∧ Below w.heap.size w w' := by
  have HB := Aside0.mk (Below.refl w.heap.size w)
  go_enter Try.func14, Try.ntmps14
  go_wp2_with (first | (go_at_call 9; refine (writes_nil_calls _).mono ?_; rintro e w1 ⟨rfl, rfl⟩))
  go_loopw [3, 9] (fun v3 v9 w' => v3 = .int .i64 0 ∧ v9 = .int .i64 0 ∧ Aside0 (RowKit.Below w1.heap.size w1 w')) (fun _ _ _ => 0)
  case atStart => exact ⟨rfl, rfl, HB⟩
  case round =>
    obtain ⟨rfl, rfl, HB⟩ := hrel
    go_wp2_with (fail)
    go_ret
    exact ⟨rfl, HB.out⟩
set_option maxHeartbeats 8000000 in
set_option maxRecDepth 100000 in
theorem join_nil (w : World) :
    Calls Try.prog 12 #[.pointer none, .pointer none] w fun e w' => e = .returned (.tuple #[]) ∧ Below w.heap.size w w' := by
  have HB := Aside0.mk (Below.refl w.heap.size w)
  go_enter Try.func12, Try.ntmps12
  go_wp2_with (first | (go_at_call 9; refine (writes_nil_calls _).mono ?_; rintro e w1 ⟨rfl, rfl⟩))
  go_loopw [9] (fun v9 w' => v9 = .int .i64 0 ∧ Aside0 (RowKit.Below w1.heap.size w1 w')) (fun _ _ => 0)
  case atStart => exact ⟨rfl, HB⟩
  case round =>
    obtain ⟨rfl, HB⟩ := hrel
    go_wp2_with (fail)
    first | go_end0 | ((try simp only [Exit.inBlock, Exit.then]); refine bodyPost_ret (results_none rfl _ _ _) rfl ?_)
    exact ⟨rfl, HB.out⟩
set_option maxHeartbeats 8000000 in
set_option maxRecDepth 100000 in
theorem size_calls (w0 w : World) (g : Nat) (l : List S27) (hI : IsB w0 w g l) (hB : Below w0.heap.size w0 w) (hl : l.length < 1000000) :
    Calls Try.prog 14 #[.pointer (some ⟨g, 0, none⟩)] w fun e w' => e = .returned (.int .i64 (szs (writes l))) ∧ Below w.heap.size w w' := by
  have HB := Aside0.mk (Below.refl w.heap.size w)
  have HI := Aside0.mk hI
  have HB0 := Aside0.mk hB
  have HL := Aside0.mk hl
  clear hI hB hl
  go_enter Try.func14, Try.ntmps14
  go_wp2_with (first | (go_at_call 9; refine (writes_calls w0 _ g l HI.out HB0.out HL.out).mono ?_; rintro e w1 ⟨v, rfl, hr, hb⟩; obtain ⟨A, c, rfl, hcc, hC⟩ := Kd.R_reads hr; have HC := Aside0.mk hC; have HCC := Aside0.mk hcc; clear HB; have HB := Aside0.mk hb; clear hr hC hcc hb))
  have hlen : (writes l).length ≤ 9223372036854775807 := Kd.C_max HC.out
  obtain ⟨m, hm⟩ : ∃ m, m = writes l := ⟨_, rfl⟩
  have HM := Aside0.mk hm
  rw [← hm] at HC HCC hlen ⊢
  clear hm
  go_loopw [3, 9] (fun v3 v9 w' => ∃ j : Nat, v3 = .int .i64 (szs (m.take j)) ∧ v9 = .int .i64 j ∧ j ≤ m.length ∧ Aside0 (Kd.C k27 w' A m.length m) ∧ Aside0 (Below w.heap.size w w')) (fun _ v9 _ => m.length - (intOf v9).toNat)
  case atStart => exact ⟨0, rfl, rfl, Nat.zero_le _, HC, HB⟩
  case round =>
    clear HC HB
    obtain ⟨j, rfl, rfl, hj, HC, HB⟩ := hrel
    by_cases hlk : j < m.length
    · have p0 : (0 : Int) ≤ (j : Int) := Int.natCast_nonneg _
      have q0 : (j : Int) < (m.length : Int) := Int.ofNat_lt.mpr hlk
      obtain ⟨ad, e0, y0, y1, y2⟩ := at_T27 HC.out (j : Int) p0 q0
      cases e0
      have HT := Aside0.mk (szs_take hlk)
      simp only [Int.toNat_natCast] at y0 y1 y2
      generalize rd_T27 m (j : Int) = x at *
      have t0 : decide ((j : Int) < (m.length : Int)) = true := decide_eq_true q0
      go_wp2_with (fail)
      go_roundw
      case rel => exact ⟨j + 1, by rw [HT.out], by go_num, by omega, ⟨Kd.C_alloc HC.out _⟩, ⟨below_alloc HB.out _⟩⟩
      case measure => simp [intOf]; omega
    · have hje : j = m.length := by omega
      have HX : Aside0 (szs (m.take j) = szs (writes l)) := ⟨by rw [hje, List.take_length, HM.out]⟩
      have t0 : decide ((j : Int) < (m.length : Int)) = false := decide_eq_false (by omega)
      clear hje
      go_wp2_with (fail)
      go_ret
      exact ⟨by rw [← HX.out]; rfl, HB.out⟩
theorem first_writes : writes [(⟨⟨#[98]⟩, ⟨#[49]⟩, false⟩ : S27), (⟨⟨#[97]⟩, ⟨#[50]⟩, false⟩ : S27), (⟨⟨#[98]⟩, ⟨#[]⟩, true⟩ : S27)] = [(⟨⟨#[97]⟩, ⟨#[50]⟩, false⟩ : S27), (⟨⟨#[98]⟩, ⟨#[]⟩, true⟩ : S27)] := by
  have h : strKeys (D [(⟨⟨#[98]⟩, ⟨#[49]⟩, false⟩ : S27), (⟨⟨#[97]⟩, ⟨#[50]⟩, false⟩ : S27), (⟨⟨#[98]⟩, ⟨#[]⟩, true⟩ : S27)]) = [[97], [98]] := by rfl
  unfold writes ks
  rw [h, List.mergeSort_of_pairwise (by decide)]
  rfl
theorem first_szs : szs [(⟨⟨#[97]⟩, ⟨#[50]⟩, false⟩ : S27), (⟨⟨#[98]⟩, ⟨#[]⟩, true⟩ : S27)] = 3 := by decide +kernel
theorem first_size : Maps.size (D [(⟨⟨#[98]⟩, ⟨#[49]⟩, false⟩ : S27), (⟨⟨#[97]⟩, ⟨#[50]⟩, false⟩ : S27), (⟨⟨#[98]⟩, ⟨#[]⟩, true⟩ : S27)]) = 2 := by rfl
set_option maxHeartbeats 8000000 in
set_option maxRecDepth 100000 in
theorem alive_calls (w : World) :
    Calls Try.prog 5 #[] w fun e w' => e = .returned (.bool true) ∧ Below w.heap.size w w' := by
  have HB := Aside0.mk (Below.refl w.heap.size w)
  go_enter Try.func5, Try.ntmps5
  go_wp2_with (first | (go_at_call 6; refine (new_calls w _ HB.out).mono ?_; rintro e w1 ⟨g, rfl, hi, hb⟩; have HI := Aside0.mk hi; have n0_ := Aside0.mk (below_step HB.out hb); clear HB; have HB := n0_; clear n0_ hi hb) | (go_at_call 8; refine (put_calls w _ g [] HI.out HB.out ⟨#[98]⟩ ⟨#[49]⟩ (by decide) (by decide) (by simp)).mono ?_; rintro e w1 ⟨rfl, hi, hb, hk⟩; clear HI HB; have HI := Aside0.mk hi; have HB := Aside0.mk hb; clear hi hb hk) | (go_at_call 8; refine (put_calls w _ g [(⟨⟨#[98]⟩, ⟨#[49]⟩, false⟩ : S27)] HI.out HB.out ⟨#[97]⟩ ⟨#[50]⟩ (by decide) (by decide) (by simp)).mono ?_; rintro e w1 ⟨rfl, hi, hb, hk⟩; clear HI HB; have HI := Aside0.mk hi; have HB := Aside0.mk hb; clear hi hb hk) | (go_at_call 7; refine (delete_calls w _ g [(⟨⟨#[98]⟩, ⟨#[49]⟩, false⟩ : S27), (⟨⟨#[97]⟩, ⟨#[50]⟩, false⟩ : S27)] HI.out HB.out ⟨#[98]⟩ (by decide) (by simp)).mono ?_; rintro e w1 ⟨rfl, hi, hb, hk⟩; clear HI HB; have HI := Aside0.mk hi; have HB := Aside0.mk hb; clear hi hb hk) | (go_at_call 9; refine (writes_calls w _ g [(⟨⟨#[98]⟩, ⟨#[49]⟩, false⟩ : S27), (⟨⟨#[97]⟩, ⟨#[50]⟩, false⟩ : S27), (⟨⟨#[98]⟩, ⟨#[]⟩, true⟩ : S27)] HI.out HB.out (by simp)).mono ?_; rintro e w2 ⟨v, rfl, hr, hb⟩; rw [first_writes] at hr; obtain ⟨gm, c, rfl, _⟩ := Kd.R_form hr (by decide); obtain ⟨_, hcc, hC⟩ := Kd.R_reads' hr; obtain ⟨ad, e0, y0, y1, y2⟩ := at_T27 hC 0 (by omega) (by decide); obtain ⟨ad', e0', z0, z1, z2⟩ := at_T27 hC 1 (by omega) (by decide); cases e0; cases e0'; change w2.cell? ⟨gm, 0, none⟩ = some (.string ⟨#[97]⟩) at y0; change w2.cell? ⟨gm, 5, none⟩ = some (.bool true) at z2; clear y1 y2 z0 z1; have n0_ := Aside0.mk (IsB.below HI.out hb); have n1_ := Aside0.mk (below_step HB.out hb); clear HI HB; have HI := n0_; have HB := n1_; have hcap : 2 ≤ c := (by simpa using hcc); clear n0_ n1_ hb hr hC hcc) | (go_at_call 11; refine (len_calls w _ g [(⟨⟨#[98]⟩, ⟨#[49]⟩, false⟩ : S27), (⟨⟨#[97]⟩, ⟨#[50]⟩, false⟩ : S27), (⟨⟨#[98]⟩, ⟨#[]⟩, true⟩ : S27)] HI.out HB.out).mono ?_; rintro e w3 ⟨rfl, rfl⟩; rw [first_size]) | (go_at_call 14; refine (size_calls w _ g [(⟨⟨#[98]⟩, ⟨#[49]⟩, false⟩ : S27), (⟨⟨#[97]⟩, ⟨#[50]⟩, false⟩ : S27), (⟨⟨#[98]⟩, ⟨#[]⟩, true⟩ : S27)] HI.out HB.out (by simp)).mono ?_; rintro e w3 ⟨rfl, hb⟩; rw [first_writes, first_szs]; have n1_ := Aside0.mk (below_step HB.out hb); clear HB; have HB := n1_; clear n1_ hb))

  go_ret
  exact ⟨rfl, HB.out⟩
end Go.Proofs.Ytnaojalieecaeaa.Bat
