/- A walk, written by a program of this session out of the translation (a printed Lean function, and that the Go code comes to its answer). Lean checks it. -/
import Derived.Test.YtapgbpghdeimpaaPNumx0
import Derived.Test.YtapgbpghdeimpaaPNumx3
import Derived.Test.YtapgbpghdeimpaaMt5
import Derived.Test.YtapgbpghdeimpaaPuSee
import Derived.Test.YtapgbpghdeimpaaWRd
import Derived.Test.YtapgbpghdeimpaaWPu
namespace Go.Proofs.Ytapgbpghdeimpaa.PNum
open Go.RowKit Go.Proofs.YtapgbpghdeimpaaW.PrintWords Go.Proofs.YtapgbpghdeimpaaW.PrintLast Go.Proofs.YtapgbpghdeimpaaW.PrintMore
attribute [local go_sem] max2_int min2_int max_two min_two max_three min_three max_four min_four   -- for this text's walks alone
set_option linter.unusedVariables false
set_option linter.unusedSimpArgs false

-- OWNIMPORT Derived.Test.YtapgbpghdeimpaaMt5
-- OWNIMPORT Derived.Test.YtapgbpghdeimpaaPuSee
-- OWNIMPORT Derived.Test.YtapgbpghdeimpaaWRd
-- OWNIMPORT Derived.Test.YtapgbpghdeimpaaWPu
/-! ### cornucopialaw8_MemSees: function 3 -/
/-- What a call comes to: true. -/
def cornucopialaw8_MemSees.f (l0 : List S32) (a1 : ByteArray) : Option Bool := if (l0.all fun e => decide (e.f0.size ≤ 140737488351232 ∧ e.f1.size ≤ 140737488351232)) = true then some true else none
set_option maxHeartbeats 8000000 in
set_option maxRecDepth 100000 in
theorem cornucopialaw8_MemSees.calls (A0 : Option Addr) (c0 : Nat) (l0 : List S32) (a1 : ByteArray) (r : Bool) (w : World) (hr0 : Kd.C k32 w A0 l0.length l0) (hc0 : l0.length ≤ c0) (h : cornucopialaw8_MemSees.f l0 a1 = some r) :
    Calls Try.prog 3 #[.slice A0 l0.length c0, .string a1] w fun e w' => e = .returned (.bool r) ∧ Below w.heap.size w w' := by
  unfold cornucopialaw8_MemSees.f at h
  split at h
  case isFalse => cases h
  case isTrue hg =>
  obtain rfl : true = r := Option.some.inj h
  obtain ⟨sb, ⟨ks, hks⟩, hsm⟩ := PuSw.SmallW_ev l0 (fun e he => of_decide_eq_true (List.all_eq_true.1 hg e he))
  have HKS := Aside0.mk (hks ks (Nat.le_refl _))
  have HR0 := Aside0.mk hr0
  have HC0 := Aside0.mk hc0
  clear h hg hks hr0 hc0
  have HB := Aside0.mk (Below.refl w.heap.size w)
  by_cases hcond : sb = true ∧ l0.length ≠ 0 ∧ a1.size ≤ 300
  case neg =>
    have al : ∀ (b1 b2 b3 : Bool), sb = !b1 → ((l0.length : Int) == 0) = b2 → decide (300 < (a1.size : Int)) = b3 → decide (300 < a1.size) = b3 → (b1 || b2 || b3) = true → Calls Try.prog 3 #[.slice A0 l0.length c0, .string a1] w fun e w' => e = .returned (.bool true) ∧ Below w.heap.size w w' := by
      intro b1 b2 b3 h1 h2 h3 h4 h5
      subst h1
      clear hcond hsm
      cases b1
      case true =>
        clear h2 h3 h4 h5
        have HKS2 : Aside0 (cornucopialaw6_SmallWrites.f ks l0 = some false) := HKS
        go_enter Try.func3, Try.ntmps3
        go_wp2_with (first | (go_at_call 6; refine (cornucopialaw6_SmallWrites.calls ks _ _ l0 false _ HR0.out HC0.out HKS2.out).mono ?_; rintro e w1 ⟨rfl, hb⟩; have n0_ := Aside0.mk (below_step HB.out hb); clear HB; have HB := n0_; clear n0_; clear hb) | (go_at_call 7; refine (Mt.alive_calls _).mono ?_; rintro e w9 ⟨rfl, hb⟩; have n0_ := Aside0.mk (below_step HB.out hb); clear HB; have HB := n0_; clear n0_; clear hb))
        go_ret
        exact ⟨rfl, HB.out⟩
      case false =>
        have HKS2 : Aside0 (cornucopialaw6_SmallWrites.f ks l0 = some true) := HKS
        cases b2
        case true =>
          clear h3 h4 h5
          go_enter Try.func3, Try.ntmps3
          go_wp2_with (first | (go_at_call 6; refine (cornucopialaw6_SmallWrites.calls ks _ _ l0 true _ HR0.out HC0.out HKS2.out).mono ?_; rintro e w1 ⟨rfl, hb⟩; have n0_ := Aside0.mk (below_step HB.out hb); clear HB; have HB := n0_; clear n0_; clear hb) | (go_at_call 7; refine (Mt.alive_calls _).mono ?_; rintro e w9 ⟨rfl, hb⟩; have n0_ := Aside0.mk (below_step HB.out hb); clear HB; have HB := n0_; clear n0_; clear hb))
          go_ret
          exact ⟨rfl, HB.out⟩
        case false =>
          cases b3
          case true =>
            clear h5
            go_enter Try.func3, Try.ntmps3
            go_wp2_with (first | (go_at_call 6; refine (cornucopialaw6_SmallWrites.calls ks _ _ l0 true _ HR0.out HC0.out HKS2.out).mono ?_; rintro e w1 ⟨rfl, hb⟩; have n0_ := Aside0.mk (below_step HB.out hb); clear HB; have HB := n0_; clear n0_; clear hb) | (go_at_call 7; refine (Mt.alive_calls _).mono ?_; rintro e w9 ⟨rfl, hb⟩; have n0_ := Aside0.mk (below_step HB.out hb); clear HB; have HB := n0_; clear n0_; clear hb))
            go_ret
            exact ⟨rfl, HB.out⟩
          case false => cases h5
    refine al (!sb) _ (decide (300 < (a1.size : Int))) (by simp) rfl rfl (decide_eq_decide.2 (by omega)) ?_
    cases sb
    · rfl
    · by_cases h1 : l0.length = 0
      · simp [h1]
      · have h2 : 300 < (a1.size : Int) := by
          by_cases h3 : a1.size ≤ 300
          · exact absurd ⟨rfl, h1, h3⟩ hcond
          · omega
        simp [h2]
  case pos =>
  obtain ⟨rfl, hne, ha1⟩ := hcond
  have hlen : l0.length ≤ 60 := hsm rfl
  have s0 : ((l0.length : Int) == 0) = false := by rw [beq_eq_false_iff_ne]; omega
  have s1 : decide (300 < (a1.size : Int)) = false := decide_eq_false (by omega)
  have s1' : decide (300 < a1.size) = false := decide_eq_false (by omega)
  clear hsm
  go_enter Try.func3, Try.ntmps3
  go_wp2_with (first
    | (go_at_call 6; refine (cornucopialaw6_SmallWrites.calls ks _ _ l0 true _ HR0.out HC0.out HKS.out).mono ?_; rintro e w1 ⟨rfl, hb⟩; have n0_ := Aside0.mk (below_step HB.out hb); clear HB; have HB := n0_; clear n0_; clear hb)
    | ((with_reducible refine gate_dst (N := 29) rfl ?_); refine Kd.R_lit (Kd.int .i64) _ 3 ?hg (N := 29) ?hd (xs := ([2, 1, 4] : List Int)) (inner := [.int .i64 2, .int .i64 1, .int .i64 4]) (ok := fun _ => True) (okp := fun _ => True) ?hr ?hp (fun _ hk => hk) trivial (Below.refl _ _) (Nat.le_refl _) (by simp) ?_; (case hd => rfl); (case hg => rfl); (case hr => first | (go_simp; done) | (go_simp; rfl)); (case hp => exact Kd.reps_scalar (enc := Value.int .i64) [2, 1, 4]); intro v9 w9 ho9 hb9 hg_ hnew_; clear hg_ hnew_; have HO9 := Aside0.mk ho9; have n0_ := Aside0.mk (below_step HB.out hb9); clear ho9 hb9 HB; have HB := n0_; clear n0_; obtain ⟨Ao, co, eo⟩ := Kd.R_slice HO9.out; subst eo)
    | (go_at_call 8; refine (Mt.new_calls w _ Ao co [2, 1, 4] (Kd.R_reads' HO9.out).2.2 (by simp) HB.out).mono ?_; rintro e w1 ⟨g, d, rfl, ht, _, hb⟩; have HT := Aside0.mk ht; have n0_ := Aside0.mk (below_step HB.out hb); clear ht hb HB HO9; have HB := n0_; clear n0_))
  go_loopw [6] (fun v6 w' => ∃ (j : Nat) (ns : List RkM.Nd) (sz : Int), v6 = .int .i64 j ∧ j ≤ l0.length ∧ Aside0 (ns.length ≤ j) ∧ Aside0 (Mt.OkT w w' g d [2, 1, 4] ns sz j) ∧ Aside0 (0 ≤ sz ∧ sz ≤ 4611686018427387904) ∧ Aside0 (PuSee.Has l0 j (ns.map (·.e))) ∧ Aside0 (Below w.heap.size w w')) (fun v6 _ => l0.length - (intOf v6).toNat)
  case atStart => exact ⟨0, [], 0, rfl, Nat.zero_le _, ⟨Nat.le_refl _⟩, HT, ⟨by decide⟩, ⟨PuSee.Has.zero l0⟩, HB⟩
  case round =>
    clear HT HB
    obtain ⟨j, ns, sz, rfl, hj, HN, HT, HS, HH, HB⟩ := hrel
    by_cases hlt : j < l0.length
    · have p0 : (0 : Int) ≤ (j : Int) := Int.natCast_nonneg _
      have q0 : (j : Int) < (l0.length : Int) := Int.ofNat_lt.mpr hlt
      have t0 : decide ((j : Int) < (l0.length : Int)) = true := decide_eq_true q0
      obtain ⟨ad, e0, hx0, hx1, hx2⟩ := at_T32 HR0.out (j : Int) p0 q0
      cases e0
      have y0 := (HB.out.cell (World.block_lt_of_cell? _ _ hx0)).trans hx0
      have y1 := (HB.out.cell (World.block_lt_of_cell? _ _ hx1)).trans hx1
      have y2 := (HB.out.cell (World.block_lt_of_cell? _ _ hx2)).trans hx2
      clear hx0 hx1 hx2
      simp only [Int.toNat_natCast] at y0 y1 y2
      have HD : Aside0 (rd_T32 l0 (j : Int) = l0[j]) := ⟨by simp [rd_T32, hlt]⟩
      generalize rd_T32 l0 (j : Int) = x at *
      have hw1 : IntKind.u64.wrap ((j : Int) + 1) = (j : Int) + 1 := by rw [IntKind.wrap_u64]; omega
      have hw2 : IntKind.u64.wrap ((j : Int) + 2) = (j : Int) + 2 := by rw [IntKind.wrap_u64]; omega
      cases hr : Mt.rightW x
      case false =>
        have HBD : Aside0 (Mt.okW [x] = false) := ⟨by unfold Mt.okW; simp [hr]⟩
        clear hr
        go_wp2_with (first
          | ((with_reducible refine gate_dst (N := 48) rfl ?_); refine Kd.R_lit k32 _ 32 ?hg (N := 48) ?hd (xs := ([x] : List S32)) (inner := [.string x.f0, .string x.f1, .bool x.f2]) (ok := fun _ => True) (okp := fun _ => True) ?hr ?hp (fun _ hk => hk) trivial (Below.refl _ _) (Nat.le_refl _) (by simp) ?_; (case hd => rfl); (case hg => rfl); (case hr => first | (go_simp; done) | (go_simp; rfl)); (case hp => exact (Reps.c3 (k32_mkM _ _ _ x) (Reps.none _ _))); intro v19 w19 ho9 hb9 hg_ hnew_; clear hg_ hnew_; have HO19 := Aside0.mk ho9; have n0_ := Aside0.mk (below_step HB.out hb9); have n1_ := Aside0.mk (HT.out.below hb9); clear ho9 hb9 HB HT; have HB := n0_; have HT := n1_; clear n0_ n1_ y0 y1 y2; obtain ⟨Aw, cw, eo⟩ := Kd.R_slice HO19.out; subst eo)
          | (go_at_call 9; refine (Mt.add_bad HT.out Aw cw [x] ((j : Int) + 1) (Kd.R_reads' HO19.out).2.2 (by simp) (by omega) (Or.inl HBD.out)).mono ?_; rintro e w2 ⟨rfl, hb⟩; have n0_ := Aside0.mk (below_step HB.out hb); clear HB HT HO19; have HB := n0_; clear n0_; clear hb)
          | (go_at_call 7; refine (Mt.alive_calls _).mono ?_; rintro e w9 ⟨rfl, hb⟩; have n0_ := Aside0.mk (below_step HB.out hb); clear HB; have HB := n0_; clear n0_; clear hb))
        go_ret
        exact ⟨rfl, HB.out⟩
      case true =>
        have HOK : Aside0 (Mt.okW [x] = true) := ⟨by unfold Mt.okW; simp [hr]⟩
        have HRX := Aside0.mk hr
        clear hr
        go_wp2_with (first
          | ((with_reducible refine gate_dst (N := 48) rfl ?_); refine Kd.R_lit k32 _ 32 ?hg (N := 48) ?hd (xs := ([x] : List S32)) (inner := [.string x.f0, .string x.f1, .bool x.f2]) (ok := fun _ => True) (okp := fun _ => True) ?hr ?hp (fun _ hk => hk) trivial (Below.refl _ _) (Nat.le_refl _) (by simp) ?_; (case hd => rfl); (case hg => rfl); (case hr => first | (go_simp; done) | (go_simp; rfl)); (case hp => exact (Reps.c3 (k32_mkM _ _ _ x) (Reps.none _ _))); intro v19 w19 ho9 hb9 hg_ hnew_; clear hg_ hnew_; have HO19 := Aside0.mk ho9; have n0_ := Aside0.mk (below_step HB.out hb9); have n1_ := Aside0.mk (HT.out.below hb9); clear ho9 hb9 HB HT; have HB := n0_; have HT := n1_; clear n0_ n1_ y0 y1 y2; obtain ⟨Aw, cw, eo⟩ := Kd.R_slice HO19.out; subst eo)
          | (go_at_call 9; refine (Mt.add_yes HT.out Aw cw [x] ((j : Int) + 1) (Mt.row_stays HT.out HO19.out) (by simp) ⟨by omega, by omega, by show (j : Int) + 1 ≤ 4611686018427387904 - 1; omega⟩ HOK.out HB.out HS.out (by have := HN.out; omega) (by simp)).mono ?_; rintro e w2 ⟨rfl, ns', ht, hm, hb, _, _⟩; have HT2 := Aside0.mk ht; have HM := Aside0.mk hm; clear HB HT HO19 ht hm; have HB := Aside0.mk hb; clear hb))
        go_roundw
        case rel =>
          have hm := HM.out
          rw [Mt.addL, Mt.addL] at hm
          refine ⟨j + 1, ns', Mt.sizeL [x] sz, by go_num, by omega, ⟨?_⟩, ⟨?_⟩, ⟨?_⟩, ⟨?_⟩, HB⟩
          · have h1 := congrArg List.length hm
            have h2 := Rk.insV_len (Mt.eOf ((j : Int) + 1) 0 x) (ns.map (·.e))
            have h3 := HN.out
            simp only [List.length_map] at h1 h2
            omega
          · have h4 := HT2.out
            rw [show ((j : Int) + 1) + (([x] : List S32).length : Int) - 1 = ((j + 1 : Nat) : Int) from by simp] at h4
            exact h4
          · have h5 := HS.out
            show 0 ≤ min (sz + (x.f0.size : Int) + (x.f1.size : Int) + 16) 4611686018427387904 ∧ min (sz + (x.f0.size : Int) + (x.f1.size : Int) + 16) 4611686018427387904 ≤ 4611686018427387904
            omega
          · have h6 := HH.out.step hlt (by rw [← HD.out]; exact HRX.out)
            rw [← HD.out] at h6
            rw [HM.out]
            exact h6
        case measure => simp [intOf]; omega
    · obtain rfl : j = l0.length := by omega
      have t0 : decide ((l0.length : Int) < (l0.length : Int)) = false := decide_eq_false (by omega)
      go_wp2_with (fail)
      go_loopw [9, 10, 11, 12] (fun v9 v10 v11 v12 w' => ∃ (i : Nat), v12 = .int .i64 i ∧ i ≤ l0.length ∧ v9 = .bool (PuSee.lw a1 (l0.take i)).isSome ∧ v10 = .string (PuSee.vOf (PuSee.lw a1 (l0.take i))) ∧ v11 = .bool (PuSee.dOf (PuSee.lw a1 (l0.take i))) ∧ Aside0 (Mt.OkT w w' g d [2, 1, 4] ns sz l0.length) ∧ Aside0 (Below w.heap.size w w')) (fun _ _ _ v12 _ => l0.length - (intOf v12).toNat)
      case atStart => exact ⟨0, rfl, Nat.zero_le _, rfl, rfl, rfl, HT, HB⟩
      case round =>
        clear HT HB
        obtain ⟨i, rfl, hi, rfl, rfl, rfl, HT, HB⟩ := hrel
        by_cases hil : i < l0.length
        · have p0 : (0 : Int) ≤ (i : Int) := Int.natCast_nonneg _
          have q0 : (i : Int) < (l0.length : Int) := Int.ofNat_lt.mpr hil
          have t1 : decide ((i : Int) < (l0.length : Int)) = true := decide_eq_true q0
          obtain ⟨ad, e0, hx0, hx1, hx2⟩ := at_T32 HR0.out (i : Int) p0 q0
          cases e0
          have y0 := (HB.out.cell (World.block_lt_of_cell? _ _ hx0)).trans hx0
          have y1 := (HB.out.cell (World.block_lt_of_cell? _ _ hx1)).trans hx1
          have y2 := (HB.out.cell (World.block_lt_of_cell? _ _ hx2)).trans hx2
          clear hx0 hx1 hx2
          simp only [Int.toNat_natCast] at y0 y1 y2
          have HD : Aside0 (rd_T32 l0 (i : Int) = l0[i]) := ⟨by simp [rd_T32, hil]⟩
          generalize rd_T32 l0 (i : Int) = x at *
          have HLW : Aside0 (PuSee.lw a1 (l0.take (i + 1)) = if x.f0 = a1 then some x else PuSee.lw a1 (l0.take i)) := ⟨by rw [PuSee.lw_take hil, HD.out]⟩
          have HSE := Aside0.mk (PuSee.sees (key := a1) HH.out (PuSee.srt_of HT.out) hil)
          obtain ⟨o1, ho1⟩ : ∃ o1, o1 = PuSee.lw a1 (l0.take i) := ⟨_, rfl⟩
          obtain ⟨o2, ho2⟩ : ∃ o2, o2 = PuSee.lw a1 (l0.take (i + 1)) := ⟨_, rfl⟩
          rw [← ho1, ← ho2] at HLW
          rw [← ho2] at HSE
          rw [← ho1]
          have HO2 := Aside0.mk ho2
          clear ho1 ho2
          go_upto_if 72 with (fail)
          go_cut [9, 10, 11] (fun v9 v10 v11 wc => v9 = .bool o2.isSome ∧ v10 = .string (PuSee.vOf o2) ∧ v11 = .bool (PuSee.dOf o2) ∧ Aside0 (Mt.OkT w wc g d [2, 1, 4] ns sz l0.length) ∧ Aside0 (Below w.heap.size w wc))
          case first =>
            generalize hk : (x.f0.toList == a1.toList) = kb at *
            cases kb
            case true =>
              have HC2 : Aside0 (x.f0 = a1) := ⟨PuIkC.tl_ext.1 (beq_iff_eq.1 hk)⟩
              clear hk
              go_wp2_with (fail)
              go_quiet (fail)
              go_wp2_with (fail)
              go_meet
              case rel =>
                have h1 := HLW.out
                rw [if_pos HC2.out] at h1
                rw [h1]
                exact ⟨rfl, rfl, rfl, ⟨HT.out.below (pw_below_drewN (Below.refl _ _) _)⟩, ⟨pw_below_drewN HB.out _⟩⟩
            case false =>
              have HC2 : Aside0 (¬ x.f0 = a1) := ⟨fun h => by rw [h] at hk; simp at hk⟩
              clear hk
              go_wp2_with (fail)
              go_meet
              case rel =>
                have h1 := HLW.out
                rw [if_neg HC2.out] at h1
                rw [h1]
                exact ⟨rfl, rfl, rfl, HT, HB⟩
          case rest =>
            clear HT HB
            obtain ⟨rfl, rfl, rfl, HT, HB⟩ := hcut
            have HG := Aside0.mk (Mt.tget_calls HT.out a1 ((i : Int) + 1))
            have hw1 : IntKind.u64.wrap ((i : Int) + 1) = (i : Int) + 1 := by rw [IntKind.wrap_u64]; omega
            rcases HSE.out with ⟨hp, h2⟩ | ⟨e, y, hp, h2, h3, h4⟩
            · rw [hp] at HG
              have HE := Aside0.mk h2
              subst h2
              go_wp2_with (first
                | (go_at_call 10; refine (HG.out).mono ?_; rintro e w7 ⟨rfl, hb⟩; have n0_ := Aside0.mk (HT.out.below hb); have n1_ := Aside0.mk (below_step HB.out hb); clear HT HB; have HT := n0_; have HB := n1_; clear n0_ n1_; clear hb))
              go_roundw
              case rel => exact ⟨i + 1, by go_num, by omega, by rw [← HO2.out]; rfl, by rw [← HO2.out], by rw [← HO2.out], ⟨HT.out.below (below_alloc (Below.refl _ _) _)⟩, ⟨below_alloc HB.out _⟩⟩
              case measure => simp [intOf]; omega
            · rw [hp] at HG
              subst h2
              have k2 : (e.f3.toList == (PuSee.vOf (some y)).toList) = true := beq_iff_eq.mpr (by rw [h3]; rfl)
              have HS2 : Aside0 ((some y).isSome = true) := ⟨rfl⟩
              clear h3 HSE
              cases hy : y.f2
              case true =>
                have k3 : (e.f2 == 2) = true := beq_iff_eq.mpr (h4.2 hy)
                have k4 : PuSee.dOf (some y) = true := hy
                clear h4 hy hp
                go_wp2_with (first
                  | (go_at_call 10; refine (HG.out).mono ?_; rintro ee w7 ⟨rfl, hb⟩; have n0_ := Aside0.mk (HT.out.below hb); have n1_ := Aside0.mk (below_step HB.out hb); clear HT HB; have HT := n0_; have HB := n1_; clear n0_ n1_; clear hb))
                go_roundw
                case rel => exact ⟨i + 1, by go_num, by omega, by rw [← HO2.out]; rfl, by rw [← HO2.out], by rw [← HO2.out, k4], ⟨HT.out.below (below_alloc (Below.refl _ _) _)⟩, ⟨below_alloc HB.out _⟩⟩
                case measure => simp [intOf]; omega
              case false =>
                have k3 : (e.f2 == 2) = false := beq_eq_false_iff_ne.mpr (fun h => by rw [h4.1 h] at hy; cases hy)
                have k4 : PuSee.dOf (some y) = false := hy
                clear h4 hy hp
                go_wp2_with (first
                  | (go_at_call 10; refine (HG.out).mono ?_; rintro ee w7 ⟨rfl, hb⟩; have n0_ := Aside0.mk (HT.out.below hb); have n1_ := Aside0.mk (below_step HB.out hb); clear HT HB; have HT := n0_; have HB := n1_; clear n0_ n1_; clear hb))
                go_roundw
                case rel => exact ⟨i + 1, by go_num, by omega, by rw [← HO2.out]; rfl, by rw [← HO2.out], by rw [← HO2.out, k4], ⟨HT.out.below (below_alloc (Below.refl _ _) _)⟩, ⟨below_alloc HB.out _⟩⟩
                case measure => simp [intOf]; omega
        · obtain rfl : i = l0.length := by omega
          have t1 : decide ((l0.length : Int) < (l0.length : Int)) = false := decide_eq_false (by omega)
          go_wp2_with (first | (go_at_call 7; refine (Mt.alive_calls _).mono ?_; rintro e w9 ⟨rfl, hb⟩; have n0_ := Aside0.mk (below_step HB.out hb); clear HB; have HB := n0_; clear n0_; clear hb))
          go_ret
          exact ⟨rfl, HB.out⟩


/-- THE ONE PURE STATEMENT of cornucopialaw8_MemSees. -/
def cornucopialaw8_MemSees.Pure : Prop := ∀ (l0 : List (S32)) (a1 : ByteArray), l0.length * 40 ≤ 140737488351232 → (∀ x_ ∈ l0, wfS32 x_) → a1.size ≤ 140737488351232 → cornucopialaw8_MemSees.f l0 a1 = some true
theorem cornucopialaw8_MemSees.walk (P : cornucopialaw8_MemSees.Pure) (A0 : Option Addr) (c0 : Nat) (l0 : List (S32)) (a1 : ByteArray) (w : World) (hr0 : Kd.C k32 w A0 l0.length l0) (hc0 : l0.length ≤ c0) (w0_0 : l0.length * 40 ≤ 140737488351232) (w0_1 : (∀ x_ ∈ l0, wfS32 x_)) (w1_0 : a1.size ≤ 140737488351232) :
    Calls Try.prog 3 #[.slice A0 l0.length c0, .string a1] w fun e w' => e = .returned (.bool true) ∧ Below w.heap.size w w' := by
  have h := P l0 a1 w0_0 w0_1 w1_0
  refine (cornucopialaw8_MemSees.calls _ _ l0 a1 true w hr0 hc0 h).mono ?_
  rintro e w' ⟨rfl, hd⟩
  exact ⟨rfl, hd⟩

end Go.Proofs.Ytapgbpghdeimpaa.PNum
