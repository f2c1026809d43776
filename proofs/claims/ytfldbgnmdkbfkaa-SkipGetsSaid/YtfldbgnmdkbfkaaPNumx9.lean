/- A walk, written by a program of this session out of the translation (a printed Lean function, and that the Go code comes to its answer). Lean checks it. -/
import Derived.Test.YtfldbgnmdkbfkaaPNumx0
import Derived.Test.YtfldbgnmdkbfkaaPNumx3
import Derived.Test.YtfldbgnmdkbfkaaSk10
import Derived.Test.YtfldbgnmdkbfkaaWRd
import Derived.Test.YtfldbgnmdkbfkaaWPu
namespace Go.Proofs.Ytfldbgnmdkbfkaa.PNum
open Go.RowKit Go.Proofs.YtfldbgnmdkbfkaaW.PrintWords Go.Proofs.YtfldbgnmdkbfkaaW.PrintLast Go.Proofs.YtfldbgnmdkbfkaaW.PrintMore
attribute [local go_sem] max2_int min2_int max_two min_two max_three min_three max_four min_four   -- for this text's walks alone
set_option linter.unusedVariables false
set_option linter.unusedSimpArgs false

-- OWNIMPORT Derived.Test.YtfldbgnmdkbfkaaSk10
-- OWNIMPORT Derived.Test.YtfldbgnmdkbfkaaWRd
-- OWNIMPORT Derived.Test.YtfldbgnmdkbfkaaWPu
/-! ### cornucopialaw7_SkipGets: function 5 -/
/-- What a call comes to: true. -/
def cornucopialaw7_SkipGets.f (l0 : List S24) (a1 : ByteArray) (a2 : Int) : Option Bool := if (l0.all fun e => decide (e.f0.size ≤ 140737488351232 ∧ e.f3.size ≤ 140737488351232)) = true then some true else none
/-- What is known of a list and of what is picked from it. -/
structure cornucopialaw7_SkipGets.Got (l : List S24) (key : ByteArray) (s : Int) (e : S24) (ok : Bool) : Prop where
  srt : l.Pairwise (fun x y => PuIkC.ce x y = -1)
  new : ∀ x ∈ l, x.f0 = key → x.f1 ≤ s → ok = true ∧ x.f1 ≤ e.f1
  own : ok = true → e.f0 = key ∧ e.f1 ≤ s
theorem cornucopialaw7_SkipGets.got {w0 V : World} {g : Nat} {ns : List SkM.Nd} (key : ByteArray) (s : Int) (h : Sk.OkL w0 V g ns) : cornucopialaw7_SkipGets.Got (ns.map (·.e)) key s ((Sk.pickL key s (ns.map (·.e))).getD Sk.zE) (Sk.pickL key s (ns.map (·.e))).isSome := by
  refine ⟨Sk.srt_map h.srt, fun x hx h1 h2 => ?_, fun h1 => ?_⟩
  · obtain ⟨e, h3, h4⟩ := Sk.pick_newest (Sk.srt_map h.srt) x hx h1 h2
    rw [h3]
    exact ⟨rfl, h4⟩
  · cases h3 : Sk.pickL key s (ns.map (·.e)) with
    | none => rw [h3] at h1; cases h1
    | some e => exact (Sk.pick_in h3).2
theorem cornucopialaw7_SkipGets.beq {x y : ByteArray} (h : x = y) : (x.toList == y.toList) = true := beq_iff_eq.mpr (by rw [h])
theorem cornucopialaw7_SkipGets.bne {x y : ByteArray} (h : ¬ x = y) : (x.toList == y.toList) = false := beq_eq_false_iff_ne.mpr (fun k => h (PuIkC.tl_ext.1 k))
/-- Two neighbours. -/
theorem cornucopialaw7_SkipGets.next {l : List S24} (h : l.Pairwise (fun x y => PuIkC.ce x y = -1)) {i : Nat} (h1 : 1 ≤ i) (h2 : i < l.length) : Op.bytesLess (rd_T24 l (i : Int)).f0.toList (rd_T24 l ((i : Int) - 1)).f0.toList = false ∧ ((rd_T24 l (i : Int)).f0 = (rd_T24 l ((i : Int) - 1)).f0 → (rd_T24 l (i : Int)).f1 < (rd_T24 l ((i : Int) - 1)).f1) := by
  rw [show (i : Int) - 1 = ((i - 1 : Nat) : Int) from by omega, PuSm.at_nat l i h2, PuSm.at_nat l (i - 1) (by omega)]
  have h3 := (List.pairwise_iff_getElem.1 h) (i - 1) i (by omega) h2 (by omega)
  rcases Sk.ce_cases h3 with h4 | ⟨h4, h5⟩
  · have h6 := PuIkC.cb_neg l[i].f0 l[i - 1].f0
    refine ⟨?_, fun k => ?_⟩
    · rw [Sk.less_cl, YtfldbgnmdkbfkaaW.Pu.toList_data, YtfldbgnmdkbfkaaW.Pu.toList_data]
      refine decide_eq_false (fun k => ?_)
      have k2 : PuIkC.cb l[i].f0 l[i - 1].f0 = -1 := k
      omega
    · rw [k, (PuIkC.cb_zero _ _).2 rfl] at h4
      cases h4
  · refine ⟨?_, fun _ => h5⟩
    rw [h4, Sk.less_cl, YtfldbgnmdkbfkaaW.Pu.toList_data]
    refine decide_eq_false (fun k => ?_)
    rw [(PuIkC.cl_zero _ _).2 rfl] at k
    cases k
set_option maxHeartbeats 8000000 in
set_option maxRecDepth 100000 in
theorem cornucopialaw7_SkipGets.calls (A0 : Option Addr) (c0 : Nat) (l0 : List S24) (a1 : ByteArray) (a2 : Int) (r : Bool) (w : World) (hr0 : Kd.C k24 w A0 l0.length l0) (hc0 : l0.length ≤ c0) (h : cornucopialaw7_SkipGets.f l0 a1 a2 = some r) :
    Calls Try.prog 5 #[.slice A0 l0.length c0, .string a1, .int .u64 a2] w fun e w' => e = .returned (.bool r) ∧ Below w.heap.size w w' := by
  unfold cornucopialaw7_SkipGets.f at h
  split at h
  case isFalse => cases h
  case isTrue hg =>
  obtain rfl : true = r := Option.some.inj h
  have hsz : ∀ e ∈ l0, e.f0.size ≤ 140737488351232 ∧ e.f3.size ≤ 140737488351232 := fun e he => of_decide_eq_true (List.all_eq_true.1 hg e he)
  obtain ⟨sb, ⟨ks, hks⟩, hsm⟩ := PuSm.Small_ev l0 hsz
  have HKS := Aside0.mk (hks ks (Nat.le_refl _))
  have HR0 := Aside0.mk hr0
  have HC0 := Aside0.mk hc0
  have HSZ := Aside0.mk hsz
  clear h hg hks hr0 hc0 hsz
  have HB := Aside0.mk (Below.refl w.heap.size w)
  cases sb
  case false =>
    go_enter Try.func5, Try.ntmps5
    go_wp2_with (first | (go_at_call 6; refine (cornucopialaw5_Small.calls ks _ _ l0 false _ HR0.out HC0.out HKS.out).mono ?_; rintro e w1 ⟨rfl, hb⟩; have n0_ := Aside0.mk (below_step HB.out hb); clear HB; have HB := n0_; clear n0_; clear hb) | (go_at_call 7; refine (Sk.alive_calls _).mono ?_; rintro e w9 ⟨rfl, hb⟩; have n0_ := Aside0.mk (below_step HB.out hb); clear HB; have HB := n0_; clear n0_; clear hb))
    go_ret
    exact ⟨rfl, HB.out⟩
  case true =>
  have hlen0 : l0.length ≤ 150 := hsm rfl
  clear hsm
  by_cases c2 : (a1.size : Int) > 300
  · have s1 : decide (300 < (a1.size : Int)) = true := decide_eq_true (by omega)
    have s1' : decide (300 < a1.size) = true := decide_eq_true (by omega)
    go_enter Try.func5, Try.ntmps5
    go_wp2_with (first | (go_at_call 6; refine (cornucopialaw5_Small.calls ks _ _ l0 true _ HR0.out HC0.out HKS.out).mono ?_; rintro e w1 ⟨rfl, hb⟩; have n0_ := Aside0.mk (below_step HB.out hb); clear HB; have HB := n0_; clear n0_; clear hb) | (go_at_call 7; refine (Sk.alive_calls _).mono ?_; rintro e w9 ⟨rfl, hb⟩; have n0_ := Aside0.mk (below_step HB.out hb); clear HB; have HB := n0_; clear n0_; clear hb))
    go_ret
    exact ⟨rfl, HB.out⟩
  have s1 : decide (300 < (a1.size : Int)) = false := decide_eq_false (by omega)
  have s1' : decide (300 < a1.size) = false := decide_eq_false (by omega)

  go_enter Try.func5, Try.ntmps5
  go_wp2_with (first | (go_at_call 6; refine (cornucopialaw5_Small.calls ks _ _ l0 true _ HR0.out HC0.out HKS.out).mono ?_; rintro e w1 ⟨rfl, hb⟩; have n0_ := Aside0.mk (below_step HB.out hb); clear HB; have HB := n0_; clear n0_; clear hb) | (go_at_call 15; refine (Sk.new_ok w _ HB.out).mono ?_; rintro e w2 ⟨g, rfl, hi, _, hb⟩; have HI := Aside0.mk hi; have n0_ := Aside0.mk (below_step HB.out hb); clear HB; have HB := n0_; clear n0_; clear hi hb))
  go_loopw [8] (fun v8 w' => ∃ (j : Nat) (ns : List SkM.Nd), v8 = .int .i64 j ∧ j ≤ l0.length ∧ Aside0 (ns.length ≤ j) ∧ Aside0 (Sk.OkL w w' g ns) ∧ Aside0 (Below w.heap.size w w')) (fun v8 _ => l0.length - (intOf v8).toNat)
  case atStart => exact ⟨0, [], rfl, Nat.zero_le _, ⟨Nat.le_refl _⟩, HI, HB⟩
  case round =>
    clear HI HB
    obtain ⟨j, ns, rfl, hj, HN, HI, HB⟩ := hrel
    by_cases hlt : j < l0.length
    · have p0 : (0 : Int) ≤ (j : Int) := Int.natCast_nonneg _
      have q0 : (j : Int) < (l0.length : Int) := Int.ofNat_lt.mpr hlt
      obtain ⟨ad, e0, hx0, hx1, hx2, hx3⟩ := at_T24 HR0.out (j : Int) p0 q0
      cases e0
      have y0 := (HB.out.cell (World.block_lt_of_cell? w _ hx0)).trans hx0
      have y1 := (HB.out.cell (World.block_lt_of_cell? w _ hx1)).trans hx1
      have y2 := (HB.out.cell (World.block_lt_of_cell? w _ hx2)).trans hx2
      have y3 := (HB.out.cell (World.block_lt_of_cell? w _ hx3)).trans hx3
      clear hx0 hx1 hx2 hx3
      simp only [Int.toNat_natCast] at y0 y1 y2 y3
      have HSX : Aside0 ((rd_T24 l0 (j : Int)).f0.size ≤ 140737488351232 ∧ (rd_T24 l0 (j : Int)).f3.size ≤ 140737488351232) := ⟨by rw [PuSm.at_nat l0 j hlt]; exact HSZ.out _ (List.getElem_mem hlt)⟩
      generalize rd_T24 l0 (j : Int) = x at *
      have t0 : decide ((j : Int) < (l0.length : Int)) = true := decide_eq_true q0
      go_wp2_with (first | (go_at_call 9; refine (Sk.put_any w _ g ns x (j : Int) HI.out HB.out (by have := HN.out; omega) HSX.out.1 HSX.out.2).mono ?_; rintro e w6 ⟨rfl, _, ns', hi, hm, hb, _, _⟩; have HI' := Aside0.mk hi; have HB' := Aside0.mk hb; have HM := Aside0.mk hm; clear hi hb hm))
      go_roundw
      case rel => exact ⟨j + 1, ns', by go_num, by omega, ⟨by have h1 := congrArg List.length HM.out; have h2 := Sk.insV_len x (ns.map (·.e)); have h3 := HN.out; simp only [List.length_map] at h1 h2; omega⟩, HI', HB'⟩
      case measure => simp [intOf]; omega
    · have t0 : decide ((j : Int) < (l0.length : Int)) = false := decide_eq_false (by omega)
      have HNL : Aside0 (ns.length ≤ 150) := ⟨by have := HN.out; omega⟩
      have HG := Aside0.mk (cornucopialaw7_SkipGets.got a1 a2 HI.out)
      have HPL : Aside0 ((ns.map (·.e)).length = ns.length) := ⟨by simp⟩
      clear HN
      go_wp2_with (first
        | (go_at_call 8; refine (Sk.get_ok w _ g ns a1 a2 HI.out).mono ?_; rintro e w7 ⟨rfl, hb⟩; have n0_ := Aside0.mk (HI.out.below hb); have n1_ := Aside0.mk (below_step HB.out hb); clear HI HB; have HI := n0_; have HB := n1_; clear n0_ n1_; clear hb; generalize (Sk.pickL a1 a2 (ns.map (·.e))).getD Sk.zE = e at *; generalize (Sk.pickL a1 a2 (ns.map (·.e))).isSome = ok at *)
        | (go_at_call 10; refine (Sk.all_ok w _ g ns (HI.out.below (below_alloc (Below.refl _ w7) _)) (by have := HNL.out; omega)).mono ?_; rintro e8 w8 ⟨v, rfl, hr, hb⟩; generalize ns.map (·.e) = L at *; obtain ⟨A, c, rfl, hcc, hC⟩ := Kd.R_reads hr; have HC := Aside0.mk hC; have n0_ := Aside0.mk ((HI.out.below (below_alloc (Below.refl _ w7) _)).below hb); have n1_ := Aside0.mk (below_step (below_alloc HB.out _) hb); have n2_ := Aside0.mk (blk_below (blk_new w7 _) hb); clear HI HB; have HI := n0_; have HB := n1_; have HX := n2_; clear n0_ n1_ n2_; clear hr hC hcc hb))
      have hlm : L.length ≤ 150 := by have h1 := HNL.out; have h2 := HPL.out; omega
      go_loopw [12] (fun v12 w' => ∃ i : Nat, v12 = .int .i64 i ∧ i ≤ L.length ∧ Aside0 (Kd.C k24 w' A L.length L) ∧ Aside0 (w'.heap[w7.heap.size]? = some (.cells #[.string (e).f0, .int .u64 (e).f1, .int .i64 (e).f2, .string (e).f3] 24 (0, 0))) ∧ Aside0 (Sk.OkL w w' g ns) ∧ Aside0 (Below w.heap.size w w')) (fun v12 _ => L.length - (intOf v12).toNat)
      case atStart => exact ⟨0, rfl, Nat.zero_le _, HC, HX, HI, HB⟩
      case round =>
        clear HC HX HI HB
        obtain ⟨i, rfl, hi2, HC, HX, HI, HB⟩ := hrel
        by_cases hil : i < L.length
        · have p0 : (0 : Int) ≤ (i : Int) := Int.natCast_nonneg _
          have q0 : (i : Int) < (L.length : Int) := Int.ofNat_lt.mpr hil
          have t1 : decide ((i : Int) < (L.length : Int)) = true := decide_eq_true q0
          obtain ⟨ad, e0, y0, y1, y2, y3⟩ := at_T24 HC.out (i : Int) p0 q0
          cases e0
          have r1 : wr.cell? ⟨w7.heap.size, 1, none⟩ = some (.int .u64 e.f1) := (blk_cell HX.out 1).trans rfl
          have hnew := HG.out.new (rd_T24 L (i : Int)) (by rw [PuSm.at_nat _ i hil]; exact List.getElem_mem hil)
          simp only [Int.toNat_natCast] at y0 y1
          clear y2 y3
          obtain ⟨x, hX⟩ : ∃ x, rd_T24 L (i : Int) = x := ⟨_, rfl⟩
          rw [hX] at y0 y1 hnew
          by_cases d1 : x.f0 = a1
          · have u1 := cornucopialaw7_SkipGets.beq d1
            by_cases d2 : x.f1 ≤ a2
            · have u2 : decide (x.f1 ≤ a2) = true := decide_eq_true d2
              obtain ⟨ho, hle⟩ := hnew d1 d2
              have u3 : decide (e.f1 < x.f1) = false := decide_eq_false (by omega)
              cases ok
              case false => cases ho
              case true =>
              clear d1 d2 ho hle
              go_wp2_with (fail)
              go_quiet (fail)
              have n0_ := Aside0.mk (Kd.C_drewN HC.out nq)
              have n1_ := Aside0.mk (blk_drewN HX.out nq)
              have n2_ := Aside0.mk (HI.out.below (pw_below_drewN (Below.refl _ _) nq))
              have n3_ := Aside0.mk (pw_below_drewN HB.out nq)
              clear HC HX HI HB y0 y1 r1
              have HC := n0_
              have HX := n1_
              have HI := n2_
              have HB := n3_
              clear n0_ n1_ n2_ n3_
              generalize wr.drewN nq = wq at *
              obtain ⟨ad2, e02, y0, y1, y2, y3⟩ := at_T24 HC.out (i : Int) p0 q0
              cases e02
              simp only [Int.toNat_natCast] at y0 y1
              rw [hX] at y0 y1
              clear y2 y3
              by_cases i0 : i = 0
              · have u5 : decide ((0 : Int) < (i : Int)) = false := decide_eq_false (by omega)
                go_wp2_with (fail)
                go_quiet (fail)
                go_wp2_with (fail)
                go_roundw
                case rel => exact ⟨i + 1, by go_num, by omega, ⟨Kd.C_drewN HC.out _⟩, ⟨blk_drewN HX.out _⟩, ⟨HI.out.below (pw_below_drewN (Below.refl _ _) _)⟩, ⟨pw_below_drewN HB.out _⟩⟩
                case measure => simp [intOf]; omega
              · have p1 : (0 : Int) ≤ (i : Int) - 1 := by omega
                have q1 : (i : Int) - 1 < (L.length : Int) := by omega
                have u5 : decide ((0 : Int) < (i : Int)) = true := decide_eq_true (by omega)
                have u5' : decide (0 < i) = true := decide_eq_true (by omega)
                obtain ⟨ad', e0', z0, z1, z2, z3⟩ := at_T24 HC.out ((i : Int) - 1) p1 q1
                cases e0'
                have hnx := cornucopialaw7_SkipGets.next HG.out.srt (i := i) (by omega) hil
                have p2 : (1 : Int) ≤ (i : Int) := by omega
                have hw : IntKind.i64.wrap ((i : Int) - 1) = (i : Int) - 1 := by rw [IntKind.wrap_i64]; omega
                have ej : ((i : Int) - 1).toNat = i - 1 := by omega
                rw [hX] at hnx
                rw [ej] at z0 z1
                generalize rd_T24 L ((i : Int) - 1) = y at *
                obtain ⟨u6, hlt6⟩ := hnx
                clear z2 z3 ej
                by_cases d3 : x.f0 = y.f0
                · have u7 := cornucopialaw7_SkipGets.beq d3
                  have u8 : decide (y.f1 ≤ x.f1) = false := decide_eq_false (by have := hlt6 d3; omega)
                  clear d3 hlt6
                  go_wp2_with (fail)
                  go_quiet (fail)
                  go_wp2_with (fail)
                  go_roundw
                  case rel => exact ⟨i + 1, by go_num, by omega, ⟨Kd.C_drewN HC.out _⟩, ⟨blk_drewN HX.out _⟩, ⟨HI.out.below (pw_below_drewN (Below.refl _ _) _)⟩, ⟨pw_below_drewN HB.out _⟩⟩
                  case measure => simp [intOf]; omega
                · have u7 := cornucopialaw7_SkipGets.bne d3
                  clear d3 hlt6
                  go_wp2_with (fail)
                  go_quiet (fail)
                  go_wp2_with (fail)
                  go_roundw
                  case rel => exact ⟨i + 1, by go_num, by omega, ⟨Kd.C_drewN HC.out _⟩, ⟨blk_drewN HX.out _⟩, ⟨HI.out.below (pw_below_drewN (Below.refl _ _) _)⟩, ⟨pw_below_drewN HB.out _⟩⟩
                  case measure => simp [intOf]; omega
            · have u2 : decide (x.f1 ≤ a2) = false := decide_eq_false d2
              clear d1 d2 hnew
              go_wp2_with (fail)
              go_quiet (fail)
              have n0_ := Aside0.mk (Kd.C_drewN HC.out nq)
              have n1_ := Aside0.mk (blk_drewN HX.out nq)
              have n2_ := Aside0.mk (HI.out.below (pw_below_drewN (Below.refl _ _) nq))
              have n3_ := Aside0.mk (pw_below_drewN HB.out nq)
              clear HC HX HI HB y0 y1 r1
              have HC := n0_
              have HX := n1_
              have HI := n2_
              have HB := n3_
              clear n0_ n1_ n2_ n3_
              generalize wr.drewN nq = wq at *
              obtain ⟨ad2, e02, y0, y1, y2, y3⟩ := at_T24 HC.out (i : Int) p0 q0
              cases e02
              simp only [Int.toNat_natCast] at y0 y1
              rw [hX] at y0 y1
              clear y2 y3
              by_cases i0 : i = 0
              · have u5 : decide ((0 : Int) < (i : Int)) = false := decide_eq_false (by omega)
                go_wp2_with (fail)
                go_quiet (fail)
                go_wp2_with (fail)
                go_roundw
                case rel => exact ⟨i + 1, by go_num, by omega, ⟨Kd.C_drewN HC.out _⟩, ⟨blk_drewN HX.out _⟩, ⟨HI.out.below (pw_below_drewN (Below.refl _ _) _)⟩, ⟨pw_below_drewN HB.out _⟩⟩
                case measure => simp [intOf]; omega
              · have p1 : (0 : Int) ≤ (i : Int) - 1 := by omega
                have q1 : (i : Int) - 1 < (L.length : Int) := by omega
                have u5 : decide ((0 : Int) < (i : Int)) = true := decide_eq_true (by omega)
                have u5' : decide (0 < i) = true := decide_eq_true (by omega)
                obtain ⟨ad', e0', z0, z1, z2, z3⟩ := at_T24 HC.out ((i : Int) - 1) p1 q1
                cases e0'
                have hnx := cornucopialaw7_SkipGets.next HG.out.srt (i := i) (by omega) hil
                have p2 : (1 : Int) ≤ (i : Int) := by omega
                have hw : IntKind.i64.wrap ((i : Int) - 1) = (i : Int) - 1 := by rw [IntKind.wrap_i64]; omega
                have ej : ((i : Int) - 1).toNat = i - 1 := by omega
                rw [hX] at hnx
                rw [ej] at z0 z1
                generalize rd_T24 L ((i : Int) - 1) = y at *
                obtain ⟨u6, hlt6⟩ := hnx
                clear z2 z3 ej
                by_cases d3 : x.f0 = y.f0
                · have u7 := cornucopialaw7_SkipGets.beq d3
                  have u8 : decide (y.f1 ≤ x.f1) = false := decide_eq_false (by have := hlt6 d3; omega)
                  clear d3 hlt6
                  go_wp2_with (fail)
                  go_quiet (fail)
                  go_wp2_with (fail)
                  go_roundw
                  case rel => exact ⟨i + 1, by go_num, by omega, ⟨Kd.C_drewN HC.out _⟩, ⟨blk_drewN HX.out _⟩, ⟨HI.out.below (pw_below_drewN (Below.refl _ _) _)⟩, ⟨pw_below_drewN HB.out _⟩⟩
                  case measure => simp [intOf]; omega
                · have u7 := cornucopialaw7_SkipGets.bne d3
                  clear d3 hlt6
                  go_wp2_with (fail)
                  go_quiet (fail)
                  go_wp2_with (fail)
                  go_roundw
                  case rel => exact ⟨i + 1, by go_num, by omega, ⟨Kd.C_drewN HC.out _⟩, ⟨blk_drewN HX.out _⟩, ⟨HI.out.below (pw_below_drewN (Below.refl _ _) _)⟩, ⟨pw_below_drewN HB.out _⟩⟩
                  case measure => simp [intOf]; omega
          · have u1 := cornucopialaw7_SkipGets.bne d1
            clear d1 hnew
            go_wp2_with (fail)
            go_quiet (fail)
            have n0_ := Aside0.mk (Kd.C_drewN HC.out nq)
            have n1_ := Aside0.mk (blk_drewN HX.out nq)
            have n2_ := Aside0.mk (HI.out.below (pw_below_drewN (Below.refl _ _) nq))
            have n3_ := Aside0.mk (pw_below_drewN HB.out nq)
            clear HC HX HI HB y0 y1 r1
            have HC := n0_
            have HX := n1_
            have HI := n2_
            have HB := n3_
            clear n0_ n1_ n2_ n3_
            generalize wr.drewN nq = wq at *
            obtain ⟨ad2, e02, y0, y1, y2, y3⟩ := at_T24 HC.out (i : Int) p0 q0
            cases e02
            simp only [Int.toNat_natCast] at y0 y1
            rw [hX] at y0 y1
            clear y2 y3
            by_cases i0 : i = 0
            · have u5 : decide ((0 : Int) < (i : Int)) = false := decide_eq_false (by omega)
              go_wp2_with (fail)
              go_quiet (fail)
              go_wp2_with (fail)
              go_roundw
              case rel => exact ⟨i + 1, by go_num, by omega, ⟨Kd.C_drewN HC.out _⟩, ⟨blk_drewN HX.out _⟩, ⟨HI.out.below (pw_below_drewN (Below.refl _ _) _)⟩, ⟨pw_below_drewN HB.out _⟩⟩
              case measure => simp [intOf]; omega
            · have p1 : (0 : Int) ≤ (i : Int) - 1 := by omega
              have q1 : (i : Int) - 1 < (L.length : Int) := by omega
              have u5 : decide ((0 : Int) < (i : Int)) = true := decide_eq_true (by omega)
              have u5' : decide (0 < i) = true := decide_eq_true (by omega)
              obtain ⟨ad', e0', z0, z1, z2, z3⟩ := at_T24 HC.out ((i : Int) - 1) p1 q1
              cases e0'
              have hnx := cornucopialaw7_SkipGets.next HG.out.srt (i := i) (by omega) hil
              have p2 : (1 : Int) ≤ (i : Int) := by omega
              have hw : IntKind.i64.wrap ((i : Int) - 1) = (i : Int) - 1 := by rw [IntKind.wrap_i64]; omega
              have ej : ((i : Int) - 1).toNat = i - 1 := by omega
              rw [hX] at hnx
              rw [ej] at z0 z1
              generalize rd_T24 L ((i : Int) - 1) = y at *
              obtain ⟨u6, hlt6⟩ := hnx
              clear z2 z3 ej
              by_cases d3 : x.f0 = y.f0
              · have u7 := cornucopialaw7_SkipGets.beq d3
                have u8 : decide (y.f1 ≤ x.f1) = false := decide_eq_false (by have := hlt6 d3; omega)
                clear d3 hlt6
                go_wp2_with (fail)
                go_quiet (fail)
                go_wp2_with (fail)
                go_roundw
                case rel => exact ⟨i + 1, by go_num, by omega, ⟨Kd.C_drewN HC.out _⟩, ⟨blk_drewN HX.out _⟩, ⟨HI.out.below (pw_below_drewN (Below.refl _ _) _)⟩, ⟨pw_below_drewN HB.out _⟩⟩
                case measure => simp [intOf]; omega
              · have u7 := cornucopialaw7_SkipGets.bne d3
                clear d3 hlt6
                go_wp2_with (fail)
                go_quiet (fail)
                go_wp2_with (fail)
                go_roundw
                case rel => exact ⟨i + 1, by go_num, by omega, ⟨Kd.C_drewN HC.out _⟩, ⟨blk_drewN HX.out _⟩, ⟨HI.out.below (pw_below_drewN (Below.refl _ _) _)⟩, ⟨pw_below_drewN HB.out _⟩⟩
                case measure => simp [intOf]; omega
        · have t1 : decide ((i : Int) < (L.length : Int)) = false := decide_eq_false (by omega)
          have r0 : wr.cell? ⟨w7.heap.size, 0, none⟩ = some (.string e.f0) := (blk_cell HX.out 0).trans rfl
          have r1 : wr.cell? ⟨w7.heap.size, 1, none⟩ = some (.int .u64 e.f1) := (blk_cell HX.out 1).trans rfl
          cases ok
          case false =>
            go_wp2_with (first
              | (go_at_call 7; refine (Sk.alive_calls _).mono ?_; rintro ee w9 ⟨rfl, hb⟩; have n0_ := Aside0.mk (HI.out.below hb); have n1_ := Aside0.mk (below_step HB.out hb); have n2_ := Aside0.mk (blk_below HX.out hb); clear HI HB HX; have HI := n0_; have HB := n1_; have HX := n2_; clear n0_ n1_ n2_; clear hb r0 r1; have r0 : w9.cell? ⟨w7.heap.size, 0, none⟩ = some (.string e.f0) := (blk_cell HX.out 0).trans rfl; have r1 : w9.cell? ⟨w7.heap.size, 1, none⟩ = some (.int .u64 e.f1) := (blk_cell HX.out 1).trans rfl)
              | (go_at_call 12; refine (Sk.len_ok w _ g ns HI.out).mono ?_; rintro ee w10 ⟨rfl, rfl⟩))
            go_ret
            exact ⟨by show Ending.returned (Value.bool ((L.length : Int) == (ns.length : Int))) = _; rw [HPL.out]; simp, HB.out⟩
          case true =>
            have u1 := cornucopialaw7_SkipGets.beq (HG.out.own rfl).1
            have u2 : decide (e.f1 ≤ a2) = true := decide_eq_true (HG.out.own rfl).2
            go_wp2_with (first
              | (go_at_call 7; refine (Sk.alive_calls _).mono ?_; rintro ee w9 ⟨rfl, hb⟩; have n0_ := Aside0.mk (HI.out.below hb); have n1_ := Aside0.mk (below_step HB.out hb); have n2_ := Aside0.mk (blk_below HX.out hb); clear HI HB HX; have HI := n0_; have HB := n1_; have HX := n2_; clear n0_ n1_ n2_; clear hb r0 r1; have r0 : w9.cell? ⟨w7.heap.size, 0, none⟩ = some (.string e.f0) := (blk_cell HX.out 0).trans rfl; have r1 : w9.cell? ⟨w7.heap.size, 1, none⟩ = some (.int .u64 e.f1) := (blk_cell HX.out 1).trans rfl)
              | (go_at_call 12; refine (Sk.len_ok w _ g ns HI.out).mono ?_; rintro ee w10 ⟨rfl, rfl⟩))
            go_ret
            exact ⟨by show Ending.returned (Value.bool ((L.length : Int) == (ns.length : Int))) = _; rw [HPL.out]; simp, HB.out⟩


/-- THE ONE PURE STATEMENT of cornucopialaw7_SkipGets. -/
def cornucopialaw7_SkipGets.Pure : Prop := ∀ (l0 : List (S24)) (a1 : ByteArray) (a2 : Int), l0.length * 48 ≤ 140737488351232 → (∀ x_ ∈ l0, wfS24 x_) → a1.size ≤ 140737488351232 → (Lit.int .u64 a2).wf = true → cornucopialaw7_SkipGets.f l0 a1 a2 = some true
theorem cornucopialaw7_SkipGets.walk (P : cornucopialaw7_SkipGets.Pure) (A0 : Option Addr) (c0 : Nat) (l0 : List (S24)) (a1 : ByteArray) (a2 : Int) (w : World) (hr0 : Kd.C k24 w A0 l0.length l0) (hc0 : l0.length ≤ c0) (w0_0 : l0.length * 48 ≤ 140737488351232) (w0_1 : (∀ x_ ∈ l0, wfS24 x_)) (w1_0 : a1.size ≤ 140737488351232) (w2_0 : (Lit.int .u64 a2).wf = true) :
    Calls Try.prog 5 #[.slice A0 l0.length c0, .string a1, .int .u64 a2] w fun e w' => e = .returned (.bool true) ∧ Below w.heap.size w w' := by
  have h := P l0 a1 a2 w0_0 w0_1 w1_0 w2_0
  refine (cornucopialaw7_SkipGets.calls _ _ l0 a1 a2 true w hr0 hc0 h).mono ?_
  rintro e w' ⟨rfl, hd⟩
  exact ⟨rfl, hd⟩

end Go.Proofs.Ytfldbgnmdkbfkaa.PNum
