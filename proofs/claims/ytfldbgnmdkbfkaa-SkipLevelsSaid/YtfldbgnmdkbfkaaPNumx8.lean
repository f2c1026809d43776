/- A walk, written by a program of this session out of the translation (a printed Lean function, and that the Go code comes to its answer). Lean checks it. -/
import Derived.Test.YtfldbgnmdkbfkaaPNumx0
import Derived.Test.YtfldbgnmdkbfkaaPNumx3
import Derived.Test.YtfldbgnmdkbfkaaSk12
import Derived.Test.YtfldbgnmdkbfkaaWRd
import Derived.Test.YtfldbgnmdkbfkaaWPu
namespace Go.Proofs.Ytfldbgnmdkbfkaa.PNum
open Go.RowKit Go.Proofs.YtfldbgnmdkbfkaaW.PrintWords Go.Proofs.YtfldbgnmdkbfkaaW.PrintLast Go.Proofs.YtfldbgnmdkbfkaaW.PrintMore
attribute [local go_sem] max2_int min2_int max_two min_two max_three min_three max_four min_four   -- for this text's walks alone
set_option linter.unusedVariables false
set_option linter.unusedSimpArgs false

-- OWNIMPORT Derived.Test.YtfldbgnmdkbfkaaSk12
-- OWNIMPORT Derived.Test.YtfldbgnmdkbfkaaWRd
-- OWNIMPORT Derived.Test.YtfldbgnmdkbfkaaWPu
/-! ### cornucopialaw7_SkipLevels: function 4 -/
/-- What a call comes to: true. -/
def cornucopialaw7_SkipLevels.f (l0 : List S24) (l1 : List Int) (l2 : List Int) (a3 : ByteArray) (a4 : Int) : Option Bool := if (l0.all fun e => decide (e.f0.size ≤ 140737488351232 ∧ e.f3.size ≤ 140737488351232)) = true then some true else none
theorem cornucopialaw7_SkipLevels.beq {x y : ByteArray} (h : x = y) : (x.toList == y.toList) = true := beq_iff_eq.mpr (by rw [h])
theorem cornucopialaw7_SkipLevels.bne {x y : ByteArray} (h : ¬ x = y) : (x.toList == y.toList) = false := beq_eq_false_iff_ne.mpr (fun k => h (PuIkC.tl_ext.1 k))
/-- No two of the first ones are the same. -/
def cornucopialaw7_SkipLevels.Apart (l : List S24) (n : Nat) : Prop := ∀ p q (hp : p < l.length) (hq : q < l.length), p < q → q < n → PuIkC.ce l[p] l[q] ≠ 0
/-- What a list holds behind i versions, put in from the front, and from the back. -/
def cornucopialaw7_SkipLevels.Has (l : List S24) (i : Nat) (m : List S24) : Prop := m.length ≤ i ∧ ∀ x, x ∈ m ↔ x ∈ l.take i ∧ PuIkC.valid x.f0 x.f2 x.f3 = true
theorem cornucopialaw7_SkipLevels.has_step {l m : List S24} {i : Nat} (hA : cornucopialaw7_SkipLevels.Apart l l.length) (h : cornucopialaw7_SkipLevels.Has l i m) (hi : i < l.length) : cornucopialaw7_SkipLevels.Has l (i + 1) (Sk.insV l[i] m) := by
  refine ⟨Nat.le_trans (Sk.insV_len _ _) (by have := h.1; omega), fun x => ?_⟩
  rw [Sk.mem_insV, h.2 x, List.take_succ_eq_append_getElem hi, List.mem_append, List.mem_singleton]
  · constructor
    · rintro (⟨rfl, k⟩ | ⟨k1, k2⟩)
      · exact ⟨Or.inr rfl, k⟩
      · exact ⟨Or.inl k1, k2⟩
    · rintro ⟨k1 | rfl, k2⟩
      · exact Or.inr ⟨k1, k2⟩
      · exact Or.inl ⟨rfl, k2⟩
  · intro y hy
    have h1 := ((h.2 y).1 hy).1
    obtain ⟨p, hp, rfl⟩ := List.mem_take_iff_getElem.1 h1
    exact hA p i (by omega) hi (by omega) hi
theorem cornucopialaw7_SkipLevels.apart_rev {l : List S24} (h : cornucopialaw7_SkipLevels.Apart l l.length) : cornucopialaw7_SkipLevels.Apart l.reverse l.reverse.length := by
  intro p q hp hq hpq _
  rw [List.getElem_reverse, List.getElem_reverse]
  rw [List.length_reverse] at hp hq
  intro k
  have h1 := PuIkC.ce_neg l[l.length - 1 - p] l[l.length - 1 - q]
  exact h (l.length - 1 - q) (l.length - 1 - p) (by omega) (by omega) (by omega) (by omega) (by omega)
theorem cornucopialaw7_SkipLevels.apart_step {l : List S24} {i : Nat} (h : cornucopialaw7_SkipLevels.Apart l i) (hi : i < l.length) (hd : ∀ p, p < i → ¬ ((rd_T24 l (i : Int)).f0 = (rd_T24 l (p : Int)).f0 ∧ (rd_T24 l (i : Int)).f1 = (rd_T24 l (p : Int)).f1)) : cornucopialaw7_SkipLevels.Apart l (i + 1) := by
  intro p q hp hq hpq hqi
  rcases Nat.lt_succ_iff_lt_or_eq.1 hqi with h1 | rfl
  · exact h p q hp hq hpq h1
  · intro k
    have h2 := hd p hpq
    rw [PuSm.at_nat l q hq, PuSm.at_nat l p hp] at h2
    have h3 := (PuIkC.ce_zero _ _).1 k
    exact h2 ⟨h3.1.symm, h3.2.symm⟩
theorem cornucopialaw7_SkipLevels.has_same {w0 V : World} {g g2 : Nat} {ns ms : List SkM.Nd} {l : List S24} (h : Sk.Two w0 V g ns g2 ms) (h1 : cornucopialaw7_SkipLevels.Has l l.length (ns.map (·.e))) (h2 : cornucopialaw7_SkipLevels.Has l.reverse l.reverse.length (ms.map (·.e))) : ms.map (·.e) = ns.map (·.e) := by
  refine Sk.srt_unique (Sk.srt_map h.b.srt) (Sk.srt_map h.a.srt) (fun x => ?_)
  rw [h1.2 x, h2.2 x, List.take_length, List.take_length, List.mem_reverse]
set_option maxHeartbeats 8000000 in
set_option maxRecDepth 100000 in
theorem cornucopialaw7_SkipLevels.calls (A0 : Option Addr) (c0 : Nat) (l0 : List S24) (A1 : Option Addr) (c1 : Nat) (l1 : List Int) (A2 : Option Addr) (c2 : Nat) (l2 : List Int) (a3 : ByteArray) (a4 : Int) (r : Bool) (w : World) (hr0 : Kd.C k24 w A0 l0.length l0) (hc0 : l0.length ≤ c0) (hr1 : Kd.C (Kd.int .i64) w A1 l1.length l1) (hc1 : l1.length ≤ c1) (hr2 : Kd.C (Kd.int .i64) w A2 l2.length l2) (hc2 : l2.length ≤ c2) (h : cornucopialaw7_SkipLevels.f l0 l1 l2 a3 a4 = some r) :
    Calls Try.prog 4 #[.slice A0 l0.length c0, .slice A1 l1.length c1, .slice A2 l2.length c2, .string a3, .int .u64 a4] w fun e w' => e = .returned (.bool r) ∧ Below w.heap.size w w' := by
  unfold cornucopialaw7_SkipLevels.f at h
  split at h
  case isFalse => cases h
  case isTrue hg =>
  obtain rfl : true = r := Option.some.inj h
  have hsz : ∀ e ∈ l0, e.f0.size ≤ 140737488351232 ∧ e.f3.size ≤ 140737488351232 := fun e he => of_decide_eq_true (List.all_eq_true.1 hg e he)
  obtain ⟨sb, ⟨ks, hks⟩, hsm⟩ := PuSm.Small_ev l0 hsz
  have HKS := Aside0.mk (hks ks (Nat.le_refl _))
  have HR0 := Aside0.mk hr0
  have HC0 := Aside0.mk hc0
  have HR1 := Aside0.mk hr1
  have HR2 := Aside0.mk hr2
  have HSZ := Aside0.mk hsz
  clear h hg hks hr0 hc0 hsz hr1 hc1 hr2 hc2
  have HB := Aside0.mk (Below.refl w.heap.size w)
  cases sb
  case false =>
    go_enter Try.func4, Try.ntmps4
    go_wp2_with (first | (go_at_call 6; refine (cornucopialaw5_Small.calls ks _ _ l0 false _ HR0.out HC0.out HKS.out).mono ?_; rintro e w1 ⟨rfl, hb⟩; have n0_ := Aside0.mk (below_step HB.out hb); clear HB; have HB := n0_; clear n0_; clear hb) | (go_at_call 7; refine (Sk.alive_calls _).mono ?_; rintro e w9 ⟨rfl, hb⟩; have n0_ := Aside0.mk (below_step (by first | (exact HB.out) | (exact pw_below_drewN HB.out _)) hb); clear HB; have HB := n0_; clear n0_; clear hb))
    go_ret
    exact ⟨rfl, HB.out⟩
  case true =>
  clear hsm
  by_cases c0 : (l0.length : Int) > 60
  · have s0 : decide (60 < (l0.length : Int)) = true := decide_eq_true (by omega)
    have s0' : decide (60 < l0.length) = true := decide_eq_true (by omega)
    go_enter Try.func4, Try.ntmps4
    go_wp2_with (first | (go_at_call 6; refine (cornucopialaw5_Small.calls ks _ _ l0 true _ HR0.out HC0.out HKS.out).mono ?_; rintro e w1 ⟨rfl, hb⟩; have n0_ := Aside0.mk (below_step HB.out hb); clear HB; have HB := n0_; clear n0_; clear hb) | (go_at_call 7; refine (Sk.alive_calls _).mono ?_; rintro e w9 ⟨rfl, hb⟩; have n0_ := Aside0.mk (below_step (by first | (exact HB.out) | (exact pw_below_drewN HB.out _)) hb); clear HB; have HB := n0_; clear n0_; clear hb))
    go_ret
    exact ⟨rfl, HB.out⟩
  have s0 : decide (60 < (l0.length : Int)) = false := decide_eq_false (by omega)
  have s0' : decide (60 < l0.length) = false := decide_eq_false (by omega)
  by_cases c1 : (l1.length : Int) > 100
  · have s1 : decide (100 < (l1.length : Int)) = true := decide_eq_true (by omega)
    have s1' : decide (100 < l1.length) = true := decide_eq_true (by omega)
    go_enter Try.func4, Try.ntmps4
    go_wp2_with (first | (go_at_call 6; refine (cornucopialaw5_Small.calls ks _ _ l0 true _ HR0.out HC0.out HKS.out).mono ?_; rintro e w1 ⟨rfl, hb⟩; have n0_ := Aside0.mk (below_step HB.out hb); clear HB; have HB := n0_; clear n0_; clear hb) | (go_at_call 7; refine (Sk.alive_calls _).mono ?_; rintro e w9 ⟨rfl, hb⟩; have n0_ := Aside0.mk (below_step (by first | (exact HB.out) | (exact pw_below_drewN HB.out _)) hb); clear HB; have HB := n0_; clear n0_; clear hb))
    go_ret
    exact ⟨rfl, HB.out⟩
  have s1 : decide (100 < (l1.length : Int)) = false := decide_eq_false (by omega)
  have s1' : decide (100 < l1.length) = false := decide_eq_false (by omega)
  by_cases c2 : (l2.length : Int) > 100
  · have s2 : decide (100 < (l2.length : Int)) = true := decide_eq_true (by omega)
    have s2' : decide (100 < l2.length) = true := decide_eq_true (by omega)
    go_enter Try.func4, Try.ntmps4
    go_wp2_with (first | (go_at_call 6; refine (cornucopialaw5_Small.calls ks _ _ l0 true _ HR0.out HC0.out HKS.out).mono ?_; rintro e w1 ⟨rfl, hb⟩; have n0_ := Aside0.mk (below_step HB.out hb); clear HB; have HB := n0_; clear n0_; clear hb) | (go_at_call 7; refine (Sk.alive_calls _).mono ?_; rintro e w9 ⟨rfl, hb⟩; have n0_ := Aside0.mk (below_step (by first | (exact HB.out) | (exact pw_below_drewN HB.out _)) hb); clear HB; have HB := n0_; clear n0_; clear hb))
    go_ret
    exact ⟨rfl, HB.out⟩
  have s2 : decide (100 < (l2.length : Int)) = false := decide_eq_false (by omega)
  have s2' : decide (100 < l2.length) = false := decide_eq_false (by omega)
  by_cases c3 : (a3.size : Int) > 300
  · have s3 : decide (300 < (a3.size : Int)) = true := decide_eq_true (by omega)
    have s3' : decide (300 < a3.size) = true := decide_eq_true (by omega)
    go_enter Try.func4, Try.ntmps4
    go_wp2_with (first | (go_at_call 6; refine (cornucopialaw5_Small.calls ks _ _ l0 true _ HR0.out HC0.out HKS.out).mono ?_; rintro e w1 ⟨rfl, hb⟩; have n0_ := Aside0.mk (below_step HB.out hb); clear HB; have HB := n0_; clear n0_; clear hb) | (go_at_call 7; refine (Sk.alive_calls _).mono ?_; rintro e w9 ⟨rfl, hb⟩; have n0_ := Aside0.mk (below_step (by first | (exact HB.out) | (exact pw_below_drewN HB.out _)) hb); clear HB; have HB := n0_; clear n0_; clear hb))
    go_ret
    exact ⟨rfl, HB.out⟩
  have s3 : decide (300 < (a3.size : Int)) = false := decide_eq_false (by omega)
  have s3' : decide (300 < a3.size) = false := decide_eq_false (by omega)
  have hlen0 : l0.length ≤ 60 := by omega
  go_enter Try.func4, Try.ntmps4
  go_wp2_with (first
    | (go_at_call 6; refine (cornucopialaw5_Small.calls ks _ _ l0 true _ HR0.out HC0.out HKS.out).mono ?_; rintro e w1 ⟨rfl, hb⟩; have n0_ := Aside0.mk (below_step HB.out hb); clear HB; have HB := n0_; clear n0_; clear hb)
    | (go_at_call 15; refine (Sk.new_two w _ HB.out g [] HI.out).mono ?_; rintro e w3 ⟨g2, rfl, ht, hb⟩; have HT := Aside0.mk ht; have n0_ := Aside0.mk (below_step HB.out hb); clear HB; have HB := n0_; clear n0_; clear HI hb ht)
    | (go_at_call 15; refine (Sk.new_ok w _ HB.out).mono ?_; rintro e w2 ⟨g, rfl, hi, _, hb⟩; have HI := Aside0.mk hi; have n0_ := Aside0.mk (below_step HB.out hb); clear HB; have HB := n0_; clear n0_; clear hi hb))
  go_loopw [13] (fun v13 w' => ∃ i : Nat, v13 = .int .i64 i ∧ i ≤ l0.length ∧ Aside0 (cornucopialaw7_SkipLevels.Apart l0 i) ∧ Aside0 (Sk.Two w w' g [] g2 []) ∧ Aside0 (Below w.heap.size w w')) (fun v13 _ => l0.length - (intOf v13).toNat)
  case atStart => exact ⟨0, rfl, Nat.zero_le _, ⟨fun p q _ _ _ hq => absurd hq (Nat.not_lt_zero _)⟩, HT, HB⟩
  case round =>
    clear HT HB
    obtain ⟨i, rfl, hi, HAP, HT, HB⟩ := hrel
    by_cases hil : i < l0.length
    · have p0 : (0 : Int) ≤ (i : Int) := Int.natCast_nonneg _
      have q0 : (i : Int) < (l0.length : Int) := Int.ofNat_lt.mpr hil
      have t0 : decide ((i : Int) < (l0.length : Int)) = true := decide_eq_true q0
      go_wp2_with (fail)
      go_loopw [14] (fun v14 w' => ∃ k : Nat, v14 = .int .i64 k ∧ k ≤ i ∧ Aside0 (∀ p, p < k → ¬ ((rd_T24 l0 (i : Int)).f0 = (rd_T24 l0 (p : Int)).f0 ∧ (rd_T24 l0 (i : Int)).f1 = (rd_T24 l0 (p : Int)).f1)) ∧ Aside0 (Sk.Two w w' g [] g2 []) ∧ Aside0 (Below w.heap.size w w')) (fun v14 _ => i - (intOf v14).toNat)
      case atStart => exact ⟨0, rfl, Nat.zero_le _, ⟨fun p hp => absurd hp (Nat.not_lt_zero _)⟩, HT, HB⟩
      case round =>
        clear HT HB
        obtain ⟨k, rfl, hk, HD, HT, HB⟩ := hrel
        by_cases hkl : k < i
        · have p1 : (0 : Int) ≤ (k : Int) := Int.natCast_nonneg _
          have q1 : (k : Int) < (l0.length : Int) := Int.ofNat_lt.mpr (by omega)
          have t1 : decide ((k : Int) < (i : Int)) = true := decide_eq_true (by omega)
          have t1' : decide (k < i) = true := decide_eq_true hkl
          obtain ⟨ad, e0, hx0, hx1, hx2, hx3⟩ := at_T24 HR0.out (i : Int) p0 q0
          cases e0
          obtain ⟨ad', e0', hz0, hz1, hz2, hz3⟩ := at_T24 HR0.out (k : Int) p1 q1
          cases e0'
          have y0 := (HB.out.cell (World.block_lt_of_cell? w _ hx0)).trans hx0
          have y1 := (HB.out.cell (World.block_lt_of_cell? w _ hx1)).trans hx1
          have z0 := (HB.out.cell (World.block_lt_of_cell? w _ hz0)).trans hz0
          have z1 := (HB.out.cell (World.block_lt_of_cell? w _ hz1)).trans hz1
          clear hx0 hx1 hx2 hx3 hz0 hz1 hz2 hz3
          simp only [Int.toNat_natCast] at y0 y1 z0 z1
          obtain ⟨x, hX⟩ : ∃ x, rd_T24 l0 (i : Int) = x := ⟨_, rfl⟩
          obtain ⟨z, hZ⟩ : ∃ z, rd_T24 l0 (k : Int) = z := ⟨_, rfl⟩
          rw [hX] at y0 y1
          rw [hZ] at z0 z1
          have HXE := Aside0.mk hX
          by_cases d1 : x.f0 = z.f0
          · have u1 := cornucopialaw7_SkipLevels.beq d1
            by_cases d2 : x.f1 = z.f1
            · have u2 : (x.f1 == z.f1) = true := beq_iff_eq.mpr d2
              clear d1 d2 HD hX hZ
              go_wp2_with (fail)
              go_quiet (fail)
              go_wp2_with (first | (go_at_call 7; refine (Sk.alive_calls _).mono ?_; rintro e w9 ⟨rfl, hb⟩; have n0_ := Aside0.mk (below_step (by first | (exact HB.out) | (exact pw_below_drewN HB.out _)) hb); clear HB; have HB := n0_; clear n0_; clear hb))
              go_ret
              exact ⟨rfl, HB.out⟩
            · have u2 : (x.f1 == z.f1) = false := beq_eq_false_iff_ne.mpr d2
              have u2' : decide (x.f1 = z.f1) = false := decide_eq_false d2
              have HNE : Aside0 (¬ (x.f0 = (rd_T24 l0 (k : Int)).f0 ∧ x.f1 = (rd_T24 l0 (k : Int)).f1)) := ⟨by rw [hZ]; exact fun z => d2 z.2⟩
              clear d1 d2 hX hZ
              go_wp2_with (fail)
              go_quiet (fail)
              go_wp2_with (fail)
              go_roundw
              case rel =>
                refine ⟨k + 1, by go_num, by omega, ⟨fun p hp => ?_⟩, ⟨HT.out.below (pw_below_drewN (Below.refl _ _) _)⟩, ⟨pw_below_drewN HB.out _⟩⟩
                rcases Nat.lt_succ_iff_lt_or_eq.1 hp with hp | rfl
                · have h1 := HD.out p hp
                  first | exact h1 | (rw [HXE.out] at h1; exact h1) | (rw [HXE.out]; exact h1)
                · have h1 := HNE.out
                  first | exact h1 | (rw [HXE.out]; exact h1)
              case measure => simp [intOf]; omega
          · have u1 := cornucopialaw7_SkipLevels.bne d1
            have HNE : Aside0 (¬ (x.f0 = (rd_T24 l0 (k : Int)).f0 ∧ x.f1 = (rd_T24 l0 (k : Int)).f1)) := ⟨by rw [hZ]; exact fun z => d1 z.1⟩
            clear d1 hX hZ
            go_wp2_with (fail)
            go_quiet (fail)
            go_wp2_with (fail)
            go_roundw
            case rel =>
              refine ⟨k + 1, by go_num, by omega, ⟨fun p hp => ?_⟩, ⟨HT.out.below (pw_below_drewN (Below.refl _ _) _)⟩, ⟨pw_below_drewN HB.out _⟩⟩
              rcases Nat.lt_succ_iff_lt_or_eq.1 hp with hp | rfl
              · have h1 := HD.out p hp
                first | exact h1 | (rw [HXE.out] at h1; exact h1) | (rw [HXE.out]; exact h1)
              · have h1 := HNE.out
                first | exact h1 | (rw [HXE.out]; exact h1)
            case measure => simp [intOf]; omega
        · have t1 : decide ((k : Int) < (i : Int)) = false := decide_eq_false (by omega)
          have t1' : decide (k < i) = false := decide_eq_false hkl
          obtain rfl : k = i := by omega
          have HA2 := Aside0.mk (cornucopialaw7_SkipLevels.apart_step HAP.out hil HD.out)
          clear HD HAP
          go_wp2_with (fail)
          go_roundw
          case rel => exact ⟨k + 1, by go_num, by omega, HA2, HT, HB⟩
          case measure => simp [intOf]; omega
    · have t0 : decide ((i : Int) < (l0.length : Int)) = false := decide_eq_false (by omega)
      obtain rfl : i = l0.length := by omega
      go_wp2_with (fail)
      go_loopw [15] (fun v15 w' => ∃ (i : Nat) (ns ms : List SkM.Nd), v15 = .int .i64 i ∧ i ≤ l0.length ∧ Aside0 (cornucopialaw7_SkipLevels.Has l0 i (ns.map (·.e))) ∧ Aside0 (cornucopialaw7_SkipLevels.Has l0.reverse i (ms.map (·.e))) ∧ Aside0 (Sk.Two w w' g ns g2 ms) ∧ Aside0 (Below w.heap.size w w')) (fun v15 _ => l0.length - (intOf v15).toNat)
      case atStart => exact ⟨0, [], [], rfl, Nat.zero_le _, ⟨by simp [cornucopialaw7_SkipLevels.Has]⟩, ⟨by simp [cornucopialaw7_SkipLevels.Has]⟩, HT, HB⟩
      case round =>
        clear HT HB hi
        obtain ⟨i, ns, ms, rfl, hi, HN, HM, HT, HB⟩ := hrel
        by_cases hil : i < l0.length
        · have p0 : (0 : Int) ≤ (i : Int) := Int.natCast_nonneg _
          have q0 : (i : Int) < (l0.length : Int) := Int.ofNat_lt.mpr hil
          have t1 : decide ((i : Int) < (l0.length : Int)) = true := decide_eq_true q0
          obtain ⟨m, hm⟩ : ∃ m : Nat, m = l0.length - 1 - i := ⟨_, rfl⟩
          have hml : m < l0.length := by omega
          have p1 : (0 : Int) ≤ (m : Int) := Int.natCast_nonneg _
          have q1 : (m : Int) < (l0.length : Int) := Int.ofNat_lt.mpr hml
          have hw1 : IntKind.i64.wrap ((l0.length : Int) - 1) = (l0.length : Int) - 1 := by rw [IntKind.wrap_i64]; omega
          have hw2 : IntKind.i64.wrap ((l0.length : Int) - 1 - (i : Int)) = (m : Int) := by rw [IntKind.wrap_i64]; omega
          obtain ⟨ad, e0, hx0, hx1, hx2, hx3⟩ := at_T24 HR0.out (i : Int) p0 q0
          cases e0
          obtain ⟨ad', e0', hz0, hz1, hz2, hz3⟩ := at_T24 HR0.out (m : Int) p1 q1
          cases e0'
          have y0 := (HB.out.cell (World.block_lt_of_cell? w _ hx0)).trans hx0
          have y1 := (HB.out.cell (World.block_lt_of_cell? w _ hx1)).trans hx1
          have y2 := (HB.out.cell (World.block_lt_of_cell? w _ hx2)).trans hx2
          have y3 := (HB.out.cell (World.block_lt_of_cell? w _ hx3)).trans hx3
          clear hx0 hx1 hx2 hx3
          simp only [Int.toNat_natCast] at y0 y1 y2 y3 hz0 hz1 hz2 hz3
          have HXI := Aside0.mk (PuSm.at_nat l0 i hil)
          have HZI : Aside0 (rd_T24 l0 (m : Int) = l0.reverse[i]'(by rw [List.length_reverse]; exact hil)) := ⟨by rw [PuSm.at_nat l0 m hml, List.getElem_reverse]; congr 1⟩
          have HSX : Aside0 ((rd_T24 l0 (i : Int)).f0.size ≤ 140737488351232 ∧ (rd_T24 l0 (i : Int)).f3.size ≤ 140737488351232) := ⟨by rw [PuSm.at_nat l0 i hil]; exact HSZ.out _ (List.getElem_mem hil)⟩
          have HSZ2 : Aside0 ((rd_T24 l0 (m : Int)).f0.size ≤ 140737488351232 ∧ (rd_T24 l0 (m : Int)).f3.size ≤ 140737488351232) := ⟨by rw [PuSm.at_nat l0 m hml]; exact HSZ.out _ (List.getElem_mem hml)⟩
          have hlm : l0.length - 1 - i = m := hm.symm
          clear hm
          generalize rd_T24 l0 (i : Int) = x at *
          generalize rd_T24 l0 (m : Int) = z at *
          by_cases ha : i < l1.length
          · by_cases hb2 : i < l2.length
            · have ta : decide ((i : Int) < (l1.length : Int)) = true := decide_eq_true (by omega)
              have ta' : decide (i < l1.length) = true := decide_eq_true (by omega)
              have tb : decide ((i : Int) < (l2.length : Int)) = true := decide_eq_true (by omega)
              have tb' : decide (i < l2.length) = true := decide_eq_true (by omega)
              obtain ⟨ad1, ea, hh⟩ := Kd.at_int HR1.out (i : Int) p0 (Int.ofNat_lt.mpr (by omega))
              cases ea
              have xa := (HB.out.cell (World.block_lt_of_cell? w _ hh)).trans hh
              have qxa : (i : Int) < (l1.length : Int) := by omega
              clear hh
              simp only [Int.toNat_natCast] at xa
              obtain ⟨ad2, ea, hh⟩ := Kd.at_int HR2.out (i : Int) p0 (Int.ofNat_lt.mpr (by omega))
              cases ea
              have xb := (HB.out.cell (World.block_lt_of_cell? w _ hh)).trans hh
              have qxb : (i : Int) < (l2.length : Int) := by omega
              clear hh
              simp only [Int.toNat_natCast] at xb
              go_wp2_with (first
                | (go_at_call 9; refine (Sk.put_two w _ g g2 ns ms x (rd l1 (i : Int)) HT.out HB.out (by have := HN.out.1; simp only [List.length_map] at this; omega) HSX.out.1 HSX.out.2).mono ?_; rintro e w6 ⟨rfl, ns', ht, hm, hb⟩; have HN' := Aside0.mk hm; have HT' := Aside0.mk ht; clear HB HT; have HB := Aside0.mk hb; clear ht hb hm; have s0 := (HB.out.cell (World.block_lt_of_cell? w _ hz0)).trans hz0; have s1 := (HB.out.cell (World.block_lt_of_cell? w _ hz1)).trans hz1; have s2 := (HB.out.cell (World.block_lt_of_cell? w _ hz2)).trans hz2; have s3 := (HB.out.cell (World.block_lt_of_cell? w _ hz3)).trans hz3)
                | (go_at_call 9; refine (Sk.put_two w _ g2 g ms ns' z (rd l2 (i : Int)) HT'.out.symm HB.out (by have := HM.out.1; simp only [List.length_map] at this; omega) HSZ2.out.1 HSZ2.out.2).mono ?_; rintro e w6 ⟨rfl, ms', ht, hm, hb⟩; have HM' := Aside0.mk hm; have HT := Aside0.mk ht; clear HB; have HB := Aside0.mk hb; clear ht hb hm))
              go_roundw
              case rel => exact ⟨i + 1, ns', ms', by go_num, by omega, ⟨by rw [HN'.out, HXI.out]; exact cornucopialaw7_SkipLevels.has_step HAP.out HN.out hil⟩, ⟨by rw [HM'.out, HZI.out]; exact cornucopialaw7_SkipLevels.has_step (cornucopialaw7_SkipLevels.apart_rev HAP.out) HM.out (by rw [List.length_reverse]; exact hil)⟩, ⟨HT.out.symm⟩, HB⟩
              case measure => simp [intOf]; omega
            · have ta : decide ((i : Int) < (l1.length : Int)) = true := decide_eq_true (by omega)
              have ta' : decide (i < l1.length) = true := decide_eq_true (by omega)
              have tb : decide ((i : Int) < (l2.length : Int)) = false := decide_eq_false (by omega)
              have tb' : decide (i < l2.length) = false := decide_eq_false (by omega)
              obtain ⟨ad1, ea, hh⟩ := Kd.at_int HR1.out (i : Int) p0 (Int.ofNat_lt.mpr (by omega))
              cases ea
              have xa := (HB.out.cell (World.block_lt_of_cell? w _ hh)).trans hh
              have qxa : (i : Int) < (l1.length : Int) := by omega
              clear hh
              simp only [Int.toNat_natCast] at xa
              go_wp2_with (first
                | (go_at_call 9; refine (Sk.put_two w _ g g2 ns ms x (rd l1 (i : Int)) HT.out HB.out (by have := HN.out.1; simp only [List.length_map] at this; omega) HSX.out.1 HSX.out.2).mono ?_; rintro e w6 ⟨rfl, ns', ht, hm, hb⟩; have HN' := Aside0.mk hm; have HT' := Aside0.mk ht; clear HB HT; have HB := Aside0.mk hb; clear ht hb hm; have s0 := (HB.out.cell (World.block_lt_of_cell? w _ hz0)).trans hz0; have s1 := (HB.out.cell (World.block_lt_of_cell? w _ hz1)).trans hz1; have s2 := (HB.out.cell (World.block_lt_of_cell? w _ hz2)).trans hz2; have s3 := (HB.out.cell (World.block_lt_of_cell? w _ hz3)).trans hz3)
                | (go_at_call 9; refine (Sk.put_two w _ g2 g ms ns' z (3) HT'.out.symm HB.out (by have := HM.out.1; simp only [List.length_map] at this; omega) HSZ2.out.1 HSZ2.out.2).mono ?_; rintro e w6 ⟨rfl, ms', ht, hm, hb⟩; have HM' := Aside0.mk hm; have HT := Aside0.mk ht; clear HB; have HB := Aside0.mk hb; clear ht hb hm))
              go_roundw
              case rel => exact ⟨i + 1, ns', ms', by go_num, by omega, ⟨by rw [HN'.out, HXI.out]; exact cornucopialaw7_SkipLevels.has_step HAP.out HN.out hil⟩, ⟨by rw [HM'.out, HZI.out]; exact cornucopialaw7_SkipLevels.has_step (cornucopialaw7_SkipLevels.apart_rev HAP.out) HM.out (by rw [List.length_reverse]; exact hil)⟩, ⟨HT.out.symm⟩, HB⟩
              case measure => simp [intOf]; omega
          · by_cases hb2 : i < l2.length
            · have ta : decide ((i : Int) < (l1.length : Int)) = false := decide_eq_false (by omega)
              have ta' : decide (i < l1.length) = false := decide_eq_false (by omega)
              have tb : decide ((i : Int) < (l2.length : Int)) = true := decide_eq_true (by omega)
              have tb' : decide (i < l2.length) = true := decide_eq_true (by omega)
              obtain ⟨ad2, ea, hh⟩ := Kd.at_int HR2.out (i : Int) p0 (Int.ofNat_lt.mpr (by omega))
              cases ea
              have xb := (HB.out.cell (World.block_lt_of_cell? w _ hh)).trans hh
              have qxb : (i : Int) < (l2.length : Int) := by omega
              clear hh
              simp only [Int.toNat_natCast] at xb
              go_wp2_with (first
                | (go_at_call 9; refine (Sk.put_two w _ g g2 ns ms x (1) HT.out HB.out (by have := HN.out.1; simp only [List.length_map] at this; omega) HSX.out.1 HSX.out.2).mono ?_; rintro e w6 ⟨rfl, ns', ht, hm, hb⟩; have HN' := Aside0.mk hm; have HT' := Aside0.mk ht; clear HB HT; have HB := Aside0.mk hb; clear ht hb hm; have s0 := (HB.out.cell (World.block_lt_of_cell? w _ hz0)).trans hz0; have s1 := (HB.out.cell (World.block_lt_of_cell? w _ hz1)).trans hz1; have s2 := (HB.out.cell (World.block_lt_of_cell? w _ hz2)).trans hz2; have s3 := (HB.out.cell (World.block_lt_of_cell? w _ hz3)).trans hz3)
                | (go_at_call 9; refine (Sk.put_two w _ g2 g ms ns' z (rd l2 (i : Int)) HT'.out.symm HB.out (by have := HM.out.1; simp only [List.length_map] at this; omega) HSZ2.out.1 HSZ2.out.2).mono ?_; rintro e w6 ⟨rfl, ms', ht, hm, hb⟩; have HM' := Aside0.mk hm; have HT := Aside0.mk ht; clear HB; have HB := Aside0.mk hb; clear ht hb hm))
              go_roundw
              case rel => exact ⟨i + 1, ns', ms', by go_num, by omega, ⟨by rw [HN'.out, HXI.out]; exact cornucopialaw7_SkipLevels.has_step HAP.out HN.out hil⟩, ⟨by rw [HM'.out, HZI.out]; exact cornucopialaw7_SkipLevels.has_step (cornucopialaw7_SkipLevels.apart_rev HAP.out) HM.out (by rw [List.length_reverse]; exact hil)⟩, ⟨HT.out.symm⟩, HB⟩
              case measure => simp [intOf]; omega
            · have ta : decide ((i : Int) < (l1.length : Int)) = false := decide_eq_false (by omega)
              have ta' : decide (i < l1.length) = false := decide_eq_false (by omega)
              have tb : decide ((i : Int) < (l2.length : Int)) = false := decide_eq_false (by omega)
              have tb' : decide (i < l2.length) = false := decide_eq_false (by omega)
              go_wp2_with (first
                | (go_at_call 9; refine (Sk.put_two w _ g g2 ns ms x (1) HT.out HB.out (by have := HN.out.1; simp only [List.length_map] at this; omega) HSX.out.1 HSX.out.2).mono ?_; rintro e w6 ⟨rfl, ns', ht, hm, hb⟩; have HN' := Aside0.mk hm; have HT' := Aside0.mk ht; clear HB HT; have HB := Aside0.mk hb; clear ht hb hm; have s0 := (HB.out.cell (World.block_lt_of_cell? w _ hz0)).trans hz0; have s1 := (HB.out.cell (World.block_lt_of_cell? w _ hz1)).trans hz1; have s2 := (HB.out.cell (World.block_lt_of_cell? w _ hz2)).trans hz2; have s3 := (HB.out.cell (World.block_lt_of_cell? w _ hz3)).trans hz3)
                | (go_at_call 9; refine (Sk.put_two w _ g2 g ms ns' z (3) HT'.out.symm HB.out (by have := HM.out.1; simp only [List.length_map] at this; omega) HSZ2.out.1 HSZ2.out.2).mono ?_; rintro e w6 ⟨rfl, ms', ht, hm, hb⟩; have HM' := Aside0.mk hm; have HT := Aside0.mk ht; clear HB; have HB := Aside0.mk hb; clear ht hb hm))
              go_roundw
              case rel => exact ⟨i + 1, ns', ms', by go_num, by omega, ⟨by rw [HN'.out, HXI.out]; exact cornucopialaw7_SkipLevels.has_step HAP.out HN.out hil⟩, ⟨by rw [HM'.out, HZI.out]; exact cornucopialaw7_SkipLevels.has_step (cornucopialaw7_SkipLevels.apart_rev HAP.out) HM.out (by rw [List.length_reverse]; exact hil)⟩, ⟨HT.out.symm⟩, HB⟩
              case measure => simp [intOf]; omega
        · have HT0 := HT
          clear HT
          have t1 : decide ((i : Int) < (l0.length : Int)) = false := decide_eq_false (by omega)
          obtain rfl : i = l0.length := by omega
          have HLM := Aside0.mk (cornucopialaw7_SkipLevels.has_same HT0.out HN.out (by rw [List.length_reverse]; exact HM.out))
          obtain ⟨L, hL⟩ : ∃ L, ns.map (·.e) = L := ⟨_, rfl⟩
          have HL := Aside0.mk hL
          have HM2 := Aside0.mk (HLM.out.trans hL)
          have HLL : Aside0 (L.length ≤ 60) := ⟨by have h1 := HN.out.1; rw [hL] at h1; omega⟩
          obtain ⟨K, hK⟩ : ∃ K, Sk.fromL a3 L = K := ⟨_, rfl⟩
          have HK := Aside0.mk hK
          have HKL : Aside0 (K.length ≤ 60) := ⟨by have h1 := Sk.fromL_len a3 L; have h2 := HLL.out; rw [hK] at h1; omega⟩
          obtain ⟨e, he⟩ : ∃ e, (Sk.pickL a3 a4 L).getD Sk.zE = e := ⟨_, rfl⟩
          have HE := Aside0.mk he
          obtain ⟨ok, ho⟩ : ∃ ok, (Sk.pickL a3 a4 L).isSome = ok := ⟨_, rfl⟩
          have HOK := Aside0.mk ho
          have heq := fun V => Sk.eqE V e
          clear HN HM HLM hL hK he ho
          go_wp2_with (first
            | (go_at_call 8; refine (Sk.get_as w _ g ns L HL.out a3 a4 HT0.out.a).mono ?_; rintro e1 w7 ⟨rfl, hb⟩; rw [HE.out, HOK.out]; have n0_ := Aside0.mk (HT0.out.below hb); have n1_ := Aside0.mk (below_step HB.out hb); clear HT0 HB; have HT1 := n0_; have HB := n1_; clear n0_ n1_; clear hb)
            | (go_at_call 8; refine (Sk.get_as w _ g2 ms L HM2.out a3 a4 (HT1.out.below (below_alloc (Below.refl _ w7) _)).b).mono ?_; rintro e1 w8 ⟨rfl, hb⟩; rw [HE.out, HOK.out]; have n0_ := Aside0.mk ((HT1.out.below (below_alloc (Below.refl _ w7) _)).below hb); have n1_ := Aside0.mk (below_step (below_alloc HB.out _) hb); have n2_ := Aside0.mk (blk_below (blk_new w7 _) hb); clear HT1 HB; have HT2 := n0_; have HB := n1_; have HX1 := n2_; clear n0_ n1_ n2_; clear hb)
            | (go_at_call 7; refine (Sk.alive_calls _).mono ?_; rintro e1 w9 ⟨rfl, hb⟩; have n0_ := Aside0.mk ((HT2.out.below (below_alloc (Below.refl _ w8) _)).below hb); have n1_ := Aside0.mk (below_step (below_alloc HB.out _) hb); have n2_ := Aside0.mk (blk_below (blk_alloc HX1.out _) hb); have n3_ := Aside0.mk (blk_below (blk_new w8 _) hb); clear HT2 HB HX1; have HT3 := n0_; have HB := n1_; have HX1 := n2_; have HX2 := n3_; clear n0_ n1_ n2_ n3_; clear hb)
            | (go_at_call 10; refine (Sk.all_as w _ g ns L HL.out HT3.out.a (by have := HLL.out; omega)).mono ?_; rintro e1 w11 ⟨B1, d1, rfl, hcc, hC, hb⟩; have n0_ := Aside0.mk (HT3.out.below hb); have n1_ := Aside0.mk (below_step HB.out hb); have n2_ := Aside0.mk (blk_below HX1.out hb); have n3_ := Aside0.mk (blk_below HX2.out hb); have n4_ := Aside0.mk (hC); have n5_ := Aside0.mk (hcc); clear HT3 HB HX1 HX2; have HT4 := n0_; have HB := n1_; have HX1 := n2_; have HX2 := n3_; have HC1 := n4_; have HCC1 := n5_; clear n0_ n1_ n2_ n3_ n4_ n5_; clear hb hC hcc)
            | (go_at_call 10; refine (Sk.all_as w _ g2 ms L HM2.out HT4.out.b (by have := HLL.out; omega)).mono ?_; rintro e1 w12 ⟨B2, d2, rfl, hcc, hC, hb⟩; have n0_ := Aside0.mk (HT4.out.below hb); have n1_ := Aside0.mk (below_step HB.out hb); have n2_ := Aside0.mk (blk_below HX1.out hb); have n3_ := Aside0.mk (blk_below HX2.out hb); have n4_ := Aside0.mk (Kd.C_below HC1.out hb); have n5_ := Aside0.mk (hC); have n6_ := Aside0.mk (hcc); clear HT4 HB HX1 HX2 HC1; have HT5 := n0_; have HB := n1_; have HX1 := n2_; have HX2 := n3_; have HC1 := n4_; have HC2 := n5_; have HCC2 := n6_; clear n0_ n1_ n2_ n3_ n4_ n5_ n6_; clear hb hC hcc)
            | (go_at_call 16; refine (Sk.same_calls L (by have := HLL.out; omega) B1 d1 B2 d2 _ HC1.out HCC1.out HC2.out HCC2.out).mono ?_; rintro e1 w15 ⟨rfl, hb⟩; have n0_ := Aside0.mk (HT5.out.below hb); have n1_ := Aside0.mk (below_step HB.out hb); have n2_ := Aside0.mk (blk_below HX1.out hb); have n3_ := Aside0.mk (blk_below HX2.out hb); clear HT5 HB HX1 HX2; have HT6 := n0_; have HB := n1_; have HX1 := n2_; have HX2 := n3_; clear n0_ n1_ n2_ n3_; clear hb HC1 HC2)
            | (go_at_call 11; refine (Sk.from_as w _ g ns L HL.out a3 K HK.out HT6.out.a (by have := HLL.out; omega)).mono ?_; rintro e1 w13 ⟨B3, d3, rfl, hcc, hC, hb⟩; have n0_ := Aside0.mk (HT6.out.below hb); have n1_ := Aside0.mk (below_step HB.out hb); have n2_ := Aside0.mk (blk_below HX1.out hb); have n3_ := Aside0.mk (blk_below HX2.out hb); have n4_ := Aside0.mk (hC); have n5_ := Aside0.mk (hcc); clear HT6 HB HX1 HX2; have HT7 := n0_; have HB := n1_; have HX1 := n2_; have HX2 := n3_; have HC3 := n4_; have HCC3 := n5_; clear n0_ n1_ n2_ n3_ n4_ n5_; clear hb hC hcc)
            | (go_at_call 11; refine (Sk.from_as w _ g2 ms L HM2.out a3 K HK.out HT7.out.b (by have := HLL.out; omega)).mono ?_; rintro e1 w14 ⟨B4, d4, rfl, hcc, hC, hb⟩; have n0_ := Aside0.mk (HT7.out.below hb); have n1_ := Aside0.mk (below_step HB.out hb); have n2_ := Aside0.mk (blk_below HX1.out hb); have n3_ := Aside0.mk (blk_below HX2.out hb); have n4_ := Aside0.mk (Kd.C_below HC3.out hb); have n5_ := Aside0.mk (hC); have n6_ := Aside0.mk (hcc); clear HT7 HB HX1 HX2 HC3; have HT8 := n0_; have HB := n1_; have HX1 := n2_; have HX2 := n3_; have HC3 := n4_; have HC4 := n5_; have HCC4 := n6_; clear n0_ n1_ n2_ n3_ n4_ n5_ n6_; clear hb hC hcc)
            | (go_at_call 16; refine (Sk.same_calls K (by have := HKL.out; omega) B3 d3 B4 d4 _ HC3.out HCC3.out HC4.out HCC4.out).mono ?_; rintro e1 w16 ⟨rfl, hb⟩; have n0_ := Aside0.mk (HT8.out.below hb); have n1_ := Aside0.mk (below_step HB.out hb); have n2_ := Aside0.mk (blk_below HX1.out hb); have n3_ := Aside0.mk (blk_below HX2.out hb); clear HT8 HB HX1 HX2; have HT9 := n0_; have HB := n1_; have HX1 := n2_; have HX2 := n3_; clear n0_ n1_ n2_ n3_; clear hb; have r0 : w16.cell? ⟨w7.heap.size, 0, none⟩ = some (.string e.f0) := (blk_cell HX1.out 0).trans rfl; have x0 : w16.cell? ⟨w8.heap.size, 0, none⟩ = some (.string e.f0) := (blk_cell HX2.out 0).trans rfl; have r1 : w16.cell? ⟨w7.heap.size, 1, none⟩ = some (.int .u64 e.f1) := (blk_cell HX1.out 1).trans rfl; have x1 : w16.cell? ⟨w8.heap.size, 1, none⟩ = some (.int .u64 e.f1) := (blk_cell HX2.out 1).trans rfl; have r2 : w16.cell? ⟨w7.heap.size, 2, none⟩ = some (.int .i64 e.f2) := (blk_cell HX1.out 2).trans rfl; have x2 : w16.cell? ⟨w8.heap.size, 2, none⟩ = some (.int .i64 e.f2) := (blk_cell HX2.out 2).trans rfl; have r3 : w16.cell? ⟨w7.heap.size, 3, none⟩ = some (.string e.f3) := (blk_cell HX1.out 3).trans rfl; have x3 : w16.cell? ⟨w8.heap.size, 3, none⟩ = some (.string e.f3) := (blk_cell HX2.out 3).trans rfl)
            | (go_at_call 12; refine (Sk.len_as w _ g ns L HL.out HT9.out.a).mono ?_; rintro e1 w17 ⟨rfl, rfl⟩; have n0_ := HT9; clear HT9; have HT10 := n0_; clear n0_)
            | (go_at_call 12; refine (Sk.len_as w _ g2 ms L HM2.out HT10.out.b).mono ?_; rintro e1 w17 ⟨rfl, rfl⟩; have n0_ := HT10; clear HT10; have HT11 := n0_; clear n0_)
            | (go_at_call 17; refine (Sk.digits_calls _).mono ?_; rintro e1 w18 ⟨rfl, hb⟩; have n0_ := Aside0.mk (below_step HB.out hb); clear HB; have HB := n0_; clear n0_; clear hb))
          go_ret
          exact ⟨rfl, HB.out⟩


/-- THE ONE PURE STATEMENT of cornucopialaw7_SkipLevels. -/
def cornucopialaw7_SkipLevels.Pure : Prop := ∀ (l0 : List (S24)) (l1 : List Int) (l2 : List Int) (a3 : ByteArray) (a4 : Int), l0.length * 48 ≤ 140737488351232 → (∀ x_ ∈ l0, wfS24 x_) → l1.length * 8 ≤ 140737488351232 → (∀ x_ ∈ l1, (Lit.int .i64 x_).wf = true) → l2.length * 8 ≤ 140737488351232 → (∀ x_ ∈ l2, (Lit.int .i64 x_).wf = true) → a3.size ≤ 140737488351232 → (Lit.int .u64 a4).wf = true → cornucopialaw7_SkipLevels.f l0 l1 l2 a3 a4 = some true
theorem cornucopialaw7_SkipLevels.walk (P : cornucopialaw7_SkipLevels.Pure) (A0 : Option Addr) (c0 : Nat) (l0 : List (S24)) (A1 : Option Addr) (c1 : Nat) (l1 : List Int) (A2 : Option Addr) (c2 : Nat) (l2 : List Int) (a3 : ByteArray) (a4 : Int) (w : World) (hr0 : Kd.C k24 w A0 l0.length l0) (hc0 : l0.length ≤ c0) (w0_0 : l0.length * 48 ≤ 140737488351232) (w0_1 : (∀ x_ ∈ l0, wfS24 x_)) (hr1 : Kd.C (Kd.int .i64) w A1 l1.length l1) (hc1 : l1.length ≤ c1) (w1_0 : l1.length * 8 ≤ 140737488351232) (w1_1 : (∀ x_ ∈ l1, (Lit.int .i64 x_).wf = true)) (hr2 : Kd.C (Kd.int .i64) w A2 l2.length l2) (hc2 : l2.length ≤ c2) (w2_0 : l2.length * 8 ≤ 140737488351232) (w2_1 : (∀ x_ ∈ l2, (Lit.int .i64 x_).wf = true)) (w3_0 : a3.size ≤ 140737488351232) (w4_0 : (Lit.int .u64 a4).wf = true) :
    Calls Try.prog 4 #[.slice A0 l0.length c0, .slice A1 l1.length c1, .slice A2 l2.length c2, .string a3, .int .u64 a4] w fun e w' => e = .returned (.bool true) ∧ Below w.heap.size w w' := by
  have h := P l0 l1 l2 a3 a4 w0_0 w0_1 w1_0 w1_1 w2_0 w2_1 w3_0 w4_0
  refine (cornucopialaw7_SkipLevels.calls _ _ l0 _ _ l1 _ _ l2 a3 a4 true w hr0 hc0 hr1 hc1 hr2 hc2 h).mono ?_
  rintro e w' ⟨rfl, hd⟩
  exact ⟨rfl, hd⟩

end Go.Proofs.Ytfldbgnmdkbfkaa.PNum
