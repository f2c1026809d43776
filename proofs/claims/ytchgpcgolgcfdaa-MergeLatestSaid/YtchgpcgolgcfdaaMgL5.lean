/- Texts of this claim, put together and cut down to what is used (L5). -/
import Derived.Deep.RegionHeld3
import Derived.BigRegion
import Derived.BigQuiet
import Derived.Test.YtchgpcgolgcfdaaMgL4
import Derived.Test.YtchgpcgolgcfdaaMgL3
import Derived.Test.YtchgpcgolgcfdaaMgL1
section
namespace Go.Proofs.Ytchgpcgolgcfdaa.Mw
open Go Go.RowKit Go.Proofs.Ytchgpcgolgcfdaa.PNum Go.Proofs.Ytchgpcgolgcfdaa.BkW Go.Proofs.Ytchgpcgolgcfdaa.PuIkC Go.Proofs.Ytchgpcgolgcfdaa.PuLat Go.Proofs.Ytchgpcgolgcfdaa.Lt Go.Proofs.YtchgpcgolgcfdaaW.PrintWords Go.Proofs.YtchgpcgolgcfdaaW.PrintLast Go.Proofs.YtchgpcgolgcfdaaW.PrintMore Go.Proofs.YtchgpcgolgcfdaaW.Pu Go.Proofs.YtchgpcgolgcfdaaW.PuMrg Go.Proofs.Ytchgpcgolgcfdaa.Hp
set_option linter.unusedVariables false
set_option linter.unusedSimpArgs false
theorem eqAP (d : Nat) (w : World) (x0 y0 x1 y1 : ByteArray) :
    (Op.equalIn (d + 2) 37 (.agg #[.string x0, .string x1]) (.agg #[.string y0, .string y1])).run Try.prog w = .ok (x0.toList == y0.toList && (x1.toList == y1.toList)) w := by
  refine eqA_of Try.underlying37 (by kernel_rfl) ?_
  refine eqf_cons (by rfl) (by go_simp; rfl) (by go_simp; rfl) (by go_simp) ?_
  exact eqf_last (by rfl) (by go_simp; rfl) (by go_simp; rfl) (by go_simp)
attribute [local go_sem high] eqAP
theorem less_cl : ∀ (x y : List UInt8), Op.bytesLess x y = decide (Lib.compareBytes x y = -1)
  | [], [] => rfl
  | [], b :: y => rfl
  | a :: x, [] => rfl
  | a :: x, b :: y => by
    rw [Op.bytesLess, less_cl x y, Lib.compareBytes]
    by_cases h : a < b
    · simp [h]
    · by_cases k : b < a
      · have hn : ¬ a = b := fun q => absurd (q ▸ k) (UInt8.lt_irrefl _)
        simp [h, k, hn]
      · have hab : a = b := UInt8.le_antisymm (UInt8.not_lt.1 k) (UInt8.not_lt.1 h)
        subst hab
        simp [h]
theorem not_leq {a b : ByteArray} (h : cb a b = -1) : (Op.bytesLess b.toList a.toList || b.toList == a.toList) = false := by
  have h2 := cb_neg a b
  rw [less_cl, toList_data, toList_data]
  have e1 : decide (Lib.compareBytes b.data.toList a.data.toList = -1) = false := decide_eq_false (fun k => by
    have : cb b a = -1 := k
    omega)
  have e2 : (b.data.toList == a.data.toList) = false := beq_eq_false_iff_ne.2 (fun k => by
    have : cb b a = 0 := (cb_zero _ _).2 (ba_ext.1 k)
    omega)
  rw [e1, e2]
  rfl
def eqb (x y : P) : Bool := x.f0.toList == y.f0.toList && (x.f1.toList == y.f1.toList)
theorem eqb_self (x : P) : eqb x x = true := by unfold eqb; simp
def Rp (W : World) (v : Value) (X : List P) : Prop := ∃ A c, v = .slice A X.length c ∧ X.length ≤ c ∧ Rw W 37 2 (.slice A X.length c) X.length (encL encP X)
theorem Rp.below {W W1 : World} {v : Value} {X : List P} (h : Rp W v X) (hb : Below W.heap.size W W1) : Rp W1 v X := by
  obtain ⟨A, c, e, hc, hr⟩ := h
  exact ⟨A, c, e, hc, hr.below hb⟩
theorem Rp.rw {W : World} {A : Option Addr} {c : Nat} {X : List P} (h : Rp W (.slice A X.length c) X) : Rw W 37 2 (.slice A X.length c) X.length (encL encP X) := by
  obtain ⟨A', c', e, _, hr⟩ := h
  rw [e]
  exact hr
def anyY (p : P) (Y : List P) (k : Nat) : Bool := (Y.take k).any fun y => eqb y p
theorem anyY_succ {p : P} {Y : List P} {k : Nat} (hk : k < Y.length) : anyY p Y (k + 1) = (anyY p Y k || eqb Y[k] p) := by
  unfold anyY
  rw [List.take_succ_eq_append_getElem hk, List.any_append]
  simp
def chg (a b : Int) (p : P) (e : E) : Bool := decide (e.f0 = p.f0) && (decide (a < e.f1) && decide (e.f1 ≤ b))
def anyC (a b : Int) (p : P) (l : List E) (k : Nat) : Bool := (l.take k).any (chg a b p)
theorem anyC_succ {a b : Int} {p : P} {l : List E} {k : Nat} (hk : k < l.length) : anyC a b p l (k + 1) = (anyC a b p l k || chg a b p l[k]) := by
  unfold anyC
  rw [List.take_succ_eq_append_getElem hk, List.any_append]
  simp
set_option maxHeartbeats 16000000 in
set_option maxRecDepth 100000 in
theorem mlatest_calls (A0 : Option Addr) (c0 : Nat) (l : List E) (a b : Int) (w : World) (hr0 : Kd.C k29 w A0 l.length l) (hc0 : l.length ≤ c0) (hwf : ∀ e ∈ l, wfE e) :
    Calls Try.prog 5 #[.slice A0 l.length c0, .int .u64 a, .int .u64 b] w fun e w' => e = .returned (.bool true) ∧ Below w.heap.size w w' := by
  have HSL : Aside0 (Sl w (.slice A0 l.length c0) l) := ⟨⟨A0, c0, rfl, hc0, hr0⟩⟩
  have HR0 := Aside0.mk hr0
  have HB := Aside0.mk (Below.refl w.heap.size w)
  obtain ⟨b1, hb1, hq1⟩ := PuSm.Small_ev l (fun e he => ⟨(hwf e he).1, (hwf e he).2.1⟩)
  have HB1 := Aside0.mk hb1
  have HWF := Aside0.mk hwf
  clear hb1 hwf hr0 hc0
  cases b1
  · go_enter Try.func5, Try.ntmps5
    go_wp2_with (first | (go_at_call 9; refine (small_calls (HSL.out.below HB.out) false HB1.out).mono ?_; rintro e w1 ⟨rfl, hb⟩; have n0_ := Aside0.mk (below_step HB.out hb); clear HB; have HB := n0_; clear n0_ hb) | (go_at_call 11; refine (alive_calls _).mono ?_; rintro e w9 ⟨rfl, hb⟩; have n0_ := Aside0.mk (below_step HB.out hb); clear HB; have HB := n0_; clear n0_ hb))
    go_ret
    exact ⟨rfl, HB.out⟩
  have hl150 := hq1 rfl
  obtain ⟨o, ho, hq⟩ := PuOrd.Ordered_ev l (fun e he => (HWF.out e he).1) (by omega)
  have HO1 := Aside0.mk ho
  clear ho
  cases o
  · go_enter Try.func5, Try.ntmps5
    go_wp2_with (first | (go_at_call 9; refine (small_calls (HSL.out.below HB.out) true HB1.out).mono ?_; rintro e w1 ⟨rfl, hb⟩; have n0_ := Aside0.mk (below_step HB.out hb); clear HB; have HB := n0_; clear n0_ hb) | (go_at_call 10; refine (ordered_calls (HSL.out.below HB.out) false HO1.out).mono ?_; rintro e w2 ⟨rfl, hb⟩; have n0_ := Aside0.mk (below_step HB.out hb); clear HB; have HB := n0_; clear n0_ hb) | (go_at_call 11; refine (alive_calls _).mono ?_; rintro e w9 ⟨rfl, hb⟩; have n0_ := Aside0.mk (below_step HB.out hb); clear HB; have HB := n0_; clear n0_ hb))
    go_ret
    exact ⟨rfl, HB.out⟩
  by_cases hab : b < a
  · have t0 : decide (b < a) = true := decide_eq_true hab
    go_enter Try.func5, Try.ntmps5
    go_wp2_with (first | (go_at_call 9; refine (small_calls (HSL.out.below HB.out) true HB1.out).mono ?_; rintro e w1 ⟨rfl, hb⟩; have n0_ := Aside0.mk (below_step HB.out hb); clear HB; have HB := n0_; clear n0_ hb) | (go_at_call 10; refine (ordered_calls (HSL.out.below HB.out) true HO1.out).mono ?_; rintro e w2 ⟨rfl, hb⟩; have n0_ := Aside0.mk (below_step HB.out hb); clear HB; have HB := n0_; clear n0_ hb) | (go_at_call 11; refine (alive_calls _).mono ?_; rintro e w9 ⟨rfl, hb⟩; have n0_ := Aside0.mk (below_step HB.out hb); clear HB; have HB := n0_; clear n0_ hb))
    go_ret
    exact ⟨rfl, HB.out⟩
  have t0 : decide (b < a) = false := decide_eq_false hab
  have hS : Srt ce l := hq rfl
  have hF : merge_All.fit [l] = true := fit_of (by simp) (all1 hS) (fun x hx => by rw [List.mem_singleton.1 hx]; exact HWF.out) (by simp; omega)
  have hone : mrg ce [l] = l := mrg_one ordE hS
  obtain ⟨X, hX⟩ : ∃ X, X = lat a l [] := ⟨_, rfl⟩
  obtain ⟨Y, hY⟩ : ∃ Y, Y = lat b l [] := ⟨_, rfl⟩
  obtain ⟨Z, hZ⟩ : ∃ Z, Z = lat 0 l [] := ⟨_, rfl⟩
  have HF := Aside0.mk hF
  have HXL : Aside0 (X = lat a (mrg ce [l]) []) := ⟨by rw [hone]; exact hX⟩
  have HYL : Aside0 (Y = lat b (mrg ce [l]) []) := ⟨by rw [hone]; exact hY⟩
  have HZL : Aside0 (Z = lat 0 (mrg ce [l]) []) := ⟨by rw [hone]; exact hZ⟩
  have hlX : X.length ≤ 150 := by have := lat_len a l []; rw [← hX] at this; omega
  have hlY : Y.length ≤ 150 := by have := lat_len b l []; rw [← hY] at this; omega
  have HZ0 : Aside0 (Z.length ≤ l.length) := ⟨by have := lat_len 0 l []; rw [← hZ] at this; exact this⟩
  have HXS : Aside0 (X.Pairwise fun x y => cb x.f0 y.f0 = -1) := ⟨by rw [hX]; exact lat_srt a l [] hS⟩
  have HLW : Aside0 (∀ p ∈ X, anyY p Y Y.length = true ∨ anyC a b p l l.length = true) := ⟨fun p hp => by
    by_cases hc : anyC a b p l l.length = true
    · exact .inr hc
    · refine .inl ?_
      have hin : p ∈ Y := by
        rw [hX] at hp
        rw [hY]
        refine lat_later hS (by omega) hp (fun e he k => hc ?_)
        unfold anyC
        rw [List.take_length, List.any_eq_true]
        exact ⟨e, he, by unfold chg; rw [decide_eq_true k.1, decide_eq_true (show a < e.f1 from k.2.1), decide_eq_true k.2.2]; rfl⟩
      unfold anyY
      rw [List.take_length, List.any_eq_true]
      exact ⟨p, hin, eqb_self p⟩⟩
  clear hX hY hZ hone hF hS hq hq1
  go_enter Try.func5, Try.ntmps5
  have TK0 := Aside0.mk True.intro
  go_wp2_with (first | (go_at_call 9; refine (small_calls (HSL.out.below HB.out) true HB1.out).mono ?_; rintro e w1 ⟨rfl, hb⟩; have n0_ := Aside0.mk (below_step HB.out hb); clear HB; have HB := n0_; clear n0_ hb) | (go_at_call 10; refine (ordered_calls (HSL.out.below HB.out) true HO1.out).mono ?_; rintro e w2 ⟨rfl, hb⟩; have n0_ := Aside0.mk (below_step HB.out hb); clear HB; have HB := n0_; clear n0_ hb) | (go_at_call 15; have t_ := TK0; refine (latest_of (vs := [.slice A0 l.length c0]) (ls := [l]) a (blk_new _ _) ⟨(HSL.out.below HB.out).below (below_alloc (Below.refl _ _) _), trivial⟩ HF.out 1 rfl X HXL.out).mono ?_; rintro e w3 ⟨AX, cX, rfl, hcc, hr, hb⟩; have RX : Aside0 (Rp w3 (.slice AX X.length cX) X) := ⟨⟨_, _, rfl, hcc, hr⟩⟩; clear hcc hr; have n0_ := Aside0.mk (below_step (below_alloc HB.out _) hb); clear HB; have HB := n0_; clear n0_ hb t_ TK0; have TK1 := Aside0.mk True.intro) | (go_at_call 15; have t_ := TK1; refine (latest_of (vs := [.slice A0 l.length c0]) (ls := [l]) b (blk_new _ _) ⟨(HSL.out.below HB.out).below (below_alloc (Below.refl _ _) _), trivial⟩ HF.out 1 rfl Y HYL.out).mono ?_; rintro e w4 ⟨AY, cY, rfl, hcc, hr, hb⟩; have RY : Aside0 (Rp w4 (.slice AY Y.length cY) Y) := ⟨⟨_, _, rfl, hcc, hr⟩⟩; clear hcc hr; have m0_ := Aside0.mk ((RX.out.below (below_alloc (Below.refl _ _) _)).below hb); clear RX; have RX := m0_; clear m0_; have n0_ := Aside0.mk (below_step (below_alloc HB.out _) hb); clear HB; have HB := n0_; clear n0_ hb t_ TK1; have TK2 := Aside0.mk True.intro))
  have HB3 := HB
  clear HB
  go_loopw [9] (fun v9 w' => ∃ i : Nat, v9 = .int .i64 i ∧ i ≤ X.length ∧ Aside0 (Below w4.heap.size w4 w')) (fun v9 _ => X.length - (intOf v9).toNat)
  case atStart => exact ⟨0, rfl, Nat.zero_le _, ⟨Below.refl _ _⟩⟩
  case round =>
    obtain ⟨i, rfl, hi, HB⟩ := hrel
    by_cases hlt : i < X.length
    · have p0 : (0 : Int) ≤ (i : Int) := Int.natCast_nonneg _
      have q0 : (i : Int) < (X.length : Int) := Int.ofNat_lt.mpr hlt
      have s0 : decide ((i : Int) < (X.length : Int)) = true := decide_eq_true q0
      have hXm : (X.length : Int) ≤ 150 := by omega
      obtain ⟨p, hp⟩ : ∃ p, p = X[i] := ⟨_, rfl⟩
      have hpX : ∀ V, Below w4.heap.size w4 V → ∃ ad, AX = some ad ∧ V.cell? (ad.add (i * 2)) = some (.string p.f0) ∧ V.cell? ⟨(ad.add (i * 2)).block, (ad.add (i * 2)).off + 1, none⟩ = some (.string p.f1) := fun V hV => by
        obtain ⟨ad, e0, y0, y1⟩ := at_T37 (flatP.to_C ((RX.out.rw.below hV)) rfl) (i : Int) p0 q0
        have hx : rd_T37 X (i : Int) = X[i] := by simp [rd_T37, hlt]
        rw [hx, ← hp] at y0 y1
        simp only [Int.toNat_natCast] at y0 y1
        exact ⟨ad, e0, y0, y1⟩
      have HPX := Aside0.mk hpX
      obtain ⟨ad, e0, _, _⟩ := hpX w4 (Below.refl _ _)
      have HAD := Aside0.mk e0
      have HLP := Aside0.mk (HLW.out p (by rw [hp]; exact List.getElem_mem hlt))
      have HPI := Aside0.mk hp
      clear hpX e0 hp
      go_wp2_with (fail)
      go_cut [57] (fun v57 wc => v57 = .bool false ∧ Aside0 (Below w4.heap.size w4 wc))
      case first =>
        by_cases hz : i = 0
        · have s1 : decide ((0 : Int) < (i : Int)) = false := decide_eq_false (by omega)
          have s1' : decide (0 < i) = false := decide_eq_false (by omega)
          go_quiet (fail)
          go_wp2_with (fail)
          go_meet
          case rel => exact ⟨rfl, ⟨pw_below_drewN HB.out _⟩⟩
        · have s1 : decide ((0 : Int) < (i : Int)) = true := decide_eq_true (by omega)
          have s1' : decide (0 < i) = true := decide_eq_true (by omega)
          obtain ⟨ad0, e0, y0, y1⟩ := HPX.out _ HB.out
          obtain rfl : AX = some ad := HAD.out
          obtain rfl : ad = ad0 := by injection e0
          have hj : i - 1 < X.length := by omega
          have ej : ((i : Int) - 1) = ((i - 1 : Nat) : Int) := by omega
          obtain ⟨ad1, e1, z0, z1⟩ := at_T37 (flatP.to_C (RX.out.rw.below HB.out) rfl) ((i : Int) - 1) (by omega) (by omega)
          obtain rfl : ad = ad1 := by injection e1
          have hx : rd_T37 X ((i : Int) - 1) = X[i - 1] := by rw [ej]; simp [rd_T37, hj]
          have en : ((i : Int) - 1).toNat = i - 1 := by omega
          rw [hx, en] at z0 z1
          have hlq : (Op.bytesLess p.f0.toList X[i - 1].f0.toList || p.f0.toList == X[i - 1].f0.toList) = false := by
            rw [HPI.out]
            exact not_leq (List.pairwise_iff_getElem.1 HXS.out (i - 1) i hj hlt (by omega))
          generalize X[i - 1] = p1 at *
          have r1 : (0 : Int) ≤ (i : Int) - 1 := by omega
          have r2 : (i : Int) - 1 < (X.length : Int) := by omega
          clear hx en ej hj
          go_quiet (fail)
          go_wp2_with (fail)
          go_meet
          case rel => exact ⟨rfl, ⟨pw_below_drewN HB.out _⟩⟩
      case rest =>
      clear HB
      obtain ⟨rfl, HB⟩ := hcut
      go_wp2_with (fail)
      go_loopw [10, 11] (fun v10 v11 w' => ∃ k : Nat, v10 = .bool (anyY p Y k) ∧ v11 = .int .i64 k ∧ k ≤ Y.length ∧ Aside0 (Below w4.heap.size w4 w')) (fun _ v11 _ => Y.length - (intOf v11).toNat)
      case atStart => exact ⟨0, rfl, rfl, Nat.zero_le _, HB⟩
      case round =>
        clear HB
        obtain ⟨k, rfl, rfl, hk, HB⟩ := hrel
        by_cases hlk : k < Y.length
        · have p5 : (0 : Int) ≤ (k : Int) := Int.natCast_nonneg _
          have q5 : (k : Int) < (Y.length : Int) := Int.ofNat_lt.mpr hlk
          have s5 : decide ((k : Int) < (Y.length : Int)) = true := decide_eq_true q5
          have hYm : (Y.length : Int) ≤ 150 := by omega
          have hsu := anyY_succ (p := p) hlk
          obtain ⟨ad0, e0, y0, y1⟩ := HPX.out _ HB.out
          obtain rfl : AX = some ad := HAD.out
          obtain rfl : ad = ad0 := by injection e0
          obtain ⟨ad1, e1, z0, z1⟩ := at_T37 (flatP.to_C (RY.out.rw.below HB.out) rfl) (k : Int) p5 q5
          obtain rfl : AY = some ad1 := e1
          have hx : rd_T37 Y (k : Int) = Y[k] := by simp [rd_T37, hlk]
          rw [hx] at z0 z1
          simp only [Int.toNat_natCast] at z0 z1
          generalize Y[k] = y at *
          have HSU := Aside0.mk hsu
          have HLK := Aside0.mk hlk
          clear hsu hx hlk
          generalize hat : anyY p Y k = t0b at *
          have HAT := Aside0.mk hat
          clear hat
          cases t0b
          · go_wp2_with (fail)
            go_quiet (fail)
            go_wp2_with (fail)
            go_roundw
            case rel => exact ⟨k + 1, by rw [HSU.out]; rfl, by go_num, by have := HLK.out; omega, ⟨pw_below_drewN HB.out _⟩⟩
            case measure => simp [intOf]; have := HLK.out; omega
          · go_wp2_with (fail)
            go_quiet (fail)
            go_wp2_with (fail)
            go_roundw
            case rel => exact ⟨k + 1, by rw [HSU.out]; rfl, by go_num, by have := HLK.out; omega, ⟨pw_below_drewN HB.out _⟩⟩
            case measure => simp [intOf]; have := HLK.out; omega
        · obtain rfl : k = Y.length := by omega
          have s5 : decide ((Y.length : Int) < (Y.length : Int)) = false := decide_eq_false (by omega)
          clear hk hlk
          generalize hty : anyY p Y Y.length = ty at *
          go_wp2_with (fail)
          go_loopw [12, 13] (fun v12 v13 w' => ∃ k : Nat, v12 = .bool (anyC a b p l k) ∧ v13 = .int .i64 k ∧ k ≤ l.length ∧ Aside0 (Below w4.heap.size w4 w')) (fun _ v13 _ => l.length - (intOf v13).toNat)
          case atStart => exact ⟨0, rfl, rfl, Nat.zero_le _, HB⟩
          case round =>
            clear HB
            obtain ⟨k, rfl, rfl, hk, HB⟩ := hrel
            by_cases hlk : k < l.length
            · have p5 : (0 : Int) ≤ (k : Int) := Int.natCast_nonneg _
              have q5 : (k : Int) < (l.length : Int) := Int.ofNat_lt.mpr hlk
              have s5 : decide ((k : Int) < (l.length : Int)) = true := decide_eq_true q5
              have hlm : (l.length : Int) ≤ 150 := by omega
              have hsu := anyC_succ (a := a) (b := b) (p := p) hlk
              obtain ⟨ad0, e0, y0, y1⟩ := HPX.out _ HB.out
              obtain rfl : AX = some ad := HAD.out
              obtain rfl : ad = ad0 := by injection e0
              obtain ⟨ad1, e1, z0, z1, _, _⟩ := at_T29 (Kd.C_below HR0.out (below_step HB3.out HB.out)) (k : Int) p5 q5
              obtain rfl : A0 = some ad1 := e1
              have hx : rd_T29 l (k : Int) = l[k] := by simp [rd_T29, hlk]
              rw [hx] at z0 z1
              simp only [Int.toNat_natCast] at z0 z1
              generalize l[k] = e at *
              have HSU := Aside0.mk hsu
              have HLK := Aside0.mk hlk
              clear hsu hx hlk
              generalize hat : anyC a b p l k = t0b at *
              have HAT := Aside0.mk hat
              clear hat
              cases t0b
              · by_cases hk1 : e.f0 = p.f0
                · have k1 : (e.f0.toList == p.f0.toList) = true := by rw [tl_beq]; exact decide_eq_true hk1
                  by_cases hk2 : a < e.f1
                  · have k2 : decide (a < e.f1) = true := decide_eq_true hk2
                    by_cases hk3 : e.f1 ≤ b
                    · have k3 : decide (e.f1 ≤ b) = true := decide_eq_true hk3
                      have HC : Aside0 (chg a b p e = true) := ⟨by unfold chg; rw [decide_eq_true hk1, k2, k3]; rfl⟩
                      clear hk1 hk2 hk3
                      go_wp2_with (fail)
                      go_quiet (fail)
                      go_wp2_with (fail)
                      go_roundw
                      case rel => exact ⟨k + 1, by rw [HSU.out, HC.out]; rfl, by go_num, by have := HLK.out; omega, ⟨pw_below_drewN HB.out _⟩⟩
                      case measure => simp [intOf]; have := HLK.out; omega
                    · have k3 : decide (e.f1 ≤ b) = false := decide_eq_false hk3
                      have HC : Aside0 (chg a b p e = false) := ⟨by unfold chg; rw [decide_eq_true hk1, k2, k3]; rfl⟩
                      clear hk1 hk2 hk3
                      go_wp2_with (fail)
                      go_quiet (fail)
                      go_wp2_with (fail)
                      go_roundw
                      case rel => exact ⟨k + 1, by rw [HSU.out, HC.out]; rfl, by go_num, by have := HLK.out; omega, ⟨pw_below_drewN HB.out _⟩⟩
                      case measure => simp [intOf]; have := HLK.out; omega
                  · have k2 : decide (a < e.f1) = false := decide_eq_false hk2
                    have HC : Aside0 (chg a b p e = false) := ⟨by unfold chg; rw [decide_eq_true hk1, k2]; rfl⟩
                    clear hk1 hk2
                    go_wp2_with (fail)
                    go_quiet (fail)
                    go_wp2_with (fail)
                    go_roundw
                    case rel => exact ⟨k + 1, by rw [HSU.out, HC.out]; rfl, by go_num, by have := HLK.out; omega, ⟨pw_below_drewN HB.out _⟩⟩
                    case measure => simp [intOf]; have := HLK.out; omega
                · have k1 : (e.f0.toList == p.f0.toList) = false := by rw [tl_beq]; exact decide_eq_false hk1
                  have HC : Aside0 (chg a b p e = false) := ⟨by unfold chg; rw [decide_eq_false hk1]; rfl⟩
                  clear hk1
                  go_wp2_with (fail)
                  go_quiet (fail)
                  go_wp2_with (fail)
                  go_roundw
                  case rel => exact ⟨k + 1, by rw [HSU.out, HC.out]; rfl, by go_num, by have := HLK.out; omega, ⟨pw_below_drewN HB.out _⟩⟩
                  case measure => simp [intOf]; have := HLK.out; omega
              · go_wp2_with (fail)
                go_quiet (fail)
                go_wp2_with (fail)
                go_roundw
                case rel => exact ⟨k + 1, by rw [HSU.out]; rfl, by go_num, by have := HLK.out; omega, ⟨pw_below_drewN HB.out _⟩⟩
                case measure => simp [intOf]; have := HLK.out; omega
            · obtain rfl : k = l.length := by omega
              have s5 : decide ((l.length : Int) < (l.length : Int)) = false := decide_eq_false (by omega)
              generalize htc : anyC a b p l l.length = tc at *
              have HLT := Aside0.mk hlt
              clear hk hlk
              cases ty
              · obtain rfl : tc = true := by
                  rcases HLP.out with q | q
                  · cases q
                  · exact q
                go_wp2_with (fail)
                go_roundw
                case rel => exact ⟨i + 1, by go_num, by have := HLT.out; omega, HB⟩
                case measure => simp [intOf]; have := HLT.out; omega
              · go_wp2_with (fail)
                go_roundw
                case rel => exact ⟨i + 1, by go_num, by have := HLT.out; omega, HB⟩
                case measure => simp [intOf]; have := HLT.out; omega
    · obtain rfl : i = X.length := by omega
      have s0 : decide ((X.length : Int) < (X.length : Int)) = false := decide_eq_false (by omega)
      have s9 : decide ((Z.length : Int) ≤ (l.length : Int)) = true := decide_eq_true (by have := HZ0.out; omega)
      have s9' : decide (Z.length ≤ l.length) = true := decide_eq_true HZ0.out
      have n0_ := Aside0.mk (below_step HB3.out HB.out)
      clear HB hlt hi
      have HB := n0_
      clear n0_
      go_wp2_with (first | (go_at_call 11; refine (alive_calls _).mono ?_; rintro e w9 ⟨rfl, hb⟩; have n0_ := Aside0.mk (below_step HB.out hb); clear HB; have HB := n0_; clear n0_ hb) | (go_at_call 15; refine (latest_of (vs := [.slice A0 l.length c0]) (ls := [l]) 0 (blk_new _ _) ⟨(HSL.out.below HB.out).below (below_alloc (Below.refl _ _) _), trivial⟩ HF.out 1 rfl Z HZL.out).mono ?_; rintro e w5 ⟨AZ, cZ, rfl, hcc, hr, hb⟩; clear hcc hr; have n0_ := Aside0.mk (below_step (below_alloc HB.out _) hb); clear HB; have HB := n0_; clear n0_ hb))
      go_ret
      exact ⟨rfl, HB.out⟩
end Go.Proofs.Ytchgpcgolgcfdaa.Mw
end
section
namespace Go.Proofs.Ytchgpcgolgcfdaa.PNum
open Go.RowKit Go.Proofs.YtchgpcgolgcfdaaW.PrintWords Go.Proofs.YtchgpcgolgcfdaaW.PrintLast Go.Proofs.YtchgpcgolgcfdaaW.PrintMore
attribute [local go_sem] max2_int min2_int max_two min_two max_three min_three max_four min_four   -- for this text's walks alone
set_option linter.unusedVariables false
set_option linter.unusedSimpArgs false
def cornucopialaw14_MergeLatest.wf (l : List S29) : Bool := l.all fun e => decide (e.f0.size ≤ 140737488351232 ∧ e.f3.size ≤ 140737488351232) && (Lit.int .u64 e.f1).wf
theorem cornucopialaw14_MergeLatest.wf_iff (l : List S29) : cornucopialaw14_MergeLatest.wf l = true ↔ ∀ e ∈ l, Go.Proofs.Ytchgpcgolgcfdaa.Mw.wfE e := by
  unfold cornucopialaw14_MergeLatest.wf
  rw [List.all_eq_true]
  refine forall_congr' fun e => forall_congr' fun he => ?_
  simp only [Bool.and_eq_true, decide_eq_true_eq, and_assoc]
  rfl
def cornucopialaw14_MergeLatest.f (l0 : List S29) (a1 a2 : Int) : Option Bool := if cornucopialaw14_MergeLatest.wf l0 = true then some true else none
theorem cornucopialaw14_MergeLatest.calls (A0 : Option Addr) (c0 : Nat) (l0 : List S29) (a1 a2 : Int) (r : Bool) (w : World)
    (hr0 : Kd.C k29 w A0 l0.length l0) (hc0 : l0.length ≤ c0) (h : cornucopialaw14_MergeLatest.f l0 a1 a2 = some r) :
    Calls Try.prog 5 #[.slice A0 l0.length c0, .int .u64 a1, .int .u64 a2] w fun e w' => e = .returned (.bool r) ∧ Below w.heap.size w w' := by
  unfold cornucopialaw14_MergeLatest.f at h
  split at h
  case isFalse => cases h
  case isTrue hg =>
  obtain rfl : true = r := Option.some.inj h
  exact Go.Proofs.Ytchgpcgolgcfdaa.Mw.mlatest_calls A0 c0 l0 a1 a2 w hr0 hc0 ((cornucopialaw14_MergeLatest.wf_iff l0).1 hg)
def cornucopialaw14_MergeLatest.Pure : Prop := ∀ (l0 : List (S29)) (a1 : Int) (a2 : Int), l0.length * 48 ≤ 140737488351232 → (∀ x_ ∈ l0, wfS29 x_) → (Lit.int .u64 a1).wf = true → (Lit.int .u64 a2).wf = true → cornucopialaw14_MergeLatest.f l0 a1 a2 = some true
theorem cornucopialaw14_MergeLatest.walk (P : cornucopialaw14_MergeLatest.Pure) (A0 : Option Addr) (c0 : Nat) (l0 : List (S29)) (a1 : Int) (a2 : Int) (w : World) (hr0 : Kd.C k29 w A0 l0.length l0) (hc0 : l0.length ≤ c0) (w0_0 : l0.length * 48 ≤ 140737488351232) (w0_1 : (∀ x_ ∈ l0, wfS29 x_)) (w1_0 : (Lit.int .u64 a1).wf = true) (w2_0 : (Lit.int .u64 a2).wf = true) :
    Calls Try.prog 5 #[.slice A0 l0.length c0, .int .u64 a1, .int .u64 a2] w fun e w' => e = .returned (.bool true) ∧ Below w.heap.size w w' := by
  have h := P l0 a1 a2 w0_0 w0_1 w1_0 w2_0
  refine (cornucopialaw14_MergeLatest.calls _ _ l0 a1 a2 true w hr0 hc0 h).mono ?_
  rintro e w' ⟨rfl, hd⟩
  exact ⟨rfl, hd⟩
end Go.Proofs.Ytchgpcgolgcfdaa.PNum
end
section
namespace Go.Proofs.Ytchgpcgolgcfdaa.Pure
open Go Go.RowKit Go.Proofs.Ytchgpcgolgcfdaa.PNum
theorem MergeLatest : cornucopialaw14_MergeLatest.Pure := by
  intro l0 a1 a2 _ h0 _ _
  unfold cornucopialaw14_MergeLatest.f
  exact if_pos ((cornucopialaw14_MergeLatest.wf_iff l0).2 fun e he => ⟨(h0 e he).1, (h0 e he).2.2.2, (h0 e he).2.1⟩)
end Go.Proofs.Ytchgpcgolgcfdaa.Pure
end
