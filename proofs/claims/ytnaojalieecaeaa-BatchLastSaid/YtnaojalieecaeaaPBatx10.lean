/- A walk, written by a program of this session out of the translation (a printed Lean function, and that the Go code comes to its answer). Lean checks it. -/
import Derived.Test.YtnaojalieecaeaaPBatx0
import Derived.Test.YtnaojalieecaeaaBat4
import Derived.Test.YtnaojalieecaeaaWRd
import Derived.Test.YtnaojalieecaeaaWPu
namespace Go.Proofs.Ytnaojalieecaeaa.PBat
open Go.RowKit Go.Proofs.YtnaojalieecaeaaW.PrintWords Go.Proofs.YtnaojalieecaeaaW.PrintLast Go.Proofs.YtnaojalieecaeaaW.PrintMore
attribute [local go_sem] max2_int min2_int max_two min_two max_three min_three max_four min_four   -- for this text's walks alone
set_option linter.unusedVariables false
set_option linter.unusedSimpArgs false

-- OWNIMPORT Derived.Test.YtnaojalieecaeaaBat4
-- OWNIMPORT Derived.Test.YtnaojalieecaeaaWRd
-- OWNIMPORT Derived.Test.YtnaojalieecaeaaWPu
/-! ### cornucopialaw20_BatchLast: function 3 -/
/-- What a call comes to: true. -/
def cornucopialaw20_BatchLast.f (l0 : List S27) (a1 : ByteArray) : Option Bool := if (0 : Nat) = 0 then some true else none
theorem cornucopialaw20_BatchLast.eqS (V : World) (x : S27) : (binOp BinOp.eql 27 (.agg #[.string (x).f0, .string (x).f1, .bool (x).f2]) (.agg #[.string (x).f0, .string (x).f1, .bool (x).f2])).run Try.prog V = .ok (.bool true) V := by
  go_simp
theorem cornucopialaw20_BatchLast.leq_run (V : World) (x y : ByteArray) : (binOp BinOp.leq 9 (.string x) (.string y)).run Try.prog V = .ok (.bool (Op.bytesLess x.toList y.toList || x.toList == y.toList)) V := by
  go_simp
  rfl
theorem cornucopialaw20_BatchLast.less_lt : ∀ (x y : List UInt8), Op.bytesLess x y = decide (x < y)
  | [], [] => rfl
  | [], b :: y => rfl
  | a :: x, [] => rfl
  | a :: x, b :: y => by
    rw [Op.bytesLess, cornucopialaw20_BatchLast.less_lt x y]
    by_cases e : a = b
    · subst e
      simp [List.cons_lt_cons_iff]
    · simp [List.cons_lt_cons_iff, e]
theorem cornucopialaw20_BatchLast.leq_no {x y : ByteArray} (h : BatM.bs y < BatM.bs x) (V : World) : (binOp BinOp.leq 9 (.string x) (.string y)).run Try.prog V = .ok (.bool false) V := by
  rw [cornucopialaw20_BatchLast.leq_run, cornucopialaw20_BatchLast.less_lt, Go.Proofs.YtnaojalieecaeaaW.Pu.toList_data, Go.Proofs.YtnaojalieecaeaaW.Pu.toList_data]
  have h1 : ¬ x.data.toList < y.data.toList := fun z => absurd (List.lt_trans h z) (List.lt_irrefl _)
  have h2 : (x.data.toList == y.data.toList) = false := by
    rw [beq_eq_false_iff_ne]
    intro e
    have h3 : y.data.toList < x.data.toList := h
    rw [e] at h3
    exact absurd h3 (List.lt_irrefl _)
  rw [decide_eq_false h1, h2]
  rfl
theorem cornucopialaw20_BatchLast.set3 {w V : World} {g q : Nat} {h : List S27} {x y : S27} (hI : Bat.IsB w V g h) (hq : V.heap[q]? = some (.cells #[.string (x).f0, .string (x).f1, .bool (x).f2] 27 (0, 0))) :
    Bat.IsB w (((V.setCell ⟨q, 0, none⟩ (.string y.f0)).setCell ⟨q, 1, none⟩ (.string y.f1)).setCell ⟨q, 2, none⟩ (.bool y.f2)) g h ∧ (((V.setCell ⟨q, 0, none⟩ (.string y.f0)).setCell ⟨q, 1, none⟩ (.string y.f1)).setCell ⟨q, 2, none⟩ (.bool y.f2)).heap[q]? = some (.cells #[.string (y).f0, .string (y).f1, .bool (y).f2] 27 (0, 0)) := by
  have h1 := blk_put hq 0 (.string y.f0) rfl
  have h2 := blk_put h1 1 (.string y.f1) rfl
  have h3 := blk_put h2 2 (.bool y.f2) rfl
  exact ⟨((hI.far hq (by decide) _).far h1 (by decide) _).far h2 (by decide) _, h3⟩
theorem cornucopialaw20_BatchLast.wr_hit {h : List S27} {y : S27} {k : List UInt8} (e : BatM.bs y.f0 = k) : BatM.wr (h ++ [y]) k = y := by
  unfold BatM.wr
  rw [BatM.last_snoc, if_pos e]
  rfl
theorem cornucopialaw20_BatchLast.wr_miss {h : List S27} {y : S27} {k : List UInt8} (e : ¬ BatM.bs y.f0 = k) : BatM.wr (h ++ [y]) k = BatM.wr h k := by
  unfold BatM.wr
  rw [BatM.last_snoc, if_neg e]
set_option maxHeartbeats 8000000 in
set_option maxRecDepth 100000 in
theorem cornucopialaw20_BatchLast.calls (A0 : Option Addr) (c0 : Nat) (l0 : List S27) (a1 : ByteArray) (r : Bool) (w : World) (hr0 : Kd.C k27 w A0 l0.length l0) (hc0 : l0.length ≤ c0) (h : cornucopialaw20_BatchLast.f l0 a1 = some r) :
    Calls Try.prog 3 #[.slice A0 l0.length c0, .string a1] w fun e w' => e = .returned (.bool r) ∧ Below w.heap.size w w' := by
  obtain rfl : true = r := Option.some.inj h
  have HR0 := Aside0.mk hr0
  have hlen0 : l0.length ≤ 9223372036854775807 := hr0.2.1
  clear h hr0 hc0
  have HB := Aside0.mk (Below.refl w.heap.size w)
  by_cases c1 : (l0.length : Int) > 60
  · have s0 : decide (60 < (l0.length : Int)) = true := decide_eq_true (by omega)
    have s0' : decide (60 < l0.length) = true := decide_eq_true (by omega)
    go_enter Try.func3, Try.ntmps3
    go_wp2_with (first | (go_at_call 5; refine (Bat.alive_calls _).mono ?_; rintro e w9 ⟨rfl, hb⟩; have n0_ := Aside0.mk (below_step (by repeat (first | (with_reducible first | exact HB.out | apply below_alloc | apply pw_below_drewN | apply below_drew1) | exact HB.out)) hb); clear HB; have HB := n0_; clear n0_ hb))
    go_ret
    exact ⟨rfl, by repeat (first | (with_reducible first | exact HB.out | apply below_alloc | apply pw_below_drewN | apply below_drew1) | exact HB.out)⟩
  by_cases c2 : (a1.size : Int) > 300
  · have s0 : decide (60 < (l0.length : Int)) = false := decide_eq_false (by omega)
    have s0' : decide (60 < l0.length) = false := decide_eq_false (by omega)
    have s1 : decide (300 < (a1.size : Int)) = true := decide_eq_true (by omega)
    have s1' : decide (300 < a1.size) = true := decide_eq_true (by omega)
    go_enter Try.func3, Try.ntmps3
    go_wp2_with (first | (go_at_call 5; refine (Bat.alive_calls _).mono ?_; rintro e w9 ⟨rfl, hb⟩; have n0_ := Aside0.mk (below_step (by repeat (first | (with_reducible first | exact HB.out | apply below_alloc | apply pw_below_drewN | apply below_drew1) | exact HB.out)) hb); clear HB; have HB := n0_; clear n0_ hb))
    go_ret
    exact ⟨rfl, by repeat (first | (with_reducible first | exact HB.out | apply below_alloc | apply pw_below_drewN | apply below_drew1) | exact HB.out)⟩
  have s0 : decide (60 < (l0.length : Int)) = false := decide_eq_false (by omega)
  have s0' : decide (60 < l0.length) = false := decide_eq_false (by omega)
  have s1 : decide (300 < (a1.size : Int)) = false := decide_eq_false (by omega)
  have s1' : decide (300 < a1.size) = false := decide_eq_false (by omega)

  go_enter Try.func3, Try.ntmps3
  go_wp2_with (first | (go_at_call 6; refine (Bat.new_calls w _ HB.out).mono ?_; rintro e w1 ⟨g, rfl, hi, hb⟩; have HI := Aside0.mk hi; have n0_ := Aside0.mk (below_step HB.out hb); clear HB; have HB := n0_; clear n0_ hi hb))
  have HQ : Aside0 ((w1.alloc (.cells #[.string ⟨#[]⟩, .string ⟨#[]⟩, .bool false] 27)).heap[w1.heap.size]? = some (.cells #[.string ⟨#[]⟩, .string ⟨#[]⟩, .bool false] 27 (0, 0))) := ⟨blk_new w1 _⟩
  have HQ0 : Aside0 (w.heap.size ≤ w1.heap.size) := ⟨HB.out.size⟩
  have n0_ := Aside0.mk (Bat.IsB.below HI.out (below_alloc (Below.refl _ w1) (.cells #[.string ⟨#[]⟩, .string ⟨#[]⟩, .bool false] 27)))
  have n1_ := Aside0.mk (below_alloc HB.out (.cells #[.string ⟨#[]⟩, .string ⟨#[]⟩, .bool false] 27))
  clear HI HB
  have HI := n0_
  have HB := n1_
  clear n0_ n1_
  generalize World.alloc w1 _ = w2 at *
  generalize w1.heap.size = q at *
  go_loopw [6, 8] (fun v6 v8 w' => ∃ (j : Nat) (h : List S27), h.length = j ∧ v6 = .bool (BatM.last h (BatM.bs a1)).isSome ∧ v8 = .int .i64 j ∧ j ≤ l0.length ∧ Aside0 (Bat.IsB w w' g h) ∧ Aside0 (w'.heap[q]? = some (.cells #[.string (BatM.wr h (BatM.bs a1)).f0, .string (BatM.wr h (BatM.bs a1)).f1, .bool (BatM.wr h (BatM.bs a1)).f2] 27 (0, 0))) ∧ Aside0 (Below w.heap.size w w')) (fun _ v8 _ => l0.length - (intOf v8).toNat)
  case atStart => exact ⟨0, [], rfl, rfl, rfl, Nat.zero_le _, HI, HQ, HB⟩
  case round =>
    clear HI HQ HB
    obtain ⟨j, h, hh, rfl, rfl, hj, HI, HQ, HB⟩ := hrel
    by_cases hlt : j < l0.length
    · have p0 : (0 : Int) ≤ (j : Int) := Int.natCast_nonneg _
      have q0 : (j : Int) < (l0.length : Int) := Int.ofNat_lt.mpr hlt
      obtain ⟨ad, e0, hx0, hx1, hx2⟩ := at_T27 HR0.out (j : Int) p0 q0
      cases e0
      have y0 := (HB.out.cell (World.block_lt_of_cell? w _ hx0)).trans hx0
      have y1 := (HB.out.cell (World.block_lt_of_cell? w _ hx1)).trans hx1
      have y2 := (HB.out.cell (World.block_lt_of_cell? w _ hx2)).trans hx2
      clear hx0 hx1 hx2
      simp only [Int.toNat_natCast] at y0 y1 y2
      generalize rd_T27 l0 (j : Int) = x at *
      have t0 : decide ((j : Int) < (l0.length : Int)) = true := decide_eq_true q0
      by_cases d1 : (x.f0.size : Int) > 300
      · have u0 : decide (300 < (x.f0.size : Int)) = true := decide_eq_true (by omega)
        have u0' : decide (300 < x.f0.size) = true := decide_eq_true (by omega)
        go_wp2_with (first | (go_at_call 5; refine (Bat.alive_calls _).mono ?_; rintro e w9 ⟨rfl, hb⟩; have n0_ := Aside0.mk (below_step (by repeat (first | (with_reducible first | exact HB.out | apply below_alloc | apply pw_below_drewN | apply below_drew1) | exact HB.out)) hb); clear HB; have HB := n0_; clear n0_ hb))
        go_ret
        exact ⟨rfl, by repeat (first | (with_reducible first | exact HB.out | apply below_alloc | apply pw_below_drewN | apply below_drew1) | exact HB.out)⟩
      by_cases d2 : (x.f1.size : Int) > 300
      · have u0 : decide (300 < (x.f0.size : Int)) = false := decide_eq_false (by omega)
        have u0' : decide (300 < x.f0.size) = false := decide_eq_false (by omega)
        have u1 : decide (300 < (x.f1.size : Int)) = true := decide_eq_true (by omega)
        have u1' : decide (300 < x.f1.size) = true := decide_eq_true (by omega)
        go_wp2_with (first | (go_at_call 5; refine (Bat.alive_calls _).mono ?_; rintro e w9 ⟨rfl, hb⟩; have n0_ := Aside0.mk (below_step (by repeat (first | (with_reducible first | exact HB.out | apply below_alloc | apply pw_below_drewN | apply below_drew1) | exact HB.out)) hb); clear HB; have HB := n0_; clear n0_ hb))
        go_ret
        exact ⟨rfl, by repeat (first | (with_reducible first | exact HB.out | apply below_alloc | apply pw_below_drewN | apply below_drew1) | exact HB.out)⟩
      have u0 : decide (300 < (x.f0.size : Int)) = false := decide_eq_false (by omega)
      have u0' : decide (300 < x.f0.size) = false := decide_eq_false (by omega)
      have u1 : decide (300 < (x.f1.size : Int)) = false := decide_eq_false (by omega)
      have u1' : decide (300 < x.f1.size) = false := decide_eq_false (by omega)
      obtain ⟨k, v, d⟩ := x
      simp only at y0 y1 y2 u0 u0' u1 u1' d1 d2
      cases d
      · go_upto_region 16 with (fail)
        have HP : Aside0 ((wr.alloc (.cells #[.string k, .string v, .bool false] 27)).heap[wr.heap.size]? = some (.cells #[.string k, .string v, .bool false] 27)) := ⟨blk_new wr _⟩
        have n0_ := Aside0.mk (Bat.IsB.below HI.out (below_alloc (Below.refl _ wr) (.cells #[.string k, .string v, .bool false] 27)))
        have n1_ := Aside0.mk (below_alloc HB.out (.cells #[.string k, .string v, .bool false] 27))
        have n2_ := Aside0.mk (blk_alloc HQ.out (.cells #[.string k, .string v, .bool false] 27))
        have HP0 : Aside0 (w.heap.size ≤ wr.heap.size) := ⟨HB.out.size⟩
        clear HI HB HQ
        have HI := n0_
        have HB := n1_
        have HQ := n2_
        clear n0_ n1_ n2_
        generalize wr.alloc _ = wa at *
        generalize wr.heap.size = p at *
        clear y0 y1 y2
        have z0 : wa.cell? ⟨p, 0, none⟩ = some (.string k) := (blk_cell HP.out 0).trans rfl
        have z1 : wa.cell? ⟨p, 1, none⟩ = some (.string v) := (blk_cell HP.out 1).trans rfl
        have z2 : wa.cell? ⟨p, 2, none⟩ = some (.bool false) := (blk_cell HP.out 2).trans rfl
        by_cases e : k.toList = a1.toList
        · have kk : (k.toList == a1.toList) = true := beq_iff_eq.mpr e
          have HE : Aside0 (BatM.bs (⟨k, v, false⟩ : S27).f0 = BatM.bs a1) := ⟨by rw [Go.Proofs.YtnaojalieecaeaaW.Pu.toList_data, Go.Proofs.YtnaojalieecaeaaW.Pu.toList_data] at e; exact e⟩
          clear e
          go_wp2_with (first | (go_at_call 8; refine (Bat.put_calls w _ g h HI.out (by repeat (first | (with_reducible first | exact HB.out | apply below_alloc | apply pw_below_drewN | apply below_drew1) | exact HB.out)) k v (by omega) (by omega) (by omega)).mono ?_; rintro e w6 ⟨rfl, hi, hb, hk⟩; have n0_ := Aside0.mk hi; have n1_ := Aside0.mk hb; have n2_ := Aside0.mk (hk _ _ _ _ (by decide) (HQ.out)); have n3_ := Aside0.mk (hk _ _ _ _ (by decide) (HP.out)); clear HI HB HQ HP hi hb hk; have HI := n0_; have HB := n1_; have HQ := n2_; have HP := n3_; clear n0_ n1_ n2_ n3_; clear z0 z1 z2; have z0 : w6.cell? ⟨p, 0, none⟩ = some (.string k) := (blk_cell HP.out 0).trans rfl; have z1 : w6.cell? ⟨p, 1, none⟩ = some (.string v) := (blk_cell HP.out 1).trans rfl; have z2 : w6.cell? ⟨p, 2, none⟩ = some (.bool false) := (blk_cell HP.out 2).trans rfl))
          go_still_tail 2, (by kernel_rfl)
          change wpList _ _ _ _ _ w6.drew
          have n0_ : Aside0 (Bat.IsB w w6.drew g (h ++ [(⟨k, v, false⟩ : S27)])) := ⟨HI.out.below (below_drew (Below.refl _ _))⟩
          have n1_ : Aside0 (Below w.heap.size w w6.drew) := ⟨below_drew HB.out⟩
          have n2_ : Aside0 (w6.drew.heap[q]? = some (.cells #[.string (BatM.wr h (BatM.bs a1)).f0, .string (BatM.wr h (BatM.bs a1)).f1, .bool (BatM.wr h (BatM.bs a1)).f2] 27 (0, 0))) := ⟨HQ.out⟩
          generalize w6.drew = w8 at *
          clear z0 z1 z2 HP HI HB HQ
          have HI := n0_
          have HB := n1_
          have HQ := n2_
          clear n0_ n1_ n2_
          have r0 : w8.cell? ⟨q, 0, none⟩ = some (.string (BatM.wr h (BatM.bs a1)).f0) := (blk_cell HQ.out 0).trans rfl
          have r1 : w8.cell? ⟨q, 1, none⟩ = some (.string (BatM.wr h (BatM.bs a1)).f1) := (blk_cell HQ.out 1).trans rfl
          have r2 : w8.cell? ⟨q, 2, none⟩ = some (.bool (BatM.wr h (BatM.bs a1)).f2) := (blk_cell HQ.out 2).trans rfl
          have f0 := blk_frozen HQ.out 0
          have f1 := blk_frozen HQ.out 1
          have f2 := blk_frozen HQ.out 2
          go_wp2_with (fail)
          go_roundw
          case rel =>
            have h3 := cornucopialaw20_BatchLast.set3 HI.out (y := (⟨k, v, false⟩ : S27)) HQ.out
            exact ⟨j + 1, h ++ [(⟨k, v, false⟩ : S27)], by simp [hh], by rw [BatM.last_snoc, if_pos HE.out]; rfl, by go_num, by omega, ⟨h3.1⟩, ⟨by rw [cornucopialaw20_BatchLast.wr_hit HE.out]; exact h3.2⟩, ⟨below_set (below_set (below_set HB.out HQ0.out) HQ0.out) HQ0.out⟩⟩
          case measure => simp [intOf]; omega
        · have kk : (k.toList == a1.toList) = false := beq_eq_false_iff_ne.mpr e
          have HE : Aside0 (¬ BatM.bs (⟨k, v, false⟩ : S27).f0 = BatM.bs a1) := ⟨by rw [Go.Proofs.YtnaojalieecaeaaW.Pu.toList_data, Go.Proofs.YtnaojalieecaeaaW.Pu.toList_data] at e; exact e⟩
          clear e
          go_wp2_with (first | (go_at_call 8; refine (Bat.put_calls w _ g h HI.out (by repeat (first | (with_reducible first | exact HB.out | apply below_alloc | apply pw_below_drewN | apply below_drew1) | exact HB.out)) k v (by omega) (by omega) (by omega)).mono ?_; rintro e w6 ⟨rfl, hi, hb, hk⟩; have n0_ := Aside0.mk hi; have n1_ := Aside0.mk hb; have n2_ := Aside0.mk (hk _ _ _ _ (by decide) (HQ.out)); have n3_ := Aside0.mk (hk _ _ _ _ (by decide) (HP.out)); clear HI HB HQ HP hi hb hk; have HI := n0_; have HB := n1_; have HQ := n2_; have HP := n3_; clear n0_ n1_ n2_ n3_; clear z0 z1 z2; have z0 : w6.cell? ⟨p, 0, none⟩ = some (.string k) := (blk_cell HP.out 0).trans rfl; have z1 : w6.cell? ⟨p, 1, none⟩ = some (.string v) := (blk_cell HP.out 1).trans rfl; have z2 : w6.cell? ⟨p, 2, none⟩ = some (.bool false) := (blk_cell HP.out 2).trans rfl))
          go_roundw
          case rel => exact ⟨j + 1, h ++ [(⟨k, v, false⟩ : S27)], by simp [hh], by rw [BatM.last_snoc, if_neg HE.out], by go_num, by omega, ⟨HI.out⟩, ⟨by rw [cornucopialaw20_BatchLast.wr_miss HE.out]; exact HQ.out⟩, ⟨HB.out⟩⟩
          case measure => simp [intOf]; omega
      · go_upto_region 15 with (fail)
        have HP : Aside0 ((wr.alloc (.cells #[.string k, .string (⟨#[]⟩ : ByteArray), .bool true] 27)).heap[wr.heap.size]? = some (.cells #[.string k, .string (⟨#[]⟩ : ByteArray), .bool true] 27)) := ⟨blk_new wr _⟩
        have n0_ := Aside0.mk (Bat.IsB.below HI.out (below_alloc (Below.refl _ wr) (.cells #[.string k, .string (⟨#[]⟩ : ByteArray), .bool true] 27)))
        have n1_ := Aside0.mk (below_alloc HB.out (.cells #[.string k, .string (⟨#[]⟩ : ByteArray), .bool true] 27))
        have n2_ := Aside0.mk (blk_alloc HQ.out (.cells #[.string k, .string (⟨#[]⟩ : ByteArray), .bool true] 27))
        have HP0 : Aside0 (w.heap.size ≤ wr.heap.size) := ⟨HB.out.size⟩
        clear HI HB HQ
        have HI := n0_
        have HB := n1_
        have HQ := n2_
        clear n0_ n1_ n2_
        generalize wr.alloc _ = wa at *
        generalize wr.heap.size = p at *
        clear y0 y1 y2
        have z0 : wa.cell? ⟨p, 0, none⟩ = some (.string k) := (blk_cell HP.out 0).trans rfl
        have z1 : wa.cell? ⟨p, 1, none⟩ = some (.string (⟨#[]⟩ : ByteArray)) := (blk_cell HP.out 1).trans rfl
        have z2 : wa.cell? ⟨p, 2, none⟩ = some (.bool true) := (blk_cell HP.out 2).trans rfl
        by_cases e : k.toList = a1.toList
        · have kk : (k.toList == a1.toList) = true := beq_iff_eq.mpr e
          have HE : Aside0 (BatM.bs (⟨k, (⟨#[]⟩ : ByteArray), true⟩ : S27).f0 = BatM.bs a1) := ⟨by rw [Go.Proofs.YtnaojalieecaeaaW.Pu.toList_data, Go.Proofs.YtnaojalieecaeaaW.Pu.toList_data] at e; exact e⟩
          clear e
          go_wp2_with (first | (go_at_call 7; refine (Bat.delete_calls w _ g h HI.out (by repeat (first | (with_reducible first | exact HB.out | apply below_alloc | apply pw_below_drewN | apply below_drew1) | exact HB.out)) k (by omega) (by omega)).mono ?_; rintro e w6 ⟨rfl, hi, hb, hk⟩; have n0_ := Aside0.mk hi; have n1_ := Aside0.mk hb; have n2_ := Aside0.mk (hk _ _ _ _ (by decide) (HQ.out)); have n3_ := Aside0.mk (hk _ _ _ _ (by decide) (HP.out)); clear HI HB HQ HP hi hb hk; have HI := n0_; have HB := n1_; have HQ := n2_; have HP := n3_; clear n0_ n1_ n2_ n3_; clear z0 z1 z2; have z0 : w6.cell? ⟨p, 0, none⟩ = some (.string k) := (blk_cell HP.out 0).trans rfl; have z1 : w6.cell? ⟨p, 1, none⟩ = some (.string (⟨#[]⟩ : ByteArray)) := (blk_cell HP.out 1).trans rfl; have z2 : w6.cell? ⟨p, 2, none⟩ = some (.bool true) := (blk_cell HP.out 2).trans rfl))
          go_still_tail 2, (by kernel_rfl)
          change wpList _ _ _ _ _ w6.drew
          have n0_ : Aside0 (Bat.IsB w w6.drew g (h ++ [(⟨k, (⟨#[]⟩ : ByteArray), true⟩ : S27)])) := ⟨HI.out.below (below_drew (Below.refl _ _))⟩
          have n1_ : Aside0 (Below w.heap.size w w6.drew) := ⟨below_drew HB.out⟩
          have n2_ : Aside0 (w6.drew.heap[q]? = some (.cells #[.string (BatM.wr h (BatM.bs a1)).f0, .string (BatM.wr h (BatM.bs a1)).f1, .bool (BatM.wr h (BatM.bs a1)).f2] 27 (0, 0))) := ⟨HQ.out⟩
          generalize w6.drew = w8 at *
          clear z0 z1 z2 HP HI HB HQ
          have HI := n0_
          have HB := n1_
          have HQ := n2_
          clear n0_ n1_ n2_
          have r0 : w8.cell? ⟨q, 0, none⟩ = some (.string (BatM.wr h (BatM.bs a1)).f0) := (blk_cell HQ.out 0).trans rfl
          have r1 : w8.cell? ⟨q, 1, none⟩ = some (.string (BatM.wr h (BatM.bs a1)).f1) := (blk_cell HQ.out 1).trans rfl
          have r2 : w8.cell? ⟨q, 2, none⟩ = some (.bool (BatM.wr h (BatM.bs a1)).f2) := (blk_cell HQ.out 2).trans rfl
          have f0 := blk_frozen HQ.out 0
          have f1 := blk_frozen HQ.out 1
          have f2 := blk_frozen HQ.out 2
          go_wp2_with (fail)
          go_roundw
          case rel =>
            have h3 := cornucopialaw20_BatchLast.set3 HI.out (y := (⟨k, (⟨#[]⟩ : ByteArray), true⟩ : S27)) HQ.out
            exact ⟨j + 1, h ++ [(⟨k, (⟨#[]⟩ : ByteArray), true⟩ : S27)], by simp [hh], by rw [BatM.last_snoc, if_pos HE.out]; rfl, by go_num, by omega, ⟨h3.1⟩, ⟨by rw [cornucopialaw20_BatchLast.wr_hit HE.out]; exact h3.2⟩, ⟨below_set (below_set (below_set HB.out HQ0.out) HQ0.out) HQ0.out⟩⟩
          case measure => simp [intOf]; omega
        · have kk : (k.toList == a1.toList) = false := beq_eq_false_iff_ne.mpr e
          have HE : Aside0 (¬ BatM.bs (⟨k, (⟨#[]⟩ : ByteArray), true⟩ : S27).f0 = BatM.bs a1) := ⟨by rw [Go.Proofs.YtnaojalieecaeaaW.Pu.toList_data, Go.Proofs.YtnaojalieecaeaaW.Pu.toList_data] at e; exact e⟩
          clear e
          go_wp2_with (first | (go_at_call 7; refine (Bat.delete_calls w _ g h HI.out (by repeat (first | (with_reducible first | exact HB.out | apply below_alloc | apply pw_below_drewN | apply below_drew1) | exact HB.out)) k (by omega) (by omega)).mono ?_; rintro e w6 ⟨rfl, hi, hb, hk⟩; have n0_ := Aside0.mk hi; have n1_ := Aside0.mk hb; have n2_ := Aside0.mk (hk _ _ _ _ (by decide) (HQ.out)); have n3_ := Aside0.mk (hk _ _ _ _ (by decide) (HP.out)); clear HI HB HQ HP hi hb hk; have HI := n0_; have HB := n1_; have HQ := n2_; have HP := n3_; clear n0_ n1_ n2_ n3_; clear z0 z1 z2; have z0 : w6.cell? ⟨p, 0, none⟩ = some (.string k) := (blk_cell HP.out 0).trans rfl; have z1 : w6.cell? ⟨p, 1, none⟩ = some (.string (⟨#[]⟩ : ByteArray)) := (blk_cell HP.out 1).trans rfl; have z2 : w6.cell? ⟨p, 2, none⟩ = some (.bool true) := (blk_cell HP.out 2).trans rfl))
          go_roundw
          case rel => exact ⟨j + 1, h ++ [(⟨k, (⟨#[]⟩ : ByteArray), true⟩ : S27)], by simp [hh], by rw [BatM.last_snoc, if_neg HE.out], by go_num, by omega, ⟨HI.out⟩, ⟨by rw [cornucopialaw20_BatchLast.wr_miss HE.out]; exact HQ.out⟩, ⟨HB.out⟩⟩
          case measure => simp [intOf]; omega
    · have t0 : decide ((j : Int) < (l0.length : Int)) = false := decide_eq_false (by omega)
      go_wp2_with (first | (go_at_call 9; refine (Bat.writes_calls w _ g h HI.out HB.out (by omega)).mono ?_; rintro e w7 ⟨v, rfl, hr, hb⟩; obtain ⟨A, c, rfl, hcc, hC⟩ := Kd.R_reads hr; have HC := Aside0.mk hC; have HCC := Aside0.mk hcc; have n0_ := Aside0.mk (Bat.IsB.below HI.out hb); have n1_ := Aside0.mk (below_step HB.out hb); have n2_ := Aside0.mk (blk_below HQ.out hb); clear HI HB HQ hr hC hcc hb; have HI := n0_; have HB := n1_; have HQ := n2_; clear n0_ n1_ n2_))
      have hlm : (BatM.writes h).length ≤ 9223372036854775807 := Kd.C_max HC.out
      go_loopw [11] (fun v11 w' => ∃ i : Nat, v11 = .int .i64 i ∧ 1 ≤ i ∧ i ≤ (BatM.writes h).length + 1 ∧ Aside0 (Kd.C k27 w' A (BatM.writes h).length (BatM.writes h)) ∧ Aside0 (Bat.IsB w w' g h) ∧ Aside0 (w'.heap[q]? = some (.cells #[.string (BatM.wr h (BatM.bs a1)).f0, .string (BatM.wr h (BatM.bs a1)).f1, .bool (BatM.wr h (BatM.bs a1)).f2] 27 (0, 0))) ∧ Aside0 (Below w.heap.size w w')) (fun v11 _ => (BatM.writes h).length + 1 - (intOf v11).toNat)
      case atStart => exact ⟨1, rfl, Nat.le_refl _, by omega, HC, HI, HQ, HB⟩
      case round =>
        clear HC HI HQ HB
        obtain ⟨i, rfl, hi1, hi2, HC, HI, HQ, HB⟩ := hrel
        by_cases hil : i < (BatM.writes h).length
        · have p0 : (0 : Int) ≤ (i : Int) := Int.natCast_nonneg _
          have q0 : (i : Int) < ((BatM.writes h).length : Int) := Int.ofNat_lt.mpr hil
          have p1 : (0 : Int) ≤ (i : Int) - 1 := by omega
          have q1 : (i : Int) - 1 < ((BatM.writes h).length : Int) := by omega
          obtain ⟨ad, e0, y0, y1, y2⟩ := at_T27 HC.out (i : Int) p0 q0
          obtain ⟨ad', e0', x0, x1, x2⟩ := at_T27 HC.out ((i : Int) - 1) p1 q1
          cases e0
          cases e0'
          have HR := Aside0.mk (BatM.writes_rise (l := h) hi1 hil)
          have ej : ((i : Int) - 1).toNat = i - 1 := by omega
          rw [ej] at x0
          simp only [Int.toNat_natCast] at y0
          generalize rd_T27 (BatM.writes h) (i : Int) = xi at *
          generalize rd_T27 (BatM.writes h) ((i : Int) - 1) = xj at *
          clear y1 y2 x1 x2 ej
          have hlq := cornucopialaw20_BatchLast.leq_no HR.out
          have p2 : (1 : Int) ≤ (i : Int) := by omega
          have hw : IntKind.i64.wrap ((i : Int) - 1) = (i : Int) - 1 := by rw [IntKind.wrap_i64]; omega
          have t1 : decide ((i : Int) < ((BatM.writes h).length : Int)) = true := decide_eq_true q0
          go_wp2_with (fail)
          go_quiet (fail)
          go_wp2_with (fail)
          go_roundw
          case rel => exact ⟨i + 1, by go_num, by omega, by omega, ⟨Kd.C_drewN HC.out _⟩, ⟨HI.out.below (pw_below_drewN (Below.refl _ _) _)⟩, ⟨blk_drewN HQ.out _⟩, ⟨pw_below_drewN HB.out _⟩⟩
          case measure => simp [intOf]; omega
        · have t1 : decide ((i : Int) < ((BatM.writes h).length : Int)) = false := decide_eq_false (by omega)
          have HLW := Aside0.mk (BatM.length_writes h)
          have r0 : wr.cell? ⟨q, 0, none⟩ = some (.string (BatM.wr h (BatM.bs a1)).f0) := (blk_cell HQ.out 0).trans rfl
          have r1 : wr.cell? ⟨q, 1, none⟩ = some (.string (BatM.wr h (BatM.bs a1)).f1) := (blk_cell HQ.out 1).trans rfl
          have r2 : wr.cell? ⟨q, 2, none⟩ = some (.bool (BatM.wr h (BatM.bs a1)).f2) := (blk_cell HQ.out 2).trans rfl
          have heq := fun V => cornucopialaw20_BatchLast.eqS V (BatM.wr h (BatM.bs a1))
          go_wp2_with (first
            | (go_at_call 10; refine (Bat.get_calls w _ g h HI.out HB.out a1 (by omega)).mono ?_; rintro e w8 ⟨rfl, hb⟩; have n0_ := Aside0.mk (Bat.IsB.below HI.out hb); have n1_ := Aside0.mk (below_step HB.out hb); have n2_ := Aside0.mk (blk_below HQ.out hb); clear HI HB HQ r0 r1 r2 hb; have HI := n0_; have HB := n1_; have HQ := n2_; clear n0_ n1_ n2_)
            | (go_at_call 5; refine (Bat.alive_calls _).mono ?_; rintro e w9 ⟨rfl, hb⟩; have n0_ := Aside0.mk (Bat.IsB.below (Bat.IsB.below HI.out (below_alloc (Below.refl _ w8) _)) hb); have n1_ := Aside0.mk (below_step (below_alloc HB.out _) hb); have n2_ := Aside0.mk (blk_below (blk_alloc HQ.out _) hb); have n3_ := Aside0.mk (blk_below (blk_new w8 _) hb); clear HI HB HQ hb; have HI := n0_; have HB := n1_; have HQ := n2_; have HX := n3_; clear n0_ n1_ n2_ n3_; have r0 : w9.cell? ⟨q, 0, none⟩ = some (.string (BatM.wr h (BatM.bs a1)).f0) := (blk_cell HQ.out 0).trans rfl; have r1 : w9.cell? ⟨q, 1, none⟩ = some (.string (BatM.wr h (BatM.bs a1)).f1) := (blk_cell HQ.out 1).trans rfl; have r2 : w9.cell? ⟨q, 2, none⟩ = some (.bool (BatM.wr h (BatM.bs a1)).f2) := (blk_cell HQ.out 2).trans rfl; have x0 : w9.cell? ⟨w8.heap.size, 0, none⟩ = some (.string (BatM.wr h (BatM.bs a1)).f0) := (blk_cell HX.out 0).trans rfl; have x1 : w9.cell? ⟨w8.heap.size, 1, none⟩ = some (.string (BatM.wr h (BatM.bs a1)).f1) := (blk_cell HX.out 1).trans rfl; have x2 : w9.cell? ⟨w8.heap.size, 2, none⟩ = some (.bool (BatM.wr h (BatM.bs a1)).f2) := (blk_cell HX.out 2).trans rfl)
            | (go_at_call 11; refine (Bat.len_calls w _ g h HI.out (by repeat (first | (with_reducible first | exact HB.out | apply below_alloc | apply pw_below_drewN | apply below_drew1) | exact HB.out))).mono ?_; rintro e w9 ⟨rfl, rfl⟩))
          go_ret
          exact ⟨by show Ending.returned (Value.bool (((BatM.writes h).length : Int) == (Maps.size (BatM.D h) : Int))) = _; rw [HLW.out]; simp, HB.out⟩


/-- THE ONE PURE STATEMENT of cornucopialaw20_BatchLast. -/
def cornucopialaw20_BatchLast.Pure : Prop := ∀ (l0 : List (S27)) (a1 : ByteArray), l0.length * 40 ≤ 140737488351232 → (∀ x_ ∈ l0, wfS27 x_) → a1.size ≤ 140737488351232 → cornucopialaw20_BatchLast.f l0 a1 = some true
theorem cornucopialaw20_BatchLast.walk (P : cornucopialaw20_BatchLast.Pure) (A0 : Option Addr) (c0 : Nat) (l0 : List (S27)) (a1 : ByteArray) (w : World) (hr0 : Kd.C k27 w A0 l0.length l0) (hc0 : l0.length ≤ c0) (w0_0 : l0.length * 40 ≤ 140737488351232) (w0_1 : (∀ x_ ∈ l0, wfS27 x_)) (w1_0 : a1.size ≤ 140737488351232) :
    Calls Try.prog 3 #[.slice A0 l0.length c0, .string a1] w fun e w' => e = .returned (.bool true) ∧ Below w.heap.size w w' := by
  have h := P l0 a1 w0_0 w0_1 w1_0
  refine (cornucopialaw20_BatchLast.calls _ _ l0 a1 true w hr0 hc0 h).mono ?_
  rintro e w' ⟨rfl, hd⟩
  exact ⟨rfl, hd⟩

end Go.Proofs.Ytnaojalieecaeaa.PBat
