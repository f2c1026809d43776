/- Texts of this claim, put together and cut down to what is used (BT5). -/
import Derived.Deep.DeepCutAuto
import Derived.Deep.RegionHeld3
import Derived.BigRegion
import Derived.Test.YtchgpcgolgcfdaaGreatMgBT4
section
namespace Go.Proofs.YtchgpcgolgcfdaaGreat.Bl2
open Go Go.RowKit Go.Proofs.YtchgpcgolgcfdaaGreat.PNum Go.Proofs.YtchgpcgolgcfdaaGreat.BkW Go.Proofs.YtchgpcgolgcfdaaGreatW.PrintWords Go.Proofs.YtchgpcgolgcfdaaGreatW.PrintLast Go.Proofs.YtchgpcgolgcfdaaGreatW.PrintMore
set_option linter.unusedVariables false
set_option linter.unusedSimpArgs false
set_option maxRecDepth 100000
set_option maxHeartbeats 16000000
theorem block_Right_w {x n : Int} (h0 : 0 ≤ x) (h1 : x < n) (h2 : n ≤ 9223372036854775807) : wrap64 (x + 1) = x + 1 ∧ wrap64 (x - 1) = x - 1 := by
 unfold wrap64; omega
theorem block_Right_c {k1 : Nat} {l0 : List S32} {x : Int} {r : Bool} (hl : (l0.length : Int) ≤ 9223372036854775807) (h0 : 0 ≤ x) (h1 : x < (l0.length : Int)) (h : block_Right.l0 (k1 + 1) l0 l0 (l0.length : Int) x = some r) :
  ∃ t q : Bool, ikey_Valid.f k1 (rd_T32 l0 x).f0 (rd_T32 l0 x).f1 (rd_T32 l0 x).f2 (rd_T32 l0 x).f3 = some t ∧ (q = true → r = false) ∧ (q = false → block_Right.l0 k1 l0 l0 (l0.length : Int) (x + 1) = some r) ∧
   ((t = false ∧ q = true) ∨ (t = true ∧ x = 0 ∧ q = false) ∨ (t = true ∧ 0 < x ∧ ∃ d, ikey_Compare.f k1 (rd_T32 l0 (x - 1)).f0 (rd_T32 l0 (x - 1)).f1 (rd_T32 l0 (x - 1)).f2 (rd_T32 l0 (x - 1)).f3 (rd_T32 l0 x).f0 (rd_T32 l0 x).f1 (rd_T32 l0 x).f2 (rd_T32 l0 x).f3 = some d ∧ decide (0 ≤ d) = q)) := by
 simp only [block_Right.l0] at h
 rw [if_pos h1, if_pos h0, if_pos h1] at h
 obtain ⟨t, ht, h⟩ := Option.bind_eq_some_iff.1 h
 rw [(block_Right_w h0 h1 hl).1, (block_Right_w h0 h1 hl).2] at h
 cases t with
 | false => exact ⟨false, true, ht, fun _ => (Option.some.inj h).symm, fun h9 => (by cases h9), .inl ⟨rfl, rfl⟩⟩
 | true =>
  rw [if_pos rfl] at h
  by_cases hx : x = 0
  ·subst hx
   rw [if_neg (by decide)] at h
   exact ⟨true, false, ht, fun h9 => (by cases h9), fun _ => h, .inr (.inl ⟨rfl, rfl, rfl⟩)⟩
  ·rw [if_pos (show x > 0 by omega), if_pos (show 0 ≤ x - 1 by omega), if_pos (show x - 1 < (l0.length : Int) by omega)] at h
   obtain ⟨d, hd, h⟩ := Option.bind_eq_some_iff.1 h
   by_cases hq : d ≥ 0
   ·rw [if_pos hq] at h
    exact ⟨true, true, ht, fun _ => (Option.some.inj h).symm, fun h9 => (by cases h9), .inr (.inr ⟨rfl, by omega, d, hd, decide_eq_true hq⟩)⟩
   ·rw [if_neg hq] at h
    exact ⟨true, false, ht, fun h9 => (by cases h9), fun _ => h, .inr (.inr ⟨rfl, by omega, d, hd, decide_eq_false hq⟩)⟩
theorem block_Right_w.calls (k : Nat) (A0 : Option Addr) (c0 : Nat) (l0 : List S32) (r : Bool) (w : World) (hr0 : Kd.C k32 w A0 l0.length l0) (hc0 : l0.length ≤ c0) (h : block_Right.f k l0 = some r) :
  Calls Tryz.prog 184 #[.slice A0 l0.length c0] w fun e w' => e = .returned (.bool r) ∧ Below w.heap.size w w' := by
 have hu32 := Tryz.underlying32
 have hlen : l0.length ≤ 9223372036854775807 := hr0.2.1
 have HL := a_k hlen
 have HR0 := a_k hr0
 have HC0 := a_k hc0
 have HB := a_k (Below.refl w.heap.size w)
 have H' : Aside0 (block_Right.l0 k l0 l0 (l0.length : Int) 0 = some r) := ⟨h⟩
 clear hr0 hc0 h hlen
 go_enter Tryz.func184, Tryz.ntmps184
 go_wp2
 go_loopg [7] k (fun kq v w' => ∃ x : Int, v = .int .i64 x ∧ Aside0 (0 ≤ x) ∧ Aside0 (block_Right.l0 kq l0 l0 (l0.length : Int) x = some r) ∧ Aside0 (kq ≤ k) ∧ Aside0 (Below w.heap.size w w'))
 case atStart => exact ⟨0, rfl, ⟨by decide⟩, H', ⟨Nat.le_refl _⟩, ⟨by repeat (first | exact HB.out | apply b_a | apply b_n | apply b_d)⟩⟩
 case round =>
  clear H' HB
  obtain ⟨x, rfl, HX0, HA, HK1, HB⟩ := hrel
  cases gk with
  | zero => exact absurd HA.out (by simp [block_Right.l0])
  | succ k1 =>
   by_cases c2 : x < (l0.length : Int)
   ·have c2b0 : decide (x < (l0.length : Int)) = true := decide_eq_true c2
    obtain ⟨t, q, hV, hq1, hq2, hcs⟩ := block_Right_c (by have := HL.out; omega) HX0.out c2 HA.out
    have HV := a_k hV
    have HQ1 := a_k hq1
    have HQ2 := a_k hq2
    have HX1 := a_k c2
    have HCS := a_k hcs
    clear hV hq1 hq2 hcs HA
    obtain ⟨ad, ead, hx0, hx1, hx2, hx3⟩ := at_T32 HR0.out x HX0.out c2
    cases ead
    have p : (0 ≤ x) = True := eq_true HX0.out
    have q_ : (x < (l0.length : Int)) = True := eq_true c2
    clear c2
    have HY : Aside0 (∀ V, Below w.heap.size w V → V.cell? (ad.add ((x).toNat * 4)) = some (.string (rd_T32 l0 x).f0) ∧ V.cell? ⟨(ad.add ((x).toNat * 4)).block, (ad.add ((x).toNat * 4)).off + 1, none⟩ = some (.int .u64 (rd_T32 l0 x).f1) ∧ V.cell? ⟨(ad.add ((x).toNat * 4)).block, (ad.add ((x).toNat * 4)).off + 2, none⟩ = some (.int .i64 (rd_T32 l0 x).f2) ∧ V.cell? ⟨(ad.add ((x).toNat * 4)).block, (ad.add ((x).toNat * 4)).off + 3, none⟩ = some (.string (rd_T32 l0 x).f3)) := ⟨fun V hV => ⟨c_b hV hx0, c_b hV hx1, c_b hV hx2, c_b hV hx3⟩⟩
    replace hx0 := c_b HB.out hx0
    replace hx1 := c_b HB.out hx1
    replace hx2 := c_b HB.out hx2
    replace hx3 := c_b HB.out hx3
    go_wp2_with (first | ((with_reducible refine gate_dst (N := 4) rfl ?_); refine box_event ?hg (N := 4) ?hd (cs := #[.string (⟨#[]⟩ : ByteArray), .int .u64 0, .int .i64 0, .string (⟨#[]⟩ : ByteArray)]) (t := 32) ?hr ?_; (case hd => rfl); (case hg => rfl); (case hr => first | (go_simp; done) | (go_simp; rfl)); intro gb hg w13 hbox hb; have n0_ := a_k (below_step (by repeat (first | exact HB.out | apply b_a | apply b_n | apply b_d)) hb); have BK := a_k hbox; have GE := a_k ((by rw [hg]; exact (below_size (by repeat (first | exact HB.out | apply b_a | apply b_n | apply b_d)))) : w.heap.size ≤ gb); clear HB; have HB := n0_; clear n0_ hb hbox hg; have hcz0 : w13.cell? ⟨gb, 0, none⟩ = some (.string (⟨#[]⟩ : ByteArray)) := (blk_cell BK.out 0).trans rfl; have hcz1 : w13.cell? ⟨gb, 1, none⟩ = some (.int .u64 0) := (blk_cell BK.out 1).trans rfl; have hcz2 : w13.cell? ⟨gb, 2, none⟩ = some (.int .i64 0) := (blk_cell BK.out 2).trans rfl; have hcz3 : w13.cell? ⟨gb, 3, none⟩ = some (.string (⟨#[]⟩ : ByteArray)) := (blk_cell BK.out 3).trans rfl; have hfz0 := blk_frozen BK.out 0; have hfz1 := blk_frozen BK.out 1; have hfz2 := blk_frozen BK.out 2; have hfz3 := blk_frozen BK.out 3))
    have n0_ : Aside0 (((((w13.setCell ⟨gb, 0, none⟩ (.string (rd_T32 l0 x).f0)).setCell ⟨gb, 1, none⟩ (.int .u64 (rd_T32 l0 x).f1)).setCell ⟨gb, 2, none⟩ (.int .i64 (rd_T32 l0 x).f2)).setCell ⟨gb, 3, none⟩ (.string (rd_T32 l0 x).f3)).heap[gb]? = some (.cells #[.string (rd_T32 l0 x).f0, .int .u64 (rd_T32 l0 x).f1, .int .i64 (rd_T32 l0 x).f2, .string (rd_T32 l0 x).f3] 32 (0, 0))) := ⟨blk_put (cs := #[.string (rd_T32 l0 x).f0, .int .u64 (rd_T32 l0 x).f1, .int .i64 (rd_T32 l0 x).f2, .string (⟨#[]⟩ : ByteArray)]) (blk_put (cs := #[.string (rd_T32 l0 x).f0, .int .u64 (rd_T32 l0 x).f1, .int .i64 0, .string (⟨#[]⟩ : ByteArray)]) (blk_put (cs := #[.string (rd_T32 l0 x).f0, .int .u64 0, .int .i64 0, .string (⟨#[]⟩ : ByteArray)]) (blk_put (cs := #[.string (⟨#[]⟩ : ByteArray), .int .u64 0, .int .i64 0, .string (⟨#[]⟩ : ByteArray)]) BK.out 0 _ rfl) 1 _ rfl) 2 _ rfl) 3 _ rfl⟩
    have n1_ : Aside0 (Below w.heap.size w ((((w13.setCell ⟨gb, 0, none⟩ (.string (rd_T32 l0 x).f0)).setCell ⟨gb, 1, none⟩ (.int .u64 (rd_T32 l0 x).f1)).setCell ⟨gb, 2, none⟩ (.int .i64 (rd_T32 l0 x).f2)).setCell ⟨gb, 3, none⟩ (.string (rd_T32 l0 x).f3))) := ⟨by repeat (first | exact HB.out | refine below_set ?_ GE.out)⟩
    clear BK HB
    generalize ((((w13.setCell ⟨gb, 0, none⟩ (.string (rd_T32 l0 x).f0)).setCell ⟨gb, 1, none⟩ (.int .u64 (rd_T32 l0 x).f1)).setCell ⟨gb, 2, none⟩ (.int .i64 (rd_T32 l0 x).f2)).setCell ⟨gb, 3, none⟩ (.string (rd_T32 l0 x).f3)) = w15 at n0_ n1_ ⊢
    have BK := n0_
    have HB := n1_
    have HZ : Aside0 (∀ V, Below w15.heap.size w15 V → V.cell? ⟨gb, 0, none⟩ = some (.string (rd_T32 l0 x).f0) ∧ V.cell? ⟨gb, 1, none⟩ = some (.int .u64 (rd_T32 l0 x).f1) ∧ V.cell? ⟨gb, 2, none⟩ = some (.int .i64 (rd_T32 l0 x).f2) ∧ V.cell? ⟨gb, 3, none⟩ = some (.string (rd_T32 l0 x).f3)) := ⟨fun V hV => ⟨(hV.cell (World.block_lt_of_cell? w15 _ ((blk_cell BK.out 0).trans rfl))).trans ((blk_cell BK.out 0).trans rfl), (hV.cell (World.block_lt_of_cell? w15 _ ((blk_cell BK.out 1).trans rfl))).trans ((blk_cell BK.out 1).trans rfl), (hV.cell (World.block_lt_of_cell? w15 _ ((blk_cell BK.out 2).trans rfl))).trans ((blk_cell BK.out 2).trans rfl), (hV.cell (World.block_lt_of_cell? w15 _ ((blk_cell BK.out 3).trans rfl))).trans ((blk_cell BK.out 3).trans rfl)⟩⟩
    clear n0_ n1_ BK
    have HB0 := HB
    clear HB
    have HB := a_k (Below.refl w15.heap.size w15)
    go_cut [28] (fun v wc => v = .bool q ∧ Aside0 (Below w.heap.size w wc))
    case first =>
     as_aux_lemma =>
     rcases HCS.out with ⟨rfl, rfl⟩ | ⟨rfl, hx0, rfl⟩ | ⟨rfl, h0, d, hd, hq⟩
     ·have HS : Aside0 (∀ V, Below w15.heap.size w15 V → V.cell? ⟨gb, 0, none⟩ = some (.string (rd_T32 l0 x).f0) ∧ V.cell? ⟨gb, 1, none⟩ = some (.int .u64 (rd_T32 l0 x).f1) ∧ V.cell? ⟨gb, 2, none⟩ = some (.int .i64 (rd_T32 l0 x).f2) ∧ V.cell? ⟨gb, 3, none⟩ = some (.string (rd_T32 l0 x).f3)) := HZ
      refine start_ (n := 17) (S := fun w' => w'.cell? ⟨gb, 0, none⟩ = some (.string (rd_T32 l0 x).f0) ∧ w'.cell? ⟨gb, 1, none⟩ = some (.int .u64 (rd_T32 l0 x).f1) ∧ w'.cell? ⟨gb, 2, none⟩ = some (.int .i64 (rd_T32 l0 x).f2) ∧ w'.cell? ⟨gb, 3, none⟩ = some (.string (rd_T32 l0 x).f3)) (ds := []) #[Z,Z,Z,Z,Z,Z,Z,Z,Z,Z,Z,Z,Z,Z,Z,Z,Z] (by kernel_rfl) rfl rfl (HS.out _ (by repeat (first | exact HB.out | apply b_a | apply b_n | apply b_d))) (fun hHeld => ?_); refine with_tabW block_Right.tab4 block_Right.bits4 (fun HT_ HW_ => ?_)
      refine take_ (i := 0) (N := some 12) (v := ?_) (a' := ?_) #[J,Z,Z,Z,Z,Z,Z,Z,Z,Z,Z,Z,Z,Z,Z,Z,Z] rfl rfl (take_ofW HT_.out HW_.out (by kernel_rfl)) (fun _ _ _ h => h) (Or.inl ⟨by rfl, ?_⟩) hHeld ?_ ?_
      rotate_left
      ·rintro w' ⟨s0, s1, s2, s3⟩
       go_simp
       with_reducible rfl
      rotate_left
      ·simp only [Act.put, l_s, l_0, l_1, i64_w, i32_w]
       rfl
      refine one_ (i := 1) (N := some 13) #[J,J,Z,Z,Z,Z,Z,Z,Z,Z,Z,Z,Z,Z,Z,Z,Z] rfl rfl (one_of HT_.out (by kernel_rfl)) (by decide) (fun K hK => ?_)
      refine goes_ Tryz.func46 (by kernel_rfl) rfl #[.agg #[.string (rd_T32 l0 x).f0, .int .u64 (rd_T32 l0 x).f1, .int .i64 (rd_T32 l0 x).f2, .string (rd_T32 l0 x).f3]] (by rfl) rfl rfl (by (try simp only [m_a, m_c, m_n]); first | done | rfl) ?_
      with_reducible refine (ikey_Valid.calls k1 (rd_T32 l0 x).f0 (rd_T32 l0 x).f1 (rd_T32 l0 x).f2 (rd_T32 l0 x).f3 false _ HV.out).mono ?_
      rintro e wv ⟨rfl, hb⟩
      refine ⟨_, rfl, ?_⟩
      have n0_ := a_k (below_step (by repeat (first | exact HB.out | apply b_a | apply b_n | apply b_d)) hb)
      clear HB hb
      have HB := n0_
      clear n0_
      refine hK.out _ _ (HS.out _ HB.out) (fun hHeld => ?_)
      clear hK K
      refine norm_ (a' := ?_) ?_ ?_
      rotate_left
      ·show Act.put _ (some 13) _ = _
       simp only [Act.put, l_s, l_0, l_1, i64_w, i32_w]
       rfl
      refine pure_ (i := 2) (N := some 14) (v := ?_) (a' := ?_) #[J,J,J,Z,Z,Z,Z,Z,Z,Z,Z,Z,Z,Z,Z,Z,Z] rfl rfl (any_of HT_.out (by kernel_rfl)) (fun _ _ _ h => h) (Or.inl ⟨by rfl, ?_⟩) ?_ ?_
      rotate_left
      ·intro w'
       go_simp
       with_reducible rfl
      rotate_left
      ·simp only [Act.put, l_s, l_0, l_1, i64_w, i32_w]
       rfl
      refine pure_ (i := 3) (N := some 15) (v := ?_) (a' := ?_) #[J,J,J,J,Z,Z,Z,Z,Z,Z,Z,Z,Z,Z,Z,Z,Z] rfl rfl (any_of HT_.out (by kernel_rfl)) (fun _ _ _ h => h) (Or.inl ⟨by rfl, ?_⟩) ?_ ?_
      rotate_left
      ·intro w'
       go_simp
       with_reducible rfl
      rotate_left
      ·simp only [Act.put, l_s, l_0, l_1, i64_w, i32_w]
       rfl
      refine pure_ (i := 4) (N := some 16) (v := undef) (a' := ?_) #[J,J,J,J,J,Z,Z,Z,Z,Z,Z,Z,Z,Z,Z,Z,Z] rfl rfl (any_of HT_.out (by kernel_rfl)) (fun _ _ _ h => h) (Or.inr ⟨by rfl, rfl⟩) ?_ ?_
      rotate_left
      ·simp only [Act.put, l_s, l_0, l_1, i64_w, i32_w]
       rfl
      refine pure_ (i := 5) (N := some 17) (v := undef) (a' := ?_) #[J,J,J,J,J,J,Z,Z,Z,Z,Z,Z,Z,Z,Z,Z,Z] rfl rfl (any_of HT_.out (by kernel_rfl)) (fun _ _ _ h => h) (Or.inr ⟨by rfl, rfl⟩) ?_ ?_
      rotate_left
      ·simp only [Act.put, l_s, l_0, l_1, i64_w, i32_w]
       rfl
      refine pure_ (i := 6) (N := some 18) (v := undef) (a' := ?_) #[J,J,J,J,J,J,J,Z,Z,Z,Z,Z,Z,Z,Z,Z,Z] rfl rfl (any_of HT_.out (by kernel_rfl)) (fun _ _ _ h => h) (Or.inr ⟨by rfl, rfl⟩) ?_ ?_
      rotate_left
      ·simp only [Act.put, l_s, l_0, l_1, i64_w, i32_w]
       rfl
      refine pure_ (i := 7) (N := some 19) (v := undef) (a' := ?_) #[J,J,J,J,J,J,J,J,Z,Z,Z,Z,Z,Z,Z,Z,Z] rfl rfl (any_of HT_.out (by kernel_rfl)) (fun _ _ _ h => h) (Or.inr ⟨by rfl, rfl⟩) ?_ ?_
      rotate_left
      ·simp only [Act.put, l_s, l_0, l_1, i64_w, i32_w]
       rfl
      refine pure_ (i := 8) (N := some 20) (v := undef) (a' := ?_) #[J,J,J,J,J,J,J,J,J,Z,Z,Z,Z,Z,Z,Z,Z] rfl rfl (any_of HT_.out (by kernel_rfl)) (fun _ _ _ h => h) (Or.inr ⟨by rfl, rfl⟩) ?_ ?_
      rotate_left
      ·simp only [Act.put, l_s, l_0, l_1, i64_w, i32_w]
       rfl
      refine pure_ (i := 9) (N := some 21) (v := undef) (a' := ?_) #[J,J,J,J,J,J,J,J,J,J,Z,Z,Z,Z,Z,Z,Z] rfl rfl (any_of HT_.out (by kernel_rfl)) (fun _ _ _ h => h) (Or.inr ⟨by rfl, rfl⟩) ?_ ?_
      rotate_left
      ·simp only [Act.put, l_s, l_0, l_1, i64_w, i32_w]
       rfl
      refine pure_ (i := 10) (N := some 22) (v := undef) (a' := ?_) #[J,J,J,J,J,J,J,J,J,J,J,Z,Z,Z,Z,Z,Z] rfl rfl (any_of HT_.out (by kernel_rfl)) (fun _ _ _ h => h) (Or.inr ⟨by rfl, rfl⟩) ?_ ?_
      rotate_left
      ·simp only [Act.put, l_s, l_0, l_1, i64_w, i32_w]
       rfl
      refine pure_ (i := 11) (N := some 23) (v := undef) (a' := ?_) #[J,J,J,J,J,J,J,J,J,J,J,J,Z,Z,Z,Z,Z] rfl rfl (any_of HT_.out (by kernel_rfl)) (fun _ _ _ h => h) (Or.inr ⟨by rfl, rfl⟩) ?_ ?_
      rotate_left
      ·simp only [Act.put, l_s, l_0, l_1, i64_w, i32_w]
       rfl
      refine pure_ (i := 12) (N := some 24) (v := undef) (a' := ?_) #[J,J,J,J,J,J,J,J,J,J,J,J,J,Z,Z,Z,Z] rfl rfl (any_of HT_.out (by kernel_rfl)) (fun _ _ _ h => h) (Or.inr ⟨by rfl, rfl⟩) ?_ ?_
      rotate_left
      ·simp only [Act.put, l_s, l_0, l_1, i64_w, i32_w]
       rfl
      refine pure_ (i := 13) (N := some 25) (v := undef) (a' := ?_) #[J,J,J,J,J,J,J,J,J,J,J,J,J,J,Z,Z,Z] rfl rfl (any_of HT_.out (by kernel_rfl)) (fun _ _ _ h => h) (Or.inr ⟨by rfl, rfl⟩) ?_ ?_
      rotate_left
      ·simp only [Act.put, l_s, l_0, l_1, i64_w, i32_w]
       rfl
      refine pure_ (i := 14) (N := some 26) (v := undef) (a' := ?_) #[J,J,J,J,J,J,J,J,J,J,J,J,J,J,J,Z,Z] rfl rfl (any_of HT_.out (by kernel_rfl)) (fun _ _ _ h => h) (Or.inr ⟨by rfl, rfl⟩) ?_ ?_
      rotate_left
      ·simp only [Act.put, l_s, l_0, l_1, i64_w, i32_w]
       rfl
      refine pure_ (i := 15) (N := some 27) (v := undef) (a' := ?_) #[J,J,J,J,J,J,J,J,J,J,J,J,J,J,J,J,Z] rfl rfl (any_of HT_.out (by kernel_rfl)) (fun _ _ _ h => h) (Or.inr ⟨by rfl, rfl⟩) ?_ ?_
      rotate_left
      ·simp only [Act.put, l_s, l_0, l_1, i64_w, i32_w]
       rfl
      refine pure_ (i := 16) (N := some 28) (v := ?_) (a' := ?_) #[J,J,J,J,J,J,J,J,J,J,J,J,J,J,J,J,J] rfl rfl (any_of HT_.out (by kernel_rfl)) (fun _ _ _ h => h) (Or.inl ⟨by rfl, ?_⟩) ?_ ?_
      rotate_left
      ·intro w'
       go_simp
       with_reducible rfl
      rotate_left
      ·simp only [Act.put, l_s, l_0, l_1, i64_w, i32_w]
       rfl
      refine done_ (done_of HT_.out (by kernel_rfl)) ?_
      go_wp2_with (fail)
      go_meet
      case rel => exact ⟨rfl, ⟨below_step HB0.out HB.out⟩⟩
     ·have HS : Aside0 (∀ V, Below w15.heap.size w15 V → V.cell? ⟨gb, 0, none⟩ = some (.string (rd_T32 l0 x).f0) ∧ V.cell? ⟨gb, 1, none⟩ = some (.int .u64 (rd_T32 l0 x).f1) ∧ V.cell? ⟨gb, 2, none⟩ = some (.int .i64 (rd_T32 l0 x).f2) ∧ V.cell? ⟨gb, 3, none⟩ = some (.string (rd_T32 l0 x).f3)) := HZ
      have cx : decide (0 < x) = false := decide_eq_false (by omega)
      clear hx0
      refine start_ (n := 17) (S := fun w' => w'.cell? ⟨gb, 0, none⟩ = some (.string (rd_T32 l0 x).f0) ∧ w'.cell? ⟨gb, 1, none⟩ = some (.int .u64 (rd_T32 l0 x).f1) ∧ w'.cell? ⟨gb, 2, none⟩ = some (.int .i64 (rd_T32 l0 x).f2) ∧ w'.cell? ⟨gb, 3, none⟩ = some (.string (rd_T32 l0 x).f3)) (ds := []) #[Z,Z,Z,Z,Z,Z,Z,Z,Z,Z,Z,Z,Z,Z,Z,Z,Z] (by kernel_rfl) rfl rfl (HS.out _ (by repeat (first | exact HB.out | apply b_a | apply b_n | apply b_d))) (fun hHeld => ?_); refine with_tabW block_Right.tab4 block_Right.bits4 (fun HT_ HW_ => ?_)
      refine take_ (i := 0) (N := some 12) (v := ?_) (a' := ?_) #[J,Z,Z,Z,Z,Z,Z,Z,Z,Z,Z,Z,Z,Z,Z,Z,Z] rfl rfl (take_ofW HT_.out HW_.out (by kernel_rfl)) (fun _ _ _ h => h) (Or.inl ⟨by rfl, ?_⟩) hHeld ?_ ?_
      rotate_left
      ·rintro w' ⟨s0, s1, s2, s3⟩
       go_simp
       with_reducible rfl
      rotate_left
      ·simp only [Act.put, l_s, l_0, l_1, i64_w, i32_w]
       rfl
      refine one_ (i := 1) (N := some 13) #[J,J,Z,Z,Z,Z,Z,Z,Z,Z,Z,Z,Z,Z,Z,Z,Z] rfl rfl (one_of HT_.out (by kernel_rfl)) (by decide) (fun K hK => ?_)
      refine goes_ Tryz.func46 (by kernel_rfl) rfl #[.agg #[.string (rd_T32 l0 x).f0, .int .u64 (rd_T32 l0 x).f1, .int .i64 (rd_T32 l0 x).f2, .string (rd_T32 l0 x).f3]] (by rfl) rfl rfl (by (try simp only [m_a, m_c, m_n]); first | done | rfl) ?_
      with_reducible refine (ikey_Valid.calls k1 (rd_T32 l0 x).f0 (rd_T32 l0 x).f1 (rd_T32 l0 x).f2 (rd_T32 l0 x).f3 true _ HV.out).mono ?_
      rintro e wv ⟨rfl, hb⟩
      refine ⟨_, rfl, ?_⟩
      have n0_ := a_k (below_step (by repeat (first | exact HB.out | apply b_a | apply b_n | apply b_d)) hb)
      clear HB hb
      have HB := n0_
      clear n0_
      refine hK.out _ _ (HS.out _ HB.out) (fun hHeld => ?_)
      clear hK K
      refine norm_ (a' := ?_) ?_ ?_
      rotate_left
      ·show Act.put _ (some 13) _ = _
       simp only [Act.put, l_s, l_0, l_1, i64_w, i32_w]
       rfl
      refine pure_ (i := 2) (N := some 14) (v := ?_) (a' := ?_) #[J,J,J,Z,Z,Z,Z,Z,Z,Z,Z,Z,Z,Z,Z,Z,Z] rfl rfl (any_of HT_.out (by kernel_rfl)) (fun _ _ _ h => h) (Or.inl ⟨by rfl, ?_⟩) ?_ ?_
      rotate_left
      ·intro w'
       go_simp
       with_reducible rfl
      rotate_left
      ·simp only [Act.put, l_s, l_0, l_1, i64_w, i32_w]
       rfl
      refine pure_ (i := 3) (N := some 15) (v := ?_) (a' := ?_) #[J,J,J,J,Z,Z,Z,Z,Z,Z,Z,Z,Z,Z,Z,Z,Z] rfl rfl (any_of HT_.out (by kernel_rfl)) (fun _ _ _ h => h) (Or.inl ⟨by rfl, ?_⟩) ?_ ?_
      rotate_left
      ·intro w'
       go_simp
       with_reducible rfl
      rotate_left
      ·simp only [Act.put, l_s, l_0, l_1, i64_w, i32_w]
       rfl
      refine pure_ (i := 4) (N := some 16) (v := ?_) (a' := ?_) #[J,J,J,J,J,Z,Z,Z,Z,Z,Z,Z,Z,Z,Z,Z,Z] rfl rfl (any_of HT_.out (by kernel_rfl)) (fun _ _ _ h => h) (Or.inl ⟨by rfl, ?_⟩) ?_ ?_
      rotate_left
      ·intro w'
       go_simp
       with_reducible rfl
      rotate_left
      ·simp only [Act.put, l_s, l_0, l_1, i64_w, i32_w]
       rfl
      refine pure_ (i := 5) (N := some 17) (v := ?_) (a' := ?_) #[J,J,J,J,J,J,Z,Z,Z,Z,Z,Z,Z,Z,Z,Z,Z] rfl rfl (any_of HT_.out (by kernel_rfl)) (fun _ _ _ h => h) (Or.inl ⟨by rfl, ?_⟩) ?_ ?_
      rotate_left
      ·intro w'
       go_simp
       with_reducible rfl
      rotate_left
      ·simp only [Act.put, l_s, l_0, l_1, i64_w, i32_w]
       rfl
      refine pure_ (i := 6) (N := some 18) (v := ?_) (a' := ?_) #[J,J,J,J,J,J,J,Z,Z,Z,Z,Z,Z,Z,Z,Z,Z] rfl rfl (any_of HT_.out (by kernel_rfl)) (fun _ _ _ h => h) (Or.inl ⟨by rfl, ?_⟩) ?_ ?_
      rotate_left
      ·intro w'
       go_simp
       with_reducible rfl
      rotate_left
      ·simp only [Act.put, l_s, l_0, l_1, i64_w, i32_w]
       rfl
      refine pure_ (i := 7) (N := some 19) (v := undef) (a' := ?_) #[J,J,J,J,J,J,J,J,Z,Z,Z,Z,Z,Z,Z,Z,Z] rfl rfl (any_of HT_.out (by kernel_rfl)) (fun _ _ _ h => h) (Or.inr ⟨by rfl, rfl⟩) ?_ ?_
      rotate_left
      ·simp only [Act.put, l_s, l_0, l_1, i64_w, i32_w]
       rfl
      refine pure_ (i := 8) (N := some 20) (v := undef) (a' := ?_) #[J,J,J,J,J,J,J,J,J,Z,Z,Z,Z,Z,Z,Z,Z] rfl rfl (any_of HT_.out (by kernel_rfl)) (fun _ _ _ h => h) (Or.inr ⟨by rfl, rfl⟩) ?_ ?_
      rotate_left
      ·simp only [Act.put, l_s, l_0, l_1, i64_w, i32_w]
       rfl
      refine pure_ (i := 9) (N := some 21) (v := undef) (a' := ?_) #[J,J,J,J,J,J,J,J,J,J,Z,Z,Z,Z,Z,Z,Z] rfl rfl (any_of HT_.out (by kernel_rfl)) (fun _ _ _ h => h) (Or.inr ⟨by rfl, rfl⟩) ?_ ?_
      rotate_left
      ·simp only [Act.put, l_s, l_0, l_1, i64_w, i32_w]
       rfl
      refine pure_ (i := 10) (N := some 22) (v := undef) (a' := ?_) #[J,J,J,J,J,J,J,J,J,J,J,Z,Z,Z,Z,Z,Z] rfl rfl (any_of HT_.out (by kernel_rfl)) (fun _ _ _ h => h) (Or.inr ⟨by rfl, rfl⟩) ?_ ?_
      rotate_left
      ·simp only [Act.put, l_s, l_0, l_1, i64_w, i32_w]
       rfl
      refine pure_ (i := 11) (N := some 23) (v := undef) (a' := ?_) #[J,J,J,J,J,J,J,J,J,J,J,J,Z,Z,Z,Z,Z] rfl rfl (any_of HT_.out (by kernel_rfl)) (fun _ _ _ h => h) (Or.inr ⟨by rfl, rfl⟩) ?_ ?_
      rotate_left
      ·simp only [Act.put, l_s, l_0, l_1, i64_w, i32_w]
       rfl
      refine pure_ (i := 12) (N := some 24) (v := undef) (a' := ?_) #[J,J,J,J,J,J,J,J,J,J,J,J,J,Z,Z,Z,Z] rfl rfl (any_of HT_.out (by kernel_rfl)) (fun _ _ _ h => h) (Or.inr ⟨by rfl, rfl⟩) ?_ ?_
      rotate_left
      ·simp only [Act.put, l_s, l_0, l_1, i64_w, i32_w]
       rfl
      refine pure_ (i := 13) (N := some 25) (v := undef) (a' := ?_) #[J,J,J,J,J,J,J,J,J,J,J,J,J,J,Z,Z,Z] rfl rfl (any_of HT_.out (by kernel_rfl)) (fun _ _ _ h => h) (Or.inr ⟨by rfl, rfl⟩) ?_ ?_
      rotate_left
      ·simp only [Act.put, l_s, l_0, l_1, i64_w, i32_w]
       rfl
      refine pure_ (i := 14) (N := some 26) (v := undef) (a' := ?_) #[J,J,J,J,J,J,J,J,J,J,J,J,J,J,J,Z,Z] rfl rfl (any_of HT_.out (by kernel_rfl)) (fun _ _ _ h => h) (Or.inr ⟨by rfl, rfl⟩) ?_ ?_
      rotate_left
      ·simp only [Act.put, l_s, l_0, l_1, i64_w, i32_w]
       rfl
      refine pure_ (i := 15) (N := some 27) (v := ?_) (a' := ?_) #[J,J,J,J,J,J,J,J,J,J,J,J,J,J,J,J,Z] rfl rfl (any_of HT_.out (by kernel_rfl)) (fun _ _ _ h => h) (Or.inl ⟨by rfl, ?_⟩) ?_ ?_
      rotate_left
      ·intro w'
       go_simp
       with_reducible rfl
      rotate_left
      ·simp only [Act.put, l_s, l_0, l_1, i64_w, i32_w]
       rfl
      refine pure_ (i := 16) (N := some 28) (v := ?_) (a' := ?_) #[J,J,J,J,J,J,J,J,J,J,J,J,J,J,J,J,J] rfl rfl (any_of HT_.out (by kernel_rfl)) (fun _ _ _ h => h) (Or.inl ⟨by rfl, ?_⟩) ?_ ?_
      rotate_left
      ·intro w'
       go_simp
       with_reducible rfl
      rotate_left
      ·simp only [Act.put, l_s, l_0, l_1, i64_w, i32_w]
       rfl
      refine done_ (done_of HT_.out (by kernel_rfl)) ?_
      go_wp2_with (fail)
      go_meet
      case rel => exact ⟨rfl, ⟨below_step HB0.out HB.out⟩⟩
     ·have cx : decide (0 < x) = true := decide_eq_true h0
      have HD := a_k hd
      obtain ⟨y, hy⟩ : ∃ y, x - 1 = y := ⟨_, rfl⟩
      have cw : IntKind.i64.wrap (x - 1) = y := by rw [← hy]; exact (i64_w _).trans (block_Right_w HX0.out HX1.out (by have := HL.out; omega)).2
      have hd2 : ikey_Compare.f k1 (rd_T32 l0 y).f0 (rd_T32 l0 y).f1 (rd_T32 l0 y).f2 (rd_T32 l0 y).f3 (rd_T32 l0 x).f0 (rd_T32 l0 x).f1 (rd_T32 l0 x).f2 (rd_T32 l0 x).f3 = some d := by rw [← hy]; exact HD.out
      clear HD hd
      have HD := a_k hd2
      clear hd2 HCS
      have y0 : 0 ≤ y := by omega
      have y1 : y < (l0.length : Int) := by have := HX1.out; omega
      obtain ⟨ad2, ead2, hy0, hy1, hy2, hy3⟩ := at_T32 HR0.out y y0 y1
      obtain rfl : ad = ad2 := (by injection ead2)
      have c5 : (0 ≤ y) = True := eq_true y0
      have c6 : (y < (l0.length : Int)) = True := eq_true y1
      clear y0 y1 hy h0
      have HS : Aside0 (∀ V, Below w15.heap.size w15 V → V.cell? ⟨gb, 0, none⟩ = some (.string (rd_T32 l0 x).f0) ∧ V.cell? ⟨gb, 1, none⟩ = some (.int .u64 (rd_T32 l0 x).f1) ∧ V.cell? ⟨gb, 2, none⟩ = some (.int .i64 (rd_T32 l0 x).f2) ∧ V.cell? ⟨gb, 3, none⟩ = some (.string (rd_T32 l0 x).f3) ∧ V.cell? (ad.add ((y).toNat * 4)) = some (.string (rd_T32 l0 y).f0) ∧ V.cell? ⟨(ad.add ((y).toNat * 4)).block, (ad.add ((y).toNat * 4)).off + 1, none⟩ = some (.int .u64 (rd_T32 l0 y).f1) ∧ V.cell? ⟨(ad.add ((y).toNat * 4)).block, (ad.add ((y).toNat * 4)).off + 2, none⟩ = some (.int .i64 (rd_T32 l0 y).f2) ∧ V.cell? ⟨(ad.add ((y).toNat * 4)).block, (ad.add ((y).toNat * 4)).off + 3, none⟩ = some (.string (rd_T32 l0 y).f3)) := ⟨fun V hV => by
       obtain ⟨e0, e1, e2, e3⟩ := HZ.out V hV
       have hW := (below_step HB0.out hV)
       exact ⟨e0, e1, e2, e3, c_b hW hy0, c_b hW hy1, c_b hW hy2, c_b hW hy3⟩⟩
      clear hy0 hy1 hy2 hy3
      go_region_held3 (fun V => V.cell? ⟨gb, 0, none⟩ = some (.string (rd_T32 l0 x).f0) ∧ V.cell? ⟨gb, 1, none⟩ = some (.int .u64 (rd_T32 l0 x).f1) ∧ V.cell? ⟨gb, 2, none⟩ = some (.int .i64 (rd_T32 l0 x).f2) ∧ V.cell? ⟨gb, 3, none⟩ = some (.string (rd_T32 l0 x).f3) ∧ V.cell? (ad.add ((y).toNat * 4)) = some (.string (rd_T32 l0 y).f0) ∧ V.cell? ⟨(ad.add ((y).toNat * 4)).block, (ad.add ((y).toNat * 4)).off + 1, none⟩ = some (.int .u64 (rd_T32 l0 y).f1) ∧ V.cell? ⟨(ad.add ((y).toNat * 4)).block, (ad.add ((y).toNat * 4)).off + 2, none⟩ = some (.int .i64 (rd_T32 l0 y).f2) ∧ V.cell? ⟨(ad.add ((y).toNat * 4)).block, (ad.add ((y).toNat * 4)).off + 3, none⟩ = some (.string (rd_T32 l0 y).f3)) (exact HS.out _ (by repeat (first | exact HB.out | apply b_a | apply b_n | apply b_d))) (first | (go_at_call 46; refine (ikey_Valid.calls k1 _ _ _ _ _ _ HV.out).mono ?_; rintro e wv ⟨rfl, hb⟩; have n0_ := a_k (below_step (by repeat (first | exact HB.out | apply b_a | apply b_n | apply b_d)) hb); clear HB hb; have HB := n0_; clear n0_) | (go_at_call 47; refine (ikey_Compare.calls k1 _ _ _ _ _ _ _ _ d _ HD.out).mono ?_; rintro e wd ⟨rfl, hb⟩; have n0_ := a_k (below_step (by repeat (first | exact HB.out | apply b_a | apply b_n | apply b_d)) hb); clear HB hb; have HB := n0_; clear n0_))
      go_wp2_with (fail)
      go_meet
      case rel => exact ⟨rfl, ⟨below_step HB0.out HB.out⟩⟩
    case rest =>
    clear HB HB0 HZ
    obtain ⟨rfl, HB⟩ := hcut
    cases q with
    | true =>
     obtain rfl := HQ1.out rfl
     go_wp2_with (fail)
     go_ret
     exact ⟨rfl, HB.out⟩
    | false =>
     have H' := a_k (HQ2.out rfl)
     have hW := (block_Right_w HX0.out HX1.out (by have := HL.out; omega)).1
     have cw : IntKind.i64.wrap (x + 1) = x + 1 := (i64_w _).trans hW
     clear hW
     go_wp2_with (fail)
     go_roundg k1
     case measure => have := HK1.out; omega
     case rel => exact ⟨x + 1, by first | rfl | (simp [*]; done), ⟨by have := HX0.out; omega⟩, H', ⟨by have := HK1.out; omega⟩, ⟨by repeat (first | exact HB.out | apply b_a | apply b_n | apply b_d)⟩⟩
   ·have c2b0 : decide (x < (l0.length : Int)) = false := decide_eq_false c2
    have hA := HA.out
    simp only [block_Right.l0] at hA
    rw [if_neg c2] at hA
    obtain rfl := Option.some.inj hA
    clear hA HA
    go_wp2
    go_ret
    exact ⟨rfl, (by repeat (first | exact HB.out | apply b_a | apply b_n | apply b_d))⟩
end Go.Proofs.YtchgpcgolgcfdaaGreat.Bl2
end
section
namespace Go.Proofs.YtchgpcgolgcfdaaGreat.PNum
open Go.RowKit Go.Proofs.YtchgpcgolgcfdaaGreatW.PrintWords Go.Proofs.YtchgpcgolgcfdaaGreatW.PrintLast Go.Proofs.YtchgpcgolgcfdaaGreatW.PrintMore
attribute [local go_sem] max2_int min2_int max_two min_two max_three min_three max_four min_four
set_option linter.unusedVariables false
set_option linter.unusedSimpArgs false
theorem eqA32 (d : Nat) (w : World) (x0 y0 : ByteArray) (x1 y1 : Int) (x2 y2 : Int) (x3 y3 : ByteArray) :
  (Op.equalIn (d + 2) 32 (.agg #[.string x0, .int .u64 x1, .int .i64 x2, .string x3]) (.agg #[.string y0, .int .u64 y1, .int .i64 y2, .string y3])).run Tryz.prog w = .ok (x0.toList == y0.toList && (x1 == y1 && (x2 == y2 && (x3.toList == y3.toList)))) w := by
 refine eqA_of Tryz.underlying32 (by kernel_rfl) ?_
 refine eqf_cons (by rfl) (by go_simp; rfl) (by go_simp; rfl) (by go_simp) ?_
 refine eqf_cons (by rfl) (by go_simp; rfl) (by go_simp; rfl) (by go_simp) ?_
 refine eqf_cons (by rfl) (by go_simp; rfl) (by go_simp; rfl) (by go_simp) ?_
 exact eqf_last (by rfl) (by go_simp; rfl) (by go_simp; rfl) (by go_simp)
end Go.Proofs.YtchgpcgolgcfdaaGreat.PNum
end
section
namespace Go.Proofs.YtchgpcgolgcfdaaGreat.PNum
open Go.RowKit Go.Proofs.YtchgpcgolgcfdaaGreatW.PrintWords Go.Proofs.YtchgpcgolgcfdaaGreatW.PrintLast Go.Proofs.YtchgpcgolgcfdaaGreatW.PrintMore
attribute [local go_sem] max2_int min2_int max_two min_two max_three min_three max_four min_four
set_option linter.unusedVariables false
set_option linter.unusedSimpArgs false
attribute [local go_sem high] eqA32
set_option maxRecDepth 100000
set_option maxHeartbeats 16000000
def cornucopiabook_SameEntries.l0 : Nat → List (S32) → List (S32) → Int → Option (Bool)
 | 0, _, _, _ => none
 | k + 1, x0, x1, x5 => if x5 < (x0.length : Int) then (if 0 ≤ x5 then (if x5 < (x1.length : Int) then (if ((((rd_T32 x0 x5).f0).toList) == (((rd_T32 x1 x5).f0).toList) && (((rd_T32 x0 x5).f1) == ((rd_T32 x1 x5).f1) && (((rd_T32 x0 x5).f2) == ((rd_T32 x1 x5).f2) && ((((rd_T32 x0 x5).f3).toList) == (((rd_T32 x1 x5).f3).toList))))) = true then (cornucopiabook_SameEntries.l0 k x0 x1 (wrap64 (x5 + 1))) else (some false)) else (none)) else (none)) else (some true)
def cornucopiabook_SameEntries.f (k : Nat) (l0 : List (S32)) (l1 : List (S32)) : Option (Bool) := if (l0.length : Int) = (l1.length : Int) then (cornucopiabook_SameEntries.l0 k l0 l1 0) else (some false)
theorem cornucopiabook_SameEntries.calls (k : Nat) (A0 : Option Addr) (c0 : Nat) (l0 : List (S32)) (A1 : Option Addr) (c1 : Nat) (l1 : List (S32)) (r : Bool) (w : World) (hr0 : Kd.C k32 w A0 l0.length l0) (hc0 : l0.length ≤ c0) (hr1 : Kd.C k32 w A1 l1.length l1) (hc1 : l1.length ≤ c1) (h : cornucopiabook_SameEntries.f k l0 l1 = some r) :
  Calls Tryz.prog 19 #[.slice A0 l0.length c0, .slice A1 l1.length c1] w fun e w' => e = .returned (.bool r) ∧ Drawn0 w w' := by
 have hu32 := Tryz.underlying32
 have HR0 := a_k hr0
 have HC0 := a_k hc0
 clear hr0 hc0
 have HR1 := a_k hr1
 have HC1 := a_k hc1
 clear hr1 hc1
 have H : (if (l0.length : Int) = (l1.length : Int) then (cornucopiabook_SameEntries.l0 k l0 l1 0) else (some false)) = some r := h
 clear h
 by_cases c3 : (l0.length : Int) = (l1.length : Int)
 ·rw [if_pos c3] at H
  have c3b0 : ((l0.length : Int) == (l1.length : Int)) = true := beq_iff_eq.mpr c3
  have c3b1 : ((l0.length : Int) != (l1.length : Int)) = false := bne_eq_false_iff_eq.mpr c3
  have c3b2 : (l0.length == l1.length) = true := by first | simpa using c3 | (simp at c3 ⊢; omega)
  clear c3
  have H' := a_k H
  clear H
  go_enter Tryz.func19, Tryz.ntmps19
  go_wp2
  repeat (go_quiet (fail); try go_wp2)
  go_loopg [5] k (fun kq v5 w' => ∃ (x5_1 : Int), v5 = .int .i64 x5_1 ∧ Aside0 (cornucopiabook_SameEntries.l0 kq l0 l1 x5_1 = some r) ∧ Aside0 (kq ≤ k) ∧ Drawn0 w w')
  case atStart => exact ⟨(0), (by first | rfl | (simp; done) | (simp [*]; done)), H', ⟨Nat.le_refl _⟩, by repeat (first | exact Drawn0.refl _ | apply Drawn0.step)⟩
  case round =>
   clear H'
   try clear c1
   try clear p2
   try clear c3
   try clear c3b0
   try clear c3b1
   try clear c3b2
   obtain ⟨x5_1, rfl, HA, HK1, ⟨m1, rfl⟩⟩ := hrel
   cases gk with
   | zero => exact absurd HA.out (by simp [cornucopiabook_SameEntries.l0])
   | succ k1 =>
    have H := HA.out
    clear HA
    simp only [cornucopiabook_SameEntries.l0] at H
    by_cases c4 : x5_1 < (l0.length : Int)
    ·rw [if_pos c4] at H
     have c4b0 : decide (x5_1 < (l0.length : Int)) = true := decide_eq_true c4
     clear c4
     by_cases c5 : 0 ≤ x5_1
     ·rw [if_pos c5] at H
      have c5b0 : decide (0 ≤ x5_1) = true := decide_eq_true c5
      clear c5
      by_cases c6 : x5_1 < (l1.length : Int)
      ·rw [if_pos c6] at H
       have c6b0 : decide (x5_1 < (l1.length : Int)) = true := decide_eq_true c6
       clear c6
       by_cases c7 : ((((rd_T32 l0 x5_1).f0).toList) == (((rd_T32 l1 x5_1).f0).toList) && (((rd_T32 l0 x5_1).f1) == ((rd_T32 l1 x5_1).f1) && (((rd_T32 l0 x5_1).f2) == ((rd_T32 l1 x5_1).f2) && ((((rd_T32 l0 x5_1).f3).toList) == (((rd_T32 l1 x5_1).f3).toList))))) = true
       ·rw [if_pos c7] at H
        have c7b0 : ((((rd_T32 l0 x5_1).f0).toList) == (((rd_T32 l1 x5_1).f0).toList) && (((rd_T32 l0 x5_1).f1) == ((rd_T32 l1 x5_1).f1) && (((rd_T32 l0 x5_1).f2) == ((rd_T32 l1 x5_1).f2) && ((((rd_T32 l0 x5_1).f3).toList) == (((rd_T32 l1 x5_1).f3).toList))))) = true := c7
        (try (have c7b1 : decide ((((rd_T32 l0 x5_1).f0).toList) = (((rd_T32 l1 x5_1).f0).toList) && (((rd_T32 l0 x5_1).f1) == ((rd_T32 l1 x5_1).f1) && (((rd_T32 l0 x5_1).f2) == ((rd_T32 l1 x5_1).f2) && ((((rd_T32 l0 x5_1).f3).toList) == (((rd_T32 l1 x5_1).f3).toList))))) = true := by simpa using c7))
        (try (have c7b2 : ((((rd_T32 l0 x5_1).f0).toList) == (((rd_T32 l1 x5_1).f0).toList) && (((rd_T32 l0 x5_1).f1) == ((rd_T32 l1 x5_1).f1) && (((rd_T32 l0 x5_1).f2) == ((rd_T32 l1 x5_1).f2) && ((((rd_T32 l0 x5_1).f3).toList) == (((rd_T32 l1 x5_1).f3).toList))))) = true := by simpa using c7))
        clear c7
        have H' := a_k H
        clear H
        have p112 : 0 ≤ (x5_1 : Int) := of_decide_eq_true (by assumption)
        have q112 : x5_1 < (l0.length : Int) := of_decide_eq_true (by assumption)
        obtain ⟨ad112, e112, hx112_0, hx112_1, hx112_2, hx112_3⟩ := at_T32 HR0.out x5_1 p112 q112
        cases e112
        replace p112 := eq_true p112
        replace q112 := eq_true q112
        have p113 : 0 ≤ (x5_1 : Int) := of_decide_eq_true (by assumption)
        have q113 : x5_1 < (l1.length : Int) := of_decide_eq_true (by assumption)
        obtain ⟨ad113, e113, hx113_0, hx113_1, hx113_2, hx113_3⟩ := at_T32 HR1.out x5_1 p113 q113
        cases e113
        replace p113 := eq_true p113
        replace q113 := eq_true q113
        go_wp2
        repeat (go_quiet (fail); try go_wp2)
        go_roundg k1
        case measure => have := HK1.out; omega
        case rel => exact ⟨(wrap64 (x5_1 + 1)), (by first | rfl | (simp; done) | (simp [*]; done)), H', ⟨by have := HK1.out; omega⟩, by repeat (first | exact Drawn0.refl _ | apply Drawn0.step)⟩
       ·rw [if_neg c7] at H
        have c7b0 : ((((rd_T32 l0 x5_1).f0).toList) == (((rd_T32 l1 x5_1).f0).toList) && (((rd_T32 l0 x5_1).f1) == ((rd_T32 l1 x5_1).f1) && (((rd_T32 l0 x5_1).f2) == ((rd_T32 l1 x5_1).f2) && ((((rd_T32 l0 x5_1).f3).toList) == (((rd_T32 l1 x5_1).f3).toList))))) = false := by simpa using c7
        (try (have c7b1 : decide ((((rd_T32 l0 x5_1).f0).toList) = (((rd_T32 l1 x5_1).f0).toList) && (((rd_T32 l0 x5_1).f1) == ((rd_T32 l1 x5_1).f1) && (((rd_T32 l0 x5_1).f2) == ((rd_T32 l1 x5_1).f2) && ((((rd_T32 l0 x5_1).f3).toList) == (((rd_T32 l1 x5_1).f3).toList))))) = false := by simpa using c7))
        (try (have c7b2 : ((((rd_T32 l0 x5_1).f0).toList) == (((rd_T32 l1 x5_1).f0).toList) && (((rd_T32 l0 x5_1).f1) == ((rd_T32 l1 x5_1).f1) && (((rd_T32 l0 x5_1).f2) == ((rd_T32 l1 x5_1).f2) && ((((rd_T32 l0 x5_1).f3).toList) == (((rd_T32 l1 x5_1).f3).toList))))) = false := by simpa using c7))
        (try (have c7b3 : ¬ ((((rd_T32 l0 x5_1).f0).toList) = (((rd_T32 l1 x5_1).f0).toList) && (((rd_T32 l0 x5_1).f1) == ((rd_T32 l1 x5_1).f1) && (((rd_T32 l0 x5_1).f2) == ((rd_T32 l1 x5_1).f2) && ((((rd_T32 l0 x5_1).f3).toList) == (((rd_T32 l1 x5_1).f3).toList))))) := by simpa using c7))
        clear c7
        obtain rfl := Option.some.inj H
        have p112 : 0 ≤ (x5_1 : Int) := of_decide_eq_true (by assumption)
        have q112 : x5_1 < (l0.length : Int) := of_decide_eq_true (by assumption)
        obtain ⟨ad112, e112, hx112_0, hx112_1, hx112_2, hx112_3⟩ := at_T32 HR0.out x5_1 p112 q112
        cases e112
        replace p112 := eq_true p112
        replace q112 := eq_true q112
        have p113 : 0 ≤ (x5_1 : Int) := of_decide_eq_true (by assumption)
        have q113 : x5_1 < (l1.length : Int) := of_decide_eq_true (by assumption)
        obtain ⟨ad113, e113, hx113_0, hx113_1, hx113_2, hx113_3⟩ := at_T32 HR1.out x5_1 p113 q113
        cases e113
        replace p113 := eq_true p113
        replace q113 := eq_true q113
        go_wp2
        repeat (go_quiet (fail); try go_wp2)
        go_ret
        exact ⟨by first | rfl | (simp; done) | (simp [*]; done), by repeat (first | exact Drawn0.refl _ | apply Drawn0.step)⟩
      ·rw [if_neg c6] at H
       exact absurd H (by simp)
     ·rw [if_neg c5] at H
      exact absurd H (by simp)
    ·rw [if_neg c4] at H
     have c4b0 : decide (x5_1 < (l0.length : Int)) = false := decide_eq_false c4
     clear c4
     obtain rfl := Option.some.inj H
     go_wp2
     repeat (go_quiet (fail); try go_wp2)
     go_ret
     exact ⟨by first | rfl | (simp; done) | (simp [*]; done), by repeat (first | exact Drawn0.refl _ | apply Drawn0.step)⟩
 ·rw [if_neg c3] at H
  have c3b0 : ((l0.length : Int) == (l1.length : Int)) = false := beq_eq_false_iff_ne.mpr c3
  have c3b1 : ((l0.length : Int) != (l1.length : Int)) = true := bne_iff_ne.mpr c3
  have c3b2 : (l0.length == l1.length) = false := by first | simpa using c3 | (simp at c3 ⊢; omega)
  obtain rfl := Option.some.inj H
  go_enter Tryz.func19, Tryz.ntmps19
  go_wp2
  repeat (go_quiet (fail); try go_wp2)
  go_ret
  exact ⟨by first | rfl | (simp; done) | (simp [*]; done), by repeat (first | exact Drawn0.refl _ | apply Drawn0.step)⟩
mutual
def cornucopiaref1_Less.l0 : Nat → ByteArray → ByteArray → Int → Option (Bool)
 | 0, _, _, _ => none
 | k + 1, x0, x1, x5 => if x5 < (x0.size : Int) then (cornucopiaref1_Less.j1 k x0 x1 x5 (decide (x5 < (x1.size : Int)))) else (cornucopiaref1_Less.j1 k x0 x1 x5 false)
def cornucopiaref1_Less.j1 : Nat → ByteArray → ByteArray → Int → Bool → Option (Bool)
 | 0, _, _, _, _ => none
 | k + 1, x0, x1, x5, x15 => if x15 = true then (if 0 ≤ x5 then (if x5 < (x0.size : Int) then (if x5 < (x1.size : Int) then (if (bt x0 x5) = (bt x1 x5) then (cornucopiaref1_Less.l0 k x0 x1 (wrap64 (x5 + 1))) else (some (decide ((bt x0 x5) < (bt x1 x5))))) else (none)) else (none)) else (none)) else (some (decide ((x0.size : Int) < (x1.size : Int))))
end
def cornucopiaref1_Less.f (k : Nat) (a0 : ByteArray) (a1 : ByteArray) : Option (Bool) := cornucopiaref1_Less.l0 k a0 a1 0
theorem cornucopiaref1_Less.calls (k : Nat) (a0 : ByteArray) (a1 : ByteArray) (r : Bool) (w : World) (h : cornucopiaref1_Less.f k a0 a1 = some r) :
  Calls Tryz.prog 102 #[.string a0, .string a1] w fun e w' => e = .returned (.bool r) ∧ Drawn0 w w' := by
 have H : (cornucopiaref1_Less.l0 k a0 a1 0) = some r := h
 clear h
 have H' := a_k H
 clear H
 go_enter Tryz.func102, Tryz.ntmps102
 go_wp2
 repeat (go_quiet (fail); try go_wp2)
 go_loopg [5] k (fun kq v5 w' => ∃ (x5_1 : Int), v5 = .int .i64 x5_1 ∧ Aside0 (cornucopiaref1_Less.l0 kq a0 a1 x5_1 = some r) ∧ Aside0 (kq ≤ k) ∧ Drawn0 w w')
 case atStart => exact ⟨(0), (by first | rfl | (simp; done) | (simp [*]; done)), H', ⟨Nat.le_refl _⟩, by repeat (first | exact Drawn0.refl _ | apply Drawn0.step)⟩
 case round =>
  clear H'
  try clear c1
  try clear p2
  obtain ⟨x5_1, rfl, HA, HK1, ⟨m1, rfl⟩⟩ := hrel
  cases gk with
  | zero => exact absurd HA.out (by simp [cornucopiaref1_Less.l0])
  | succ k1 =>
   have H := HA.out
   clear HA
   simp only [cornucopiaref1_Less.l0] at H
   have HC3 := a_k H
   clear H
   go_upto_region 2 with (fail)
   repeat (go_quiet (fail); go_upto_region 2 with (fail))
   go_cut [15] (fun v15 wc => ∃ (kq : Nat) (x15_2 : Bool), v15 = .bool x15_2 ∧ Aside0 (cornucopiaref1_Less.j1 kq a0 a1 x5_1 x15_2 = some r) ∧ Aside0 (kq ≤ k1) ∧ Drawn0 w wc)
   case first =>
    have H := HC3.out
    clear HC3
    by_cases c4 : x5_1 < (a0.size : Int)
    ·rw [if_pos c4] at H
     have c4b0 : decide (x5_1 < (a0.size : Int)) = true := decide_eq_true c4
     clear c4
     (first | rw [c4b0] | (simp only [i64_w, i32_w]; rw [c4b0]) | skip)
     have H' := a_k H
     clear H
     go_wp2
     repeat (go_quiet (fail); try go_wp2)
     go_meet
     case rel => exact ⟨_, (decide (x5_1 < (a1.size : Int))), (by first | rfl | (simp; done) | (simp [*]; done)), H', ⟨by have := HK1.out; first | omega | exact Nat.le_refl _⟩, by repeat (first | exact Drawn0.refl _ | apply Drawn0.step)⟩
    ·rw [if_neg c4] at H
     have c4b0 : decide (x5_1 < (a0.size : Int)) = false := decide_eq_false c4
     clear c4
     (first | rw [c4b0] | (simp only [i64_w, i32_w]; rw [c4b0]) | skip)
     have H' := a_k H
     clear H
     go_wp2
     repeat (go_quiet (fail); try go_wp2)
     go_meet
     case rel => exact ⟨_, (false), (by first | rfl | (simp; done) | (simp [*]; done)), H', ⟨by have := HK1.out; first | omega | exact Nat.le_refl _⟩, by repeat (first | exact Drawn0.refl _ | apply Drawn0.step)⟩
   case rest =>
    clear HC3
    try clear c1
    try clear p2
    try clear c4
    try clear c4b0
    try clear p2
    obtain ⟨kq, x15_2, rfl, HA, HJ2, ⟨mc2, rfl⟩⟩ := hcut
    cases kq with
    | zero => exact absurd HA.out (by simp [cornucopiaref1_Less.j1])
    | succ kj2 =>
     have H := HA.out
     clear HA
     simp only [cornucopiaref1_Less.j1] at H
     by_cases c5 : x15_2 = true
     ·subst c5
      have H1 : (if 0 ≤ x5_1 then (if x5_1 < (a0.size : Int) then (if x5_1 < (a1.size : Int) then (if (bt a0 x5_1) = (bt a1 x5_1) then (cornucopiaref1_Less.l0 kj2 a0 a1 (wrap64 (x5_1 + 1))) else (some (decide ((bt a0 x5_1) < (bt a1 x5_1))))) else (none)) else (none)) else (none)) = some r := by rw [if_pos rfl] at H; exact H
      clear H
      have H := H1
      clear H1
      by_cases c6 : 0 ≤ x5_1
      ·rw [if_pos c6] at H
       have c6b0 : decide (0 ≤ x5_1) = true := decide_eq_true c6
       clear c6
       by_cases c7 : x5_1 < (a0.size : Int)
       ·rw [if_pos c7] at H
        have c7b0 : decide (x5_1 < (a0.size : Int)) = true := decide_eq_true c7
        clear c7
        by_cases c9 : x5_1 < (a1.size : Int)
        ·rw [if_pos c9] at H
         have c9b0 : decide (x5_1 < (a1.size : Int)) = true := decide_eq_true c9
         clear c9
         by_cases c11 : (bt a0 x5_1) = (bt a1 x5_1)
         ·rw [if_pos c11] at H
          have c11b0 : ((bt a0 x5_1) == (bt a1 x5_1)) = true := beq_iff_eq.mpr c11
          have c11b1 : ((bt a0 x5_1) != (bt a1 x5_1)) = false := bne_eq_false_iff_eq.mpr c11
          clear c11
          have H' := a_k H
          clear H
          have p8 : 0 ≤ (x5_1 : Int) := of_decide_eq_true (by assumption)
          have q8 : x5_1 < (a0.size : Int) := of_decide_eq_true (by assumption)
          have hx8 := bt_at a0 x5_1
          replace p8 := eq_true p8
          replace q8 := eq_true q8
          have p10 : 0 ≤ (x5_1 : Int) := of_decide_eq_true (by assumption)
          have q10 : x5_1 < (a1.size : Int) := of_decide_eq_true (by assumption)
          have hx10 := bt_at a1 x5_1
          replace p10 := eq_true p10
          replace q10 := eq_true q10
          go_wp2
          repeat (go_quiet (fail); try go_wp2)
          go_roundg kj2
          case measure => have := HK1.out; have := HJ2.out; omega
          case rel => exact ⟨(wrap64 (x5_1 + 1)), (by first | rfl | (simp; done) | (simp [*]; done)), H', ⟨by have := HK1.out; have := HJ2.out; omega⟩, by repeat (first | exact Drawn0.refl _ | apply Drawn0.step)⟩
         ·rw [if_neg c11] at H
          have c11b0 : ((bt a0 x5_1) == (bt a1 x5_1)) = false := beq_eq_false_iff_ne.mpr c11
          have c11b1 : ((bt a0 x5_1) != (bt a1 x5_1)) = true := bne_iff_ne.mpr c11
          obtain rfl := Option.some.inj H
          have p8 : 0 ≤ (x5_1 : Int) := of_decide_eq_true (by assumption)
          have q8 : x5_1 < (a0.size : Int) := of_decide_eq_true (by assumption)
          have hx8 := bt_at a0 x5_1
          replace p8 := eq_true p8
          replace q8 := eq_true q8
          have p10 : 0 ≤ (x5_1 : Int) := of_decide_eq_true (by assumption)
          have q10 : x5_1 < (a1.size : Int) := of_decide_eq_true (by assumption)
          have hx10 := bt_at a1 x5_1
          replace p10 := eq_true p10
          replace q10 := eq_true q10
          have p12 : 0 ≤ (x5_1 : Int) := of_decide_eq_true (by assumption)
          have q12 : x5_1 < (a0.size : Int) := of_decide_eq_true (by assumption)
          have hx12 := bt_at a0 x5_1
          replace p12 := eq_true p12
          replace q12 := eq_true q12
          have p13 : 0 ≤ (x5_1 : Int) := of_decide_eq_true (by assumption)
          have q13 : x5_1 < (a1.size : Int) := of_decide_eq_true (by assumption)
          have hx13 := bt_at a1 x5_1
          replace p13 := eq_true p13
          replace q13 := eq_true q13
          go_wp2
          repeat (go_quiet (fail); try go_wp2)
          go_ret
          exact ⟨by first | rfl | (simp; done) | (simp [*]; done), by repeat (first | exact Drawn0.refl _ | apply Drawn0.step)⟩
        ·rw [if_neg c9] at H
         exact absurd H (by simp)
       ·rw [if_neg c7] at H
        exact absurd H (by simp)
      ·rw [if_neg c6] at H
       exact absurd H (by simp)
     ·replace c5 := Bool.eq_false_iff.mpr c5
      subst c5
      have H1 : (some (decide ((a0.size : Int) < (a1.size : Int)))) = some r := by rw [if_neg (show ¬ (false = true) by decide)] at H; exact H
      clear H
      have H := H1
      clear H1
      obtain rfl := Option.some.inj H
      go_wp2
      repeat (go_quiet (fail); try go_wp2)
      go_ret
      exact ⟨by first | rfl | (simp; done) | (simp [*]; done), by repeat (first | exact Drawn0.refl _ | apply Drawn0.step)⟩
end Go.Proofs.YtchgpcgolgcfdaaGreat.PNum
end
section
namespace Go.Proofs.YtchgpcgolgcfdaaGreat.PNum
open Go.RowKit Go.Proofs.YtchgpcgolgcfdaaGreatW.PrintWords Go.Proofs.YtchgpcgolgcfdaaGreatW.PrintLast Go.Proofs.YtchgpcgolgcfdaaGreatW.PrintMore
attribute [local go_sem] max2_int min2_int max_two min_two max_three min_three max_four min_four
set_option linter.unusedVariables false
set_option linter.unusedSimpArgs false
set_option maxRecDepth 100000
set_option maxHeartbeats 16000000
def cornucopiabook_LentEntries.f (l0 : List (S32)) : Option ((List (S32))) := if ([] : List (S32)).length + l0.length < 2932031007402 then ((some (([] : List (S32)) ++ l0 : List (S32))).bind fun y383 => (if y383.length < 2932031007402 then ((some (y383 ++ [(⟨(⟨#[109, 97, 114, 107]⟩ : ByteArray), 0, 0, (⟨#[]⟩ : ByteArray)⟩ : S32)] : List (S32))).bind fun y386 => (if 0 ≤ (l0.length : Int) then (if (l0.length : Int) ≤ (y386.length : Int) then (some (y386.take ((l0.length : Int) : Int).toNat)) else (none)) else (none))) else (none))) else (none)
theorem cornucopiabook_LentEntries.calls (A0 : Option Addr) (c0 : Nat) (l0 : List (S32)) (r : List (S32)) (w : World) (hr0 : Kd.C k32 w A0 l0.length l0) (hc0 : l0.length ≤ c0) (h : cornucopiabook_LentEntries.f l0 = some r) :
  Calls Tryz.prog 32 #[.slice A0 l0.length c0] w fun e w' => ∃ v0_ : Value, e = .returned (v0_) ∧ Lent.RM k32 (⟨(⟨#[109, 97, 114, 107]⟩ : ByteArray), (0 : Int), (0 : Int), (⟨#[]⟩ : ByteArray)⟩ : S32) 32 w' w.heap.size (fun _ => True) v0_ r ∧ Below w.heap.size w w' := by
 have hu32 := Tryz.underlying32
 have HR0 := a_k hr0
 have HC0 := a_k hc0
 clear hr0 hc0
 have HB := a_k (Below.refl w.heap.size w)
 have H : (if ([] : List (S32)).length + l0.length < 2932031007402 then ((some (([] : List (S32)) ++ l0 : List (S32))).bind fun y383 => (if y383.length < 2932031007402 then ((some (y383 ++ [(⟨(⟨#[109, 97, 114, 107]⟩ : ByteArray), 0, 0, (⟨#[]⟩ : ByteArray)⟩ : S32)] : List (S32))).bind fun y386 => (if 0 ≤ (l0.length : Int) then (if (l0.length : Int) ≤ (y386.length : Int) then (some (y386.take ((l0.length : Int) : Int).toNat)) else (none)) else (none))) else (none))) else (none)) = some r := h
 clear h
 by_cases c2 : ([] : List (S32)).length + l0.length < 2932031007402
 ·rw [if_pos c2] at H
  have LMc2 := a_k c2
  clear c2
  obtain ⟨y383, hy383⟩ : ∃ y_ : List (S32), y_ = (([] : List (S32)) ++ l0) := ⟨_, rfl⟩
  replace H : (if y383.length < 2932031007402 then ((some (y383 ++ [(⟨(⟨#[109, 97, 114, 107]⟩ : ByteArray), 0, 0, (⟨#[]⟩ : ByteArray)⟩ : S32)] : List (S32))).bind fun y386 => (if 0 ≤ (l0.length : Int) then (if (l0.length : Int) ≤ (y386.length : Int) then (some (y386.take ((l0.length : Int) : Int).toNat)) else (none)) else (none))) else (none)) = some r := by first | (rw [hy383]; with_reducible exact H) | (have H2_ := (Option.bind_some _ _).symm.trans H; rw [hy383]; with_reducible exact H2_) | (have H2_ := (Option.bind_some _ _).symm.trans H; with_reducible exact H2_) | with_reducible exact H | (rw [hy383]; exact H) | exact H
  have Ny383 := a_k hy383
  clear hy383
  by_cases c3 : y383.length < 2932031007402
  ·rw [if_pos c3] at H
   have LMc3 := a_k c3
   clear c3
   obtain ⟨y386, hy386⟩ : ∃ y_ : List (S32), y_ = (y383 ++ [(⟨(⟨#[109, 97, 114, 107]⟩ : ByteArray), 0, 0, (⟨#[]⟩ : ByteArray)⟩ : S32)]) := ⟨_, rfl⟩
   replace H : (if 0 ≤ (l0.length : Int) then (if (l0.length : Int) ≤ (y386.length : Int) then (some (y386.take ((l0.length : Int) : Int).toNat)) else (none)) else (none)) = some r := by first | (rw [hy386]; with_reducible exact H) | (have H2_ := (Option.bind_some _ _).symm.trans H; rw [hy386]; with_reducible exact H2_) | (have H2_ := (Option.bind_some _ _).symm.trans H; with_reducible exact H2_) | with_reducible exact H | (rw [hy386]; exact H) | exact H
   have Ny386 := a_k hy386
   clear hy386
   by_cases c4 : 0 ≤ (l0.length : Int)
   ·rw [if_pos c4] at H
    have c4b0 := eq_true c4
    have c4b1 : decide (0 ≤ (l0.length : Int)) = true := decide_eq_true c4
    clear c4
    by_cases c5 : (l0.length : Int) ≤ (y386.length : Int)
    ·rw [if_pos c5] at H
     have c5b0 := eq_true c5
     have c5b1 : decide ((l0.length : Int) ≤ (y386.length : Int)) = true := decide_eq_true c5
     clear c5
     obtain ⟨y389, hy389⟩ : ∃ y_ : List (S32), y_ = (y386.take ((l0.length : Int) : Int).toNat) := ⟨_, rfl⟩
     replace H : (some y389) = some r := by first | (rw [hy389]; with_reducible exact H) | (have H2_ := (Option.bind_some _ _).symm.trans H; rw [hy389]; with_reducible exact H2_) | (have H2_ := (Option.bind_some _ _).symm.trans H; with_reducible exact H2_) | with_reducible exact H | (rw [hy389]; exact H) | exact H
     have Ny389 := a_k hy389
     clear hy389
     obtain rfl := Option.some.inj H
     go_enter Tryz.func32, Tryz.ntmps32
     go_wp2_with (first | ((with_reducible refine gate_builtin (b := .append) (xs := #[.const (.slice none 0 0), .tmp 3]) rfl ?_); at_builtin; refine Kd.R_append_rows k32 (w0 := w) w.heap.size rfl (.const (.slice none 0 0)) (.tmp 3) 22 32 (.agg #[(.string ⟨#[]⟩), (.int .u64 0), (.int .i64 0), (.string ⟨#[]⟩)]) 48 rfl Tryz.underlying22 info32 rfl (by decide) (by omega) (.slice none 0 0) ([] : List (S32)) l0 _ _ _ (fun _ => True) (fun _ => False) rfl rfl ?aO ?aR (fun _ _ h => h) (fun _ h => h.elim) ?aF ?aB ?aS ?aL ?_; (case aR => repeat (first | exact HR0.out | (with_reducible refine Kd.C_alloc ?_ _) | (with_reducible refine Kd.C_drewN ?_ _) | (with_reducible refine Kd.C_drew ?_))); (case aB => exact (by repeat (first | exact HB.out | apply b_a | apply b_n | apply b_d))); (case aF => exact (fun _ _ => trivial)); (case aO => exact ((Kd.R_nil _ _ _ _ (fun _ => True)))); (case aS => exact (below_size (by repeat (first | exact HB.out | apply b_a | apply b_n | apply b_d)))); (case aL => have := LMc2.out; omega); intro v384 w6 ho hb hg hat; rw [← Ny383.out] at ho; have n0_ := a_k (hb); have n1_ := a_k (ho); clear HB; have HB := n0_; have HO385 := n1_; clear n0_ n1_; clear ho hb hg hat) | ((with_reducible refine gate_builtin (b := .append) (xs := #[.tmp 4, .tmp 6]) rfl ?_); at_builtin; refine Kd.R_append k32 (w0 := w) w.heap.size rfl (.tmp 4) (.tmp 6) 22 32 (.agg #[(.string ⟨#[]⟩), (.int .u64 0), (.int .i64 0), (.string ⟨#[]⟩)]) 48 rfl Tryz.underlying22 info32 rfl (by decide) (by omega) v384 y383 (⟨(⟨#[109, 97, 114, 107]⟩ : ByteArray), 0, 0, (⟨#[]⟩ : ByteArray)⟩ : S32) [.string (⟨#[109, 97, 114, 107]⟩ : ByteArray), .int .u64 0, .int .i64 0, .string (⟨#[]⟩ : ByteArray)] (fun _ => True) (fun _ => False) rfl rfl ?aP (fun _ hk => hk.elim) ?aF ?aO ?aB ?aS ?aL ?_; (case aP => exact k32_mkM _ _ _ (⟨(⟨#[109, 97, 114, 107]⟩ : ByteArray), 0, 0, (⟨#[]⟩ : ByteArray)⟩ : S32)); (case aB => exact (by repeat (first | exact HB.out | apply b_a | apply b_n | apply b_d))); (case aF => exact (fun _ _ => trivial)); (case aO => exact (by (with_reducible repeat (first | apply Kd.R_alloc | apply Kd.R_drewN | apply Kd.R_drew)); exact HO385.out)); (case aS => exact (below_size (by repeat (first | exact HB.out | apply b_a | apply b_n | apply b_d)))); (case aL => have := LMc3.out; omega); intro v387 w7 ho hb hg hat; rw [← Ny386.out] at ho; have n0_ := a_k (hb); have n1_ := a_k (ho); clear HB; clear HO385; have HB := n0_; have HO388 := n1_; clear n0_ n1_; clear ho hb hg hat; obtain ⟨Ao8, co8, eo8⟩ := Kd.R_slice HO388.out; subst eo8; have q9 : ((l0.length : Int) : Int) ≤ ((y386.length : Int) : Int) := of_decide_eq_true (by assumption); obtain ⟨i09, hi09, _, hsz9, _⟩ := info_parts info32; have hcut9 := cut_to (P := Tryz.prog) 22 32 .i64 Tryz.underlying22 hi09 Ao8 y386.length co8 (l0.length : Int) (of_decide_eq_true (by assumption)) q9 (Kd.R_reads' HO388.out).2.1; have hr9 := Kd.R_take (m := ((l0.length : Int) : Int).toNat) HO388.out (by omega); have hy9 : y389.length = ((l0.length : Int) : Int).toNat := (by rw [Ny389.out, List.length_take]; omega); rw [← Ny389.out] at hr9; rw [← hy9] at hr9 hcut9; clear hy9 hi09 hsz9; have HO391 := a_k hr9; clear hr9; replace q9 := eq_true q9))
     go_ret
     have hyy : y386 = y389 ++ [(⟨(⟨#[109, 97, 114, 107]⟩ : ByteArray), (0 : Int), (0 : Int), (⟨#[]⟩ : ByteArray)⟩ : S32)] := by
      have h1 := Ny386.out
      have h2 := Ny389.out
      have h3 := Ny383.out
      rw [h2, h1, h3]
      simp
     refine ⟨_, by first | rfl | (simp [*, errW_none, errW_some] <;> rfl), ⟨Ao8, co8, rfl, ?_⟩, by repeat (first | exact HB.out | apply b_a | apply b_n | apply b_d)⟩
     have hlong : Kd.R k32 32 _ w.heap.size (fun _ => True) (.slice Ao8 y386.length co8) y386 := HO388.out
     rw [hyy, List.length_append] at hlong
     (with_reducible repeat (first | apply Kd.R_alloc | apply Kd.R_drewN | apply Kd.R_drew))
     exact hlong
    ·rw [if_neg c5] at H
     exact absurd H (by simp)
   ·rw [if_neg c4] at H
    exact absurd H (by simp)
  ·rw [if_neg c3] at H
   exact absurd H (by simp)
 ·rw [if_neg c2] at H
  exact absurd H (by simp)
def cornucopiabook_StaysEntries.f (k : Nat) (l0 l1 : List S32) : Option Bool := if l0.length < 2932031007401 then cornucopiabook_SameEntries.f k l0 l1 else none
theorem cornucopiabook_StaysEntries.calls (k : Nat) (A0 : Option Addr) (c0 : Nat) (l0 : List S32) (A1 : Option Addr) (c1 : Nat) (l1 : List S32) (r : Bool) (w : World) (hr0 : Lent.CM k32 (⟨(⟨#[109, 97, 114, 107]⟩ : ByteArray), (0 : Int), (0 : Int), (⟨#[]⟩ : ByteArray)⟩ : S32) w A0 l0.length l0) (hc0 : l0.length + 1 ≤ c0) (hr1 : Kd.C k32 w A1 l1.length l1) (hc1 : l1.length ≤ c1) (h : cornucopiabook_StaysEntries.f k l0 l1 = some r) :
  Calls Tryz.prog 41 #[.slice A0 l0.length c0, .slice A1 l1.length c1] w fun e w' => e = .returned (.bool r) ∧ Drawn0 w w' := by
 have HR0 := a_k hr0
 have HC0 := a_k hc0
 have HR1 := a_k hr1
 have HC1 := a_k hc1
 clear hr0 hc0 hr1 hc1
 unfold cornucopiabook_StaysEntries.f at h
 split at h
 ·rename_i hl
  have HL := a_k hl
  have HA := a_k h
  clear h hl
  have hw : wrap64 ((l0.length : Int) + 1) = (((l0.length + 1 : Nat)) : Int) := by have := HL.out; unfold wrap64; omega
  have hw2 : IntKind.i64.wrap ((l0.length : Int) + 1) = (((l0.length + 1 : Nat)) : Int) := (i64_w _).trans hw
  have hle : (l0.length : Int) + 1 ≤ (c0 : Int) := by have := HC0.out; omega
  have hle2 : decide ((l0.length : Int) + 1 ≤ (c0 : Int)) = true := decide_eq_true hle
  have hge : (0 : Int) ≤ (l0.length : Int) + 1 := by omega
  obtain ⟨ad, e0, hx, hx1, hx2, hx3⟩ := at_T32 HR0.out.1 (l0.length : Int) (by omega) (by omega)
  subst e0
  have hmk : rd_T32 (l0 ++ [(⟨(⟨#[109, 97, 114, 107]⟩ : ByteArray), (0 : Int), (0 : Int), (⟨#[]⟩ : ByteArray)⟩ : S32)]) (l0.length : Int) = (⟨(⟨#[109, 97, 114, 107]⟩ : ByteArray), (0 : Int), (0 : Int), (⟨#[]⟩ : ByteArray)⟩ : S32) := by simp [rd_T32]
  rw [hmk] at hx hx1 hx2 hx3
  simp only [Int.toNat_natCast] at hx hx1 hx2 hx3
  have hlt : decide ((l0.length : Int) < ((l0.length + 1 : Nat) : Int)) = true := decide_eq_true (by omega)
  go_enter Tryz.func41, Tryz.ntmps41
  cases r
  ·go_wp2_with (go_at_call 19; refine (cornucopiabook_SameEntries.calls k _ _ l0 _ _ l1 false _ HR0.out.2 (by have := HC0.out; omega) HR1.out HC1.out HA.out).mono ?_; rintro e w' ⟨rfl, ⟨nd, rfl⟩⟩)
   go_ret
   exact ⟨by first | rfl | (simp; done) | (simp [*]; done), by repeat (first | exact Drawn0.refl _ | apply Drawn0.step)⟩
  ·go_wp2_with (go_at_call 19; refine (cornucopiabook_SameEntries.calls k _ _ l0 _ _ l1 true _ HR0.out.2 (by have := HC0.out; omega) HR1.out HC1.out HA.out).mono ?_; rintro e w' ⟨rfl, ⟨nd, rfl⟩⟩)
   go_ret
   exact ⟨by first | rfl | (simp; done) | (simp [*]; done), by repeat (first | exact Drawn0.refl _ | apply Drawn0.step)⟩
 ·cases h
def block_Shared.l0 : Nat → ByteArray → ByteArray → Int → Option (Int)
 | 0, _, _, _ => none
 | k + 1, x0, x1, x5 => if x5 < (x0.size : Int) then (if x5 < (x1.size : Int) then (if 0 ≤ x5 then (if (bt x0 x5) = (bt x1 x5) then (block_Shared.l0 k x0 x1 (wrap64 (x5 + 1))) else (some x5)) else (none)) else (some x5)) else (some x5)
def block_Shared.f (k : Nat) (a0 : ByteArray) (a1 : ByteArray) : Option (Int) := block_Shared.l0 k a0 a1 0
theorem block_Shared.calls (k : Nat) (a0 : ByteArray) (a1 : ByteArray) (r : Int) (w : World) (h : block_Shared.f k a0 a1 = some r) :
  Calls Tryz.prog 80 #[.string a0, .string a1] w fun e w' => e = .returned (.int .i64 r) ∧ Drawn0 w w' := by
 have H : (block_Shared.l0 k a0 a1 0) = some r := h
 clear h
 have H' := a_k H
 clear H
 go_enter Tryz.func80, Tryz.ntmps80
 go_wp2
 repeat (go_quiet (fail); try go_wp2)
 go_loopg [5] k (fun kq v5 w' => ∃ (x5_1 : Int), v5 = .int .i64 x5_1 ∧ Aside0 (block_Shared.l0 kq a0 a1 x5_1 = some r) ∧ Aside0 (kq ≤ k) ∧ Drawn0 w w')
 case atStart => exact ⟨(0), (by first | rfl | (simp; done) | (simp [*]; done)), H', ⟨Nat.le_refl _⟩, by repeat (first | exact Drawn0.refl _ | apply Drawn0.step)⟩
 case round =>
  clear H'
  try clear p2
  obtain ⟨x5_1, rfl, HA, HK1, ⟨m1, rfl⟩⟩ := hrel
  cases gk with
  | zero => exact absurd HA.out (by simp [block_Shared.l0])
  | succ k1 =>
   have H := HA.out
   clear HA
   simp only [block_Shared.l0] at H
   by_cases c3 : x5_1 < (a0.size : Int)
   ·rw [if_pos c3] at H
    have c3b0 : decide (x5_1 < (a0.size : Int)) = true := decide_eq_true c3
    clear c3
    by_cases c4 : x5_1 < (a1.size : Int)
    ·rw [if_pos c4] at H
     have c4b0 : decide (x5_1 < (a1.size : Int)) = true := decide_eq_true c4
     clear c4
     by_cases c5 : 0 ≤ x5_1
     ·rw [if_pos c5] at H
      have c5b0 : decide (0 ≤ x5_1) = true := decide_eq_true c5
      clear c5
      by_cases c8 : (bt a0 x5_1) = (bt a1 x5_1)
      ·rw [if_pos c8] at H
       have c8b0 : ((bt a0 x5_1) == (bt a1 x5_1)) = true := beq_iff_eq.mpr c8
       have c8b1 : ((bt a0 x5_1) != (bt a1 x5_1)) = false := bne_eq_false_iff_eq.mpr c8
       clear c8
       have H' := a_k H
       clear H
       have p6 : 0 ≤ (x5_1 : Int) := of_decide_eq_true (by assumption)
       have q6 : x5_1 < (a0.size : Int) := of_decide_eq_true (by assumption)
       have hx6 := bt_at a0 x5_1
       replace p6 := eq_true p6
       replace q6 := eq_true q6
       have p7 : 0 ≤ (x5_1 : Int) := of_decide_eq_true (by assumption)
       have q7 : x5_1 < (a1.size : Int) := of_decide_eq_true (by assumption)
       have hx7 := bt_at a1 x5_1
       replace p7 := eq_true p7
       replace q7 := eq_true q7
       go_wp2
       repeat (go_quiet (fail); try go_wp2)
       go_roundg k1
       case measure => have := HK1.out; omega
       case rel => exact ⟨(wrap64 (x5_1 + 1)), (by first | rfl | (simp; done) | (simp [*]; done)), H', ⟨by have := HK1.out; omega⟩, by repeat (first | exact Drawn0.refl _ | apply Drawn0.step)⟩
      ·rw [if_neg c8] at H
       have c8b0 : ((bt a0 x5_1) == (bt a1 x5_1)) = false := beq_eq_false_iff_ne.mpr c8
       have c8b1 : ((bt a0 x5_1) != (bt a1 x5_1)) = true := bne_iff_ne.mpr c8
       obtain rfl := Option.some.inj H
       have p6 : 0 ≤ (x5_1 : Int) := of_decide_eq_true (by assumption)
       have q6 : x5_1 < (a0.size : Int) := of_decide_eq_true (by assumption)
       have hx6 := bt_at a0 x5_1
       replace p6 := eq_true p6
       replace q6 := eq_true q6
       have p7 : 0 ≤ (x5_1 : Int) := of_decide_eq_true (by assumption)
       have q7 : x5_1 < (a1.size : Int) := of_decide_eq_true (by assumption)
       have hx7 := bt_at a1 x5_1
       replace p7 := eq_true p7
       replace q7 := eq_true q7
       go_wp2
       repeat (go_quiet (fail); try go_wp2)
       go_ret
       exact ⟨by first | rfl | (simp; done) | (simp [*]; done), by repeat (first | exact Drawn0.refl _ | apply Drawn0.step)⟩
     ·rw [if_neg c5] at H
      exact absurd H (by simp)
    ·rw [if_neg c4] at H
     have c4b0 : decide (x5_1 < (a1.size : Int)) = false := decide_eq_false c4
     clear c4
     obtain rfl := Option.some.inj H
     go_wp2
     repeat (go_quiet (fail); try go_wp2)
     go_ret
     exact ⟨by first | rfl | (simp; done) | (simp [*]; done), by repeat (first | exact Drawn0.refl _ | apply Drawn0.step)⟩
   ·rw [if_neg c3] at H
    have c3b0 : decide (x5_1 < (a0.size : Int)) = false := decide_eq_false c3
    clear c3
    obtain rfl := Option.some.inj H
    go_wp2
    repeat (go_quiet (fail); try go_wp2)
    go_ret
    exact ⟨by first | rfl | (simp; done) | (simp [*]; done), by repeat (first | exact Drawn0.refl _ | apply Drawn0.step)⟩
mutual
def num_Var.l0 : Nat → List Int → List Int → Int → Int → Option (ByteArray)
 | 0, _, _, _, _ => none
 | k + 1, x3, x6, x7, x8 => if x8 < x7 then (if 0 ≤ x8 then (if x8 < (x6.length : Int) then (num_Var.l1 k x3 (rd x6 x8) x6 x7 x8) else (none)) else (none)) else (some (strOfNums x3))
def num_Var.l1 : Nat → List Int → Int → List Int → Int → Int → Option (ByteArray)
 | 0, _, _, _, _, _ => none
 | k + 1, x3, x5, x6, x7, x8 => if x5 ≥ 128 then (if x3.length < 140737488355328 then (num_Var.l1 k (x3 ++ [Go.bits .or .u8 ((x5) % 256) 128]) (x5 / 128) x6 x7 x8) else (none)) else (if x3.length < 140737488355328 then (num_Var.l0 k (x3 ++ [(x5) % 256]) x6 x7 (wrap64 (x8 + 1))) else (none))
end
def num_Var.f (k : Nat) (l0 : List Int) : Option (ByteArray) := num_Var.l0 k ([] : List Int) l0 (l0.length : Int) 0
theorem num_Var.calls (k : Nat) (A0 : Option Addr) (c0 : Nat) (l0 : List Int) (r : ByteArray) (w : World) (hr0 : Kd.C (Kd.int .u64) w A0 l0.length l0) (hc0 : l0.length ≤ c0) (h : num_Var.f k l0 = some r) :
  Calls Tryz.prog 165 #[.slice A0 l0.length c0] w fun e w' => e = .returned (.string r) ∧ Below w.heap.size w w' := by
 have HR0 := a_k hr0
 have HC0 := a_k hc0
 clear hr0 hc0
 have HB := a_k (Below.refl w.heap.size w)
 have H : (num_Var.l0 k ([] : List Int) l0 (l0.length : Int) 0) = some r := h
 clear h
 have H' := a_k H
 clear H
 go_enter Tryz.func165, Tryz.ntmps165
 go_wp2
 go_loopg [3, 8] k (fun kq v3 v8 w' => ∃ (x3_1 : List Int) (x8_1 : Int), v8 = .int .i64 x8_1 ∧ Aside0 (num_Var.l0 kq x3_1 l0 (l0.length : Int) x8_1 = some r) ∧ Aside0 (kq ≤ k) ∧ Aside0 (Kd.R (Kd.int .u8) 5 w' w.heap.size (fun _ => True) v3 x3_1) ∧ Aside0 (Below w.heap.size w w'))
 case atStart => exact ⟨(([] : List Int)), (0), (by first | rfl | (simp; done) | (simp [*]; done)), H', ⟨Nat.le_refl _⟩, ⟨by first | exact Kd.R_nil _ _ _ _ _ | exact Kd.N_nil _ _ _ _ _ | exact Kd.V_nil _ _ _ _ _ | exact Kd.Q_nil _ _ _ _ _ | exact Kd.S_nil _ _ _ _ _⟩, ⟨by repeat (first | exact HB.out | apply b_a | apply b_n | apply b_d)⟩⟩
 case round =>
  clear H'
  try clear c1
  obtain ⟨x3_1, x8_1, rfl, HA, HK1, HO_3, HB⟩ := hrel
  cases gk with
  | zero => exact absurd HA.out (by simp [num_Var.l0])
  | succ k1 =>
   have H := HA.out
   clear HA
   simp only [num_Var.l0] at H
   by_cases c2 : x8_1 < (l0.length : Int)
   ·rw [if_pos c2] at H
    have c2b0 : decide (x8_1 < (l0.length : Int)) = true := decide_eq_true c2
    clear c2
    by_cases c3 : 0 ≤ x8_1
    ·rw [if_pos c3] at H
     have c3b0 : decide (0 ≤ x8_1) = true := decide_eq_true c3
     clear c3
     by_cases c4 : x8_1 < (l0.length : Int)
     ·rw [if_pos c4] at H
      have c4b0 : decide (x8_1 < (l0.length : Int)) = true := decide_eq_true c4
      clear c4
      have H' := a_k H
      clear H
      have p264 : 0 ≤ (x8_1 : Int) := of_decide_eq_true (by assumption)
      have q264 : x8_1 < (l0.length : Int) := of_decide_eq_true (by assumption)
      obtain ⟨ad264, e264, hx264_0⟩ := Kd.at_int HR0.out x8_1 p264 q264
      cases e264
      replace hx264_0 := c_b HB.out hx264_0
      replace p264 := eq_true p264
      replace q264 := eq_true q264
      go_wp2
      go_loopg [3, 5] k1 (fun kq v3 v5 w' => ∃ (x3_2 : List Int) (x5_2 : Int), v5 = .int .u64 x5_2 ∧ Aside0 (num_Var.l1 kq x3_2 x5_2 l0 (l0.length : Int) x8_1 = some r) ∧ Aside0 (kq ≤ k1) ∧ Aside0 (Kd.R (Kd.int .u8) 5 w' w.heap.size (fun _ => True) v3 x3_2) ∧ Aside0 (Below w.heap.size w w'))
      case atStart => exact ⟨(x3_1), (rd l0 x8_1), (by first | rfl | (simp; done) | (simp [*]; done)), H', ⟨Nat.le_refl _⟩, ⟨by (with_reducible repeat (first | apply Kd.R_alloc | apply Kd.R_drewN | apply Kd.R_drew)); exact HO_3.out⟩, ⟨by repeat (first | exact HB.out | apply b_a | apply b_n | apply b_d)⟩⟩
      case round =>
       clear H'
       try clear c1
       try clear c2
       try clear c2b0
       try clear p2
       try clear q2
       try clear hx2
       try clear c3
       try clear c3b0
       try clear c4
       try clear c4b0
       try clear hx264_0
       try clear p264
       try clear q264
       obtain ⟨x3_2, x5_2, rfl, HA, HK2, HO_3, HB⟩ := hrel
       cases gk with
       | zero => exact absurd HA.out (by simp [num_Var.l1])
       | succ k2 =>
        have H := HA.out
        clear HA
        simp only [num_Var.l1] at H
        by_cases c5 : x5_2 ≥ 128
        ·rw [if_pos c5] at H
         have c5b0 : decide (128 ≤ x5_2) = true := decide_eq_true c5
         clear c5
         by_cases c6 : x3_2.length < 140737488355328
         ·rw [if_pos c6] at H
          have LMc6 := a_k c6
          clear c6
          obtain ⟨y265, hy265⟩ : ∃ y_ : List Int, y_ = (x3_2 ++ [Go.bits .or .u8 ((x5_2) % 256) 128]) := ⟨_, rfl⟩
          replace H : (num_Var.l1 k2 y265 (x5_2 / 128) l0 (l0.length : Int) x8_1) = some r := by first | (rw [hy265]; with_reducible exact H) | (have H2_ := (Option.bind_some _ _).symm.trans H; rw [hy265]; with_reducible exact H2_) | (have H2_ := (Option.bind_some _ _).symm.trans H; with_reducible exact H2_) | with_reducible exact H | (rw [hy265]; exact H) | exact H
          have Ny265 := a_k hy265
          clear hy265
          have H' := a_k H
          clear H
          go_wp2_with (first | ((with_reducible refine gate_builtin (b := .append) (xs := #[.tmp 16, .tmp 20]) rfl ?_); at_builtin; refine Kd.R_append (Kd.int .u8) (w0 := w) w.heap.size rfl (.tmp 16) (.tmp 20) 219 5 (.int .u8 0) 1 rfl Tryz.underlying219 info5 rfl (by decide) (by omega) u3 x3_2 (Go.bits .or .u8 ((x5_2) % 256) 128) [.int .u8 (Go.bits .or .u8 ((x5_2) % 256) 128)] (fun _ => True) (fun _ => False) rfl rfl ?aP (fun _ hk => hk.elim) ?aF ?aO ?aB ?aS ?aL ?_; (case aP => exact rfl); (case aB => exact (by repeat (first | exact HB.out | apply b_a | apply b_n | apply b_d))); (case aF => exact (fun _ _ => trivial)); (case aO => exact (by (with_reducible repeat (first | apply Kd.R_alloc | apply Kd.R_drewN | apply Kd.R_drew)); exact HO_3.out)); (case aS => exact (below_size (by repeat (first | exact HB.out | apply b_a | apply b_n | apply b_d)))); (case aL => have := LMc6.out; omega); intro v266 w7 ho hb hg hat; rw [← Ny265.out] at ho; have n0_ := a_k (hb); have n1_ := a_k (ho); clear HB; clear HO_3; have HB := n0_; have HO267 := n1_; clear n0_ n1_; clear ho hb hg hat))
          go_roundg k2
          case measure => have := HK1.out; have := HK2.out; omega
          case rel => exact ⟨(y265), (x5_2 / 128), (by first | rfl | (simp; done) | (simp [*]; done)), H', ⟨by have := HK1.out; have := HK2.out; omega⟩, ⟨by (with_reducible repeat (first | apply Kd.R_alloc | apply Kd.R_drewN | apply Kd.R_drew)); exact HO267.out⟩, ⟨by repeat (first | exact HB.out | apply b_a | apply b_n | apply b_d)⟩⟩
         ·rw [if_neg c6] at H
          exact absurd H (by simp)
        ·rw [if_neg c5] at H
         have c5b0 : decide (128 ≤ x5_2) = false := decide_eq_false c5
         clear c5
         by_cases c8 : x3_2.length < 140737488355328
         ·rw [if_pos c8] at H
          have LMc8 := a_k c8
          clear c8
          obtain ⟨y268, hy268⟩ : ∃ y_ : List Int, y_ = (x3_2 ++ [(x5_2) % 256]) := ⟨_, rfl⟩
          replace H : (num_Var.l0 k2 y268 l0 (l0.length : Int) (wrap64 (x8_1 + 1))) = some r := by first | (rw [hy268]; with_reducible exact H) | (have H2_ := (Option.bind_some _ _).symm.trans H; rw [hy268]; with_reducible exact H2_) | (have H2_ := (Option.bind_some _ _).symm.trans H; with_reducible exact H2_) | with_reducible exact H | (rw [hy268]; exact H) | exact H
          have Ny268 := a_k hy268
          clear hy268
          have H' := a_k H
          clear H
          go_wp2_with (first | ((with_reducible refine gate_builtin (b := .append) (xs := #[.tmp 22, .tmp 25]) rfl ?_); at_builtin; refine Kd.R_append (Kd.int .u8) (w0 := w) w.heap.size rfl (.tmp 22) (.tmp 25) 219 5 (.int .u8 0) 1 rfl Tryz.underlying219 info5 rfl (by decide) (by omega) u3 x3_2 ((x5_2) % 256) [.int .u8 ((x5_2) % 256)] (fun _ => True) (fun _ => False) rfl rfl ?aP (fun _ hk => hk.elim) ?aF ?aO ?aB ?aS ?aL ?_; (case aP => exact rfl); (case aB => exact (by repeat (first | exact HB.out | apply b_a | apply b_n | apply b_d))); (case aF => exact (fun _ _ => trivial)); (case aO => exact (by (with_reducible repeat (first | apply Kd.R_alloc | apply Kd.R_drewN | apply Kd.R_drew)); exact HO_3.out)); (case aS => exact (below_size (by repeat (first | exact HB.out | apply b_a | apply b_n | apply b_d)))); (case aL => have := LMc8.out; omega); intro v269 w9 ho hb hg hat; rw [← Ny268.out] at ho; have n0_ := a_k (hb); have n1_ := a_k (ho); clear HB; clear HO_3; have HB := n0_; have HO270 := n1_; clear n0_ n1_; clear ho hb hg hat))
          go_roundg k2
          case measure => have := HK1.out; have := HK2.out; omega
          case rel => exact ⟨(y268), (wrap64 (x8_1 + 1)), (by first | rfl | (simp; done) | (simp [*]; done)), H', ⟨by have := HK1.out; have := HK2.out; omega⟩, ⟨by (with_reducible repeat (first | apply Kd.R_alloc | apply Kd.R_drewN | apply Kd.R_drew)); exact HO270.out⟩, ⟨by repeat (first | exact HB.out | apply b_a | apply b_n | apply b_d)⟩⟩
         ·rw [if_neg c8] at H
          exact absurd H (by simp)
     ·rw [if_neg c4] at H
      exact absurd H (by simp)
    ·rw [if_neg c3] at H
     exact absurd H (by simp)
   ·rw [if_neg c2] at H
    have c2b0 : decide (x8_1 < (l0.length : Int)) = false := decide_eq_false c2
    clear c2
    obtain rfl := Option.some.inj H
    have hcv10 := own_string (P := Tryz.prog) Tryz.underlying219 Tryz.underlying5 Tryz.underlying9 (Kd.own_of_R HO_3.out)
    go_wp2
    go_ret
    exact ⟨by first | rfl | (simp [*, errW_none, errW_some] <;> rfl), by repeat (first | exact HB.out | apply b_a | apply b_n | apply b_d)⟩
def num_Text.go (k : Nat) : List ByteArray → ByteArray → Option ByteArray
 | [], acc => some acc
 | s :: l, acc => (num_Var.f k [(s.size : Int)]).bind fun v => if acc.size + (v.size + s.size) ≤ 140737488355328 then num_Text.go k l (acc ++ (v ++ s)) else none
def num_Text.f (k : Nat) (l0 : List ByteArray) : Option ByteArray := if (∀ s ∈ l0, s.size ≤ 140737488355328) then num_Text.go k l0 ⟨#[]⟩ else none
theorem num_Text.calls (k : Nat) (A0 : Option Addr) (c0 : Nat) (l0 : List ByteArray) (r : ByteArray) (w : World) (hr0 : Kd.C Kd.string w A0 l0.length l0) (hc0 : l0.length ≤ c0) (h : num_Text.f k l0 = some r) :
  Calls Tryz.prog 164 #[.slice A0 l0.length c0] w fun e w' => e = .returned (.string r) ∧ Below w.heap.size w w' := by
 have HR := a_k hr0
 have hlen : l0.length ≤ 9223372036854775807 := hr0.2.1
 unfold num_Text.f at h
 by_cases hs0 : ∀ s ∈ l0, s.size ≤ 140737488355328
 ·rw [if_pos hs0] at h
  have HS := a_k hs0
  have H := a_k h
  clear h hs0 hr0 hc0
  go_enter Tryz.func164, Tryz.ntmps164
  go_wp2
  go_loopw [5, 8] (fun v5 v8 w' => ∃ (j : Nat) (acc : ByteArray), j ≤ l0.length ∧ v8 = .int .i64 j ∧ Aside0 (num_Text.go k (l0.drop j) acc = some r) ∧ Aside0 (Lib.IsBuilder 221 5 w.heap.size w.heap.size (Lib.strCells acc) w') ∧ Aside0 (Below w.heap.size w w')) (fun _ v8 _ => l0.length - (intOf v8).toNat)
  case atStart => exact ⟨0, ⟨#[]⟩, Nat.zero_le _, rfl, H, ⟨Lib.fresh_isBuilder _ _ w⟩, ⟨below_alloc (Below.refl _ _) _⟩⟩
  case round =>
   clear H
   obtain ⟨j, acc, hj, rfl, HA, HBd, HB⟩ := hrel
   by_cases hlt : j < l0.length
   ·have p0 : (0 : Int) ≤ (j : Int) := Int.natCast_nonneg _
    have q0 : (j : Int) < (l0.length : Int) := Int.ofNat_lt.mpr hlt
    obtain ⟨ad, e0, hx⟩ := Kd.at_string HR.out (j : Int) p0 q0
    cases e0
    have hx' := c_b HB.out hx
    clear hx
    simp only [Int.toNat_natCast] at hx'
    have hgen : ∃ s, s = rdOf ByteArray.empty l0 (j : Int) := ⟨_, rfl⟩
    obtain ⟨s, hs⟩ := hgen
    rw [← hs] at hx'
    have hmem : l0[j]? = some s := by rw [hs]; simp [rdOf, List.getElem?_eq_getElem hlt]
    have hsz : s.size ≤ 140737488355328 := HS.out s (List.mem_of_getElem? hmem)
    have hd : l0.drop j = s :: l0.drop (j + 1) := by
     rw [List.drop_eq_getElem_cons hlt]; congr 1; rw [List.getElem?_eq_getElem hlt] at hmem; exact Option.some.inj hmem
    have hA := HA.out
    rw [hd] at hA
    simp only [num_Text.go] at hA
    obtain ⟨v, hv, hA⟩ := Option.bind_eq_some_iff.1 hA
    by_cases hlim : acc.size + (v.size + s.size) ≤ 140737488355328
    ·rw [if_pos hlim] at hA
     have HV := a_k hv
     have HN := a_k hA
     have HL := a_k hlim
     have t0 : decide ((j : Int) < (l0.length : Int)) = true := decide_eq_true q0
     have f1 := eq_true (show v.size + s.size ≤ 9223372036854775807 by omega)
     have f2 : (9223372036854775807 < v.size + s.size) = False := eq_false (by omega)
     clear hv hA hlim HA hd hmem hs
     go_wp2_with (first | ((with_reducible refine gate_dst (N := 15) rfl ?_); refine Kd.R_lit (Kd.int .u64) _ 25 ?hg (N := 15) ?hd (xs := ([(s.size : Int)] : List Int)) (inner := [.int .u64 (s.size : Int)]) (ok := fun _ => True) (okp := fun _ => True) ?hr ?hp (fun _ hk => hk) trivial (Below.refl _ _) (Nat.le_refl _) (by simp) ?_; (case hd => rfl); (case hg => rfl); (case hr => first | (go_simp; done) | (go_simp; rfl)); (case hp => exact (Reps.one (show Kd.M (Kd.int .u64) _ _ _ (s.size : Int) [.int .u64 (s.size : Int)] from rfl) (Reps.none _ _))); intro v9 w9 ho9 hb9 hg_ hnew_; clear hg_ hnew_; have HO9 := a_k ho9; have HB9 := a_k hb9; clear ho9 hb9; obtain ⟨Ao, co, eo⟩ := Kd.R_slice HO9.out; subst eo) | (go_at_call 165; refine (num_Var.calls k _ _ [(s.size : Int)] v _ (Kd.R_reads' HO9.out).2.2 (Kd.R_reads' HO9.out).2.1 HV.out).mono ?_; rintro e w10 ⟨rfl, hb10⟩; have HB10 := a_k hb10; clear hb10) | (go_at_call 185; refine (Bld.WriteString w.heap.size w.heap.size (Lib.strCells acc) (v ++ s) _ (Bld.is_below (Bld.is_below HBd.out HB9.out) HB10.out) (by rw [Lib.strCells_length, ByteArray.size_append]; exact HL.out) (below_size (below_step (below_step HB.out HB9.out) HB10.out))).mono ?_; rintro e w11 ⟨rfl, hbd, hb11⟩; have HD := a_k hbd; have HB11 := a_k hb11; clear hbd hb11))
     have hB' : Below w.heap.size w w11 := Below.trans (below_step (below_step HB.out HB9.out) HB10.out) HB11.out
     go_roundw
     case rel => exact ⟨j + 1, acc ++ (v ++ s), by omega, by go_num, HN, ⟨by have h := HD.out; rw [Bld.strCells_append] at h; exact .inr h⟩, ⟨hB'⟩⟩
     case measure => simp [intOf]; omega
    ·rw [if_neg hlim] at hA
     exact absurd hA (by simp)
   ·obtain rfl : j = l0.length := by omega
    have hA := HA.out
    rw [List.drop_length] at hA
    simp only [num_Text.go, Option.some.injEq] at hA
    subst hA
    clear HA
    have t0 : decide (((l0.length : Nat) : Int) < (l0.length : Int)) = false := decide_eq_false (by omega)
    go_wp2_with (go_at_call 189; refine (Bld.String_any w.heap.size w.heap.size acc _ HBd.out (below_size HB.out)).mono ?_; rintro e w11 ⟨rfl, hb11⟩; have HB11 := a_k hb11; clear hb11)
    go_ret
    exact ⟨rfl, Below.trans HB.out HB11.out⟩
 ·rw [if_neg hs0] at h
  cases h
mutual
def num_Fix.j0 : Nat → Int → Int → Bool → Option (ByteArray × Int)
 | 0, _, _, _ => none
 | k + 1, x0, x1, x24 => if x24 = true then (some ((⟨#[]⟩ : ByteArray), 1)) else (if 0 ≤ x1 then (if (x1 : Int).toNat ≤ 281474976710656 then ((some (List.replicate (x1 : Int).toNat 0 : List Int)).bind fun y288 => (num_Fix.l0 k x0 x1 y288 (y288.length : Int) 0)) else (none)) else (none))
def num_Fix.l0 : Nat → Int → Int → List Int → Int → Int → Option (ByteArray × Int)
 | 0, _, _, _, _, _ => none
 | k + 1, x0, x1, x6, x28, x29 => if x29 < x28 then (if 0 ≤ (wrap64 (8 * (wrap64 ((wrap64 (x1 - 1)) - x29)))) then (if 0 ≤ x29 then (if x29 < (x6.length : Int) then (num_Fix.l0 k x0 x1 (x6.set (x29 : Int).toNat ((shr .u64 x0 (wrap64 (8 * (wrap64 ((wrap64 (x1 - 1)) - x29))))) % 256)) x28 (wrap64 (x29 + 1))) else (none)) else (none)) else (none)) else (some (strOfNums x6, 0))
end
def num_Fix.f (k : Nat) (a0 : Int) (a1 : Int) : Option (ByteArray × Int) := if a1 < 1 then (num_Fix.j0 k a0 a1 true) else (if a1 > 8 then (num_Fix.j0 k a0 a1 true) else (if a1 < 8 then (if 0 ≤ (wrap64 (8 * a1)) then (num_Fix.j0 k a0 a1 ((shr .u64 a0 (wrap64 (8 * a1))) != 0)) else (none)) else (num_Fix.j0 k a0 a1 false)))
theorem num_Fix.calls (k : Nat) (a0 : Int) (a1 : Int) (r1 : ByteArray) (r2 : Int) (w : World) (h : num_Fix.f k a0 a1 = some (r1, r2)) :
  Calls Tryz.prog 241 #[.int .u64 a0, .int .i64 a1] w fun e w' => e = .returned (.tuple #[.string r1, .int .i64 r2]) ∧ Below w.heap.size w w' := by
 have HB := a_k (Below.refl w.heap.size w)
 have H : (if a1 < 1 then (num_Fix.j0 k a0 a1 true) else (if a1 > 8 then (num_Fix.j0 k a0 a1 true) else (if a1 < 8 then (if 0 ≤ (wrap64 (8 * a1)) then (num_Fix.j0 k a0 a1 ((shr .u64 a0 (wrap64 (8 * a1))) != 0)) else (none)) else (num_Fix.j0 k a0 a1 false)))) = some (r1, r2) := h
 clear h
 have HC3 := a_k H
 clear H
 go_enter Tryz.func241, Tryz.ntmps241
 go_upto_region 1 with (fail)
 go_cut [24] (fun v24 wc => ∃ (kq : Nat) (x24_2 : Bool), v24 = .bool x24_2 ∧ Aside0 (num_Fix.j0 kq a0 a1 x24_2 = some (r1, r2)) ∧ Aside0 (kq ≤ k) ∧ Aside0 (Below w.heap.size w wc))
 case first =>
  have H := HC3.out
  clear HC3
  by_cases c4 : a1 < 1
  ·rw [if_pos c4] at H
   have c4b0 : decide (a1 < 1) = true := decide_eq_true c4
   clear c4
   (first | rw [c4b0] | (simp only [i64_w, i32_w]; rw [c4b0]) | skip)
   have H' := a_k H
   clear H
   go_wp2
   go_meet
   case rel => exact ⟨_, (true), (by first | rfl | (simp; done) | (simp [*]; done)), H', ⟨by first | omega | exact Nat.le_refl _⟩, ⟨by repeat (first | exact HB.out | apply b_a | apply b_n | apply b_d)⟩⟩
  ·rw [if_neg c4] at H
   have c4b0 : decide (a1 < 1) = false := decide_eq_false c4
   clear c4
   (first | rw [c4b0] | (simp only [i64_w, i32_w]; rw [c4b0]) | skip)
   by_cases c5 : a1 > 8
   ·rw [if_pos c5] at H
    have c5b0 : decide (8 < a1) = true := decide_eq_true c5
    clear c5
    have H' := a_k H
    clear H
    go_wp2
    go_meet
    case rel => exact ⟨_, (true), (by first | rfl | (simp; done) | (simp [*]; done)), H', ⟨by first | omega | exact Nat.le_refl _⟩, ⟨by repeat (first | exact HB.out | apply b_a | apply b_n | apply b_d)⟩⟩
   ·rw [if_neg c5] at H
    have c5b0 : decide (8 < a1) = false := decide_eq_false c5
    clear c5
    by_cases c6 : a1 < 8
    ·rw [if_pos c6] at H
     have c6b0 : decide (a1 < 8) = true := decide_eq_true c6
     clear c6
     obtain ⟨ji7, hji7⟩ : ∃ j_ : Int, (wrap64 (8 * a1)) = j_ := ⟨_, rfl⟩
     replace H : (if 0 ≤ (ji7) then (num_Fix.j0 k a0 a1 ((shr .u64 a0 (ji7)) != 0)) else (none)) = some (r1, r2) := by first | (rw [hji7] at H; exact H) | (simp only [hji7] at H ⊢; exact H)
     have hji7w : (IntKind.i64.wrap (8 * a1)) = ji7 := (i64_w _).trans hji7
     by_cases c8 : 0 ≤ (ji7)
     ·rw [if_pos c8] at H
      have c8b0 := eq_true c8
      have c8b1 : decide (0 ≤ (ji7)) = true := decide_eq_true c8
      clear c8
      obtain ⟨ji9, hji9⟩ : ∃ j_ : Int, (shr .u64 a0 (ji7)) = j_ := ⟨_, rfl⟩
      replace H : (num_Fix.j0 k a0 a1 ((ji9) != 0)) = some (r1, r2) := by first | (rw [hji9] at H; exact H) | (simp only [hji9] at H ⊢; exact H)
      have hji9_ : (a0 / 2 ^ min (ji7).toNat 64) = ji9 := hji9
      have hji9z : (ji7) ≤ 64 → (a0 / 2 ^ (ji7).toNat) = ji9 := shr_small hji9
      have H' := a_k H
      clear H
      go_wp2
      go_meet
      case rel => exact ⟨_, (((ji9) != 0)), (by first | rfl | (simp; done) | (simp only [← hji9] <;> (first | rfl | simp)) | (simp [*]; done)), H', ⟨by first | omega | exact Nat.le_refl _⟩, ⟨by repeat (first | exact HB.out | apply b_a | apply b_n | apply b_d)⟩⟩
     ·rw [if_neg c8] at H
      exact absurd H (by simp)
    ·rw [if_neg c6] at H
     have c6b0 : decide (a1 < 8) = false := decide_eq_false c6
     clear c6
     have H' := a_k H
     clear H
     go_wp2
     go_meet
     case rel => exact ⟨_, (false), (by first | rfl | (simp; done) | (simp [*]; done)), H', ⟨by first | omega | exact Nat.le_refl _⟩, ⟨by repeat (first | exact HB.out | apply b_a | apply b_n | apply b_d)⟩⟩
 case rest =>
  clear HC3
  try clear c2
  try clear p2
  try clear c4
  try clear c4b0
  try clear c5
  try clear c5b0
  try clear c6
  try clear c6b0
  try clear p6
  try clear c8
  try clear c8b0
  try clear c8b1
  obtain ⟨kq, x24_2, rfl, HA, HJ2, HB⟩ := hcut
  cases kq with
  | zero => exact absurd HA.out (by simp [num_Fix.j0])
  | succ kj2 =>
   have H := HA.out
   clear HA
   simp only [num_Fix.j0] at H
   by_cases c10 : x24_2 = true
   ·subst c10
    have H1 : (some ((⟨#[]⟩ : ByteArray), 1)) = some (r1, r2) := by rw [if_pos rfl] at H; exact H
    clear H
    have H := H1
    clear H1
    simp only [Option.some.injEq, Prod.mk.injEq] at H
    obtain ⟨rfl, rfl⟩ := H
    go_wp2
    go_ret2
    exact ⟨by first | rfl | (simp [*, errW_none, errW_some] <;> rfl), by repeat (first | exact HB.out | apply b_a | apply b_n | apply b_d)⟩
   ·replace c10 := Bool.eq_false_iff.mpr c10
    subst c10
    have H1 : (if 0 ≤ a1 then (if (a1 : Int).toNat ≤ 281474976710656 then ((some (List.replicate (a1 : Int).toNat 0 : List Int)).bind fun y288 => (num_Fix.l0 kj2 a0 a1 y288 (y288.length : Int) 0)) else (none)) else (none)) = some (r1, r2) := by rw [if_neg (show ¬ (false = true) by decide)] at H; exact H
    clear H
    have H := H1
    clear H1
    by_cases c11 : 0 ≤ a1
    ·rw [if_pos c11] at H
     have c11b0 := eq_true c11
     have c11b1 : decide (0 ≤ a1) = true := decide_eq_true c11
     clear c11
     by_cases c12 : (a1 : Int).toNat ≤ 281474976710656
     ·rw [if_pos c12] at H
      have c12b0 := eq_true c12
      have c12b1 : decide ((a1 : Int).toNat ≤ 281474976710656) = true := decide_eq_true c12
      clear c12
      obtain ⟨y288, hy288⟩ : ∃ y_ : List Int, y_ = (List.replicate (a1 : Int).toNat 0) := ⟨_, rfl⟩
      replace H : (num_Fix.l0 kj2 a0 a1 y288 (y288.length : Int) 0) = some (r1, r2) := by first | (rw [hy288]; with_reducible exact H) | (have H2_ := (Option.bind_some _ _).symm.trans H; rw [hy288]; with_reducible exact H2_) | (have H2_ := (Option.bind_some _ _).symm.trans H; with_reducible exact H2_) | with_reducible exact H | (rw [hy288]; exact H) | exact H
      have Ny288 := a_k hy288
      clear hy288
      have H' := a_k H
      clear H
      go_wp2_with (first | ((with_reducible refine gate_dst (N := 26) rfl ?_); refine Kd.R_make (Kd.int .u8) _ 5 rfl (N := 26) rfl 219 _ _ rfl a1 rfl rfl Tryz.underlying219 (.int .u8 0) 1 info5 rfl (by decide) (by omega) 0 (ok := fun _ => True) (okp := fun _ => True) rfl (fun _ hk => hk) trivial (of_decide_eq_true (by assumption)) (Nat.le_trans (Nat.mul_le_mul_right _ (of_decide_eq_true (by assumption) : a1.toNat ≤ 281474976710656)) (by omega)) (Below.refl _ _) (Nat.le_refl _) ?_; intro v289 w13 ho14 hb hg_ hnew_; clear hg_ hnew_; (first | rw [← Ny288.out] at ho14 | (simp only [Int.reduceToNat] at ho14; rw [← Ny288.out] at ho14)); have n0_ := a_k (Kd.R_lower ho14 (below_size (by repeat (first | exact HB.out | apply b_a | apply b_n | apply b_d)))); have n1_ := a_k (below_step (by repeat (first | exact HB.out | apply b_a | apply b_n | apply b_d)) hb); clear HB; have HO290 := n0_; have HB := n1_; clear n0_ n1_; clear hb ho14; obtain ⟨Ao15, co15, eo15⟩ := Kd.R_slice HO290.out; subst eo15))
      go_loopg [29] kj2 (fun kq v29 w' => ∃ (x6_2 : List Int) (x29_2 : Int), v29 = .int .i64 x29_2 ∧ Aside0 (num_Fix.l0 kq a0 a1 x6_2 (y288.length : Int) x29_2 = some (r1, r2)) ∧ Aside0 (kq ≤ kj2) ∧ Aside0 (Kd.R (Kd.int .u8) 5 w' w.heap.size (fun _ => True) (.slice Ao15 y288.length co15) x6_2) ∧ Aside0 (Below w.heap.size w w'))
      case atStart => exact ⟨(y288), (0), (by first | rfl | (simp; done) | (simp [*]; done)), H', ⟨Nat.le_refl _⟩, ⟨by (with_reducible repeat (first | apply Kd.R_alloc | apply Kd.R_drewN | apply Kd.R_drew)); exact HO290.out⟩, ⟨by repeat (first | exact HB.out | apply b_a | apply b_n | apply b_d)⟩⟩
      case round =>
       clear H'
       try clear c1
       try clear c2
       try clear p2
       try clear c4
       try clear c4b0
       try clear c5
       try clear c5b0
       try clear c6
       try clear c6b0
       try clear p6
       try clear c8
       try clear c8b0
       try clear c8b1
       try clear c10
       try clear c11
       try clear c11b0
       try clear c11b1
       try clear c12
       try clear c12b0
       try clear c12b1
       try clear p2
       try clear p6
       obtain ⟨x6_2, x29_2, rfl, HA, HK2, HO_6, HB⟩ := hrel
       have hl6_2 := (Kd.R_reads' HO_6.out).1
       rw [hl6_2] at HO_6
       (try simp only [hl6_2])
       cases gk with
       | zero => exact absurd HA.out (by simp [num_Fix.l0])
       | succ k2 =>
        have H := HA.out
        clear HA
        simp only [num_Fix.l0] at H
        by_cases c16 : x29_2 < (y288.length : Int)
        ·rw [if_pos c16] at H
         have c16b0 : decide (x29_2 < (y288.length : Int)) = true := decide_eq_true c16
         (try simp only [hl6_2] at c16b0)
         clear c16
         obtain ⟨ji17, hji17⟩ : ∃ j_ : Int, (wrap64 (8 * (wrap64 ((wrap64 (a1 - 1)) - x29_2)))) = j_ := ⟨_, rfl⟩
         replace H : (if 0 ≤ (ji17) then (if 0 ≤ x29_2 then (if x29_2 < (x6_2.length : Int) then (num_Fix.l0 k2 a0 a1 (x6_2.set (x29_2 : Int).toNat ((shr .u64 a0 (ji17)) % 256)) (y288.length : Int) (wrap64 (x29_2 + 1))) else (none)) else (none)) else (none)) = some (r1, r2) := by first | (rw [hji17] at H; exact H) | (simp only [hji17] at H ⊢; exact H)
         have hji17w : (IntKind.i64.wrap (8 * (wrap64 ((wrap64 (a1 - 1)) - x29_2)))) = ji17 := (i64_w _).trans hji17
         by_cases c18 : 0 ≤ (ji17)
         ·rw [if_pos c18] at H
          have c18b0 := eq_true c18
          have c18b1 : decide (0 ≤ (ji17)) = true := decide_eq_true c18
          clear c18
          obtain ⟨ji19, hji19⟩ : ∃ j_ : Int, (shr .u64 a0 (ji17)) = j_ := ⟨_, rfl⟩
          replace H : (if 0 ≤ x29_2 then (if x29_2 < (x6_2.length : Int) then (num_Fix.l0 k2 a0 a1 (x6_2.set (x29_2 : Int).toNat ((ji19) % 256)) (y288.length : Int) (wrap64 (x29_2 + 1))) else (none)) else (none)) = some (r1, r2) := by first | (rw [hji19] at H; exact H) | (simp only [hji19] at H ⊢; exact H)
          have hji19_ : (a0 / 2 ^ min (ji17).toNat 64) = ji19 := hji19
          have hji19z : (ji17) ≤ 64 → (a0 / 2 ^ (ji17).toNat) = ji19 := shr_small hji19
          by_cases c20 : 0 ≤ x29_2
          ·rw [if_pos c20] at H
           have c20b0 : decide (0 ≤ x29_2) = true := decide_eq_true c20
           clear c20
           by_cases c21 : x29_2 < (x6_2.length : Int)
           ·rw [if_pos c21] at H
            have c21b0 : decide (x29_2 < (x6_2.length : Int)) = true := decide_eq_true c21
            (try simp only [hl6_2] at c21b0)
            clear c21
            obtain ⟨y291, hy291⟩ : ∃ y_ : List Int, y_ = (x6_2.set (x29_2 : Int).toNat ((ji19) % 256)) := ⟨_, rfl⟩
            replace H : (num_Fix.l0 k2 a0 a1 y291 (y288.length : Int) (wrap64 (x29_2 + 1))) = some (r1, r2) := by first | (rw [hy291]; with_reducible exact H) | (have H2_ := (Option.bind_some _ _).symm.trans H; rw [hy291]; with_reducible exact H2_) | (have H2_ := (Option.bind_some _ _).symm.trans H; with_reducible exact H2_) | with_reducible exact H | (rw [hy291]; exact H) | exact H
            have Ny291 := a_k hy291
            clear hy291
            have H' := a_k H
            clear H
            have p22 : 0 ≤ (x29_2 : Int) := of_decide_eq_true (by assumption)
            have q22 : (x29_2 : Int) < ((x6_2.length : Int) : Int) := of_decide_eq_true (by assumption)
            obtain ⟨go22, co22, eo22, gb22, gl22, cl22, HG22⟩ := Kd.R_form HO_6.out (by omega)
            (first | cases eo22 | (injection eo22 with ea_ en_ ec_; (first | subst ea_ | (injection ea_ with ea_; subst ea_)); subst ec_; clear en_))
            have GB22 := a_k gb22
            have GG22 := a_k HG22
            clear gb22 gl22 HG22
            obtain ⟨hx22_0, hf22_0⟩ := Kd.R_celln 0 HO_6.out (x29_2 : Int) p22 q22
            replace p22 := eq_true p22
            replace q22 := eq_true q22
            have HP23 := Kd.R_putg HO_6.out (x29_2 : Int) ((ji19) % 256)
            go_wp2_with (first | ((with_reducible refine gate_store (t := 5) (p := 42) rfl ?_); refine store_event (t := 5) (p := 42) (v := ?vo_w24) (w1 := (wr.setCell ⟨go22, (x29_2 : Int).toNat, none⟩ (.int .u8 ((ji19) % 256)))) ?hg ?ho ?hn ?hr ?_; (case ho => rfl); (case hg => rfl); (case hn => rfl); (case hr => first | (go_simp; done) | (go_simp; rfl)); intro w24 hw; have hg : wr.grownBy w24 (some go22) := (by rw [hw]; exact HP23.2); have hp_ : Kd.R (Kd.int .u8) 5 w24 w.heap.size (fun _ => True) (.slice (some ⟨go22, 0, none⟩) x6_2.length co15) y291 := (by rw [hw, Ny291.out]; exact HP23.1); clear HP23; have n0_ := a_k (hp_); have n1_ := a_k ((by rw [hw]; exact below_set (HB.out) GB22.out : Below w.heap.size w w24)); clear HO_6; clear HB; have HO_6 := n0_; have HB := n1_; clear n0_ n1_; clear hg hw hp_))
            (try simp only [← hl6_2])
            go_roundg k2
            case measure => have := HJ2.out; have := HK2.out; omega
            case rel => exact ⟨(y291), (wrap64 (x29_2 + 1)), (by first | rfl | (simp; done) | (simp [*]; done)), H', ⟨by have := HJ2.out; have := HK2.out; omega⟩, ⟨by (try simp only [hl6_2]); (with_reducible repeat (first | apply Kd.R_alloc | apply Kd.R_drewN | apply Kd.R_drew)); exact HO_6.out⟩, ⟨by repeat (first | exact HB.out | apply b_a | apply b_n | apply b_d)⟩⟩
           ·rw [if_neg c21] at H
            exact absurd H (by simp)
          ·rw [if_neg c20] at H
           exact absurd H (by simp)
         ·rw [if_neg c18] at H
          exact absurd H (by simp)
        ·rw [if_neg c16] at H
         have c16b0 : decide (x29_2 < (y288.length : Int)) = false := decide_eq_false c16
         (try simp only [hl6_2] at c16b0)
         clear c16
         simp only [Option.some.injEq, Prod.mk.injEq] at H
         obtain ⟨rfl, rfl⟩ := H
         have hcv25 := own_string (P := Tryz.prog) Tryz.underlying219 Tryz.underlying5 Tryz.underlying9 (Kd.own_of_R HO_6.out)
         go_wp2
         go_ret2
         exact ⟨by first | rfl | (simp [*, errW_none, errW_some] <;> rfl), by repeat (first | exact HB.out | apply b_a | apply b_n | apply b_d)⟩
     ·rw [if_neg c12] at H
      exact absurd H (by simp)
    ·rw [if_neg c11] at H
     exact absurd H (by simp)
def block_four.f (k : Nat) (a0 : Int) : Option (ByteArray) := (num_Fix.f k ((a0) % 4294967296) 4).bind fun bt292 => (some bt292.1)
theorem block_four.calls (k : Nat) (a0 : Int) (r : ByteArray) (w : World) (h : block_four.f k a0 = some r) :
  Calls Tryz.prog 186 #[.int .i64 a0] w fun e w' => e = .returned (.string r) ∧ Below w.heap.size w w' := by
 have HB := a_k (Below.refl w.heap.size w)
 have H : ((num_Fix.f k ((a0) % 4294967296) 4).bind fun bt292 => (some bt292.1)) = some r := h
 clear h
 replace H := Option.bind_eq_some_iff.mp H
 obtain ⟨⟨t292, t293⟩, A20, H⟩ := H
 replace H : (some t292) = some r := H
 have A2 := a_k A20
 clear A20
 obtain rfl := Option.some.inj H
 go_enter Tryz.func186, Tryz.ntmps186
 go_wp2_with (first | ((with_reducible refine gate_callee (f := 241) rfl ?_); refine goesL_ (some 9) rfl rfl Tryz.func241 (by kernel_rfl) rfl #[.int .u64 ((a0) % 4294967296), .int .i64 4] rfl (by (try simp only [m_a, m_c, m_n]); first | done | rfl) ?_; (with_reducible refine (num_Fix.calls k ((a0) % 4294967296) 4 t292 t293 _ A2.out).mono ?_); rintro e w3 ⟨rfl, hb⟩; refine ⟨_, rfl, ?_⟩; have n0_ := a_k (below_step (by repeat (first | exact HB.out | apply b_a | apply b_n | apply b_d)) hb); clear HB; have HB := n0_; clear n0_; (try clear hb); (try clear hb2); (try clear hk); (try clear hi)))
 go_ret
 exact ⟨by first | rfl | (simp [*, errW_none, errW_some] <;> rfl), by repeat (first | exact HB.out | apply b_a | apply b_n | apply b_d)⟩
def sum_four.f (k : Nat) (a0 : Int) : Option (ByteArray) := (num_Fix.f k (IntKind.u64.wrap (a0)) 4).bind fun bt294 => (some bt294.1)
theorem sum_four.calls (k : Nat) (a0 : Int) (r : ByteArray) (w : World) (h : sum_four.f k a0 = some r) :
  Calls Tryz.prog 242 #[.int .u32 a0] w fun e w' => e = .returned (.string r) ∧ Below w.heap.size w w' := by
 have HB := a_k (Below.refl w.heap.size w)
 have H : ((num_Fix.f k (IntKind.u64.wrap (a0)) 4).bind fun bt294 => (some bt294.1)) = some r := h
 clear h
 replace H := Option.bind_eq_some_iff.mp H
 obtain ⟨⟨t294, t295⟩, A20, H⟩ := H
 replace H : (some t294) = some r := H
 have A2 := a_k A20
 clear A20
 obtain rfl := Option.some.inj H
 go_enter Tryz.func242, Tryz.ntmps242
 go_wp2_with (first | ((with_reducible refine gate_callee (f := 241) rfl ?_); refine goesL_ (some 8) rfl rfl Tryz.func241 (by kernel_rfl) rfl #[.int .u64 (IntKind.u64.wrap (a0)), .int .i64 4] rfl (by (try simp only [m_a, m_c, m_n]); first | done | rfl) ?_; (with_reducible refine (num_Fix.calls k (IntKind.u64.wrap (a0)) 4 t294 t295 _ A2.out).mono ?_); rintro e w3 ⟨rfl, hb⟩; refine ⟨_, rfl, ?_⟩; have n0_ := a_k (below_step (by repeat (first | exact HB.out | apply b_a | apply b_n | apply b_d)) hb); clear HB; have HB := n0_; clear n0_; (try clear hb); (try clear hb2); (try clear hk); (try clear hi)))
 go_ret
 exact ⟨by first | rfl | (simp [*, errW_none, errW_some] <;> rfl), by repeat (first | exact HB.out | apply b_a | apply b_n | apply b_d)⟩
mutual
def sum_Crc.l0 : Nat → Int → List ByteArray → Int → Int → Option (Int)
 | 0, _, _, _, _ => none
 | k + 1, x3, x8, x9, x10 => if x10 < x9 then (if 0 ≤ x10 then (if x10 < (x8.length : Int) then (sum_Crc.l1 k x3 (rdOf ByteArray.empty x8 x10) x8 x9 x10 ((rdOf ByteArray.empty x8 x10).size : Int) 0) else (none)) else (none)) else (some (Go.bits .xor .u32 4294967295 x3))
def sum_Crc.l1 : Nat → Int → ByteArray → List ByteArray → Int → Int → Int → Int → Option (Int)
 | 0, _, _, _, _, _, _, _ => none
 | k + 1, x3, x5, x8, x9, x10, x15, x16 => if x16 < x15 then (if 0 ≤ x16 then (if x16 < (x5.size : Int) then (sum_Crc.l2 k (Go.bits .xor .u32 x3 ((bt x5 x16) % 4294967296)) x5 x8 x9 x10 x15 x16 0) else (none)) else (none)) else (sum_Crc.l0 k x3 x8 x9 (wrap64 (x10 + 1)))
def sum_Crc.l2 : Nat → Int → ByteArray → List ByteArray → Int → Int → Int → Int → Int → Option (Int)
 | 0, _, _, _, _, _, _, _, _ => none
 | k + 1, x3, x5, x8, x9, x10, x15, x16, x25 => if x25 < 8 then (if (Go.bits .and .u32 x3 1) = 1 then (sum_Crc.l2 k (Go.bits .xor .u32 (x3 / 2) 2197175160) x5 x8 x9 x10 x15 x16 (wrap64 (x25 + 1))) else (sum_Crc.l2 k (x3 / 2) x5 x8 x9 x10 x15 x16 (wrap64 (x25 + 1)))) else (sum_Crc.l1 k x3 x5 x8 x9 x10 x15 (wrap64 (x16 + 1)))
end
def sum_Crc.f (k : Nat) (l0 : List ByteArray) : Option (Int) := sum_Crc.l0 k 4294967295 l0 (l0.length : Int) 0
theorem sum_Crc.calls (k : Nat) (A0 : Option Addr) (c0 : Nat) (l0 : List ByteArray) (r : Int) (w : World) (hr0 : Kd.C Kd.string w A0 l0.length l0) (hc0 : l0.length ≤ c0) (h : sum_Crc.f k l0 = some r) :
  Calls Tryz.prog 243 #[.slice A0 l0.length c0] w fun e w' => e = .returned (.int .u32 r) ∧ Drawn0 w w' := by
 have HR0 := a_k hr0
 have HC0 := a_k hc0
 clear hr0 hc0
 have H : (sum_Crc.l0 k 4294967295 l0 (l0.length : Int) 0) = some r := h
 clear h
 have H' := a_k H
 clear H
 go_enter Tryz.func243, Tryz.ntmps243
 go_wp2
 go_loopg [3, 10] k (fun kq v3 v10 w' => ∃ (x3_1 : Int) (x10_1 : Int), v3 = .int .u32 x3_1 ∧ v10 = .int .i64 x10_1 ∧ Aside0 (sum_Crc.l0 kq x3_1 l0 (l0.length : Int) x10_1 = some r) ∧ Aside0 (kq ≤ k) ∧ Drawn0 w w')
 case atStart => exact ⟨(4294967295), (0), (by first | rfl | (simp; done) | (simp [*]; done)), (by first | rfl | (simp; done) | (simp [*]; done)), H', ⟨Nat.le_refl _⟩, by repeat (first | exact Drawn0.refl _ | apply Drawn0.step)⟩
 case round =>
  clear H'
  obtain ⟨x3_1, x10_1, rfl, rfl, HA, HK1, ⟨m1, rfl⟩⟩ := hrel
  cases gk with
  | zero => exact absurd HA.out (by simp [sum_Crc.l0])
  | succ k1 =>
   have H := HA.out
   clear HA
   simp only [sum_Crc.l0] at H
   by_cases c2 : x10_1 < (l0.length : Int)
   ·rw [if_pos c2] at H
    have c2b0 : decide (x10_1 < (l0.length : Int)) = true := decide_eq_true c2
    clear c2
    by_cases c3 : 0 ≤ x10_1
    ·rw [if_pos c3] at H
     have c3b0 : decide (0 ≤ x10_1) = true := decide_eq_true c3
     clear c3
     by_cases c4 : x10_1 < (l0.length : Int)
     ·rw [if_pos c4] at H
      have c4b0 : decide (x10_1 < (l0.length : Int)) = true := decide_eq_true c4
      clear c4
      have H' := a_k H
      clear H
      have p296 : 0 ≤ (x10_1 : Int) := of_decide_eq_true (by assumption)
      have q296 : x10_1 < (l0.length : Int) := of_decide_eq_true (by assumption)
      obtain ⟨ad296, e296, hx296_0⟩ := Kd.at_string HR0.out x10_1 p296 q296
      cases e296
      replace p296 := eq_true p296
      replace q296 := eq_true q296
      go_wp2
      go_loopg [3, 16] k1 (fun kq v3 v16 w' => ∃ (x3_2 : Int) (x16_2 : Int), v3 = .int .u32 x3_2 ∧ v16 = .int .i64 x16_2 ∧ Aside0 (sum_Crc.l1 kq x3_2 (rdOf ByteArray.empty l0 x10_1) l0 (l0.length : Int) x10_1 ((rdOf ByteArray.empty l0 x10_1).size : Int) x16_2 = some r) ∧ Aside0 (kq ≤ k1) ∧ Drawn0 w w')
      case atStart => exact ⟨(x3_1), (0), (by first | rfl | (simp; done) | (simp [*]; done)), (by first | rfl | (simp; done) | (simp [*]; done)), H', ⟨Nat.le_refl _⟩, by repeat (first | exact Drawn0.refl _ | apply Drawn0.step)⟩
      case round =>
       clear H'
       try clear c2
       try clear c2b0
       try clear p2
       try clear q2
       try clear hx2
       try clear c3
       try clear c3b0
       try clear c4
       try clear c4b0
       try clear hx296_0
       try clear p296
       try clear q296
       obtain ⟨x3_2, x16_2, rfl, rfl, HA, HK2, ⟨m2, rfl⟩⟩ := hrel
       cases gk with
       | zero => exact absurd HA.out (by simp [sum_Crc.l1])
       | succ k2 =>
        have H := HA.out
        clear HA
        simp only [sum_Crc.l1] at H
        by_cases c5 : x16_2 < ((rdOf ByteArray.empty l0 x10_1).size : Int)
        ·rw [if_pos c5] at H
         have c5b0 : decide (x16_2 < ((rdOf ByteArray.empty l0 x10_1).size : Int)) = true := decide_eq_true c5
         clear c5
         by_cases c6 : 0 ≤ x16_2
         ·rw [if_pos c6] at H
          have c6b0 : decide (0 ≤ x16_2) = true := decide_eq_true c6
          clear c6
          by_cases c7 : x16_2 < ((rdOf ByteArray.empty l0 x10_1).size : Int)
          ·rw [if_pos c7] at H
           have c7b0 : decide (x16_2 < ((rdOf ByteArray.empty l0 x10_1).size : Int)) = true := decide_eq_true c7
           clear c7
           have H' := a_k H
           clear H
           have p8 : 0 ≤ (x16_2 : Int) := of_decide_eq_true (by assumption)
           have q8 : x16_2 < ((rdOf ByteArray.empty l0 x10_1).size : Int) := of_decide_eq_true (by assumption)
           have hx8 := bt_at (rdOf ByteArray.empty l0 x10_1) x16_2
           replace p8 := eq_true p8
           replace q8 := eq_true q8
           go_wp2
           go_loopg [3, 25] k2 (fun kq v3 v25 w' => ∃ (x3_3 : Int) (x25_3 : Int), v3 = .int .u32 x3_3 ∧ v25 = .int .i64 x25_3 ∧ Aside0 (sum_Crc.l2 kq x3_3 (rdOf ByteArray.empty l0 x10_1) l0 (l0.length : Int) x10_1 ((rdOf ByteArray.empty l0 x10_1).size : Int) x16_2 x25_3 = some r) ∧ Aside0 (kq ≤ k2) ∧ Drawn0 w w')
           case atStart => exact ⟨(Go.bits .xor .u32 x3_2 ((bt (rdOf ByteArray.empty l0 x10_1) x16_2) % 4294967296)), (0), (by first | rfl | (simp; done) | (simp [*]; done)), (by first | rfl | (simp; done) | (simp [*]; done)), H', ⟨Nat.le_refl _⟩, by repeat (first | exact Drawn0.refl _ | apply Drawn0.step)⟩
           case round =>
            clear H'
            try clear c2
            try clear c2b0
            try clear p2
            try clear q2
            try clear hx2
            try clear c3
            try clear c3b0
            try clear c4
            try clear c4b0
            try clear c5
            try clear c5b0
            try clear c6
            try clear c6b0
            try clear c7
            try clear c7b0
            try clear p8
            try clear q8
            try clear hx8
            try clear hx296_0
            try clear p2
            try clear p296
            try clear p8
            try clear q2
            try clear q296
            try clear q8
            obtain ⟨x3_3, x25_3, rfl, rfl, HA, HK3, ⟨m3, rfl⟩⟩ := hrel
            cases gk with
            | zero => exact absurd HA.out (by simp [sum_Crc.l2])
            | succ k3 =>
             have H := HA.out
             clear HA
             simp only [sum_Crc.l2] at H
             by_cases c9 : x25_3 < 8
             ·rw [if_pos c9] at H
              have c9b0 : decide (x25_3 < 8) = true := decide_eq_true c9
              clear c9
              by_cases c10 : (Go.bits .and .u32 x3_3 1) = 1
              ·rw [if_pos c10] at H
               have c10b0 : ((Go.bits .and .u32 x3_3 1) == 1) = true := beq_iff_eq.mpr c10
               have c10b1 : ((Go.bits .and .u32 x3_3 1) != 1) = false := bne_eq_false_iff_eq.mpr c10
               clear c10
               have H' := a_k H
               clear H
               go_wp2
               go_roundg k3
               case measure => have := HK1.out; have := HK2.out; have := HK3.out; omega
               case rel => exact ⟨(Go.bits .xor .u32 (x3_3 / 2) 2197175160), (wrap64 (x25_3 + 1)), (by first | rfl | (simp; done) | (simp [*]; done)), (by first | rfl | (simp; done) | (simp [*]; done)), H', ⟨by have := HK1.out; have := HK2.out; have := HK3.out; omega⟩, by repeat (first | exact Drawn0.refl _ | apply Drawn0.step)⟩
              ·rw [if_neg c10] at H
               have c10b0 : ((Go.bits .and .u32 x3_3 1) == 1) = false := beq_eq_false_iff_ne.mpr c10
               have c10b1 : ((Go.bits .and .u32 x3_3 1) != 1) = true := bne_iff_ne.mpr c10
               have H' := a_k H
               clear H
               go_wp2
               go_roundg k3
               case measure => have := HK1.out; have := HK2.out; have := HK3.out; omega
               case rel => exact ⟨(x3_3 / 2), (wrap64 (x25_3 + 1)), (by first | rfl | (simp; done) | (simp [*]; done)), (by first | rfl | (simp; done) | (simp [*]; done)), H', ⟨by have := HK1.out; have := HK2.out; have := HK3.out; omega⟩, by repeat (first | exact Drawn0.refl _ | apply Drawn0.step)⟩
             ·rw [if_neg c9] at H
              have c9b0 : decide (x25_3 < 8) = false := decide_eq_false c9
              clear c9
              have H' := a_k H
              clear H
              go_wp2
              go_roundg k3
              case measure => have := HK1.out; have := HK2.out; have := HK3.out; omega
              case rel => exact ⟨(x3_3), (wrap64 (x16_2 + 1)), (by first | rfl | (simp; done) | (simp [*]; done)), (by first | rfl | (simp; done) | (simp [*]; done)), H', ⟨by have := HK1.out; have := HK2.out; have := HK3.out; omega⟩, by repeat (first | exact Drawn0.refl _ | apply Drawn0.step)⟩
          ·rw [if_neg c7] at H
           exact absurd H (by simp)
         ·rw [if_neg c6] at H
          exact absurd H (by simp)
        ·rw [if_neg c5] at H
         have c5b0 : decide (x16_2 < ((rdOf ByteArray.empty l0 x10_1).size : Int)) = false := decide_eq_false c5
         clear c5
         have H' := a_k H
         clear H
         go_wp2
         go_roundg k2
         case measure => have := HK1.out; have := HK2.out; omega
         case rel => exact ⟨(x3_2), (wrap64 (x10_1 + 1)), (by first | rfl | (simp; done) | (simp [*]; done)), (by first | rfl | (simp; done) | (simp [*]; done)), H', ⟨by have := HK1.out; have := HK2.out; omega⟩, by repeat (first | exact Drawn0.refl _ | apply Drawn0.step)⟩
     ·rw [if_neg c4] at H
      exact absurd H (by simp)
    ·rw [if_neg c3] at H
     exact absurd H (by simp)
   ·rw [if_neg c2] at H
    have c2b0 : decide (x10_1 < (l0.length : Int)) = false := decide_eq_false c2
    clear c2
    obtain rfl := Option.some.inj H
    go_wp2
    go_ret
    exact ⟨by first | rfl | (simp; done) | (simp [*]; done), by repeat (first | exact Drawn0.refl _ | apply Drawn0.step)⟩
def sum_Seal.f (k : Nat) (a0 : ByteArray) : Option (ByteArray) := (sum_Crc.f k (([a0] : List ByteArray))).bind fun t300 => ((sum_four.f k t300).bind fun t301 => (if a0.size + t301.size ≤ 9223372036854775807 then (some (a0 ++ t301)) else (none)))
theorem sum_Seal.calls (k : Nat) (a0 : ByteArray) (r : ByteArray) (w : World) (h : sum_Seal.f k a0 = some r) :
  Calls Tryz.prog 188 #[.string a0] w fun e w' => e = .returned (.string r) ∧ Below w.heap.size w w' := by
 have HB := a_k (Below.refl w.heap.size w)
 have H : ((sum_Crc.f k (([a0] : List ByteArray))).bind fun t300 => ((sum_four.f k t300).bind fun t301 => (if a0.size + t301.size ≤ 9223372036854775807 then (some (a0 ++ t301)) else (none)))) = some r := h
 clear h
 obtain ⟨y297, hy297⟩ : ∃ y_ : List ByteArray, y_ = (([a0] : List ByteArray)) := ⟨_, rfl⟩
 replace H : ((sum_Crc.f k y297).bind fun t300 => ((sum_four.f k t300).bind fun t301 => (if a0.size + t301.size ≤ 9223372036854775807 then (some (a0 ++ t301)) else (none)))) = some r := by first | (rw [hy297]; with_reducible exact H) | (have H2_ := (Option.bind_some _ _).symm.trans H; rw [hy297]; with_reducible exact H2_) | (have H2_ := (Option.bind_some _ _).symm.trans H; with_reducible exact H2_) | with_reducible exact H | (rw [hy297]; exact H) | exact H
 have Ny297 := a_k hy297
 clear hy297
 replace H := Option.bind_eq_some_iff.mp H
 obtain ⟨t300, A20, H⟩ := H
 replace H : ((sum_four.f k t300).bind fun t301 => (if a0.size + t301.size ≤ 9223372036854775807 then (some (a0 ++ t301)) else (none))) = some r := H
 have A2 := a_k A20
 clear A20
 replace H := Option.bind_eq_some_iff.mp H
 obtain ⟨t301, A30, H⟩ := H
 replace H : (if a0.size + t301.size ≤ 9223372036854775807 then (some (a0 ++ t301)) else (none)) = some r := H
 have A3 := a_k A30
 clear A30
 by_cases c4 : a0.size + t301.size ≤ 9223372036854775807
 ·rw [if_pos c4] at H
  have c4b0 := eq_true c4
  have c4b1 : decide (a0.size + t301.size ≤ 9223372036854775807) = true := decide_eq_true c4
  try have c4b2 : (9223372036854775807 < a0.size + t301.size) = False := eq_false (Nat.not_lt.2 c4)
  clear c4
  obtain rfl := Option.some.inj H
  go_enter Tryz.func188, Tryz.ntmps188
  go_wp2_with (first | ((with_reducible refine gate_dst (N := 5) rfl ?_); refine Kd.R_lit Kd.string _ 9 ?hg (N := 5) ?hd (xs := ([a0] : List ByteArray)) (inner := [.string a0]) (ok := fun _ => True) (okp := fun _ => True) ?hr ?hp (fun _ hk => hk) trivial (Below.refl _ _) (Nat.le_refl _) (by simp) ?_; (case hd => rfl); (case hg => rfl); (case hr => first | (go_simp; done) | (go_simp; rfl)); (case hp => exact (Reps.one (show Kd.M Kd.string _ _ _ a0 [.string a0] from rfl) (Reps.none _ _))); intro v298 w5 ho6 hb hg_ hnew_; clear hg_ hnew_; (first | rw [← Ny297.out] at ho6 | (simp only [Int.reduceToNat] at ho6; rw [← Ny297.out] at ho6)); have n0_ := a_k (Kd.R_lower ho6 (below_size (by repeat (first | exact HB.out | apply b_a | apply b_n | apply b_d)))); have n1_ := a_k (below_step (by repeat (first | exact HB.out | apply b_a | apply b_n | apply b_d)) hb); clear HB; have HO299 := n0_; have HB := n1_; clear n0_ n1_; clear hb ho6; obtain ⟨Ao7, co7, eo7⟩ := Kd.R_slice HO299.out; subst eo7) | ((with_reducible refine gate_callee (f := 243) rfl ?_); refine goesL_ (some 6) rfl rfl Tryz.func243 (by kernel_rfl) rfl #[.slice Ao7 y297.length co7] rfl (by (try simp only [m_a, m_c, m_n]); first | done | rfl) ?_; (with_reducible refine (sum_Crc.calls k _ _ y297 t300 _ ?side1 ?side2 A2.out).mono ?_); (case side1 => repeat (first | exact (Kd.R_reads' HO299.out).2.2 | (with_reducible refine Kd.C_alloc ?_ _) | (with_reducible refine Kd.C_drewN ?_ _) | (with_reducible refine Kd.C_drew ?_))); (case side2 => exact (Kd.R_reads' HO299.out).2.1); rintro e w' ⟨rfl, ⟨nd, rfl⟩⟩; refine ⟨_, rfl, ?_⟩) | ((with_reducible refine gate_callee (f := 242) rfl ?_); refine goesL_ (some 7) rfl rfl Tryz.func242 (by kernel_rfl) rfl #[.int .u32 t300] rfl (by (try simp only [m_a, m_c, m_n]); first | done | rfl) ?_; (with_reducible refine (sum_four.calls k t300 t301 _ A3.out).mono ?_); rintro e w8 ⟨rfl, hb⟩; refine ⟨_, rfl, ?_⟩; have n0_ := a_k (Kd.R_below (by (with_reducible repeat (first | apply Kd.R_alloc | apply Kd.R_drewN | apply Kd.R_drew)); exact HO299.out) hb); have n1_ := a_k (below_step (by repeat (first | exact HB.out | apply b_a | apply b_n | apply b_d)) hb); clear HO299; clear HB; have HO299 := n0_; have HB := n1_; clear n0_ n1_; (try clear hb); (try clear hb2); (try clear hk); (try clear hi)))
  go_ret
  exact ⟨by first | rfl | (simp [*, errW_none, errW_some] <;> rfl), by repeat (first | exact HB.out | apply b_a | apply b_n | apply b_d)⟩
 ·rw [if_neg c4] at H
  exact absurd H (by simp)
end Go.Proofs.YtchgpcgolgcfdaaGreat.PNum
end
section
namespace Go.Proofs.YtchgpcgolgcfdaaGreat.Bl2
open Go Go.RowKit Go.Proofs.YtchgpcgolgcfdaaGreat.PNum Go.Proofs.YtchgpcgolgcfdaaGreat.BkW Go.Proofs.YtchgpcgolgcfdaaGreatW.PrintWords Go.Proofs.YtchgpcgolgcfdaaGreatW.PrintLast Go.Proofs.YtchgpcgolgcfdaaGreatW.PrintMore
set_option linter.unusedVariables false
set_option linter.unusedSimpArgs false
set_option maxRecDepth 100000
set_option maxHeartbeats 16000000
abbrev E := S32
abbrev rdE := rd_T32
def lim : Nat := 140737488355328
def ahead (k : Nat) (l : List E) (i : Nat) (b r : ByteArray) : Option (Int × ByteArray) :=
 if i % 4 = 0 then (block_four.f k (b.size : Int)).bind fun x => if r.size + x.size ≤ lim then some (0, r ++ x) else none
 else (block_Shared.f k (rdE l ((i : Int) - 1)).f0 (rdE l (i : Int)).f0).bind fun n => if (0 ≤ n ∧ n ≤ ((rdE l (i : Int)).f0.size : Int)) ∧ n ≤ (lim : Int) then some (n, r) else none
def piece (k : Nat) (e : E) (n : Int) : Option ByteArray :=
 (num_Var.f k [n]).bind fun a => (num_Text.f k [e.f0.extract n.toNat e.f0.size]).bind fun c => (num_Var.f k [e.f1, IntKind.u64.wrap e.f2]).bind fun d => (num_Text.f k [e.f3]).bind fun x => if a.size + c.size + d.size + x.size ≤ lim then some (((a ++ c) ++ d) ++ x) else none
def go (k : Nat) (l : List E) : Nat → Nat → ByteArray → ByteArray → Option (ByteArray × ByteArray)
 | 0, _, b, r => some (b, r)
 | n + 1, i, b, r => (ahead k l i b r).bind fun x => (piece k (rdE l (i : Int)) x.1).bind fun p => if b.size + p.size ≤ lim then go k l n (i + 1) (b ++ p) x.2 else none
def putF (k : Nat) (l : List E) : Option (ByteArray × Int) :=
 (block_Right.f k l).bind fun y => if y = true then (if l.length ≤ lim then (go k l l.length 0 ⟨#[]⟩ ⟨#[]⟩).bind fun x => (block_four.f k (((l.length + 3) / 4 : Nat) : Int)).bind fun z => if x.1.size + x.2.size + z.size ≤ lim then (sum_Seal.f k ((x.1 ++ x.2) ++ z)).bind fun s => some (s, 0) else none else none) else some (⟨#[]⟩, 1)
theorem Two.start {w0 w : World} (hb : Below w0.heap.size w0 w) : Two w0 ((w.alloc (.cells #[.pointer none, .slice none 0 0] TB)).alloc (.cells #[.pointer none, .slice none 0 0] TB)) w.heap.size (w.heap.size + 1) ⟨#[]⟩ ⟨#[]⟩ := by
 have h1 := (Bv.new w).lower hb.size
 have h2 := (Bv.new (w.alloc (.cells #[.pointer none, .slice none 0 0] TB))).lower (B' := w0.heap.size) (Nat.le_trans hb.size (Nat.le_of_lt h1.lt))
 have hsz : (w.alloc (.cells #[.pointer none, .slice none 0 0] TB)).heap.size = w.heap.size + 1 := Array.size_push ..
 rw [hsz] at h2
 exact ⟨⟨_, _, h1.below (below_alloc (Below.refl _ _) _), h2, fun k hk => by cases hk⟩, by omega, below_alloc (below_alloc hb _) _⟩
def pt11.T : Bool × List (List Nat × List Nat) := (true, [([], []), ([0], [0]), ([1], [1]), ([2], [2]), ([], []), ([4], [4]), ([], []), ([5, 6], [5, 6]), ([7], [7]), ([8, 3], [8]), ([3, 9], [3, 9]), ([], []), ([11], [11]), ([], []), ([13], [13]), ([14], [14]), ([12, 15], [12, 15]), ([16, 9], [16]), ([10, 17], [10, 17]), ([], []), ([19], [19]), ([20], [20]), ([21, 17], [21]), ([18, 22], [18, 22]), ([23, 22], [23])])
def pt11.B : List Nat := [0, 1, 3, 7, 0, 16, 0, 112, 240, 511, 1023, 0, 2048, 0, 8192, 24576, 63488, 130047, 262143, 0, 524288, 1572864, 3931135, 8388607, 16777215]
theorem pt11.tab : rtab .any (opsOf Tryz.f75 11) = pt11.T := by kernel_rfl
theorem pt11.bits : waitsOk pt11.T.2 pt11.B = true := by kernel_rfl
def pt10.T : Bool × List (List Nat × List Nat) := (true, [([], []), ([], []), ([1], [1]), ([0, 2], [0, 2]), ([3], [3]), ([4], [4]), ([], []), ([6], [6]), ([5, 7], [5, 7]), ([8, 8, 0, 1, 2, 3, 4, 5, 6, 7, 8], [8])])
def pt10.B : List Nat := [0, 0, 2, 7, 15, 31, 0, 64, 255, 511]
theorem pt10.tab : rtab .any (opsOf Tryz.f75 10) = pt10.T := by kernel_rfl
theorem pt10.bits : waitsOk pt10.T.2 pt10.B = true := by kernel_rfl
theorem put_calls (k : Nat) (A0 : Option Addr) (c0 : Nat) (l0 : List E) (r1 : ByteArray) (r2 : Int) (w : World) (hr0 : Kd.C k32 w A0 l0.length l0) (hc0 : l0.length ≤ c0) (h : putF k l0 = some (r1, r2)) :
  Calls Tryz.prog 75 #[.slice A0 l0.length c0] w fun e w' => e = .returned (.tuple #[.string r1, .int .i64 r2]) ∧ Below w.heap.size w w' := by
 have hlen : l0.length ≤ 9223372036854775807 := hr0.2.1
 have HR0 := a_k hr0
 have HC0 := a_k hc0
 unfold putF at h
 obtain ⟨y, hy, h⟩ := Option.bind_eq_some_iff.1 h
 have HY := a_k hy
 have HB0 := a_k (Below.refl w.heap.size w)
 clear hr0 hc0 hy
 cases y with
 | false =>
  rw [if_neg (by decide)] at h
  obtain ⟨rfl, rfl⟩ := Prod.mk.inj (Option.some.inj h)
  go_enter Tryz.func75, Tryz.ntmps75
  go_wp2_with (go_at_call 184; refine (block_Right_w.calls k _ _ l0 false _ HR0.out HC0.out HY.out).mono ?_; rintro e w1 ⟨rfl, hb⟩; have HB1 := a_k hb; clear hb)
  go_ret2
  exact ⟨rfl, HB1.out⟩
 | true =>
  rw [if_pos rfl] at h
  by_cases hL : l0.length ≤ lim
  ·rw [if_pos hL] at h
   obtain ⟨⟨x1, x2⟩, hx, h⟩ := Option.bind_eq_some_iff.1 h
   have HX := a_k hx
   have H := a_k h
   clear h hx
   go_enter Tryz.func75, Tryz.ntmps75
   go_wp2_with (go_at_call 184; refine (block_Right_w.calls k _ _ l0 true _ HR0.out HC0.out HY.out).mono ?_; rintro e w1 ⟨rfl, hb⟩; have HB1 := a_k hb; clear hb)
   go_loopw [14] (fun v14 w' => ∃ (i n : Nat) (b r : ByteArray), v14 = .int .i64 i ∧ i + n = l0.length ∧ Aside0 (go k l0 n i b r = some (x1, x2)) ∧ Aside0 (Two w w' w1.heap.size (w1.heap.size + 1) b r)) (fun v14 _ => l0.length - (intOf v14).toNat)
   case atStart => exact ⟨0, l0.length, ⟨#[]⟩, ⟨#[]⟩, rfl, Nat.zero_add _, HX, ⟨Two.start HB1.out⟩⟩
   case round =>
    clear HX
    obtain ⟨i, n, b, r, rfl, hin, HG, HT⟩ := hrel
    cases n with
    | zero =>
     obtain rfl : i = l0.length := by omega
     have hG := HG.out
     simp only [go, Option.some.injEq, Prod.mk.injEq] at hG
     obtain ⟨rfl, rfl⟩ := hG
     clear HG
     have t0 : decide (((l0.length : Nat) : Int) < (l0.length : Int)) = false := decide_eq_false (by omega)
     have hh := H.out
     obtain ⟨z, hz, hh⟩ := Option.bind_eq_some_iff.1 hh
     by_cases hs : b.size + r.size + z.size ≤ lim
     ·rw [if_pos hs] at hh
      obtain ⟨s, hs2, hh⟩ := Option.bind_eq_some_iff.1 hh
      obtain ⟨rfl, rfl⟩ := Prod.mk.inj (Option.some.inj hh)
      have HZ := a_k hz
      have HS := a_k hs
      have HSe := a_k hs2
      clear hh hz hs hs2 H
      have hz_ := HS.out
      unfold lim at hz_ hL
      have f1 := eq_true (show b.size + r.size ≤ 9223372036854775807 by omega)
      have f2 : (9223372036854775807 < b.size + r.size) = False := eq_false (by omega)
      have f3 := eq_true (show b.size + r.size + z.size ≤ 9223372036854775807 by omega)
      have f4 : (9223372036854775807 < b.size + r.size + z.size) = False := eq_false (by omega)
      have hw1 : IntKind.i64.wrap ((l0.length : Int) + 4) = (l0.length : Int) + 4 := by rw [IntKind.wrap_i64]; omega
      have hw2 : IntKind.i64.wrap ((l0.length : Int) + 4 - 1) = (l0.length : Int) + 3 := by rw [IntKind.wrap_i64]; omega
      have hq : Int.tdiv ((l0.length : Int) + 3) 4 = (((l0.length + 3) / 4 : Nat) : Int) := by rw [Int.tdiv_eq_ediv_of_nonneg (by omega)]; (try omega)
      (try clear h); (try clear hh); (try clear hz_)
      go_wp2_with (first
       | (go_at_call 189; refine (Two.string HT.out).mono ?_; rintro ee w2 ⟨rfl, ⟨v2, hv2⟩, hb2⟩; have HV2 := a_k hv2; have HB2 := a_k hb2; clear hv2 hb2 HT)
       | (go_at_call 189; refine (string_calls _ _ v2 r _ HV2.out).mono ?_; rintro ee w3 ⟨rfl, hb3, _, _⟩; have HB3 := a_k (Below.trans HB2.out hb3); clear hb3 HV2)
       | (go_at_call 186; refine (block_four.calls k _ z _ HZ.out).mono ?_; rintro ee w4 ⟨rfl, hb4⟩; have HB4 := a_k (below_step HB3.out hb4); clear hb4 HZ)
       | (go_at_call 188; refine (sum_Seal.calls k _ s _ HSe.out).mono ?_; rintro ee w5 ⟨rfl, hb5⟩; have HB5 := a_k (below_step HB4.out hb5); clear hb5 HSe))
      go_ret2
      exact ⟨rfl, HB5.out⟩
     ·rw [if_neg hs] at hh
      cases hh
    | succ n =>
     have q0 : (i : Int) < (l0.length : Int) := Int.ofNat_lt.mpr (by omega)
     have t0 : decide ((i : Int) < (l0.length : Int)) = true := decide_eq_true q0
     have hG := HG.out
     simp only [go] at hG
     obtain ⟨⟨m, r'⟩, hah, hG⟩ := Option.bind_eq_some_iff.1 hG
     obtain ⟨p, hpc, hG⟩ := Option.bind_eq_some_iff.1 hG
     by_cases hpl : b.size + p.size ≤ lim
     ·rw [if_pos hpl] at hG
      have HAH := a_k hah
      have HPC := a_k hpc
      have HPL := a_k hpl
      have HG2 := a_k hG
      clear HG hG hah hpc hpl
      obtain ⟨ad, e0, hx0, hx1, hx2, hx3⟩ := at_T32 HR0.out (i : Int) (Int.natCast_nonneg _) q0
      cases e0
      have HBr := a_k HT.out.bel
      replace hx0 := c_b HBr.out hx0
      replace hx1 := c_b HBr.out hx1
      replace hx2 := c_b HBr.out hx2
      replace hx3 := c_b HBr.out hx3
      have HE : Aside0 (rd_T32 l0 (i : Int) = rd_T32 l0 (i : Int)) := ⟨rfl⟩
      generalize hE : rd_T32 l0 (i : Int) = e at hx0 hx1 hx2 hx3 HPC
      replace hE := a_k hE
      simp only [Int.toNat_natCast] at hx0 hx1 hx2 hx3
      have p0 := eq_true (Int.natCast_nonneg i)
      replace q0 := eq_true q0
      have HBq := a_k (Below.refl wr.heap.size wr)
      by_cases h4 : i % 4 = 0
      ·have t4 : (((i : Int) % 4) == 0) = true := by rw [beq_iff_eq]; omega
       clear HBr HE
       go_wp2_with (first | ((with_reducible refine gate_dst (N := 7) rfl ?_); refine box_event ?hg (N := 7) ?hd (cs := #[.string (⟨#[]⟩ : ByteArray), .int .u64 0, .int .i64 0, .string (⟨#[]⟩ : ByteArray)]) (t := 32) ?hr ?_; (case hd => rfl); (case hg => rfl); (case hr => first | (go_simp; done) | (go_simp; rfl)); intro gb hg w13 hbox hb; have n0_ := a_k (below_step (by repeat (first | exact HBq.out | apply b_a | apply b_n | apply b_d)) hb); have n1_ := a_k (hbox); have n2_ := a_k ((by rw [hg]; exact (below_size (by repeat (first | exact HBq.out | apply b_a | apply b_n | apply b_d))) : wr.heap.size ≤ gb)); have n3_ := a_k ((by rw [hg]; exact (below_size (by repeat (first | exact HBq.out | apply b_a | apply b_n | apply b_d))) : wr.heap.size ≤ gb)); clear HBq; have HBq := n0_; have BK := n1_; have GW := n2_; have GE := n3_; clear n0_ n1_ n2_ n3_; clear hb hbox hg; have hcz14_0 : w13.cell? ⟨gb, 0, none⟩ = some (.string (⟨#[]⟩ : ByteArray)) := (blk_cell BK.out 0).trans rfl; have hcz14_1 : w13.cell? ⟨gb, 1, none⟩ = some (.int .u64 0) := (blk_cell BK.out 1).trans rfl; have hcz14_2 : w13.cell? ⟨gb, 2, none⟩ = some (.int .i64 0) := (blk_cell BK.out 2).trans rfl; have hcz14_3 : w13.cell? ⟨gb, 3, none⟩ = some (.string (⟨#[]⟩ : ByteArray)) := (blk_cell BK.out 3).trans rfl; have hfz14_0 := blk_frozen BK.out 0; have hfz14_1 := blk_frozen BK.out 1; have hfz14_2 := blk_frozen BK.out 2; have hfz14_3 := blk_frozen BK.out 3))
       have n0_ : Aside0 (((((w13.setCell ⟨gb, 0, none⟩ (.string e.f0)).setCell ⟨gb, 1, none⟩ (.int .u64 e.f1)).setCell ⟨gb, 2, none⟩ (.int .i64 e.f2)).setCell ⟨gb, 3, none⟩ (.string e.f3)).heap[gb]? = some (.cells #[.string e.f0, .int .u64 e.f1, .int .i64 e.f2, .string e.f3] 32 (0, 0))) := ⟨by (with_reducible repeat (first | refine blk_drewN ?_ _ | refine blk_drew ?_ | refine blk_alloc ?_ _)); refine blk_put (cs := #[.string e.f0, .int .u64 e.f1, .int .i64 e.f2, .string (⟨#[]⟩ : ByteArray)]) ?_ 3 _ rfl; (with_reducible repeat (first | refine blk_drewN ?_ _ | refine blk_drew ?_ | refine blk_alloc ?_ _)); refine blk_put (cs := #[.string e.f0, .int .u64 e.f1, .int .i64 0, .string (⟨#[]⟩ : ByteArray)]) ?_ 2 _ rfl; (with_reducible repeat (first | refine blk_drewN ?_ _ | refine blk_drew ?_ | refine blk_alloc ?_ _)); refine blk_put (cs := #[.string e.f0, .int .u64 0, .int .i64 0, .string (⟨#[]⟩ : ByteArray)]) ?_ 1 _ rfl; (with_reducible repeat (first | refine blk_drewN ?_ _ | refine blk_drew ?_ | refine blk_alloc ?_ _)); refine blk_put (cs := #[.string (⟨#[]⟩ : ByteArray), .int .u64 0, .int .i64 0, .string (⟨#[]⟩ : ByteArray)]) ?_ 0 _ rfl; (with_reducible repeat (first | refine blk_drewN ?_ _ | refine blk_drew ?_ | refine blk_alloc ?_ _)); exact BK.out⟩
       have n1_ : Aside0 (Below wr.heap.size wr ((((w13.setCell ⟨gb, 0, none⟩ (.string e.f0)).setCell ⟨gb, 1, none⟩ (.int .u64 e.f1)).setCell ⟨gb, 2, none⟩ (.int .i64 e.f2)).setCell ⟨gb, 3, none⟩ (.string e.f3))) := ⟨by repeat (first | (with_reducible first | exact HBq.out | apply b_a | apply b_n | apply b_d | refine below_set ?_ GE.out) | exact HBq.out)⟩
       (try clear BK)
       (try clear HBq)
       generalize ((((w13.setCell ⟨gb, 0, none⟩ (.string e.f0)).setCell ⟨gb, 1, none⟩ (.int .u64 e.f1)).setCell ⟨gb, 2, none⟩ (.int .i64 e.f2)).setCell ⟨gb, 3, none⟩ (.string e.f3)) = w15 at n0_ n1_ ⊢
       have BK := n0_
       have HBq := n1_
       clear n0_ n1_
       have hah := HAH.out
       unfold ahead at hah
       rw [if_pos h4] at hah
       obtain ⟨x, hx, hah⟩ := Option.bind_eq_some_iff.1 hah
       by_cases hrl : r.size + x.size ≤ lim
       ·rw [if_pos hrl] at hah
        obtain ⟨rfl, rfl⟩ := Prod.mk.inj (Option.some.inj hah)
        have HXF := a_k hx
        have HRL := a_k hrl
        have HT2 := a_k (HT.out.below HBq.out)
        (try clear HAH); (try clear hah); (try clear hx); (try clear hrl); (try clear hG); (try clear HT); (try clear HBq); (try clear hfz14_0); (try clear hfz14_1); (try clear hfz14_2); (try clear hfz14_3); (try clear hcz14_0); (try clear hcz14_1); (try clear hcz14_2); (try clear hcz14_3); (try clear hx0); (try clear hx1); (try clear hx2); (try clear hx3)
        go_wp2_with (first
         | (go_at_call 187; refine (Two.len HT2.out).mono ?_; rintro ee w16 ⟨rfl, rfl⟩)
         | (go_at_call 186; refine (block_four.calls k _ x _ HXF.out).mono ?_; rintro ee w17 ⟨rfl, hb17⟩; have HT3 := a_k (HT2.out.below hb17); have BK3 := a_k (blk_below BK.out hb17); clear hb17 HT2 BK)
         | (go_at_call 185; refine (Two.write2 HT3.out.swap x HRL.out).mono ?_; rintro ee w18 ⟨rfl, ht, hfr⟩; have HT4 := a_k ht.swap; have BK4 := a_k (hfr _ _ _ _ BK3.out (by decide) (by decide)); clear ht hfr HT3 BK3))
        have hpc := HPC.out
        rw [show rdE l0 (i : Int) = e from hE.out] at hpc
        unfold piece at hpc
        obtain ⟨y1, a1, hpc⟩ := Option.bind_eq_some_iff.1 hpc
        obtain ⟨y2, a2, hpc⟩ := Option.bind_eq_some_iff.1 hpc
        obtain ⟨y3, a3, hpc⟩ := Option.bind_eq_some_iff.1 hpc
        obtain ⟨y4, a4, hpc⟩ := Option.bind_eq_some_iff.1 hpc
        have hsz : y1.size + y2.size + y3.size + y4.size ≤ lim := by
         by_cases hq : y1.size + y2.size + y3.size + y4.size ≤ lim
         ·exact hq
         ·rw [if_neg hq] at hpc
          cases hpc
        rw [if_pos hsz] at hpc
        obtain rfl := Option.some.inj hpc
        have A1 := a_k a1
        have A3 := a_k a3
        have A4 := a_k a4
        have HSZ := a_k hsz
        obtain ⟨kr, hkr⟩ : ∃ kr, e.f0.extract (0 : Int).toNat e.f0.size = kr := ⟨_, rfl⟩
        have A2 : Aside0 (num_Text.f k [kr] = some y2) := ⟨by rw [← hkr]; exact a2⟩
        have HKR := a_k hkr
        clear hpc a1 a2 a3 a4 hsz hkr HPC
        have HM0 : Aside0 ((0 : Int) ≤ 0) := ⟨by omega⟩
        have HM1 : Aside0 ((0 : Int) ≤ (e.f0.size : Int)) := ⟨Int.natCast_nonneg _⟩
        have HTX := a_k (HT4.out.below (below_drew (Below.refl _ w18)))
        have BKX := a_k (blk_drew BK4.out)
        clear HT4 BK4
        generalize hb0 : b = b0_ at *
        refine start_ (n := 25) (S := fun w' => True) (ds := []) #[Z,Z,Z,Z,Z,Z,Z,Z,Z,Z,Z,Z,Z,Z,Z,Z,Z,Z,Z,Z,Z,Z,Z,Z,Z] (by kernel_rfl) rfl rfl trivial (fun hHeld => ?_); refine with_tabW pt11.tab pt11.bits (fun HT_ HW_ => ?_)
        generalize w18.drew = wS at *
        refine pure_ (i := 0) (N := some 34) (v := ?_) (a' := ?_) #[J,Z,Z,Z,Z,Z,Z,Z,Z,Z,Z,Z,Z,Z,Z,Z,Z,Z,Z,Z,Z,Z,Z,Z,Z] rfl rfl (any_of HT_.out (by kernel_rfl)) (fun _ _ _ h => h) (Or.inl ⟨by rfl, ?_⟩) ?_ ?_
        rotate_left
        ·intro w'
         go_simp
         with_reducible rfl
        rotate_left
        ·simp only [Act.put, l_s, l_0, l_1, i64_w, i32_w]
         rfl
        refine pure_ (i := 1) (N := some 35) (v := ?_) (a' := ?_) #[J,J,Z,Z,Z,Z,Z,Z,Z,Z,Z,Z,Z,Z,Z,Z,Z,Z,Z,Z,Z,Z,Z,Z,Z] rfl rfl (any_of HT_.out (by kernel_rfl)) (fun _ _ _ h => h) (Or.inl ⟨by rfl, ?_⟩) ?_ ?_
        rotate_left
        ·intro w'
         go_simp
         with_reducible rfl
        rotate_left
        ·simp only [Act.put, l_s, l_0, l_1, i64_w, i32_w]
         rfl
        refine pure_ (i := 4) (N := some 38) (v := ?_) (a' := ?_) #[J,J,Z,Z,J,Z,Z,Z,Z,Z,Z,Z,Z,Z,Z,Z,Z,Z,Z,Z,Z,Z,Z,Z,Z] rfl rfl (any_of HT_.out (by kernel_rfl)) (fun _ _ _ h => h) (Or.inl ⟨by rfl, ?_⟩) ?_ ?_
        rotate_left
        ·intro w'
         go_simp
         with_reducible rfl
        rotate_left
        ·simp only [Act.put, l_s, l_0, l_1, i64_w, i32_w]
         rfl
        refine pure_ (i := 6) (N := some 40) (v := ?_) (a' := ?_) #[J,J,Z,Z,J,Z,J,Z,Z,Z,Z,Z,Z,Z,Z,Z,Z,Z,Z,Z,Z,Z,Z,Z,Z] rfl rfl (any_of HT_.out (by kernel_rfl)) (fun _ _ _ h => h) (Or.inl ⟨by rfl, ?_⟩) ?_ ?_
        rotate_left
        ·intro w'
         go_simp
         with_reducible rfl
        rotate_left
        ·simp only [Act.put, l_s, l_0, l_1, i64_w, i32_w]
         rfl
        refine pure_ (i := 11) (N := some 45) (v := ?_) (a' := ?_) #[J,J,Z,Z,J,Z,J,Z,Z,Z,Z,J,Z,Z,Z,Z,Z,Z,Z,Z,Z,Z,Z,Z,Z] rfl rfl (any_of HT_.out (by kernel_rfl)) (fun _ _ _ h => h) (Or.inl ⟨by rfl, ?_⟩) ?_ ?_
        rotate_left
        ·intro w'
         go_simp
         with_reducible rfl
        rotate_left
        ·simp only [Act.put, l_s, l_0, l_1, i64_w, i32_w]
         rfl
        refine pure_ (i := 13) (N := some 47) (v := ?_) (a' := ?_) #[J,J,Z,Z,J,Z,J,Z,Z,Z,Z,J,Z,J,Z,Z,Z,Z,Z,Z,Z,Z,Z,Z,Z] rfl rfl (any_of HT_.out (by kernel_rfl)) (fun _ _ _ h => h) (Or.inl ⟨by rfl, ?_⟩) ?_ ?_
        rotate_left
        ·intro w'
         go_simp
         with_reducible rfl
        rotate_left
        ·simp only [Act.put, l_s, l_0, l_1, i64_w, i32_w]
         rfl
        refine pure_ (i := 19) (N := some 53) (v := ?_) (a' := ?_) #[J,J,Z,Z,J,Z,J,Z,Z,Z,Z,J,Z,J,Z,Z,Z,Z,Z,J,Z,Z,Z,Z,Z] rfl rfl (any_of HT_.out (by kernel_rfl)) (fun _ _ _ h => h) (Or.inl ⟨by rfl, ?_⟩) ?_ ?_
        rotate_left
        ·intro w'
         go_simp
         with_reducible rfl
        rotate_left
        ·simp only [Act.put, l_s, l_0, l_1, i64_w, i32_w]
         rfl
        refine inv_at [2, 3, 5, 7, 8, 9, 10, 12, 14, 15, 16, 17, 18, 20, 21, 22, 23, 24] (fun a0_ b a w' => ∃ (v36 : Value), ∃ (v42 : Value), ∃ (v50 : Value), ∃ (v55 : Value), a = putSel a0_ b [(2, 36, v36), (3, 37, .string y1), (5, 39, .string e.f0), (7, 41, .string kr), (8, 42, v42), (9, 43, .string y2), (10, 44, .string (y1 ++ y2)), (12, 46, .int .u64 e.f1), (14, 48, .int .i64 e.f2), (15, 49, .int .u64 (IntKind.u64.wrap e.f2)), (16, 50, v50), (17, 51, .string y3), (18, 52, .string ((y1 ++ y2) ++ y3)), (20, 54, .string e.f3), (21, 55, v55), (22, 56, .string y4), (23, 57, .string (((y1 ++ y2) ++ y3) ++ y4)), (24, 58, .tuple #[.int .i64 (((y1 ++ y2) ++ y3) ++ y4).size, .nilIface])] ∧ (b 24 = false → Two w w' w1.heap.size (w1.heap.size + 1) b0_ (r ++ x)) ∧ (b 24 = true → Two w w' w1.heap.size (w1.heap.size + 1) (b0_ ++ (((y1 ++ y2) ++ y3) ++ y4)) (r ++ x)) ∧ (w'.heap[gb]? = some (.cells #[.string e.f0, .int .u64 e.f1, .int .i64 e.f2, .string e.f3] 32 (0, 0))) ∧ (b 2 = true → b 24 = false → Kd.R (Kd.int .u64) 25 w' w.heap.size (fun _ => True) v36 ([0] : List Int)) ∧ (b 8 = true → b 24 = false → Kd.R Kd.string 9 w' w.heap.size (fun _ => True) v42 ([kr] : List ByteArray)) ∧ (b 16 = true → b 24 = false → Kd.R (Kd.int .u64) 25 w' w.heap.size (fun _ => True) v50 ([e.f1, (IntKind.u64.wrap e.f2)] : List Int)) ∧ (b 21 = true → b 24 = false → Kd.R Kd.string 9 w' w.heap.size (fun _ => True) v55 ([e.f3] : List ByteArray))) HT_.out HW_.out (by kernel_rfl) (by kernel_rfl) ?_ ?_ ?_
        ·exact ⟨.bool false, .bool false, .bool false, .bool false, by simp only [putSel, Bool.false_eq_true, if_false], fun _ => HTX.out, fun h_ => absurd h_ (by decide), BKX.out, fun h_ => absurd h_ (by decide), fun h_ => absurd h_ (by decide), fun h_ => absurd h_ (by decide), fun h_ => absurd h_ (by decide)⟩
        ·skip
         refine steps_cons ?_ ?_
         ·rintro b a w' ⟨v36, v42, v50, v55, ha, Q_TW, Q_POST, Q_BK, Q_L36, Q_L42, Q_L50, Q_L55⟩ hb_ hon hoff
          refine ⟨_, rfl, fun K hK => ?_⟩
          have e35 : a.tmps[35]? = some (.int .u64 0) := by rw [ha]; exact (putSel_off rfl).trans rfl
          replace ha := a_k ha
          refine Kd.R_lit_step (Kd.int .u64) _ 25 ?hg (N := 36) ?hd (xs := ([0] : List Int)) (inner := [.int .u64 0]) (ok := fun _ => True) (okp := fun _ => True) ?hr ?hp (fun _ hk => hk) trivial (Below.refl _ _) (Nat.le_refl _) (by simp) ?_; (case hd => rfl); (case hg => rfl); (case hr => first | (go_simp; done) | (go_simp; rfl)); (case hp => exact (Reps.one (show Kd.M (Kd.int .u64) _ _ _ 0 [.int .u64 0] from rfl) (Reps.none _ _)))
          intro v36n w1 ho1 hb1 hg_ hnew_
          clear hg_ hnew_
          refine hK.out _ _ ⟨v36n, v42, v50, v55, by rw [ha.out]; exact putSel_upk 0 hb_ rfl rfl rfl, fun h_ => (Q_TW h_).below hb1, fun h_ => absurd ((hoff 24 (by kernel_rfl)).symm.trans h_) (by decide), blk_below Q_BK hb1, fun _ _ => Kd.R_lower ho1 (Q_TW (hoff 24 (by kernel_rfl))).bel.size, fun h_ k_ => Kd.R_below (Q_L42 h_ k_) hb1, fun h_ k_ => Kd.R_below (Q_L50 h_ k_) hb1, fun h_ k_ => Kd.R_below (Q_L55 h_ k_) hb1⟩
         refine steps_cons ?_ ?_
         ·rintro b a w' ⟨v36, v42, v50, v55, ha, Q_TW, Q_POST, Q_BK, Q_L36, Q_L42, Q_L50, Q_L55⟩ hb_ hon hoff
          refine ⟨_, rfl, fun K hK => ?_⟩
          have e36 : a.tmps[36]? = some (v36) := by rw [ha]; exact putSel_on (e := (2, 36, v36)) 0 rfl rfl (hon 2 (by kernel_rfl)) rfl
          replace ha := a_k ha
          have hS := Q_L36 (hon 2 (by kernel_rfl)) (hoff 24 (by kernel_rfl))
          obtain ⟨As, cs, es⟩ := Kd.R_slice hS
          subst es
          refine goes_ Tryz.func165 (by kernel_rfl) rfl #[.slice As ([0] : List Int).length cs] (by rfl) rfl rfl (by first | (simp only [m_a, m_c, m_n, Act.eval, Array.getD_eq_getD_getElem?, Option.getD_some, e36]; done) | (simp only [m_a, m_c, m_n, Act.eval, Array.getD_eq_getD_getElem?, Option.getD_some, e36]; rfl)) ?_
          refine (num_Var.calls k _ _ ([0] : List Int) y1 _ (Kd.R_reads' hS).2.2 (Kd.R_reads' hS).2.1 A1.out).mono ?_
          rintro e w1 ⟨rfl, hb1⟩
          refine ⟨_, rfl, ?_⟩
          refine hK.out _ _ ⟨.slice As ([0] : List Int).length cs, v42, v50, v55, by rw [ha.out]; exact putSel_upk 1 hb_ rfl rfl rfl, fun h_ => (Q_TW h_).below hb1, fun h_ => absurd ((hoff 24 (by kernel_rfl)).symm.trans h_) (by decide), blk_below Q_BK hb1, fun h_ k_ => Kd.R_below (Q_L36 h_ k_) hb1, fun h_ k_ => Kd.R_below (Q_L42 h_ k_) hb1, fun h_ k_ => Kd.R_below (Q_L50 h_ k_) hb1, fun h_ k_ => Kd.R_below (Q_L55 h_ k_) hb1⟩
         refine steps_cons ?_ ?_
         ·rintro b a w' ⟨v36, v42, v50, v55, ha, Q_TW, Q_POST, Q_BK, Q_L36, Q_L42, Q_L50, Q_L55⟩ hb_ hon hoff
          refine ⟨_, rfl, fun K hK => ?_⟩
          have e38 : a.tmps[38]? = some (.pointer (some ⟨gb, 0, none⟩)) := by rw [ha]; exact (putSel_off rfl).trans rfl
          replace ha := a_k ha
          have hc0_ : w'.cell? ⟨gb, 0, none⟩ = some (.string e.f0) := (blk_cell Q_BK 0).trans rfl
          have hc1_ : w'.cell? ⟨gb, 1, none⟩ = some (.int .u64 e.f1) := (blk_cell Q_BK 1).trans rfl
          have hc2_ : w'.cell? ⟨gb, 2, none⟩ = some (.int .i64 e.f2) := (blk_cell Q_BK 2).trans rfl
          have hc3_ : w'.cell? ⟨gb, 3, none⟩ = some (.string e.f3) := (blk_cell Q_BK 3).trans rfl
          refine value_ (w1 := w') (v := .string e.f0) (by rfl) rfl ?_ ?_
          ·go_simp
           (try simp only [i64_w])
           try rfl
          refine hK.out _ _ ⟨v36, v42, v50, v55, by rw [ha.out]; exact putSel_upk 2 hb_ rfl rfl rfl, Q_TW, Q_POST, Q_BK, Q_L36, Q_L42, Q_L50, Q_L55⟩
         refine steps_cons ?_ ?_
         ·rintro b a w' ⟨v36, v42, v50, v55, ha, Q_TW, Q_POST, Q_BK, Q_L36, Q_L42, Q_L50, Q_L55⟩ hb_ hon hoff
          refine ⟨_, rfl, fun K hK => ?_⟩
          have e39 : a.tmps[39]? = some (.string e.f0) := by rw [ha]; exact putSel_on (e := (5, 39, .string e.f0)) 2 rfl rfl (hon 5 (by kernel_rfl)) rfl
          have e40 : a.tmps[40]? = some (.int .i64 0) := by rw [ha]; exact (putSel_off rfl).trans rfl
          replace ha := a_k ha
          have hm0 := HM0.out
          have hm1 := HM1.out
          have hkr := HKR.out
          refine value_ (w1 := w') (v := .string kr) (by rfl) rfl ?_ ?_
          ·(go_simp; (try simp only [i64_w]); first | done | rfl | exact hkr | (rw [← hkr]; simp))
          refine hK.out _ _ ⟨v36, v42, v50, v55, by rw [ha.out]; exact putSel_upk 3 hb_ rfl rfl rfl, Q_TW, Q_POST, Q_BK, Q_L36, Q_L42, Q_L50, Q_L55⟩
         refine steps_cons ?_ ?_
         ·rintro b a w' ⟨v36, v42, v50, v55, ha, Q_TW, Q_POST, Q_BK, Q_L36, Q_L42, Q_L50, Q_L55⟩ hb_ hon hoff
          refine ⟨_, rfl, fun K hK => ?_⟩
          have e41 : a.tmps[41]? = some (.string kr) := by rw [ha]; exact putSel_on (e := (7, 41, .string kr)) 3 rfl rfl (hon 7 (by kernel_rfl)) rfl
          replace ha := a_k ha
          refine Kd.R_lit_step Kd.string _ 9 ?hg (N := 42) ?hd (xs := ([kr] : List ByteArray)) (inner := [.string kr]) (ok := fun _ => True) (okp := fun _ => True) ?hr ?hp (fun _ hk => hk) trivial (Below.refl _ _) (Nat.le_refl _) (by simp) ?_; (case hd => rfl); (case hg => rfl); (case hr => first | (go_simp; done) | (go_simp; rfl)); (case hp => exact (Reps.one (show Kd.M Kd.string _ _ _ kr [.string kr] from rfl) (Reps.none _ _)))
          intro v42n w1 ho1 hb1 hg_ hnew_
          clear hg_ hnew_
          refine hK.out _ _ ⟨v36, v42n, v50, v55, by rw [ha.out]; exact putSel_upk 4 hb_ rfl rfl rfl, fun h_ => (Q_TW h_).below hb1, fun h_ => absurd ((hoff 24 (by kernel_rfl)).symm.trans h_) (by decide), blk_below Q_BK hb1, fun h_ k_ => Kd.R_below (Q_L36 h_ k_) hb1, fun _ _ => Kd.R_lower ho1 (Q_TW (hoff 24 (by kernel_rfl))).bel.size, fun h_ k_ => Kd.R_below (Q_L50 h_ k_) hb1, fun h_ k_ => Kd.R_below (Q_L55 h_ k_) hb1⟩
         refine steps_cons ?_ ?_
         ·rintro b a w' ⟨v36, v42, v50, v55, ha, Q_TW, Q_POST, Q_BK, Q_L36, Q_L42, Q_L50, Q_L55⟩ hb_ hon hoff
          refine ⟨_, rfl, fun K hK => ?_⟩
          have e42 : a.tmps[42]? = some (v42) := by rw [ha]; exact putSel_on (e := (8, 42, v42)) 4 rfl rfl (hon 8 (by kernel_rfl)) rfl
          replace ha := a_k ha
          have hS := Q_L42 (hon 8 (by kernel_rfl)) (hoff 24 (by kernel_rfl))
          obtain ⟨As, cs, es⟩ := Kd.R_slice hS
          subst es
          refine goes_ Tryz.func164 (by kernel_rfl) rfl #[.slice As ([kr] : List ByteArray).length cs] (by rfl) rfl rfl (by first | (simp only [m_a, m_c, m_n, Act.eval, Array.getD_eq_getD_getElem?, Option.getD_some, e42]; done) | (simp only [m_a, m_c, m_n, Act.eval, Array.getD_eq_getD_getElem?, Option.getD_some, e42]; rfl)) ?_
          refine (num_Text.calls k _ _ ([kr] : List ByteArray) y2 _ (Kd.R_reads' hS).2.2 (Kd.R_reads' hS).2.1 A2.out).mono ?_
          rintro e w1 ⟨rfl, hb1⟩
          refine ⟨_, rfl, ?_⟩
          refine hK.out _ _ ⟨v36, .slice As ([kr] : List ByteArray).length cs, v50, v55, by rw [ha.out]; exact putSel_upk 5 hb_ rfl rfl rfl, fun h_ => (Q_TW h_).below hb1, fun h_ => absurd ((hoff 24 (by kernel_rfl)).symm.trans h_) (by decide), blk_below Q_BK hb1, fun h_ k_ => Kd.R_below (Q_L36 h_ k_) hb1, fun h_ k_ => Kd.R_below (Q_L42 h_ k_) hb1, fun h_ k_ => Kd.R_below (Q_L50 h_ k_) hb1, fun h_ k_ => Kd.R_below (Q_L55 h_ k_) hb1⟩
         refine steps_cons ?_ ?_
         ·rintro b a w' ⟨v36, v42, v50, v55, ha, Q_TW, Q_POST, Q_BK, Q_L36, Q_L42, Q_L50, Q_L55⟩ hb_ hon hoff
          refine ⟨_, rfl, fun K hK => ?_⟩
          have e37 : a.tmps[37]? = some (.string y1) := by rw [ha]; exact putSel_on (e := (3, 37, .string y1)) 1 rfl rfl (hon 3 (by kernel_rfl)) rfl
          have e43 : a.tmps[43]? = some (.string y2) := by rw [ha]; exact putSel_on (e := (9, 43, .string y2)) 5 rfl rfl (hon 9 (by kernel_rfl)) rfl
          replace ha := a_k ha
          have hz_ := HSZ.out
          have f1 := eq_true (show y1.size + y2.size ≤ 9223372036854775807 by unfold lim at hz_; (try simp only [ByteArray.size_append]); omega)
          have f2 : (9223372036854775807 < y1.size + y2.size) = False := eq_false (by unfold lim at hz_; (try simp only [ByteArray.size_append]); omega)
          try simp only [ByteArray.size_append] at f1 f2
          refine value_ (w1 := w') (v := .string (y1 ++ y2)) (by rfl) rfl ?_ ?_
          ·go_simp
           (try simp only [i64_w])
           try rfl
          refine hK.out _ _ ⟨v36, v42, v50, v55, by rw [ha.out]; exact putSel_upk 6 hb_ rfl rfl rfl, Q_TW, Q_POST, Q_BK, Q_L36, Q_L42, Q_L50, Q_L55⟩
         refine steps_cons ?_ ?_
         ·rintro b a w' ⟨v36, v42, v50, v55, ha, Q_TW, Q_POST, Q_BK, Q_L36, Q_L42, Q_L50, Q_L55⟩ hb_ hon hoff
          refine ⟨_, rfl, fun K hK => ?_⟩
          have e45 : a.tmps[45]? = some (.pointer (some ⟨gb, 1, none⟩)) := by rw [ha]; exact (putSel_off rfl).trans rfl
          replace ha := a_k ha
          have hc0_ : w'.cell? ⟨gb, 0, none⟩ = some (.string e.f0) := (blk_cell Q_BK 0).trans rfl
          have hc1_ : w'.cell? ⟨gb, 1, none⟩ = some (.int .u64 e.f1) := (blk_cell Q_BK 1).trans rfl
          have hc2_ : w'.cell? ⟨gb, 2, none⟩ = some (.int .i64 e.f2) := (blk_cell Q_BK 2).trans rfl
          have hc3_ : w'.cell? ⟨gb, 3, none⟩ = some (.string e.f3) := (blk_cell Q_BK 3).trans rfl
          refine value_ (w1 := w') (v := .int .u64 e.f1) (by rfl) rfl ?_ ?_
          ·go_simp
           (try simp only [i64_w])
           try rfl
          refine hK.out _ _ ⟨v36, v42, v50, v55, by rw [ha.out]; exact putSel_upk 7 hb_ rfl rfl rfl, Q_TW, Q_POST, Q_BK, Q_L36, Q_L42, Q_L50, Q_L55⟩
         refine steps_cons ?_ ?_
         ·rintro b a w' ⟨v36, v42, v50, v55, ha, Q_TW, Q_POST, Q_BK, Q_L36, Q_L42, Q_L50, Q_L55⟩ hb_ hon hoff
          refine ⟨_, rfl, fun K hK => ?_⟩
          have e47 : a.tmps[47]? = some (.pointer (some ⟨gb, 2, none⟩)) := by rw [ha]; exact (putSel_off rfl).trans rfl
          replace ha := a_k ha
          have hc0_ : w'.cell? ⟨gb, 0, none⟩ = some (.string e.f0) := (blk_cell Q_BK 0).trans rfl
          have hc1_ : w'.cell? ⟨gb, 1, none⟩ = some (.int .u64 e.f1) := (blk_cell Q_BK 1).trans rfl
          have hc2_ : w'.cell? ⟨gb, 2, none⟩ = some (.int .i64 e.f2) := (blk_cell Q_BK 2).trans rfl
          have hc3_ : w'.cell? ⟨gb, 3, none⟩ = some (.string e.f3) := (blk_cell Q_BK 3).trans rfl
          refine value_ (w1 := w') (v := .int .i64 e.f2) (by rfl) rfl ?_ ?_
          ·go_simp
           (try simp only [i64_w])
           try rfl
          refine hK.out _ _ ⟨v36, v42, v50, v55, by rw [ha.out]; exact putSel_upk 8 hb_ rfl rfl rfl, Q_TW, Q_POST, Q_BK, Q_L36, Q_L42, Q_L50, Q_L55⟩
         refine steps_cons ?_ ?_
         ·rintro b a w' ⟨v36, v42, v50, v55, ha, Q_TW, Q_POST, Q_BK, Q_L36, Q_L42, Q_L50, Q_L55⟩ hb_ hon hoff
          refine ⟨_, rfl, fun K hK => ?_⟩
          have e48 : a.tmps[48]? = some (.int .i64 e.f2) := by rw [ha]; exact putSel_on (e := (14, 48, .int .i64 e.f2)) 8 rfl rfl (hon 14 (by kernel_rfl)) rfl
          replace ha := a_k ha
          refine value_ (w1 := w') (v := .int .u64 (IntKind.u64.wrap e.f2)) (by rfl) rfl ?_ ?_
          ·go_simp
           (try simp only [i64_w])
           try rfl
          refine hK.out _ _ ⟨v36, v42, v50, v55, by rw [ha.out]; exact putSel_upk 9 hb_ rfl rfl rfl, Q_TW, Q_POST, Q_BK, Q_L36, Q_L42, Q_L50, Q_L55⟩
         refine steps_cons ?_ ?_
         ·rintro b a w' ⟨v36, v42, v50, v55, ha, Q_TW, Q_POST, Q_BK, Q_L36, Q_L42, Q_L50, Q_L55⟩ hb_ hon hoff
          refine ⟨_, rfl, fun K hK => ?_⟩
          have e46 : a.tmps[46]? = some (.int .u64 e.f1) := by rw [ha]; exact putSel_on (e := (12, 46, .int .u64 e.f1)) 7 rfl rfl (hon 12 (by kernel_rfl)) rfl
          have e49 : a.tmps[49]? = some (.int .u64 (IntKind.u64.wrap e.f2)) := by rw [ha]; exact putSel_on (e := (15, 49, .int .u64 (IntKind.u64.wrap e.f2))) 9 rfl rfl (hon 15 (by kernel_rfl)) rfl
          replace ha := a_k ha
          refine Kd.R_lit_step (Kd.int .u64) _ 25 ?hg (N := 50) ?hd (xs := ([e.f1, (IntKind.u64.wrap e.f2)] : List Int)) (inner := [.int .u64 e.f1, .int .u64 (IntKind.u64.wrap e.f2)]) (ok := fun _ => True) (okp := fun _ => True) ?hr ?hp (fun _ hk => hk) trivial (Below.refl _ _) (Nat.le_refl _) (by simp) ?_; (case hd => rfl); (case hg => rfl); (case hr => first | (go_simp; done) | (go_simp; rfl)); (case hp => exact (Reps.one (show Kd.M (Kd.int .u64) _ _ _ e.f1 [.int .u64 e.f1] from rfl) (Reps.one (show Kd.M (Kd.int .u64) _ _ _ (IntKind.u64.wrap e.f2) [.int .u64 (IntKind.u64.wrap e.f2)] from rfl) (Reps.none _ _))))
          intro v50n w1 ho1 hb1 hg_ hnew_
          clear hg_ hnew_
          refine hK.out _ _ ⟨v36, v42, v50n, v55, by rw [ha.out]; exact putSel_upk 10 hb_ rfl rfl rfl, fun h_ => (Q_TW h_).below hb1, fun h_ => absurd ((hoff 24 (by kernel_rfl)).symm.trans h_) (by decide), blk_below Q_BK hb1, fun h_ k_ => Kd.R_below (Q_L36 h_ k_) hb1, fun h_ k_ => Kd.R_below (Q_L42 h_ k_) hb1, fun _ _ => Kd.R_lower ho1 (Q_TW (hoff 24 (by kernel_rfl))).bel.size, fun h_ k_ => Kd.R_below (Q_L55 h_ k_) hb1⟩
         refine steps_cons ?_ ?_
         ·rintro b a w' ⟨v36, v42, v50, v55, ha, Q_TW, Q_POST, Q_BK, Q_L36, Q_L42, Q_L50, Q_L55⟩ hb_ hon hoff
          refine ⟨_, rfl, fun K hK => ?_⟩
          have e50 : a.tmps[50]? = some (v50) := by rw [ha]; exact putSel_on (e := (16, 50, v50)) 10 rfl rfl (hon 16 (by kernel_rfl)) rfl
          replace ha := a_k ha
          have hS := Q_L50 (hon 16 (by kernel_rfl)) (hoff 24 (by kernel_rfl))
          obtain ⟨As, cs, es⟩ := Kd.R_slice hS
          subst es
          refine goes_ Tryz.func165 (by kernel_rfl) rfl #[.slice As ([e.f1, (IntKind.u64.wrap e.f2)] : List Int).length cs] (by rfl) rfl rfl (by first | (simp only [m_a, m_c, m_n, Act.eval, Array.getD_eq_getD_getElem?, Option.getD_some, e50]; done) | (simp only [m_a, m_c, m_n, Act.eval, Array.getD_eq_getD_getElem?, Option.getD_some, e50]; rfl)) ?_
          refine (num_Var.calls k _ _ ([e.f1, (IntKind.u64.wrap e.f2)] : List Int) y3 _ (Kd.R_reads' hS).2.2 (Kd.R_reads' hS).2.1 A3.out).mono ?_
          rintro e w1 ⟨rfl, hb1⟩
          refine ⟨_, rfl, ?_⟩
          refine hK.out _ _ ⟨v36, v42, .slice As ([e.f1, (IntKind.u64.wrap e.f2)] : List Int).length cs, v55, by rw [ha.out]; exact putSel_upk 11 hb_ rfl rfl rfl, fun h_ => (Q_TW h_).below hb1, fun h_ => absurd ((hoff 24 (by kernel_rfl)).symm.trans h_) (by decide), blk_below Q_BK hb1, fun h_ k_ => Kd.R_below (Q_L36 h_ k_) hb1, fun h_ k_ => Kd.R_below (Q_L42 h_ k_) hb1, fun h_ k_ => Kd.R_below (Q_L50 h_ k_) hb1, fun h_ k_ => Kd.R_below (Q_L55 h_ k_) hb1⟩
         refine steps_cons ?_ ?_
         ·rintro b a w' ⟨v36, v42, v50, v55, ha, Q_TW, Q_POST, Q_BK, Q_L36, Q_L42, Q_L50, Q_L55⟩ hb_ hon hoff
          refine ⟨_, rfl, fun K hK => ?_⟩
          have e44 : a.tmps[44]? = some (.string (y1 ++ y2)) := by rw [ha]; exact putSel_on (e := (10, 44, .string (y1 ++ y2))) 6 rfl rfl (hon 10 (by kernel_rfl)) rfl
          have e51 : a.tmps[51]? = some (.string y3) := by rw [ha]; exact putSel_on (e := (17, 51, .string y3)) 11 rfl rfl (hon 17 (by kernel_rfl)) rfl
          replace ha := a_k ha
          have hz_ := HSZ.out
          have f1 := eq_true (show (y1 ++ y2).size + y3.size ≤ 9223372036854775807 by unfold lim at hz_; (try simp only [ByteArray.size_append]); omega)
          have f2 : (9223372036854775807 < (y1 ++ y2).size + y3.size) = False := eq_false (by unfold lim at hz_; (try simp only [ByteArray.size_append]); omega)
          try simp only [ByteArray.size_append] at f1 f2
          refine value_ (w1 := w') (v := .string ((y1 ++ y2) ++ y3)) (by rfl) rfl ?_ ?_
          ·go_simp
           (try simp only [i64_w])
           try rfl
          refine hK.out _ _ ⟨v36, v42, v50, v55, by rw [ha.out]; exact putSel_upk 12 hb_ rfl rfl rfl, Q_TW, Q_POST, Q_BK, Q_L36, Q_L42, Q_L50, Q_L55⟩
         refine steps_cons ?_ ?_
         ·rintro b a w' ⟨v36, v42, v50, v55, ha, Q_TW, Q_POST, Q_BK, Q_L36, Q_L42, Q_L50, Q_L55⟩ hb_ hon hoff
          refine ⟨_, rfl, fun K hK => ?_⟩
          have e53 : a.tmps[53]? = some (.pointer (some ⟨gb, 3, none⟩)) := by rw [ha]; exact (putSel_off rfl).trans rfl
          replace ha := a_k ha
          have hc0_ : w'.cell? ⟨gb, 0, none⟩ = some (.string e.f0) := (blk_cell Q_BK 0).trans rfl
          have hc1_ : w'.cell? ⟨gb, 1, none⟩ = some (.int .u64 e.f1) := (blk_cell Q_BK 1).trans rfl
          have hc2_ : w'.cell? ⟨gb, 2, none⟩ = some (.int .i64 e.f2) := (blk_cell Q_BK 2).trans rfl
          have hc3_ : w'.cell? ⟨gb, 3, none⟩ = some (.string e.f3) := (blk_cell Q_BK 3).trans rfl
          refine value_ (w1 := w') (v := .string e.f3) (by rfl) rfl ?_ ?_
          ·go_simp
           (try simp only [i64_w])
           try rfl
          refine hK.out _ _ ⟨v36, v42, v50, v55, by rw [ha.out]; exact putSel_upk 13 hb_ rfl rfl rfl, Q_TW, Q_POST, Q_BK, Q_L36, Q_L42, Q_L50, Q_L55⟩
         refine steps_cons ?_ ?_
         ·rintro b a w' ⟨v36, v42, v50, v55, ha, Q_TW, Q_POST, Q_BK, Q_L36, Q_L42, Q_L50, Q_L55⟩ hb_ hon hoff
          refine ⟨_, rfl, fun K hK => ?_⟩
          have e54 : a.tmps[54]? = some (.string e.f3) := by rw [ha]; exact putSel_on (e := (20, 54, .string e.f3)) 13 rfl rfl (hon 20 (by kernel_rfl)) rfl
          replace ha := a_k ha
          refine Kd.R_lit_step Kd.string _ 9 ?hg (N := 55) ?hd (xs := ([e.f3] : List ByteArray)) (inner := [.string e.f3]) (ok := fun _ => True) (okp := fun _ => True) ?hr ?hp (fun _ hk => hk) trivial (Below.refl _ _) (Nat.le_refl _) (by simp) ?_; (case hd => rfl); (case hg => rfl); (case hr => first | (go_simp; done) | (go_simp; rfl)); (case hp => exact (Reps.one (show Kd.M Kd.string _ _ _ e.f3 [.string e.f3] from rfl) (Reps.none _ _)))
          intro v55n w1 ho1 hb1 hg_ hnew_
          clear hg_ hnew_
          refine hK.out _ _ ⟨v36, v42, v50, v55n, by rw [ha.out]; exact putSel_upk 14 hb_ rfl rfl rfl, fun h_ => (Q_TW h_).below hb1, fun h_ => absurd ((hoff 24 (by kernel_rfl)).symm.trans h_) (by decide), blk_below Q_BK hb1, fun h_ k_ => Kd.R_below (Q_L36 h_ k_) hb1, fun h_ k_ => Kd.R_below (Q_L42 h_ k_) hb1, fun h_ k_ => Kd.R_below (Q_L50 h_ k_) hb1, fun _ _ => Kd.R_lower ho1 (Q_TW (hoff 24 (by kernel_rfl))).bel.size⟩
         refine steps_cons ?_ ?_
         ·rintro b a w' ⟨v36, v42, v50, v55, ha, Q_TW, Q_POST, Q_BK, Q_L36, Q_L42, Q_L50, Q_L55⟩ hb_ hon hoff
          refine ⟨_, rfl, fun K hK => ?_⟩
          have e55 : a.tmps[55]? = some (v55) := by rw [ha]; exact putSel_on (e := (21, 55, v55)) 14 rfl rfl (hon 21 (by kernel_rfl)) rfl
          replace ha := a_k ha
          have hS := Q_L55 (hon 21 (by kernel_rfl)) (hoff 24 (by kernel_rfl))
          obtain ⟨As, cs, es⟩ := Kd.R_slice hS
          subst es
          refine goes_ Tryz.func164 (by kernel_rfl) rfl #[.slice As ([e.f3] : List ByteArray).length cs] (by rfl) rfl rfl (by first | (simp only [m_a, m_c, m_n, Act.eval, Array.getD_eq_getD_getElem?, Option.getD_some, e55]; done) | (simp only [m_a, m_c, m_n, Act.eval, Array.getD_eq_getD_getElem?, Option.getD_some, e55]; rfl)) ?_
          refine (num_Text.calls k _ _ ([e.f3] : List ByteArray) y4 _ (Kd.R_reads' hS).2.2 (Kd.R_reads' hS).2.1 A4.out).mono ?_
          rintro e w1 ⟨rfl, hb1⟩
          refine ⟨_, rfl, ?_⟩
          refine hK.out _ _ ⟨v36, v42, v50, .slice As ([e.f3] : List ByteArray).length cs, by rw [ha.out]; exact putSel_upk 15 hb_ rfl rfl rfl, fun h_ => (Q_TW h_).below hb1, fun h_ => absurd ((hoff 24 (by kernel_rfl)).symm.trans h_) (by decide), blk_below Q_BK hb1, fun h_ k_ => Kd.R_below (Q_L36 h_ k_) hb1, fun h_ k_ => Kd.R_below (Q_L42 h_ k_) hb1, fun h_ k_ => Kd.R_below (Q_L50 h_ k_) hb1, fun h_ k_ => Kd.R_below (Q_L55 h_ k_) hb1⟩
         refine steps_cons ?_ ?_
         ·rintro b a w' ⟨v36, v42, v50, v55, ha, Q_TW, Q_POST, Q_BK, Q_L36, Q_L42, Q_L50, Q_L55⟩ hb_ hon hoff
          refine ⟨_, rfl, fun K hK => ?_⟩
          have e52 : a.tmps[52]? = some (.string ((y1 ++ y2) ++ y3)) := by rw [ha]; exact putSel_on (e := (18, 52, .string ((y1 ++ y2) ++ y3))) 12 rfl rfl (hon 18 (by kernel_rfl)) rfl
          have e56 : a.tmps[56]? = some (.string y4) := by rw [ha]; exact putSel_on (e := (22, 56, .string y4)) 15 rfl rfl (hon 22 (by kernel_rfl)) rfl
          replace ha := a_k ha
          have hz_ := HSZ.out
          have f1 := eq_true (show ((y1 ++ y2) ++ y3).size + y4.size ≤ 9223372036854775807 by unfold lim at hz_; (try simp only [ByteArray.size_append]); omega)
          have f2 : (9223372036854775807 < ((y1 ++ y2) ++ y3).size + y4.size) = False := eq_false (by unfold lim at hz_; (try simp only [ByteArray.size_append]); omega)
          try simp only [ByteArray.size_append] at f1 f2
          refine value_ (w1 := w') (v := .string (((y1 ++ y2) ++ y3) ++ y4)) (by rfl) rfl ?_ ?_
          ·go_simp
           (try simp only [i64_w])
           try rfl
          refine hK.out _ _ ⟨v36, v42, v50, v55, by rw [ha.out]; exact putSel_upk 16 hb_ rfl rfl rfl, Q_TW, Q_POST, Q_BK, Q_L36, Q_L42, Q_L50, Q_L55⟩
         refine steps_cons ?_ ?_
         ·rintro b a w' ⟨v36, v42, v50, v55, ha, Q_TW, Q_POST, Q_BK, Q_L36, Q_L42, Q_L50, Q_L55⟩ hb_ hon hoff
          refine ⟨_, rfl, fun K hK => ?_⟩
          have e4 : a.tmps[4]? = some (.pointer (some ⟨w1.heap.size, 0, none⟩)) := by rw [ha]; exact (putSel_off rfl).trans rfl
          have e57 : a.tmps[57]? = some (.string (((y1 ++ y2) ++ y3) ++ y4)) := by rw [ha]; exact putSel_on (e := (23, 57, .string (((y1 ++ y2) ++ y3) ++ y4))) 16 rfl rfl (hon 23 (by kernel_rfl)) rfl
          replace ha := a_k ha
          refine goes_ Tryz.func185 (by kernel_rfl) rfl #[.pointer (some ⟨w1.heap.size, 0, none⟩), .string (((y1 ++ y2) ++ y3) ++ y4)] (by rfl) rfl rfl (by first | (simp only [m_a, m_c, m_n, Act.eval, Array.getD_eq_getD_getElem?, Option.getD_some, e4, e57]; done) | (simp only [m_a, m_c, m_n, Act.eval, Array.getD_eq_getD_getElem?, Option.getD_some, e4, e57]; rfl)) ?_
          refine (Two.write2 (Q_TW hb_) (((y1 ++ y2) ++ y3) ++ y4) HPL.out).mono ?_
          rintro e w1 ⟨rfl, ht, hfr⟩
          refine ⟨_, rfl, ?_⟩
          refine hK.out _ _ ⟨v36, v42, v50, v55, by rw [ha.out]; exact putSel_upk 17 hb_ rfl rfl rfl, fun h_ => absurd h_ (by simp [Go.Proofs.YtchgpcgolgcfdaaGreatW.PrintLast.up]), fun _ => ht, hfr _ _ _ _ Q_BK (by decide) (by decide), fun _ h_ => absurd h_ (by simp [Go.Proofs.YtchgpcgolgcfdaaGreatW.PrintLast.up]), fun _ h_ => absurd h_ (by simp [Go.Proofs.YtchgpcgolgcfdaaGreatW.PrintLast.up]), fun _ h_ => absurd h_ (by simp [Go.Proofs.YtchgpcgolgcfdaaGreatW.PrintLast.up]), fun _ h_ => absurd h_ (by simp [Go.Proofs.YtchgpcgolgcfdaaGreatW.PrintLast.up])⟩
         exact steps_nil
        rintro b a w25 hall ⟨v36, v42, v50, v55, ha, Q_TW, Q_POST, Q_BK, Q_L36, Q_L42, Q_L50, Q_L55⟩
        have hb2_ := hall 2 (by kernel_rfl)
        have hb3_ := hall 3 (by kernel_rfl)
        have hb5_ := hall 5 (by kernel_rfl)
        have hb7_ := hall 7 (by kernel_rfl)
        have hb8_ := hall 8 (by kernel_rfl)
        have hb9_ := hall 9 (by kernel_rfl)
        have hb10_ := hall 10 (by kernel_rfl)
        have hb12_ := hall 12 (by kernel_rfl)
        have hb14_ := hall 14 (by kernel_rfl)
        have hb15_ := hall 15 (by kernel_rfl)
        have hb16_ := hall 16 (by kernel_rfl)
        have hb17_ := hall 17 (by kernel_rfl)
        have hb18_ := hall 18 (by kernel_rfl)
        have hb20_ := hall 20 (by kernel_rfl)
        have hb21_ := hall 21 (by kernel_rfl)
        have hb22_ := hall 22 (by kernel_rfl)
        have hb23_ := hall 23 (by kernel_rfl)
        have hb24_ := hall 24 (by kernel_rfl)
        subst ha
        simp only [putSel, hb2_, hb3_, hb5_, hb7_, hb8_, hb9_, hb10_, hb12_, hb14_, hb15_, hb16_, hb17_, hb18_, hb20_, hb21_, hb22_, hb23_, hb24_, if_true, Act.put, List.setIfInBounds_toArray, List.set_cons_zero, List.set_cons_succ]
        have POST := a_k (Q_POST hb24_)
        have BK := a_k (Q_BK)
        have L36 := a_k (Q_L36 hb2_)
        have L42 := a_k (Q_L42 hb8_)
        have L50 := a_k (Q_L50 hb16_)
        have L55 := a_k (Q_L55 hb21_)
        clear hall hb2_ hb3_ hb5_ hb7_ hb8_ hb9_ hb10_ hb12_ hb14_ hb15_ hb16_ hb17_ hb18_ hb20_ hb21_ hb22_ hb23_ hb24_ Q_TW Q_POST Q_BK Q_L36 Q_L42 Q_L50 Q_L55
        go_wp2_with (fail)
        go_roundw
        case rel => exact ⟨i + 1, n, _, _, by go_num, by omega, HG2, ⟨POST.out⟩⟩
        case measure => simp [intOf]; omega
       ·rw [if_neg hrl] at hah
        cases hah
      ·have t4 : (((i : Int) % 4) == 0) = false := by rw [beq_eq_false_iff_ne]; omega
       clear HBr HE
       go_wp2_with (first | ((with_reducible refine gate_dst (N := 7) rfl ?_); refine box_event ?hg (N := 7) ?hd (cs := #[.string (⟨#[]⟩ : ByteArray), .int .u64 0, .int .i64 0, .string (⟨#[]⟩ : ByteArray)]) (t := 32) ?hr ?_; (case hd => rfl); (case hg => rfl); (case hr => first | (go_simp; done) | (go_simp; rfl)); intro gb hg w13 hbox hb; have n0_ := a_k (below_step (by repeat (first | exact HBq.out | apply b_a | apply b_n | apply b_d)) hb); have n1_ := a_k (hbox); have n2_ := a_k ((by rw [hg]; exact (below_size (by repeat (first | exact HBq.out | apply b_a | apply b_n | apply b_d))) : wr.heap.size ≤ gb)); have n3_ := a_k ((by rw [hg]; exact (below_size (by repeat (first | exact HBq.out | apply b_a | apply b_n | apply b_d))) : wr.heap.size ≤ gb)); clear HBq; have HBq := n0_; have BK := n1_; have GW := n2_; have GE := n3_; clear n0_ n1_ n2_ n3_; clear hb hbox hg; have hcz14_0 : w13.cell? ⟨gb, 0, none⟩ = some (.string (⟨#[]⟩ : ByteArray)) := (blk_cell BK.out 0).trans rfl; have hcz14_1 : w13.cell? ⟨gb, 1, none⟩ = some (.int .u64 0) := (blk_cell BK.out 1).trans rfl; have hcz14_2 : w13.cell? ⟨gb, 2, none⟩ = some (.int .i64 0) := (blk_cell BK.out 2).trans rfl; have hcz14_3 : w13.cell? ⟨gb, 3, none⟩ = some (.string (⟨#[]⟩ : ByteArray)) := (blk_cell BK.out 3).trans rfl; have hfz14_0 := blk_frozen BK.out 0; have hfz14_1 := blk_frozen BK.out 1; have hfz14_2 := blk_frozen BK.out 2; have hfz14_3 := blk_frozen BK.out 3))
       have n0_ : Aside0 (((((w13.setCell ⟨gb, 0, none⟩ (.string e.f0)).setCell ⟨gb, 1, none⟩ (.int .u64 e.f1)).setCell ⟨gb, 2, none⟩ (.int .i64 e.f2)).setCell ⟨gb, 3, none⟩ (.string e.f3)).heap[gb]? = some (.cells #[.string e.f0, .int .u64 e.f1, .int .i64 e.f2, .string e.f3] 32 (0, 0))) := ⟨by (with_reducible repeat (first | refine blk_drewN ?_ _ | refine blk_drew ?_ | refine blk_alloc ?_ _)); refine blk_put (cs := #[.string e.f0, .int .u64 e.f1, .int .i64 e.f2, .string (⟨#[]⟩ : ByteArray)]) ?_ 3 _ rfl; (with_reducible repeat (first | refine blk_drewN ?_ _ | refine blk_drew ?_ | refine blk_alloc ?_ _)); refine blk_put (cs := #[.string e.f0, .int .u64 e.f1, .int .i64 0, .string (⟨#[]⟩ : ByteArray)]) ?_ 2 _ rfl; (with_reducible repeat (first | refine blk_drewN ?_ _ | refine blk_drew ?_ | refine blk_alloc ?_ _)); refine blk_put (cs := #[.string e.f0, .int .u64 0, .int .i64 0, .string (⟨#[]⟩ : ByteArray)]) ?_ 1 _ rfl; (with_reducible repeat (first | refine blk_drewN ?_ _ | refine blk_drew ?_ | refine blk_alloc ?_ _)); refine blk_put (cs := #[.string (⟨#[]⟩ : ByteArray), .int .u64 0, .int .i64 0, .string (⟨#[]⟩ : ByteArray)]) ?_ 0 _ rfl; (with_reducible repeat (first | refine blk_drewN ?_ _ | refine blk_drew ?_ | refine blk_alloc ?_ _)); exact BK.out⟩
       have n1_ : Aside0 (Below wr.heap.size wr ((((w13.setCell ⟨gb, 0, none⟩ (.string e.f0)).setCell ⟨gb, 1, none⟩ (.int .u64 e.f1)).setCell ⟨gb, 2, none⟩ (.int .i64 e.f2)).setCell ⟨gb, 3, none⟩ (.string e.f3))) := ⟨by repeat (first | (with_reducible first | exact HBq.out | apply b_a | apply b_n | apply b_d | refine below_set ?_ GE.out) | exact HBq.out)⟩
       (try clear BK)
       (try clear HBq)
       generalize ((((w13.setCell ⟨gb, 0, none⟩ (.string e.f0)).setCell ⟨gb, 1, none⟩ (.int .u64 e.f1)).setCell ⟨gb, 2, none⟩ (.int .i64 e.f2)).setCell ⟨gb, 3, none⟩ (.string e.f3)) = w15 at n0_ n1_ ⊢
       have BK := n0_
       have HBq := n1_
       clear n0_ n1_
       have hah := HAH.out
       unfold ahead at hah
       rw [if_neg h4] at hah
       obtain ⟨j, hj⟩ : ∃ j : Int, (i : Int) - 1 = j := ⟨_, rfl⟩
       rw [hj, show rdE l0 (i : Int) = e from hE.out] at hah
       have hL_ := hL
       unfold lim at hL_
       have hi_ : i < l0.length := by omega
       have hjw : IntKind.i64.wrap ((i : Int) - 1) = j := by rw [IntKind.wrap_i64]; omega
       have hj0 : 0 ≤ j := by omega
       have hj1 : j < (l0.length : Int) := by omega
       have HT2 := a_k (HT.out.below HBq.out)
       obtain ⟨ad2, e2, hy0, hy1, hy2, hy3⟩ := at_T32 HR0.out j hj0 hj1
       obtain rfl : ad = ad2 := by injection e2
       replace hy0 := (HT2.out.bel.cell (World.block_lt_of_cell? w _ hy0)).trans hy0
       generalize hpk : (rd_T32 l0 j).f0 = pk at hy0
       rw [show (rdE l0 j).f0 = pk from hpk] at hah
       obtain ⟨mm, hsh, hah⟩ := Option.bind_eq_some_iff.1 hah
       by_cases hmb : (0 ≤ mm ∧ mm ≤ (e.f0.size : Int)) ∧ mm ≤ (lim : Int)
       ·rw [if_pos hmb] at hah
        obtain ⟨rfl, rfl⟩ := Prod.mk.inj (Option.some.inj hah)
        have SH := a_k hsh
        have HM0 := a_k hmb.1.1
        have HM1 := a_k hmb.1.2
        have hwm : IntKind.u64.wrap mm = mm := by have h1 := hmb.1.1; have h2 := hmb.2; unfold lim at h2; rw [IntKind.wrap_u64]; omega
        have hjw2 : wrap64 j = j := by rw [← i64_w, IntKind.wrap_i64]; omega
        have p1 := eq_true hj0
        have q1 := eq_true hj1
        have HTX := a_k (HT2.out.below (below_drew (Below.refl _ w15)))
        have BKX := a_k (blk_drew BK.out)
        have C0X : Aside0 (w15.drew.cell? (ad.add (j.toNat * 4)) = some (.string pk)) := ⟨hy0⟩
        (try clear HAH); (try clear hah); (try clear hG); (try clear HT); (try clear HBq); (try clear hfz14_0); (try clear hfz14_1); (try clear hfz14_2); (try clear hfz14_3); (try clear hcz14_0); (try clear hcz14_1); (try clear hcz14_2); (try clear hcz14_3); (try clear hx0); (try clear hx1); (try clear hx2); (try clear hx3); (try clear p0); (try clear q0)
        clear HT2 BK hy0 hy1 hy2 hy3 e2 hmb hsh hpk hj0 hj1
        go_wp2_with (fail)
        generalize hb0 : b = b0_ at *
        refine start_ (n := 10) (S := fun w' => True) (ds := []) #[Z,Z,Z,Z,Z,Z,Z,Z,Z,Z] (by kernel_rfl) rfl rfl trivial (fun hHeld => ?_); refine with_tabW pt10.tab pt10.bits (fun HT_ HW_ => ?_)
        generalize w15.drew = wS at *
        refine pure_ (i := 0) (N := some 25) (v := ?_) (a' := ?_) #[J,Z,Z,Z,Z,Z,Z,Z,Z,Z] rfl rfl (any_of HT_.out (by kernel_rfl)) (fun _ _ _ h => h) (Or.inl ⟨by rfl, ?_⟩) ?_ ?_
        rotate_left
        ·intro w'
         go_simp
         with_reducible rfl
        rotate_left
        ·simp only [Act.put, l_s, l_0, l_1, i64_w, i32_w]
         rfl
        refine pure_ (i := 1) (N := some 26) (v := ?_) (a' := ?_) #[J,J,Z,Z,Z,Z,Z,Z,Z,Z] rfl rfl (any_of HT_.out (by kernel_rfl)) (fun _ _ _ h => h) (Or.inl ⟨by rfl, ?_⟩) ?_ ?_
        rotate_left
        ·intro w'
         go_simp
         with_reducible rfl
        rotate_left
        ·simp only [Act.put, l_s, l_0, l_1, i64_w, i32_w]
         rfl
        refine pure_ (i := 2) (N := some 27) (v := ?_) (a' := ?_) #[J,J,J,Z,Z,Z,Z,Z,Z,Z] rfl rfl (any_of HT_.out (by kernel_rfl)) (fun _ _ _ h => h) (Or.inl ⟨by rfl, ?_⟩) ?_ ?_
        rotate_left
        ·intro w'
         go_simp
         with_reducible rfl
        rotate_left
        ·simp only [Act.put, l_s, l_0, l_1, i64_w, i32_w]
         rfl
        refine pure_ (i := 3) (N := some 28) (v := ?_) (a' := ?_) #[J,J,J,J,Z,Z,Z,Z,Z,Z] rfl rfl (any_of HT_.out (by kernel_rfl)) (fun _ _ _ h => h) (Or.inl ⟨by rfl, ?_⟩) ?_ ?_
        rotate_left
        ·intro w'
         go_simp
         with_reducible rfl
        rotate_left
        ·simp only [Act.put, l_s, l_0, l_1, i64_w, i32_w]
         rfl
        refine pure_ (i := 4) (N := some 29) (v := ?_) (a' := ?_) #[J,J,J,J,J,Z,Z,Z,Z,Z] rfl rfl (any_of HT_.out (by kernel_rfl)) (fun _ _ _ h => h) (Or.inl ⟨by rfl, ?_⟩) ?_ ?_
        rotate_left
        ·intro w'
         go_simp
         with_reducible rfl
        rotate_left
        ·simp only [Act.put, l_s, l_0, l_1, i64_w, i32_w]
         rfl
        refine pure_ (i := 6) (N := some 31) (v := ?_) (a' := ?_) #[J,J,J,J,J,Z,J,Z,Z,Z] rfl rfl (any_of HT_.out (by kernel_rfl)) (fun _ _ _ h => h) (Or.inl ⟨by rfl, ?_⟩) ?_ ?_
        rotate_left
        ·intro w'
         go_simp
         with_reducible rfl
        rotate_left
        ·simp only [Act.put, l_s, l_0, l_1, i64_w, i32_w]
         rfl
        refine inv_at [5, 7, 8, 9] (fun a0_ b a w' => a = putSel a0_ b [(5, 30, .string pk), (7, 32, .string e.f0), (8, 33, .int .i64 mm), (9, 8, .int .i64 mm)] ∧ (Two w w' w1.heap.size (w1.heap.size + 1) b0_ r) ∧ (w'.heap[gb]? = some (.cells #[.string e.f0, .int .u64 e.f1, .int .i64 e.f2, .string e.f3] 32 (0, 0))) ∧ (w'.cell? (ad.add (j.toNat * 4)) = some (.string pk))) HT_.out HW_.out (by kernel_rfl) (by kernel_rfl) ?_ ?_ ?_
        ·exact ⟨by simp only [putSel, Bool.false_eq_true, if_false], HTX.out, BKX.out, C0X.out⟩
        ·skip
         refine steps_cons ?_ ?_
         ·rintro b a w' ⟨ha, Q_TW, Q_BK, Q_C0⟩ hb_ hon hoff
          refine ⟨_, rfl, fun K hK => ?_⟩
          have e29 : a.tmps[29]? = some (.pointer (some (ad.add (j.toNat * 4)))) := by rw [ha]; exact (putSel_off rfl).trans rfl
          replace ha := a_k ha
          have hC := Q_C0
          refine value_ (w1 := w') (v := .string pk) (by rfl) rfl ?_ ?_
          ·go_simp
           (try simp only [i64_w])
           try rfl
          refine hK.out _ _ ⟨by rw [ha.out]; exact putSel_upk 0 hb_ rfl rfl rfl, Q_TW, Q_BK, Q_C0⟩
         refine steps_cons ?_ ?_
         ·rintro b a w' ⟨ha, Q_TW, Q_BK, Q_C0⟩ hb_ hon hoff
          refine ⟨_, rfl, fun K hK => ?_⟩
          have e31 : a.tmps[31]? = some (.pointer (some ⟨gb, 0, none⟩)) := by rw [ha]; exact (putSel_off rfl).trans rfl
          replace ha := a_k ha
          have hc0_ : w'.cell? ⟨gb, 0, none⟩ = some (.string e.f0) := (blk_cell Q_BK 0).trans rfl
          have hc1_ : w'.cell? ⟨gb, 1, none⟩ = some (.int .u64 e.f1) := (blk_cell Q_BK 1).trans rfl
          have hc2_ : w'.cell? ⟨gb, 2, none⟩ = some (.int .i64 e.f2) := (blk_cell Q_BK 2).trans rfl
          have hc3_ : w'.cell? ⟨gb, 3, none⟩ = some (.string e.f3) := (blk_cell Q_BK 3).trans rfl
          refine value_ (w1 := w') (v := .string e.f0) (by rfl) rfl ?_ ?_
          ·go_simp
           (try simp only [i64_w])
           try rfl
          refine hK.out _ _ ⟨by rw [ha.out]; exact putSel_upk 1 hb_ rfl rfl rfl, Q_TW, Q_BK, Q_C0⟩
         refine steps_cons ?_ ?_
         ·rintro b a w' ⟨ha, Q_TW, Q_BK, Q_C0⟩ hb_ hon hoff
          refine ⟨_, rfl, fun K hK => ?_⟩
          have e30 : a.tmps[30]? = some (.string pk) := by rw [ha]; exact putSel_on (e := (5, 30, .string pk)) 0 rfl rfl (hon 5 (by kernel_rfl)) rfl
          have e32 : a.tmps[32]? = some (.string e.f0) := by rw [ha]; exact putSel_on (e := (7, 32, .string e.f0)) 1 rfl rfl (hon 7 (by kernel_rfl)) rfl
          replace ha := a_k ha
          refine goes_ Tryz.func80 (by kernel_rfl) rfl #[.string pk, .string e.f0] (by rfl) rfl rfl (by first | (simp only [m_a, m_c, m_n, Act.eval, Array.getD_eq_getD_getElem?, Option.getD_some, e30, e32]; done) | (simp only [m_a, m_c, m_n, Act.eval, Array.getD_eq_getD_getElem?, Option.getD_some, e30, e32]; rfl)) ?_
          refine (block_Shared.calls k pk e.f0 mm _ SH.out).mono ?_
          rintro e w1 ⟨rfl, ⟨nd, rfl⟩⟩
          refine ⟨_, rfl, ?_⟩
          have hb1 : Below w'.heap.size w' (w'.drewN nd) := pw_below_drewN (Below.refl _ _) nd
          refine hK.out _ _ ⟨by rw [ha.out]; exact putSel_upk 2 hb_ rfl rfl rfl, Q_TW.below hb1, blk_below Q_BK hb1, pw_cell_below hb1 Q_C0⟩
         refine steps_cons ?_ ?_
         ·rintro b a w' ⟨ha, Q_TW, Q_BK, Q_C0⟩ hb_ hon hoff
          refine ⟨_, rfl, fun K hK => ?_⟩
          have e33 : a.tmps[33]? = some (.int .i64 mm) := by rw [ha]; exact putSel_on (e := (8, 33, .int .i64 mm)) 2 rfl rfl (hon 8 (by kernel_rfl)) rfl
          replace ha := a_k ha
          refine value_ (w1 := w') (v := .int .i64 mm) (by rfl) rfl ?_ ?_
          ·go_simp
           (try simp only [i64_w])
           try rfl
          refine hK.out _ _ ⟨by rw [ha.out]; exact putSel_upk 3 hb_ rfl rfl rfl, Q_TW, Q_BK, Q_C0⟩
         exact steps_nil
        rintro b a w24 hall ⟨ha, Q_TW, Q_BK, Q_C0⟩
        have hb5_ := hall 5 (by kernel_rfl)
        have hb7_ := hall 7 (by kernel_rfl)
        have hb8_ := hall 8 (by kernel_rfl)
        have hb9_ := hall 9 (by kernel_rfl)
        subst ha
        simp only [putSel, hb5_, hb7_, hb8_, hb9_, if_true, Act.put, List.setIfInBounds_toArray, List.set_cons_zero, List.set_cons_succ]
        have TW := a_k (Q_TW)
        have BK := a_k (Q_BK)
        have C0 := a_k (Q_C0)
        clear hall hb5_ hb7_ hb8_ hb9_ Q_TW Q_BK Q_C0
        go_wp2_with (fail)
        have hpc := HPC.out
        rw [show rdE l0 (i : Int) = e from hE.out] at hpc
        unfold piece at hpc
        obtain ⟨y1, a1, hpc⟩ := Option.bind_eq_some_iff.1 hpc
        obtain ⟨y2, a2, hpc⟩ := Option.bind_eq_some_iff.1 hpc
        obtain ⟨y3, a3, hpc⟩ := Option.bind_eq_some_iff.1 hpc
        obtain ⟨y4, a4, hpc⟩ := Option.bind_eq_some_iff.1 hpc
        have hsz : y1.size + y2.size + y3.size + y4.size ≤ lim := by
         by_cases hq : y1.size + y2.size + y3.size + y4.size ≤ lim
         ·exact hq
         ·rw [if_neg hq] at hpc
          cases hpc
        rw [if_pos hsz] at hpc
        obtain rfl := Option.some.inj hpc
        have A1 := a_k a1
        have A3 := a_k a3
        have A4 := a_k a4
        have HSZ := a_k hsz
        obtain ⟨kr, hkr⟩ : ∃ kr, e.f0.extract (mm : Int).toNat e.f0.size = kr := ⟨_, rfl⟩
        have A2 : Aside0 (num_Text.f k [kr] = some y2) := ⟨by rw [← hkr]; exact a2⟩
        have HKR := a_k hkr
        clear hpc a1 a2 a3 a4 hsz hkr HPC
        have HTX := a_k (TW.out.below (below_drew (Below.refl _ w24)))
        have BKX := a_k (blk_drew BK.out)
        clear TW BK C0
        refine start_ (n := 25) (S := fun w' => True) (ds := []) #[Z,Z,Z,Z,Z,Z,Z,Z,Z,Z,Z,Z,Z,Z,Z,Z,Z,Z,Z,Z,Z,Z,Z,Z,Z] (by kernel_rfl) rfl rfl trivial (fun hHeld => ?_); refine with_tabW pt11.tab pt11.bits (fun HT_ HW_ => ?_)
        generalize w24.drew = wS at *
        refine pure_ (i := 0) (N := some 34) (v := ?_) (a' := ?_) #[J,Z,Z,Z,Z,Z,Z,Z,Z,Z,Z,Z,Z,Z,Z,Z,Z,Z,Z,Z,Z,Z,Z,Z,Z] rfl rfl (any_of HT_.out (by kernel_rfl)) (fun _ _ _ h => h) (Or.inl ⟨by rfl, ?_⟩) ?_ ?_
        rotate_left
        ·intro w'
         go_simp
         with_reducible rfl
        rotate_left
        ·simp only [Act.put, l_s, l_0, l_1, i64_w, i32_w]
         rfl
        refine pure_ (i := 1) (N := some 35) (v := ?_) (a' := ?_) #[J,J,Z,Z,Z,Z,Z,Z,Z,Z,Z,Z,Z,Z,Z,Z,Z,Z,Z,Z,Z,Z,Z,Z,Z] rfl rfl (any_of HT_.out (by kernel_rfl)) (fun _ _ _ h => h) (Or.inl ⟨by rfl, ?_⟩) ?_ ?_
        rotate_left
        ·intro w'
         go_simp
         with_reducible rfl
        rotate_left
        ·simp only [Act.put, l_s, l_0, l_1, i64_w, i32_w]
         rfl
        refine pure_ (i := 4) (N := some 38) (v := ?_) (a' := ?_) #[J,J,Z,Z,J,Z,Z,Z,Z,Z,Z,Z,Z,Z,Z,Z,Z,Z,Z,Z,Z,Z,Z,Z,Z] rfl rfl (any_of HT_.out (by kernel_rfl)) (fun _ _ _ h => h) (Or.inl ⟨by rfl, ?_⟩) ?_ ?_
        rotate_left
        ·intro w'
         go_simp
         with_reducible rfl
        rotate_left
        ·simp only [Act.put, l_s, l_0, l_1, i64_w, i32_w]
         rfl
        refine pure_ (i := 6) (N := some 40) (v := ?_) (a' := ?_) #[J,J,Z,Z,J,Z,J,Z,Z,Z,Z,Z,Z,Z,Z,Z,Z,Z,Z,Z,Z,Z,Z,Z,Z] rfl rfl (any_of HT_.out (by kernel_rfl)) (fun _ _ _ h => h) (Or.inl ⟨by rfl, ?_⟩) ?_ ?_
        rotate_left
        ·intro w'
         go_simp
         with_reducible rfl
        rotate_left
        ·simp only [Act.put, l_s, l_0, l_1, i64_w, i32_w]
         rfl
        refine pure_ (i := 11) (N := some 45) (v := ?_) (a' := ?_) #[J,J,Z,Z,J,Z,J,Z,Z,Z,Z,J,Z,Z,Z,Z,Z,Z,Z,Z,Z,Z,Z,Z,Z] rfl rfl (any_of HT_.out (by kernel_rfl)) (fun _ _ _ h => h) (Or.inl ⟨by rfl, ?_⟩) ?_ ?_
        rotate_left
        ·intro w'
         go_simp
         with_reducible rfl
        rotate_left
        ·simp only [Act.put, l_s, l_0, l_1, i64_w, i32_w]
         rfl
        refine pure_ (i := 13) (N := some 47) (v := ?_) (a' := ?_) #[J,J,Z,Z,J,Z,J,Z,Z,Z,Z,J,Z,J,Z,Z,Z,Z,Z,Z,Z,Z,Z,Z,Z] rfl rfl (any_of HT_.out (by kernel_rfl)) (fun _ _ _ h => h) (Or.inl ⟨by rfl, ?_⟩) ?_ ?_
        rotate_left
        ·intro w'
         go_simp
         with_reducible rfl
        rotate_left
        ·simp only [Act.put, l_s, l_0, l_1, i64_w, i32_w]
         rfl
        refine pure_ (i := 19) (N := some 53) (v := ?_) (a' := ?_) #[J,J,Z,Z,J,Z,J,Z,Z,Z,Z,J,Z,J,Z,Z,Z,Z,Z,J,Z,Z,Z,Z,Z] rfl rfl (any_of HT_.out (by kernel_rfl)) (fun _ _ _ h => h) (Or.inl ⟨by rfl, ?_⟩) ?_ ?_
        rotate_left
        ·intro w'
         go_simp
         with_reducible rfl
        rotate_left
        ·simp only [Act.put, l_s, l_0, l_1, i64_w, i32_w]
         rfl
        refine inv_at [2, 3, 5, 7, 8, 9, 10, 12, 14, 15, 16, 17, 18, 20, 21, 22, 23, 24] (fun a0_ b a w' => ∃ (v36 : Value), ∃ (v42 : Value), ∃ (v50 : Value), ∃ (v55 : Value), a = putSel a0_ b [(2, 36, v36), (3, 37, .string y1), (5, 39, .string e.f0), (7, 41, .string kr), (8, 42, v42), (9, 43, .string y2), (10, 44, .string (y1 ++ y2)), (12, 46, .int .u64 e.f1), (14, 48, .int .i64 e.f2), (15, 49, .int .u64 (IntKind.u64.wrap e.f2)), (16, 50, v50), (17, 51, .string y3), (18, 52, .string ((y1 ++ y2) ++ y3)), (20, 54, .string e.f3), (21, 55, v55), (22, 56, .string y4), (23, 57, .string (((y1 ++ y2) ++ y3) ++ y4)), (24, 58, .tuple #[.int .i64 (((y1 ++ y2) ++ y3) ++ y4).size, .nilIface])] ∧ (b 24 = false → Two w w' w1.heap.size (w1.heap.size + 1) b0_ r) ∧ (b 24 = true → Two w w' w1.heap.size (w1.heap.size + 1) (b0_ ++ (((y1 ++ y2) ++ y3) ++ y4)) r) ∧ (w'.heap[gb]? = some (.cells #[.string e.f0, .int .u64 e.f1, .int .i64 e.f2, .string e.f3] 32 (0, 0))) ∧ (b 2 = true → b 24 = false → Kd.R (Kd.int .u64) 25 w' w.heap.size (fun _ => True) v36 ([mm] : List Int)) ∧ (b 8 = true → b 24 = false → Kd.R Kd.string 9 w' w.heap.size (fun _ => True) v42 ([kr] : List ByteArray)) ∧ (b 16 = true → b 24 = false → Kd.R (Kd.int .u64) 25 w' w.heap.size (fun _ => True) v50 ([e.f1, (IntKind.u64.wrap e.f2)] : List Int)) ∧ (b 21 = true → b 24 = false → Kd.R Kd.string 9 w' w.heap.size (fun _ => True) v55 ([e.f3] : List ByteArray))) HT_.out HW_.out (by kernel_rfl) (by kernel_rfl) ?_ ?_ ?_
        ·exact ⟨.bool false, .bool false, .bool false, .bool false, by simp only [putSel, Bool.false_eq_true, if_false], fun _ => HTX.out, fun h_ => absurd h_ (by decide), BKX.out, fun h_ => absurd h_ (by decide), fun h_ => absurd h_ (by decide), fun h_ => absurd h_ (by decide), fun h_ => absurd h_ (by decide)⟩
        ·skip
         refine steps_cons ?_ ?_
         ·rintro b a w' ⟨v36, v42, v50, v55, ha, Q_TW, Q_POST, Q_BK, Q_L36, Q_L42, Q_L50, Q_L55⟩ hb_ hon hoff
          refine ⟨_, rfl, fun K hK => ?_⟩
          have e35 : a.tmps[35]? = some (.int .u64 mm) := by rw [ha]; exact (putSel_off rfl).trans rfl
          replace ha := a_k ha
          refine Kd.R_lit_step (Kd.int .u64) _ 25 ?hg (N := 36) ?hd (xs := ([mm] : List Int)) (inner := [.int .u64 mm]) (ok := fun _ => True) (okp := fun _ => True) ?hr ?hp (fun _ hk => hk) trivial (Below.refl _ _) (Nat.le_refl _) (by simp) ?_; (case hd => rfl); (case hg => rfl); (case hr => first | (go_simp; done) | (go_simp; rfl)); (case hp => exact (Reps.one (show Kd.M (Kd.int .u64) _ _ _ mm [.int .u64 mm] from rfl) (Reps.none _ _)))
          intro v36n w1 ho1 hb1 hg_ hnew_
          clear hg_ hnew_
          refine hK.out _ _ ⟨v36n, v42, v50, v55, by rw [ha.out]; exact putSel_upk 0 hb_ rfl rfl rfl, fun h_ => (Q_TW h_).below hb1, fun h_ => absurd ((hoff 24 (by kernel_rfl)).symm.trans h_) (by decide), blk_below Q_BK hb1, fun _ _ => Kd.R_lower ho1 (Q_TW (hoff 24 (by kernel_rfl))).bel.size, fun h_ k_ => Kd.R_below (Q_L42 h_ k_) hb1, fun h_ k_ => Kd.R_below (Q_L50 h_ k_) hb1, fun h_ k_ => Kd.R_below (Q_L55 h_ k_) hb1⟩
         refine steps_cons ?_ ?_
         ·rintro b a w' ⟨v36, v42, v50, v55, ha, Q_TW, Q_POST, Q_BK, Q_L36, Q_L42, Q_L50, Q_L55⟩ hb_ hon hoff
          refine ⟨_, rfl, fun K hK => ?_⟩
          have e36 : a.tmps[36]? = some (v36) := by rw [ha]; exact putSel_on (e := (2, 36, v36)) 0 rfl rfl (hon 2 (by kernel_rfl)) rfl
          replace ha := a_k ha
          have hS := Q_L36 (hon 2 (by kernel_rfl)) (hoff 24 (by kernel_rfl))
          obtain ⟨As, cs, es⟩ := Kd.R_slice hS
          subst es
          refine goes_ Tryz.func165 (by kernel_rfl) rfl #[.slice As ([mm] : List Int).length cs] (by rfl) rfl rfl (by first | (simp only [m_a, m_c, m_n, Act.eval, Array.getD_eq_getD_getElem?, Option.getD_some, e36]; done) | (simp only [m_a, m_c, m_n, Act.eval, Array.getD_eq_getD_getElem?, Option.getD_some, e36]; rfl)) ?_
          refine (num_Var.calls k _ _ ([mm] : List Int) y1 _ (Kd.R_reads' hS).2.2 (Kd.R_reads' hS).2.1 A1.out).mono ?_
          rintro e w1 ⟨rfl, hb1⟩
          refine ⟨_, rfl, ?_⟩
          refine hK.out _ _ ⟨.slice As ([mm] : List Int).length cs, v42, v50, v55, by rw [ha.out]; exact putSel_upk 1 hb_ rfl rfl rfl, fun h_ => (Q_TW h_).below hb1, fun h_ => absurd ((hoff 24 (by kernel_rfl)).symm.trans h_) (by decide), blk_below Q_BK hb1, fun h_ k_ => Kd.R_below (Q_L36 h_ k_) hb1, fun h_ k_ => Kd.R_below (Q_L42 h_ k_) hb1, fun h_ k_ => Kd.R_below (Q_L50 h_ k_) hb1, fun h_ k_ => Kd.R_below (Q_L55 h_ k_) hb1⟩
         refine steps_cons ?_ ?_
         ·rintro b a w' ⟨v36, v42, v50, v55, ha, Q_TW, Q_POST, Q_BK, Q_L36, Q_L42, Q_L50, Q_L55⟩ hb_ hon hoff
          refine ⟨_, rfl, fun K hK => ?_⟩
          have e38 : a.tmps[38]? = some (.pointer (some ⟨gb, 0, none⟩)) := by rw [ha]; exact (putSel_off rfl).trans rfl
          replace ha := a_k ha
          have hc0_ : w'.cell? ⟨gb, 0, none⟩ = some (.string e.f0) := (blk_cell Q_BK 0).trans rfl
          have hc1_ : w'.cell? ⟨gb, 1, none⟩ = some (.int .u64 e.f1) := (blk_cell Q_BK 1).trans rfl
          have hc2_ : w'.cell? ⟨gb, 2, none⟩ = some (.int .i64 e.f2) := (blk_cell Q_BK 2).trans rfl
          have hc3_ : w'.cell? ⟨gb, 3, none⟩ = some (.string e.f3) := (blk_cell Q_BK 3).trans rfl
          refine value_ (w1 := w') (v := .string e.f0) (by rfl) rfl ?_ ?_
          ·go_simp
           (try simp only [i64_w])
           try rfl
          refine hK.out _ _ ⟨v36, v42, v50, v55, by rw [ha.out]; exact putSel_upk 2 hb_ rfl rfl rfl, Q_TW, Q_POST, Q_BK, Q_L36, Q_L42, Q_L50, Q_L55⟩
         refine steps_cons ?_ ?_
         ·rintro b a w' ⟨v36, v42, v50, v55, ha, Q_TW, Q_POST, Q_BK, Q_L36, Q_L42, Q_L50, Q_L55⟩ hb_ hon hoff
          refine ⟨_, rfl, fun K hK => ?_⟩
          have e39 : a.tmps[39]? = some (.string e.f0) := by rw [ha]; exact putSel_on (e := (5, 39, .string e.f0)) 2 rfl rfl (hon 5 (by kernel_rfl)) rfl
          have e40 : a.tmps[40]? = some (.int .i64 mm) := by rw [ha]; exact (putSel_off rfl).trans rfl
          replace ha := a_k ha
          have hm0 := HM0.out
          have hm1 := HM1.out
          have hkr := HKR.out
          refine value_ (w1 := w') (v := .string kr) (by rfl) rfl ?_ ?_
          ·(go_simp; (try simp only [i64_w]); first | done | rfl | exact hkr | (rw [← hkr]; simp))
          refine hK.out _ _ ⟨v36, v42, v50, v55, by rw [ha.out]; exact putSel_upk 3 hb_ rfl rfl rfl, Q_TW, Q_POST, Q_BK, Q_L36, Q_L42, Q_L50, Q_L55⟩
         refine steps_cons ?_ ?_
         ·rintro b a w' ⟨v36, v42, v50, v55, ha, Q_TW, Q_POST, Q_BK, Q_L36, Q_L42, Q_L50, Q_L55⟩ hb_ hon hoff
          refine ⟨_, rfl, fun K hK => ?_⟩
          have e41 : a.tmps[41]? = some (.string kr) := by rw [ha]; exact putSel_on (e := (7, 41, .string kr)) 3 rfl rfl (hon 7 (by kernel_rfl)) rfl
          replace ha := a_k ha
          refine Kd.R_lit_step Kd.string _ 9 ?hg (N := 42) ?hd (xs := ([kr] : List ByteArray)) (inner := [.string kr]) (ok := fun _ => True) (okp := fun _ => True) ?hr ?hp (fun _ hk => hk) trivial (Below.refl _ _) (Nat.le_refl _) (by simp) ?_; (case hd => rfl); (case hg => rfl); (case hr => first | (go_simp; done) | (go_simp; rfl)); (case hp => exact (Reps.one (show Kd.M Kd.string _ _ _ kr [.string kr] from rfl) (Reps.none _ _)))
          intro v42n w1 ho1 hb1 hg_ hnew_
          clear hg_ hnew_
          refine hK.out _ _ ⟨v36, v42n, v50, v55, by rw [ha.out]; exact putSel_upk 4 hb_ rfl rfl rfl, fun h_ => (Q_TW h_).below hb1, fun h_ => absurd ((hoff 24 (by kernel_rfl)).symm.trans h_) (by decide), blk_below Q_BK hb1, fun h_ k_ => Kd.R_below (Q_L36 h_ k_) hb1, fun _ _ => Kd.R_lower ho1 (Q_TW (hoff 24 (by kernel_rfl))).bel.size, fun h_ k_ => Kd.R_below (Q_L50 h_ k_) hb1, fun h_ k_ => Kd.R_below (Q_L55 h_ k_) hb1⟩
         refine steps_cons ?_ ?_
         ·rintro b a w' ⟨v36, v42, v50, v55, ha, Q_TW, Q_POST, Q_BK, Q_L36, Q_L42, Q_L50, Q_L55⟩ hb_ hon hoff
          refine ⟨_, rfl, fun K hK => ?_⟩
          have e42 : a.tmps[42]? = some (v42) := by rw [ha]; exact putSel_on (e := (8, 42, v42)) 4 rfl rfl (hon 8 (by kernel_rfl)) rfl
          replace ha := a_k ha
          have hS := Q_L42 (hon 8 (by kernel_rfl)) (hoff 24 (by kernel_rfl))
          obtain ⟨As, cs, es⟩ := Kd.R_slice hS
          subst es
          refine goes_ Tryz.func164 (by kernel_rfl) rfl #[.slice As ([kr] : List ByteArray).length cs] (by rfl) rfl rfl (by first | (simp only [m_a, m_c, m_n, Act.eval, Array.getD_eq_getD_getElem?, Option.getD_some, e42]; done) | (simp only [m_a, m_c, m_n, Act.eval, Array.getD_eq_getD_getElem?, Option.getD_some, e42]; rfl)) ?_
          refine (num_Text.calls k _ _ ([kr] : List ByteArray) y2 _ (Kd.R_reads' hS).2.2 (Kd.R_reads' hS).2.1 A2.out).mono ?_
          rintro e w1 ⟨rfl, hb1⟩
          refine ⟨_, rfl, ?_⟩
          refine hK.out _ _ ⟨v36, .slice As ([kr] : List ByteArray).length cs, v50, v55, by rw [ha.out]; exact putSel_upk 5 hb_ rfl rfl rfl, fun h_ => (Q_TW h_).below hb1, fun h_ => absurd ((hoff 24 (by kernel_rfl)).symm.trans h_) (by decide), blk_below Q_BK hb1, fun h_ k_ => Kd.R_below (Q_L36 h_ k_) hb1, fun h_ k_ => Kd.R_below (Q_L42 h_ k_) hb1, fun h_ k_ => Kd.R_below (Q_L50 h_ k_) hb1, fun h_ k_ => Kd.R_below (Q_L55 h_ k_) hb1⟩
         refine steps_cons ?_ ?_
         ·rintro b a w' ⟨v36, v42, v50, v55, ha, Q_TW, Q_POST, Q_BK, Q_L36, Q_L42, Q_L50, Q_L55⟩ hb_ hon hoff
          refine ⟨_, rfl, fun K hK => ?_⟩
          have e37 : a.tmps[37]? = some (.string y1) := by rw [ha]; exact putSel_on (e := (3, 37, .string y1)) 1 rfl rfl (hon 3 (by kernel_rfl)) rfl
          have e43 : a.tmps[43]? = some (.string y2) := by rw [ha]; exact putSel_on (e := (9, 43, .string y2)) 5 rfl rfl (hon 9 (by kernel_rfl)) rfl
          replace ha := a_k ha
          have hz_ := HSZ.out
          have f1 := eq_true (show y1.size + y2.size ≤ 9223372036854775807 by unfold lim at hz_; (try simp only [ByteArray.size_append]); omega)
          have f2 : (9223372036854775807 < y1.size + y2.size) = False := eq_false (by unfold lim at hz_; (try simp only [ByteArray.size_append]); omega)
          try simp only [ByteArray.size_append] at f1 f2
          refine value_ (w1 := w') (v := .string (y1 ++ y2)) (by rfl) rfl ?_ ?_
          ·go_simp
           (try simp only [i64_w])
           try rfl
          refine hK.out _ _ ⟨v36, v42, v50, v55, by rw [ha.out]; exact putSel_upk 6 hb_ rfl rfl rfl, Q_TW, Q_POST, Q_BK, Q_L36, Q_L42, Q_L50, Q_L55⟩
         refine steps_cons ?_ ?_
         ·rintro b a w' ⟨v36, v42, v50, v55, ha, Q_TW, Q_POST, Q_BK, Q_L36, Q_L42, Q_L50, Q_L55⟩ hb_ hon hoff
          refine ⟨_, rfl, fun K hK => ?_⟩
          have e45 : a.tmps[45]? = some (.pointer (some ⟨gb, 1, none⟩)) := by rw [ha]; exact (putSel_off rfl).trans rfl
          replace ha := a_k ha
          have hc0_ : w'.cell? ⟨gb, 0, none⟩ = some (.string e.f0) := (blk_cell Q_BK 0).trans rfl
          have hc1_ : w'.cell? ⟨gb, 1, none⟩ = some (.int .u64 e.f1) := (blk_cell Q_BK 1).trans rfl
          have hc2_ : w'.cell? ⟨gb, 2, none⟩ = some (.int .i64 e.f2) := (blk_cell Q_BK 2).trans rfl
          have hc3_ : w'.cell? ⟨gb, 3, none⟩ = some (.string e.f3) := (blk_cell Q_BK 3).trans rfl
          refine value_ (w1 := w') (v := .int .u64 e.f1) (by rfl) rfl ?_ ?_
          ·go_simp
           (try simp only [i64_w])
           try rfl
          refine hK.out _ _ ⟨v36, v42, v50, v55, by rw [ha.out]; exact putSel_upk 7 hb_ rfl rfl rfl, Q_TW, Q_POST, Q_BK, Q_L36, Q_L42, Q_L50, Q_L55⟩
         refine steps_cons ?_ ?_
         ·rintro b a w' ⟨v36, v42, v50, v55, ha, Q_TW, Q_POST, Q_BK, Q_L36, Q_L42, Q_L50, Q_L55⟩ hb_ hon hoff
          refine ⟨_, rfl, fun K hK => ?_⟩
          have e47 : a.tmps[47]? = some (.pointer (some ⟨gb, 2, none⟩)) := by rw [ha]; exact (putSel_off rfl).trans rfl
          replace ha := a_k ha
          have hc0_ : w'.cell? ⟨gb, 0, none⟩ = some (.string e.f0) := (blk_cell Q_BK 0).trans rfl
          have hc1_ : w'.cell? ⟨gb, 1, none⟩ = some (.int .u64 e.f1) := (blk_cell Q_BK 1).trans rfl
          have hc2_ : w'.cell? ⟨gb, 2, none⟩ = some (.int .i64 e.f2) := (blk_cell Q_BK 2).trans rfl
          have hc3_ : w'.cell? ⟨gb, 3, none⟩ = some (.string e.f3) := (blk_cell Q_BK 3).trans rfl
          refine value_ (w1 := w') (v := .int .i64 e.f2) (by rfl) rfl ?_ ?_
          ·go_simp
           (try simp only [i64_w])
           try rfl
          refine hK.out _ _ ⟨v36, v42, v50, v55, by rw [ha.out]; exact putSel_upk 8 hb_ rfl rfl rfl, Q_TW, Q_POST, Q_BK, Q_L36, Q_L42, Q_L50, Q_L55⟩
         refine steps_cons ?_ ?_
         ·rintro b a w' ⟨v36, v42, v50, v55, ha, Q_TW, Q_POST, Q_BK, Q_L36, Q_L42, Q_L50, Q_L55⟩ hb_ hon hoff
          refine ⟨_, rfl, fun K hK => ?_⟩
          have e48 : a.tmps[48]? = some (.int .i64 e.f2) := by rw [ha]; exact putSel_on (e := (14, 48, .int .i64 e.f2)) 8 rfl rfl (hon 14 (by kernel_rfl)) rfl
          replace ha := a_k ha
          refine value_ (w1 := w') (v := .int .u64 (IntKind.u64.wrap e.f2)) (by rfl) rfl ?_ ?_
          ·go_simp
           (try simp only [i64_w])
           try rfl
          refine hK.out _ _ ⟨v36, v42, v50, v55, by rw [ha.out]; exact putSel_upk 9 hb_ rfl rfl rfl, Q_TW, Q_POST, Q_BK, Q_L36, Q_L42, Q_L50, Q_L55⟩
         refine steps_cons ?_ ?_
         ·rintro b a w' ⟨v36, v42, v50, v55, ha, Q_TW, Q_POST, Q_BK, Q_L36, Q_L42, Q_L50, Q_L55⟩ hb_ hon hoff
          refine ⟨_, rfl, fun K hK => ?_⟩
          have e46 : a.tmps[46]? = some (.int .u64 e.f1) := by rw [ha]; exact putSel_on (e := (12, 46, .int .u64 e.f1)) 7 rfl rfl (hon 12 (by kernel_rfl)) rfl
          have e49 : a.tmps[49]? = some (.int .u64 (IntKind.u64.wrap e.f2)) := by rw [ha]; exact putSel_on (e := (15, 49, .int .u64 (IntKind.u64.wrap e.f2))) 9 rfl rfl (hon 15 (by kernel_rfl)) rfl
          replace ha := a_k ha
          refine Kd.R_lit_step (Kd.int .u64) _ 25 ?hg (N := 50) ?hd (xs := ([e.f1, (IntKind.u64.wrap e.f2)] : List Int)) (inner := [.int .u64 e.f1, .int .u64 (IntKind.u64.wrap e.f2)]) (ok := fun _ => True) (okp := fun _ => True) ?hr ?hp (fun _ hk => hk) trivial (Below.refl _ _) (Nat.le_refl _) (by simp) ?_; (case hd => rfl); (case hg => rfl); (case hr => first | (go_simp; done) | (go_simp; rfl)); (case hp => exact (Reps.one (show Kd.M (Kd.int .u64) _ _ _ e.f1 [.int .u64 e.f1] from rfl) (Reps.one (show Kd.M (Kd.int .u64) _ _ _ (IntKind.u64.wrap e.f2) [.int .u64 (IntKind.u64.wrap e.f2)] from rfl) (Reps.none _ _))))
          intro v50n w1 ho1 hb1 hg_ hnew_
          clear hg_ hnew_
          refine hK.out _ _ ⟨v36, v42, v50n, v55, by rw [ha.out]; exact putSel_upk 10 hb_ rfl rfl rfl, fun h_ => (Q_TW h_).below hb1, fun h_ => absurd ((hoff 24 (by kernel_rfl)).symm.trans h_) (by decide), blk_below Q_BK hb1, fun h_ k_ => Kd.R_below (Q_L36 h_ k_) hb1, fun h_ k_ => Kd.R_below (Q_L42 h_ k_) hb1, fun _ _ => Kd.R_lower ho1 (Q_TW (hoff 24 (by kernel_rfl))).bel.size, fun h_ k_ => Kd.R_below (Q_L55 h_ k_) hb1⟩
         refine steps_cons ?_ ?_
         ·rintro b a w' ⟨v36, v42, v50, v55, ha, Q_TW, Q_POST, Q_BK, Q_L36, Q_L42, Q_L50, Q_L55⟩ hb_ hon hoff
          refine ⟨_, rfl, fun K hK => ?_⟩
          have e50 : a.tmps[50]? = some (v50) := by rw [ha]; exact putSel_on (e := (16, 50, v50)) 10 rfl rfl (hon 16 (by kernel_rfl)) rfl
          replace ha := a_k ha
          have hS := Q_L50 (hon 16 (by kernel_rfl)) (hoff 24 (by kernel_rfl))
          obtain ⟨As, cs, es⟩ := Kd.R_slice hS
          subst es
          refine goes_ Tryz.func165 (by kernel_rfl) rfl #[.slice As ([e.f1, (IntKind.u64.wrap e.f2)] : List Int).length cs] (by rfl) rfl rfl (by first | (simp only [m_a, m_c, m_n, Act.eval, Array.getD_eq_getD_getElem?, Option.getD_some, e50]; done) | (simp only [m_a, m_c, m_n, Act.eval, Array.getD_eq_getD_getElem?, Option.getD_some, e50]; rfl)) ?_
          refine (num_Var.calls k _ _ ([e.f1, (IntKind.u64.wrap e.f2)] : List Int) y3 _ (Kd.R_reads' hS).2.2 (Kd.R_reads' hS).2.1 A3.out).mono ?_
          rintro e w1 ⟨rfl, hb1⟩
          refine ⟨_, rfl, ?_⟩
          refine hK.out _ _ ⟨v36, v42, .slice As ([e.f1, (IntKind.u64.wrap e.f2)] : List Int).length cs, v55, by rw [ha.out]; exact putSel_upk 11 hb_ rfl rfl rfl, fun h_ => (Q_TW h_).below hb1, fun h_ => absurd ((hoff 24 (by kernel_rfl)).symm.trans h_) (by decide), blk_below Q_BK hb1, fun h_ k_ => Kd.R_below (Q_L36 h_ k_) hb1, fun h_ k_ => Kd.R_below (Q_L42 h_ k_) hb1, fun h_ k_ => Kd.R_below (Q_L50 h_ k_) hb1, fun h_ k_ => Kd.R_below (Q_L55 h_ k_) hb1⟩
         refine steps_cons ?_ ?_
         ·rintro b a w' ⟨v36, v42, v50, v55, ha, Q_TW, Q_POST, Q_BK, Q_L36, Q_L42, Q_L50, Q_L55⟩ hb_ hon hoff
          refine ⟨_, rfl, fun K hK => ?_⟩
          have e44 : a.tmps[44]? = some (.string (y1 ++ y2)) := by rw [ha]; exact putSel_on (e := (10, 44, .string (y1 ++ y2))) 6 rfl rfl (hon 10 (by kernel_rfl)) rfl
          have e51 : a.tmps[51]? = some (.string y3) := by rw [ha]; exact putSel_on (e := (17, 51, .string y3)) 11 rfl rfl (hon 17 (by kernel_rfl)) rfl
          replace ha := a_k ha
          have hz_ := HSZ.out
          have f1 := eq_true (show (y1 ++ y2).size + y3.size ≤ 9223372036854775807 by unfold lim at hz_; (try simp only [ByteArray.size_append]); omega)
          have f2 : (9223372036854775807 < (y1 ++ y2).size + y3.size) = False := eq_false (by unfold lim at hz_; (try simp only [ByteArray.size_append]); omega)
          try simp only [ByteArray.size_append] at f1 f2
          refine value_ (w1 := w') (v := .string ((y1 ++ y2) ++ y3)) (by rfl) rfl ?_ ?_
          ·go_simp
           (try simp only [i64_w])
           try rfl
          refine hK.out _ _ ⟨v36, v42, v50, v55, by rw [ha.out]; exact putSel_upk 12 hb_ rfl rfl rfl, Q_TW, Q_POST, Q_BK, Q_L36, Q_L42, Q_L50, Q_L55⟩
         refine steps_cons ?_ ?_
         ·rintro b a w' ⟨v36, v42, v50, v55, ha, Q_TW, Q_POST, Q_BK, Q_L36, Q_L42, Q_L50, Q_L55⟩ hb_ hon hoff
          refine ⟨_, rfl, fun K hK => ?_⟩
          have e53 : a.tmps[53]? = some (.pointer (some ⟨gb, 3, none⟩)) := by rw [ha]; exact (putSel_off rfl).trans rfl
          replace ha := a_k ha
          have hc0_ : w'.cell? ⟨gb, 0, none⟩ = some (.string e.f0) := (blk_cell Q_BK 0).trans rfl
          have hc1_ : w'.cell? ⟨gb, 1, none⟩ = some (.int .u64 e.f1) := (blk_cell Q_BK 1).trans rfl
          have hc2_ : w'.cell? ⟨gb, 2, none⟩ = some (.int .i64 e.f2) := (blk_cell Q_BK 2).trans rfl
          have hc3_ : w'.cell? ⟨gb, 3, none⟩ = some (.string e.f3) := (blk_cell Q_BK 3).trans rfl
          refine value_ (w1 := w') (v := .string e.f3) (by rfl) rfl ?_ ?_
          ·go_simp
           (try simp only [i64_w])
           try rfl
          refine hK.out _ _ ⟨v36, v42, v50, v55, by rw [ha.out]; exact putSel_upk 13 hb_ rfl rfl rfl, Q_TW, Q_POST, Q_BK, Q_L36, Q_L42, Q_L50, Q_L55⟩
         refine steps_cons ?_ ?_
         ·rintro b a w' ⟨v36, v42, v50, v55, ha, Q_TW, Q_POST, Q_BK, Q_L36, Q_L42, Q_L50, Q_L55⟩ hb_ hon hoff
          refine ⟨_, rfl, fun K hK => ?_⟩
          have e54 : a.tmps[54]? = some (.string e.f3) := by rw [ha]; exact putSel_on (e := (20, 54, .string e.f3)) 13 rfl rfl (hon 20 (by kernel_rfl)) rfl
          replace ha := a_k ha
          refine Kd.R_lit_step Kd.string _ 9 ?hg (N := 55) ?hd (xs := ([e.f3] : List ByteArray)) (inner := [.string e.f3]) (ok := fun _ => True) (okp := fun _ => True) ?hr ?hp (fun _ hk => hk) trivial (Below.refl _ _) (Nat.le_refl _) (by simp) ?_; (case hd => rfl); (case hg => rfl); (case hr => first | (go_simp; done) | (go_simp; rfl)); (case hp => exact (Reps.one (show Kd.M Kd.string _ _ _ e.f3 [.string e.f3] from rfl) (Reps.none _ _)))
          intro v55n w1 ho1 hb1 hg_ hnew_
          clear hg_ hnew_
          refine hK.out _ _ ⟨v36, v42, v50, v55n, by rw [ha.out]; exact putSel_upk 14 hb_ rfl rfl rfl, fun h_ => (Q_TW h_).below hb1, fun h_ => absurd ((hoff 24 (by kernel_rfl)).symm.trans h_) (by decide), blk_below Q_BK hb1, fun h_ k_ => Kd.R_below (Q_L36 h_ k_) hb1, fun h_ k_ => Kd.R_below (Q_L42 h_ k_) hb1, fun h_ k_ => Kd.R_below (Q_L50 h_ k_) hb1, fun _ _ => Kd.R_lower ho1 (Q_TW (hoff 24 (by kernel_rfl))).bel.size⟩
         refine steps_cons ?_ ?_
         ·rintro b a w' ⟨v36, v42, v50, v55, ha, Q_TW, Q_POST, Q_BK, Q_L36, Q_L42, Q_L50, Q_L55⟩ hb_ hon hoff
          refine ⟨_, rfl, fun K hK => ?_⟩
          have e55 : a.tmps[55]? = some (v55) := by rw [ha]; exact putSel_on (e := (21, 55, v55)) 14 rfl rfl (hon 21 (by kernel_rfl)) rfl
          replace ha := a_k ha
          have hS := Q_L55 (hon 21 (by kernel_rfl)) (hoff 24 (by kernel_rfl))
          obtain ⟨As, cs, es⟩ := Kd.R_slice hS
          subst es
          refine goes_ Tryz.func164 (by kernel_rfl) rfl #[.slice As ([e.f3] : List ByteArray).length cs] (by rfl) rfl rfl (by first | (simp only [m_a, m_c, m_n, Act.eval, Array.getD_eq_getD_getElem?, Option.getD_some, e55]; done) | (simp only [m_a, m_c, m_n, Act.eval, Array.getD_eq_getD_getElem?, Option.getD_some, e55]; rfl)) ?_
          refine (num_Text.calls k _ _ ([e.f3] : List ByteArray) y4 _ (Kd.R_reads' hS).2.2 (Kd.R_reads' hS).2.1 A4.out).mono ?_
          rintro e w1 ⟨rfl, hb1⟩
          refine ⟨_, rfl, ?_⟩
          refine hK.out _ _ ⟨v36, v42, v50, .slice As ([e.f3] : List ByteArray).length cs, by rw [ha.out]; exact putSel_upk 15 hb_ rfl rfl rfl, fun h_ => (Q_TW h_).below hb1, fun h_ => absurd ((hoff 24 (by kernel_rfl)).symm.trans h_) (by decide), blk_below Q_BK hb1, fun h_ k_ => Kd.R_below (Q_L36 h_ k_) hb1, fun h_ k_ => Kd.R_below (Q_L42 h_ k_) hb1, fun h_ k_ => Kd.R_below (Q_L50 h_ k_) hb1, fun h_ k_ => Kd.R_below (Q_L55 h_ k_) hb1⟩
         refine steps_cons ?_ ?_
         ·rintro b a w' ⟨v36, v42, v50, v55, ha, Q_TW, Q_POST, Q_BK, Q_L36, Q_L42, Q_L50, Q_L55⟩ hb_ hon hoff
          refine ⟨_, rfl, fun K hK => ?_⟩
          have e52 : a.tmps[52]? = some (.string ((y1 ++ y2) ++ y3)) := by rw [ha]; exact putSel_on (e := (18, 52, .string ((y1 ++ y2) ++ y3))) 12 rfl rfl (hon 18 (by kernel_rfl)) rfl
          have e56 : a.tmps[56]? = some (.string y4) := by rw [ha]; exact putSel_on (e := (22, 56, .string y4)) 15 rfl rfl (hon 22 (by kernel_rfl)) rfl
          replace ha := a_k ha
          have hz_ := HSZ.out
          have f1 := eq_true (show ((y1 ++ y2) ++ y3).size + y4.size ≤ 9223372036854775807 by unfold lim at hz_; (try simp only [ByteArray.size_append]); omega)
          have f2 : (9223372036854775807 < ((y1 ++ y2) ++ y3).size + y4.size) = False := eq_false (by unfold lim at hz_; (try simp only [ByteArray.size_append]); omega)
          try simp only [ByteArray.size_append] at f1 f2
          refine value_ (w1 := w') (v := .string (((y1 ++ y2) ++ y3) ++ y4)) (by rfl) rfl ?_ ?_
          ·go_simp
           (try simp only [i64_w])
           try rfl
          refine hK.out _ _ ⟨v36, v42, v50, v55, by rw [ha.out]; exact putSel_upk 16 hb_ rfl rfl rfl, Q_TW, Q_POST, Q_BK, Q_L36, Q_L42, Q_L50, Q_L55⟩
         refine steps_cons ?_ ?_
         ·rintro b a w' ⟨v36, v42, v50, v55, ha, Q_TW, Q_POST, Q_BK, Q_L36, Q_L42, Q_L50, Q_L55⟩ hb_ hon hoff
          refine ⟨_, rfl, fun K hK => ?_⟩
          have e4 : a.tmps[4]? = some (.pointer (some ⟨w1.heap.size, 0, none⟩)) := by rw [ha]; exact (putSel_off rfl).trans rfl
          have e57 : a.tmps[57]? = some (.string (((y1 ++ y2) ++ y3) ++ y4)) := by rw [ha]; exact putSel_on (e := (23, 57, .string (((y1 ++ y2) ++ y3) ++ y4))) 16 rfl rfl (hon 23 (by kernel_rfl)) rfl
          replace ha := a_k ha
          refine goes_ Tryz.func185 (by kernel_rfl) rfl #[.pointer (some ⟨w1.heap.size, 0, none⟩), .string (((y1 ++ y2) ++ y3) ++ y4)] (by rfl) rfl rfl (by first | (simp only [m_a, m_c, m_n, Act.eval, Array.getD_eq_getD_getElem?, Option.getD_some, e4, e57]; done) | (simp only [m_a, m_c, m_n, Act.eval, Array.getD_eq_getD_getElem?, Option.getD_some, e4, e57]; rfl)) ?_
          refine (Two.write2 (Q_TW hb_) (((y1 ++ y2) ++ y3) ++ y4) HPL.out).mono ?_
          rintro e w1 ⟨rfl, ht, hfr⟩
          refine ⟨_, rfl, ?_⟩
          refine hK.out _ _ ⟨v36, v42, v50, v55, by rw [ha.out]; exact putSel_upk 17 hb_ rfl rfl rfl, fun h_ => absurd h_ (by simp [Go.Proofs.YtchgpcgolgcfdaaGreatW.PrintLast.up]), fun _ => ht, hfr _ _ _ _ Q_BK (by decide) (by decide), fun _ h_ => absurd h_ (by simp [Go.Proofs.YtchgpcgolgcfdaaGreatW.PrintLast.up]), fun _ h_ => absurd h_ (by simp [Go.Proofs.YtchgpcgolgcfdaaGreatW.PrintLast.up]), fun _ h_ => absurd h_ (by simp [Go.Proofs.YtchgpcgolgcfdaaGreatW.PrintLast.up]), fun _ h_ => absurd h_ (by simp [Go.Proofs.YtchgpcgolgcfdaaGreatW.PrintLast.up])⟩
         exact steps_nil
        rintro b a w25 hall ⟨v36, v42, v50, v55, ha, Q_TW, Q_POST, Q_BK, Q_L36, Q_L42, Q_L50, Q_L55⟩
        have hb2_ := hall 2 (by kernel_rfl)
        have hb3_ := hall 3 (by kernel_rfl)
        have hb5_ := hall 5 (by kernel_rfl)
        have hb7_ := hall 7 (by kernel_rfl)
        have hb8_ := hall 8 (by kernel_rfl)
        have hb9_ := hall 9 (by kernel_rfl)
        have hb10_ := hall 10 (by kernel_rfl)
        have hb12_ := hall 12 (by kernel_rfl)
        have hb14_ := hall 14 (by kernel_rfl)
        have hb15_ := hall 15 (by kernel_rfl)
        have hb16_ := hall 16 (by kernel_rfl)
        have hb17_ := hall 17 (by kernel_rfl)
        have hb18_ := hall 18 (by kernel_rfl)
        have hb20_ := hall 20 (by kernel_rfl)
        have hb21_ := hall 21 (by kernel_rfl)
        have hb22_ := hall 22 (by kernel_rfl)
        have hb23_ := hall 23 (by kernel_rfl)
        have hb24_ := hall 24 (by kernel_rfl)
        subst ha
        simp only [putSel, hb2_, hb3_, hb5_, hb7_, hb8_, hb9_, hb10_, hb12_, hb14_, hb15_, hb16_, hb17_, hb18_, hb20_, hb21_, hb22_, hb23_, hb24_, if_true, Act.put, List.setIfInBounds_toArray, List.set_cons_zero, List.set_cons_succ]
        have POST := a_k (Q_POST hb24_)
        have BK := a_k (Q_BK)
        have L36 := a_k (Q_L36 hb2_)
        have L42 := a_k (Q_L42 hb8_)
        have L50 := a_k (Q_L50 hb16_)
        have L55 := a_k (Q_L55 hb21_)
        clear hall hb2_ hb3_ hb5_ hb7_ hb8_ hb9_ hb10_ hb12_ hb14_ hb15_ hb16_ hb17_ hb18_ hb20_ hb21_ hb22_ hb23_ hb24_ Q_TW Q_POST Q_BK Q_L36 Q_L42 Q_L50 Q_L55
        go_wp2_with (fail)
        go_roundw
        case rel => exact ⟨i + 1, n, _, _, by go_num, by omega, HG2, ⟨POST.out⟩⟩
        case measure => simp [intOf]; omega
       ·rw [if_neg hmb] at hah
        cases hah
     ·rw [if_neg hpl] at hG
      cases hG
  ·rw [if_neg hL] at h
   cases h
end Go.Proofs.YtchgpcgolgcfdaaGreat.Bl2
end
section
namespace Go.Proofs.YtchgpcgolgcfdaaGreat.PNum
open Go.RowKit Go.Proofs.YtchgpcgolgcfdaaGreatW.PrintWords Go.Proofs.YtchgpcgolgcfdaaGreatW.PrintLast Go.Proofs.YtchgpcgolgcfdaaGreatW.PrintMore
attribute [local go_sem] max2_int min2_int max_two min_two max_three min_three max_four min_four
set_option linter.unusedVariables false
set_option linter.unusedSimpArgs false
def block_Put.f (k : Nat) (l0 : List S32) : Option (ByteArray × Int) := Go.Proofs.YtchgpcgolgcfdaaGreat.Bl2.putF k l0
theorem block_Put.calls (k : Nat) (A0 : Option Addr) (c0 : Nat) (l0 : List S32) (r1 : ByteArray) (r2 : Int) (w : World) (hr0 : Kd.C k32 w A0 l0.length l0) (hc0 : l0.length ≤ c0) (h : block_Put.f k l0 = some (r1, r2)) :
  Calls Tryz.prog 75 #[.slice A0 l0.length c0] w fun e w' => e = .returned (.tuple #[.string r1, .int .i64 r2]) ∧ Below w.heap.size w w' := Go.Proofs.YtchgpcgolgcfdaaGreat.Bl2.put_calls k A0 c0 l0 r1 r2 w hr0 hc0 h
end Go.Proofs.YtchgpcgolgcfdaaGreat.PNum
end
section
namespace Go.Proofs.YtchgpcgolgcfdaaGreat.PNum
open Go.RowKit Go.Proofs.YtchgpcgolgcfdaaGreatW.PrintWords Go.Proofs.YtchgpcgolgcfdaaGreatW.PrintLast Go.Proofs.YtchgpcgolgcfdaaGreatW.PrintMore
attribute [local go_sem] max2_int min2_int max_two min_two max_three min_three max_four min_four
set_option linter.unusedVariables false
set_option linter.unusedSimpArgs false
set_option maxRecDepth 100000
set_option maxHeartbeats 16000000
def stringslite_Clone.f (a0 : ByteArray) : Option ByteArray := if a0.size ≤ 281474976710656 then some a0 else none
theorem stringslite_Clone.calls (a0 : ByteArray) (r : ByteArray) (w : World) (h : stringslite_Clone.f a0 = some r) :
  Calls Tryz.prog 203 #[.string a0] w fun e w' => e = .returned (.string r) ∧ Below w.heap.size w w' := by
 unfold stringslite_Clone.f at h
 split at h
 ·obtain rfl := Option.some.inj h
  exact Tryz.stringslite_Clone a0 w (by assumption)
 ·cases h
def strings_Clone.f (a0 : ByteArray) : Option (ByteArray) := (stringslite_Clone.f a0).bind fun t302 => (some t302)
theorem strings_Clone.calls (a0 : ByteArray) (r : ByteArray) (w : World) (h : strings_Clone.f a0 = some r) :
  Calls Tryz.prog 99 #[.string a0] w fun e w' => e = .returned (.string r) ∧ Below w.heap.size w w' := by
 have HB := a_k (Below.refl w.heap.size w)
 have H : ((stringslite_Clone.f a0).bind fun t302 => (some t302)) = some r := h
 clear h
 replace H := Option.bind_eq_some_iff.mp H
 obtain ⟨t302, A20, H⟩ := H
 replace H : (some t302) = some r := H
 have A2 := a_k A20
 clear A20
 obtain rfl := Option.some.inj H
 go_enter Tryz.func99, Tryz.ntmps99
 go_wp2_with (first | ((with_reducible refine gate_callee (f := 203) rfl ?_); refine goesL_ (some 4) rfl rfl Tryz.func203 (by kernel_rfl) rfl #[.string a0] rfl (by (try simp only [m_a, m_c, m_n]); first | done | rfl) ?_; (with_reducible refine (stringslite_Clone.calls a0 t302 _ A2.out).mono ?_); rintro e w3 ⟨rfl, hb⟩; refine ⟨_, rfl, ?_⟩; have n0_ := a_k (below_step (by repeat (first | exact HB.out | apply b_a | apply b_n | apply b_d)) hb); clear HB; have HB := n0_; clear n0_; (try clear hb); (try clear hb2); (try clear hk); (try clear hi)))
 go_ret
 exact ⟨by first | rfl | (simp [*, errW_none, errW_some] <;> rfl), by repeat (first | exact HB.out | apply b_a | apply b_n | apply b_d)⟩
mutual
def num_Unfix.j0 : Nat → ByteArray → Int → Int → Bool → Option (Int × Int)
 | 0, _, _, _, _ => none
 | k + 1, x0, x1, x2, x10 => if x10 = true then (some (0, 1)) else (if x1 > (x0.size : Int) then (some (0, 5)) else (if (wrap64 ((x0.size : Int) - x1)) < x2 then (some (0, 5)) else (num_Unfix.l0 k x0 x1 0 x2 0)))
def num_Unfix.l0 : Nat → ByteArray → Int → Int → Int → Int → Option (Int × Int)
 | 0, _, _, _, _, _ => none
 | k + 1, x0, x1, x8, x34, x35 => if x35 < x34 then (if 0 ≤ (wrap64 (x1 + x35)) then (if (wrap64 (x1 + x35)) < (x0.size : Int) then (num_Unfix.l0 k x0 x1 (Go.bits .or .u64 (IntKind.u64.wrap (x8 * 256)) (IntKind.u64.wrap (bt x0 (wrap64 (x1 + x35))))) x34 (wrap64 (x35 + 1))) else (none)) else (none)) else (some (x8, 0))
end
def num_Unfix.f (k : Nat) (a0 : ByteArray) (a1 : Int) (a2 : Int) : Option (Int × Int) := if a2 < 1 then (num_Unfix.j0 k a0 a1 a2 true) else (if a2 > 8 then (num_Unfix.j0 k a0 a1 a2 true) else (num_Unfix.j0 k a0 a1 a2 (decide (a1 < 0))))
theorem num_Unfix.calls (k : Nat) (a0 : ByteArray) (a1 : Int) (a2 : Int) (r1 : Int) (r2 : Int) (w : World) (h : num_Unfix.f k a0 a1 a2 = some (r1, r2)) :
  Calls Tryz.prog 194 #[.string a0, .int .i64 a1, .int .i64 a2] w fun e w' => e = .returned (.tuple #[.int .u64 r1, .int .i64 r2]) ∧ Drawn0 w w' := by
 have H : (if a2 < 1 then (num_Unfix.j0 k a0 a1 a2 true) else (if a2 > 8 then (num_Unfix.j0 k a0 a1 a2 true) else (num_Unfix.j0 k a0 a1 a2 (decide (a1 < 0))))) = some (r1, r2) := h
 clear h
 have HC4 := a_k H
 clear H
 go_enter Tryz.func194, Tryz.ntmps194
 go_upto_region 1 with (fail)
 go_cut [10] (fun v10 wc => ∃ (kq : Nat) (x10_3 : Bool), v10 = .bool x10_3 ∧ Aside0 (num_Unfix.j0 kq a0 a1 a2 x10_3 = some (r1, r2)) ∧ Aside0 (kq ≤ k) ∧ Drawn0 w wc)
 case first =>
  have H := HC4.out
  clear HC4
  by_cases c5 : a2 < 1
  ·rw [if_pos c5] at H
   have c5b0 : decide (a2 < 1) = true := decide_eq_true c5
   clear c5
   (first | rw [c5b0] | (simp only [i64_w, i32_w]; rw [c5b0]) | skip)
   have H' := a_k H
   clear H
   go_wp2
   go_meet
   case rel => exact ⟨_, (true), (by first | rfl | (simp; done) | (simp [*]; done)), H', ⟨by first | omega | exact Nat.le_refl _⟩, by repeat (first | exact Drawn0.refl _ | apply Drawn0.step)⟩
  ·rw [if_neg c5] at H
   have c5b0 : decide (a2 < 1) = false := decide_eq_false c5
   clear c5
   (first | rw [c5b0] | (simp only [i64_w, i32_w]; rw [c5b0]) | skip)
   by_cases c6 : a2 > 8
   ·rw [if_pos c6] at H
    have c6b0 : decide (8 < a2) = true := decide_eq_true c6
    clear c6
    have H' := a_k H
    clear H
    go_wp2
    go_meet
    case rel => exact ⟨_, (true), (by first | rfl | (simp; done) | (simp [*]; done)), H', ⟨by first | omega | exact Nat.le_refl _⟩, by repeat (first | exact Drawn0.refl _ | apply Drawn0.step)⟩
   ·rw [if_neg c6] at H
    have c6b0 : decide (8 < a2) = false := decide_eq_false c6
    clear c6
    have H' := a_k H
    clear H
    go_wp2
    go_meet
    case rel => exact ⟨_, (decide (a1 < 0)), (by first | rfl | (simp; done) | (simp [*]; done)), H', ⟨by first | omega | exact Nat.le_refl _⟩, by repeat (first | exact Drawn0.refl _ | apply Drawn0.step)⟩
 case rest =>
  clear HC4
  try clear c1
  try clear p2
  try clear c5
  try clear c5b0
  try clear c6
  try clear c6b0
  obtain ⟨kq, x10_3, rfl, HA, HJ3, ⟨mc3, rfl⟩⟩ := hcut
  cases kq with
  | zero => exact absurd HA.out (by simp [num_Unfix.j0])
  | succ kj3 =>
   have H := HA.out
   clear HA
   simp only [num_Unfix.j0] at H
   by_cases c7 : x10_3 = true
   ·subst c7
    have H1 : (some (0, 1)) = some (r1, r2) := by rw [if_pos rfl] at H; exact H
    clear H
    have H := H1
    clear H1
    simp only [Option.some.injEq, Prod.mk.injEq] at H
    obtain ⟨rfl, rfl⟩ := H
    go_wp2
    go_ret2
    exact ⟨by first | rfl | (simp; done) | (simp [*]; done), by repeat (first | exact Drawn0.refl _ | apply Drawn0.step)⟩
   ·replace c7 := Bool.eq_false_iff.mpr c7
    subst c7
    have H1 : (if a1 > (a0.size : Int) then (some (0, 5)) else (if (wrap64 ((a0.size : Int) - a1)) < a2 then (some (0, 5)) else (num_Unfix.l0 kj3 a0 a1 0 a2 0))) = some (r1, r2) := by rw [if_neg (show ¬ (false = true) by decide)] at H; exact H
    clear H
    have H := H1
    clear H1
    by_cases c8 : a1 > (a0.size : Int)
    ·rw [if_pos c8] at H
     have c8b0 : decide ((a0.size : Int) < a1) = true := decide_eq_true c8
     clear c8
     simp only [Option.some.injEq, Prod.mk.injEq] at H
     obtain ⟨rfl, rfl⟩ := H
     go_wp2
     go_ret2
     exact ⟨by first | rfl | (simp; done) | (simp [*]; done), by repeat (first | exact Drawn0.refl _ | apply Drawn0.step)⟩
    ·rw [if_neg c8] at H
     have c8b0 : decide ((a0.size : Int) < a1) = false := decide_eq_false c8
     clear c8
     by_cases c9 : (wrap64 ((a0.size : Int) - a1)) < a2
     ·rw [if_pos c9] at H
      have c9b0 : decide ((wrap64 ((a0.size : Int) - a1)) < a2) = true := decide_eq_true c9
      clear c9
      simp only [Option.some.injEq, Prod.mk.injEq] at H
      obtain ⟨rfl, rfl⟩ := H
      go_wp2
      go_ret2
      exact ⟨by first | rfl | (simp; done) | (simp [*]; done), by repeat (first | exact Drawn0.refl _ | apply Drawn0.step)⟩
     ·rw [if_neg c9] at H
      have c9b0 : decide ((wrap64 ((a0.size : Int) - a1)) < a2) = false := decide_eq_false c9
      clear c9
      have H' := a_k H
      clear H
      go_wp2
      go_loopg [8, 35] kj3 (fun kq v8 v35 w' => ∃ (x8_2 : Int) (x35_2 : Int), v8 = .int .u64 x8_2 ∧ v35 = .int .i64 x35_2 ∧ Aside0 (num_Unfix.l0 kq a0 a1 x8_2 a2 x35_2 = some (r1, r2)) ∧ Aside0 (kq ≤ kj3) ∧ Drawn0 w w')
      case atStart => exact ⟨(0), (0), (by first | rfl | (simp; done) | (simp [*]; done)), (by first | rfl | (simp; done) | (simp [*]; done)), H', ⟨Nat.le_refl _⟩, by repeat (first | exact Drawn0.refl _ | apply Drawn0.step)⟩
      case round =>
       clear H'
       try clear c1
       try clear p2
       try clear c3
       try clear c5
       try clear c5b0
       try clear c6
       try clear c6b0
       try clear p6
       try clear c7
       try clear c8
       try clear c8b0
       try clear c9
       try clear c9b0
       try clear p2
       obtain ⟨x8_2, x35_2, rfl, rfl, HA, HK2, ⟨m2, rfl⟩⟩ := hrel
       cases gk with
       | zero => exact absurd HA.out (by simp [num_Unfix.l0])
       | succ k2 =>
        have H := HA.out
        clear HA
        simp only [num_Unfix.l0] at H
        by_cases c10 : x35_2 < a2
        ·rw [if_pos c10] at H
         have c10b0 : decide (x35_2 < a2) = true := decide_eq_true c10
         clear c10
         obtain ⟨ji11, hji11⟩ : ∃ j_ : Int, (wrap64 (a1 + x35_2)) = j_ := ⟨_, rfl⟩
         replace H : (if 0 ≤ (ji11) then (if (ji11) < (a0.size : Int) then (num_Unfix.l0 k2 a0 a1 (Go.bits .or .u64 (IntKind.u64.wrap (x8_2 * 256)) (IntKind.u64.wrap (bt a0 (ji11)))) a2 (wrap64 (x35_2 + 1))) else (none)) else (none)) = some (r1, r2) := by first | (rw [hji11] at H; exact H) | (simp only [hji11] at H ⊢; exact H)
         have hji11w : (IntKind.i64.wrap (a1 + x35_2)) = ji11 := (i64_w _).trans hji11
         by_cases c12 : 0 ≤ (ji11)
         ·rw [if_pos c12] at H
          have c12b0 : decide (0 ≤ (ji11)) = true := decide_eq_true c12
          clear c12
          by_cases c13 : (ji11) < (a0.size : Int)
          ·rw [if_pos c13] at H
           have c13b0 : decide ((ji11) < (a0.size : Int)) = true := decide_eq_true c13
           clear c13
           have H' := a_k H
           clear H
           have p14 : 0 ≤ ((ji11) : Int) := of_decide_eq_true (by assumption)
           have q14 : (ji11) < (a0.size : Int) := of_decide_eq_true (by assumption)
           have hx14 := bt_at a0 (ji11)
           replace p14 := eq_true p14
           replace q14 := eq_true q14
           go_wp2
           go_roundg k2
           case measure => have := HJ3.out; have := HK2.out; omega
           case rel => exact ⟨(Go.bits .or .u64 (IntKind.u64.wrap (x8_2 * 256)) (IntKind.u64.wrap (bt a0 (ji11)))), (wrap64 (x35_2 + 1)), (by first | rfl | (simp; done) | (simp only [← hji11] <;> (first | rfl | simp)) | (simp [*]; done)), (by first | rfl | (simp; done) | (simp [*]; done)), H', ⟨by have := HJ3.out; have := HK2.out; omega⟩, by repeat (first | exact Drawn0.refl _ | apply Drawn0.step)⟩
          ·rw [if_neg c13] at H
           exact absurd H (by simp)
         ·rw [if_neg c12] at H
          exact absurd H (by simp)
        ·rw [if_neg c10] at H
         have c10b0 : decide (x35_2 < a2) = false := decide_eq_false c10
         clear c10
         simp only [Option.some.injEq, Prod.mk.injEq] at H
         obtain ⟨rfl, rfl⟩ := H
         go_wp2
         go_ret2
         exact ⟨by first | rfl | (simp; done) | (simp [*]; done), by repeat (first | exact Drawn0.refl _ | apply Drawn0.step)⟩
def sum_get.f (k : Nat) (a0 : ByteArray) (a1 : Int) : Option (Int) := (num_Unfix.f k a0 a1 4).bind fun bt303 => (some ((bt303.1) % 4294967296))
theorem sum_get.calls (k : Nat) (a0 : ByteArray) (a1 : Int) (r : Int) (w : World) (h : sum_get.f k a0 a1 = some r) :
  Calls Tryz.prog 244 #[.string a0, .int .i64 a1] w fun e w' => e = .returned (.int .u32 r) ∧ Drawn0 w w' := by
 have H : ((num_Unfix.f k a0 a1 4).bind fun bt303 => (some ((bt303.1) % 4294967296))) = some r := h
 clear h
 replace H := Option.bind_eq_some_iff.mp H
 obtain ⟨⟨t303, t304⟩, A30, H⟩ := H
 replace H : (some ((t303) % 4294967296)) = some r := H
 have A3 := a_k A30
 clear A30
 obtain rfl := Option.some.inj H
 go_enter Tryz.func244, Tryz.ntmps244
 go_wp2_with (first | ((with_reducible refine gate_callee (f := 194) rfl ?_); refine goesL_ (some 10) rfl rfl Tryz.func194 (by kernel_rfl) rfl #[.string a0, .int .i64 a1, .int .i64 4] rfl (by (try simp only [m_a, m_c, m_n]); first | done | rfl) ?_; (with_reducible refine (num_Unfix.calls k a0 a1 4 t303 t304 _ A3.out).mono ?_); rintro e w' ⟨rfl, ⟨nd, rfl⟩⟩; refine ⟨_, rfl, ?_⟩))
 go_ret
 exact ⟨by first | rfl | (simp; done) | (simp [*]; done), by repeat (first | exact Drawn0.refl _ | apply Drawn0.step)⟩
end Go.Proofs.YtchgpcgolgcfdaaGreat.PNum
end
