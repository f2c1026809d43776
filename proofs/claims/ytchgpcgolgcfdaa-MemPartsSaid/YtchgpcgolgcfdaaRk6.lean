/- Put of a skip list: a version that was not there. -/
import Derived.Test.YtchgpcgolgcfdaaRk5
namespace Go.Proofs.Ytchgpcgolgcfdaa.Rk
open Go Go.RowKit Go.Proofs.Ytchgpcgolgcfdaa.PNum Go.Proofs.Ytchgpcgolgcfdaa.RkM Go.Proofs.YtchgpcgolgcfdaaW.PrintWords Go.Proofs.YtchgpcgolgcfdaaW.PrintLast Go.Proofs.YtchgpcgolgcfdaaW.PrintMore
attribute [local go_sem] max2_int min2_int max_two min_two max_three min_three max_four min_four
set_option linter.unusedVariables false
set_option linter.unusedSimpArgs false
set_option maxHeartbeats 8000000 in
set_option maxRecDepth 100000 in
theorem put_yes (R : Root) (w0 w : World) (g : Nat) (pre post : List Nd) (n t : Int) (e : E) (lv : Int) (hI : IsL R w0 w g (pre ++ post) n t) (hB : Below w0.heap.size w0 w) (hp : ∀ x ∈ pre, decide (PuIkC.ce x.e e < 0) = true) (hq : ∀ x ∈ post, decide (PuIkC.ce x.e e < 0) = false) (h : Nat) (hh : (h : Int) = min (max lv 1) 8) (hv : PuIkC.valid e.f0 e.f2 e.f3 = true) (hne : ∀ y r, post = y :: r → PuIkC.ce y.e e ≠ 0) (h1 : ∀ x ∈ pre ++ post, 1 ≤ x.h) (s0 : e.f0.size ≤ 281474976710656) (s3 : e.f3.size ≤ 281474976710656) :
    Calls Try.prog 37 #[.pointer (some ⟨g, 0, none⟩), .agg #[.string (e).f0, .int .u64 (e).f1, .int .i64 (e).f2, .string (e).f3], .int .i64 lv] w fun ee w' => ee = .returned (.bool true) ∧ ∃ xb, w.heap.size ≤ xb ∧ IsL R w0 w' g (pre ++ ⟨xb, h, e⟩ :: post) (wrap64 (n + 1)) (max t h) ∧ Below w0.heap.size w0 w' ∧ Fr w w' g pre := by
  have HI := Aside0.mk hI
  have HBB := Aside0.mk hB
  have HB := Aside0.mk (below_alloc (Below.refl w.heap.size w) (.cells #[.string (e).f0, .int .u64 (e).f1, .int .i64 (e).f2, .string (e).f3] 29))
  obtain ⟨kv, hkv⟩ := PuIkC.Valid_ev e.f0 e.f1 e.f2 e.f3
  have HKV := Aside0.mk (hkv kv (Nat.le_refl _))
  have HX := Aside0.mk (blk_new w (.cells #[.string (e).f0, .int .u64 (e).f1, .int .i64 (e).f2, .string (e).f3] 29))
  clear hI hB hkv

  have HV := Aside0.mk hv
  have HP := Aside0.mk hp
  have HQ := Aside0.mk hq
  have HNE := Aside0.mk hne
  have HH := Aside0.mk hh
  have H1 := Aside0.mk h1
  have S0 := Aside0.mk s0
  have S3 := Aside0.mk s3
  clear hv hp hq hne hh h1 s0 s3
  have hix := idx0'
  go_enter Try.func37, Try.ntmps37
  go_upto_region 4 with (first | (go_at_call 61; refine (ikey_Valid.calls kv _ _ _ _ _ _ HKV.out).mono ?_; rintro ee w1 ⟨rfl, hb⟩; rw [HV.out]; have n0_ := Aside0.mk (below_step HB.out hb); have n1_ := Aside0.mk (blk_below HX.out hb); clear HB HX hb; have HB := n0_; have HX := n1_; clear n0_ n1_) | (go_at_call 62; have HF : Aside0 (∀ (V : World) (x : Nd), Below w1.heap.size w1 V → x ∈ pre ++ post → Calls Try.prog 63 #[.agg #[.string (x.e).f0, .int .u64 (x.e).f1, .int .i64 (x.e).f2, .string (x.e).f3], .pointer (some ⟨w.heap.size, 0, none⟩)] V fun ee w' => ee = .returned (.bool (decide (PuIkC.ce x.e e < 0))) ∧ Below V.heap.size V w') := ⟨fun V x hV _ => put1 V _ e x.e (blk_below HX.out hV)⟩; refine (before_put R w0 w1 g w.heap.size pre post n t (fun x => decide (PuIkC.ce x e < 0)) (HI.out.below HB.out) HP.out HQ.out HF.out).mono ?_; rintro ee w2 ⟨rfl, hb⟩; have n0_ := Aside0.mk (below_step HB.out hb); have n1_ := Aside0.mk (blk_below HX.out hb); clear HB HX HF hb; have HB := n0_; have HX := n1_; clear n0_ n1_; unfold outs))
  have hj : J R w0 w (w2.alloc (.cells (outs g pre) 85)) g w.heap.size w2.heap.size pre post n t e := ⟨HI.out.below (below_alloc HB.out _), blk_alloc HX.out _, blk_new w2 _, below_step HBB.out (below_alloc HB.out _), (Fr.refl w g pre).below (Nat.le_refl _) (below_alloc HB.out _), (below_alloc HB.out _).size, HBB.out.size, Nat.le_refl _, HB.out.size⟩
  have HJ := Aside0.mk hj
  clear hj HB HX HI HBB hix
  unfold outs at HJ
  generalize World.alloc w2 _ = V at *
  generalize w2.heap.size = a at *
  have c0 : V.cell? ⟨a, 0, none⟩ = some (.pointer (some ⟨(lastAt pre 0).getD g, 0, none⟩)) := (blk_cell HJ.out.arr 0).trans rfl
  have y0 := HJ.out.li.nextLast (L := 0) (by omega)
  cases post with
  | nil =>
    have y1 : V.cell? ⟨(lastAt pre 0).getD g, 4, none⟩ = some (.pointer none) := y0
    clear y0
    go_wp2_with (fail)
    go_quiet (fail)
    have HJ5 : Aside0 (J R w0 w (V.drewN nq) g w.heap.size a pre [] n t e) := ⟨HJ.out.below (pw_below_drewN (Below.refl _ _) _)⟩
    generalize V.drewN nq = V5 at *
    clear HJ c0 y1
    go_wp2_with (fail)
    go_region_held3 (fun V => V.cell? ⟨w.heap.size, 0, none⟩ = some (.string e.f0) ∧ V.cell? ⟨w.heap.size, 3, none⟩ = some (.string e.f3) ∧ V.frozen? ⟨w.heap.size, 0, none⟩ = false ∧ V.frozen? ⟨w.heap.size, 3, none⟩ = false ∧ Aside0 (J R w0 w V g w.heap.size a pre [] n t e)) (first | exact J.out HJ5.out | exact J.out (J.drew HJ5.out) | exact J.stepD HJ5.out hb | exact J.stepB hb (by assumption) | exact J.stepS0 (by assumption) | exact J.stepS3 (by assumption)) (first | (go_at_call 65; refine (clone_calls e.f0 _ S0.out).mono ?_; rintro ee w4 ⟨rfl, hb⟩) | (go_at_call 65; refine (clone_calls e.f3 _ S3.out).mono ?_; rintro ee w4 ⟨rfl, hb⟩))
    have hj : J R w0 w ((w4.setCell ⟨w.heap.size, 0, none⟩ (.string e.f0)).setCell ⟨w.heap.size, 3, none⟩ (.string e.f3)) g w.heap.size a pre [] n t e := (show CJ R w0 w ((w4.setCell ⟨w.heap.size, 0, none⟩ (.string e.f0)).setCell ⟨w.heap.size, 3, none⟩ (.string e.f3)) g w.heap.size a pre [] n t e from by unfold CJ; assumption).2.2.2.2.out
    generalize hV8 : World.setCell (World.setCell w4 _ _) _ _ = V8 at *
    have e0 : V8.cell? ⟨w.heap.size, 0, none⟩ = some (.string e.f0) := (blk_cell hj.box 0).trans rfl
    have e1 : V8.cell? ⟨w.heap.size, 1, none⟩ = some (.int .u64 e.f1) := (blk_cell hj.box 1).trans rfl
    have e2 : V8.cell? ⟨w.heap.size, 2, none⟩ = some (.int .i64 e.f2) := (blk_cell hj.box 2).trans rfl
    have e3 : V8.cell? ⟨w.heap.size, 3, none⟩ = some (.string e.f3) := (blk_cell hj.box 3).trans rfl
    have HJ8 := Aside0.mk hj
    clear hj hb hV8 HJ5
    go_upto_region 9 with (fail)
    have hxb : V8.heap.size ∉ blocks (pre ++ []) := fun z => by
      obtain ⟨u, hu, hub⟩ := List.mem_map.1 z
      have := HJ8.out.li.ch.lt u hu
      omega
    have HL : Aside0 (IsL R w0 (V8.alloc (.cells #[.string (e).f0, .int .u64 (e).f1, .int .i64 (e).f2, .string (e).f3, .pointer none, .pointer none, .pointer none, .pointer none, .pointer none, .pointer none, .pointer none, .pointer none] 87)) g (pre ++ ⟨V8.heap.size, 0, e⟩ :: []) n t) := ⟨IsL.enter (HJ8.out.li.below (below_alloc (Below.refl _ V8) _)) (by rw [cellsN_new]; exact blk_new V8 _) hxb (Nat.le_trans HJ8.out.ge (by have := blk_lt HJ8.out.box; omega))⟩
    have HA : Aside0 ((V8.alloc (.cells #[.string (e).f0, .int .u64 (e).f1, .int .i64 (e).f2, .string (e).f3, .pointer none, .pointer none, .pointer none, .pointer none, .pointer none, .pointer none, .pointer none, .pointer none] 87)).heap[a]? = some (.cells (outs g pre) 85 (0, 0))) := ⟨blk_alloc HJ8.out.arr _⟩
    have HB : Aside0 (Below w0.heap.size w0 (V8.alloc (.cells #[.string (e).f0, .int .u64 (e).f1, .int .i64 (e).f2, .string (e).f3, .pointer none, .pointer none, .pointer none, .pointer none, .pointer none, .pointer none, .pointer none, .pointer none] 87))) := ⟨below_alloc HJ8.out.bel _⟩
    have HF : Aside0 (Fr w (V8.alloc (.cells #[.string (e).f0, .int .u64 (e).f1, .int .i64 (e).f2, .string (e).f3, .pointer none, .pointer none, .pointer none, .pointer none, .pointer none, .pointer none, .pointer none, .pointer none] 87)) g pre) := ⟨HJ8.out.fr.below HJ8.out.sz (below_alloc (Below.refl _ V8) _)⟩
    have HS : Aside0 (w.heap.size ≤ (V8.alloc (.cells #[.string (e).f0, .int .u64 (e).f1, .int .i64 (e).f2, .string (e).f3, .pointer none, .pointer none, .pointer none, .pointer none, .pointer none, .pointer none, .pointer none, .pointer none] 87)).heap.size) := ⟨Nat.le_trans HJ8.out.sz (below_alloc (Below.refl _ V8) _).size⟩
    have HXB : Aside0 (w.heap.size ≤ V8.heap.size) := ⟨HJ8.out.sz⟩
    have HXA : Aside0 (a ≠ V8.heap.size) := ⟨fun z => by have := blk_lt HJ8.out.arr; omega⟩
    clear HJ8 e0 e1 e2 e3 hxb
    generalize World.alloc V8 _ = V9 at *
    generalize V8.heap.size = xb at *
    go_cut [2] (fun v2 wc => v2 = .int .i64 (h : Int) ∧ Aside0 (IsL R w0 wc g (pre ++ ⟨xb, 0, e⟩ :: []) n t) ∧ Aside0 (wc.heap[a]? = some (.cells (outs g pre) 85 (0, 0))) ∧ Aside0 (Below w0.heap.size w0 wc) ∧ Aside0 (Fr w wc g pre) ∧ Aside0 (w.heap.size ≤ wc.heap.size))
    case first =>
      rcases (show lv < 1 ∨ (1 ≤ lv ∧ lv ≤ 8) ∨ 8 < lv by omega) with c | ⟨c, d⟩ | c
      · have c2 : ¬ (8 < lv) := by omega
        go_wp2_with (fail)
        go_meet
        case rel => exact ⟨by have := HH.out; congr 1; omega, HL, HA, HB, HF, HS⟩
      · have c2 : ¬ (lv < 1) := by omega
        have c3 : ¬ (8 < lv) := by omega
        go_wp2_with (fail)
        go_meet
        case rel => exact ⟨by have := HH.out; congr 1; omega, HL, HA, HB, HF, HS⟩
      · have c2 : ¬ (lv < 1) := by omega
        go_wp2_with (fail)
        go_meet
        case rel => exact ⟨by have := HH.out; congr 1; omega, HL, HA, HB, HF, HS⟩
    case rest =>
      clear HL HA HB HF HS
      obtain ⟨rfl, HL, HA, HB, HF, HS⟩ := hcut
      have hh8 : h ≤ 8 := by have := HH.out; omega
      go_wp2_with (fail)
      go_loopw [10, 53] (fun v10 v53 w' => ∃ i : Nat, v53 = .int .i64 i ∧ i ≤ h ∧ Aside0 (IsL R w0 w' g (pre ++ ⟨xb, i, e⟩ :: []) n t) ∧ Aside0 (w'.heap[a]? = some (.cells (outs g pre) 85 (0, 0))) ∧ Aside0 (Below w0.heap.size w0 w') ∧ Aside0 (Fr w w' g pre) ∧ Aside0 (w.heap.size ≤ w'.heap.size)) (fun _ v53 _ => h - (intOf v53).toNat)
      case atStart => exact ⟨0, rfl, Nat.zero_le _, HL, HA, HB, HF, HS⟩
      case round =>
        clear HL HA HB HF HS
        obtain ⟨i, rfl, hi, HL, HA, HB, HF, HS⟩ := hrel
        by_cases hih : i < h
        · have hi8 : i < 8 := by omega
          have t0 : decide ((i : Int) < (h : Int)) = true := decide_eq_true (by omega)
          have t0' : decide (i < h) = true := decide_eq_true hih
          have q0 : (0 : Int) ≤ (i : Int) := Int.natCast_nonneg _
          have q1 : (i : Int) < 8 := by omega
          have a0 := outs_cell HA.out hi8
          obtain ⟨oo, hoo⟩ : ∃ oo : Option Addr, oo = (first [] i).map fun b => ⟨b, 0, none⟩ := ⟨_, rfl⟩
          have y0 : wr.cell? ⟨(lastAt pre i).getD g, 4 + i, none⟩ = some (.pointer oo) := by
            have h5 := HL.out.nextLast hi8
            rw [first, if_neg (Nat.lt_irrefl i)] at h5
            rw [hoo]
            exact h5
          have x0 : wr.cell? ⟨xb, 4 + i, none⟩ = some (.pointer none) := by
            have h5 := cellAt HL.out.ch.blk hi8
            unfold at_ at h5
            rw [if_neg (Nat.lt_irrefl i)] at h5
            exact h5
          have HOO := Aside0.mk hoo
          clear hoo
          have hplace := HL.out.place i
          have f0 : wr.frozen? ⟨(lastAt pre i).getD g, 4 + i, none⟩ = false := by
            obtain ⟨⟨cs, ty, hcs, _⟩, _⟩ := hplace
            exact blk_frozen hcs _
          have f1 : wr.frozen? ⟨xb, 4 + i, none⟩ = false := blk_frozen HL.out.ch.blk _
          have hne : ¬ (lastAt pre i).getD g = xb := by
            obtain ⟨_, _, h6⟩ := hplace
            have hnd := HL.out.nd
            rw [blocks_app] at hnd
            rcases h6 with h6 | h6
            · rw [h6]
              intro z
              apply HL.out.ne
              rw [z]
              simp [blocks]
            · intro z
              rw [z] at h6
              exact (List.nodup_append.1 hnd).2.2 xb h6 xb (by simp [blocks]) rfl
          have hne2 : ¬ xb = (lastAt pre i).getD g := fun z => hne z.symm
          have HPL := Aside0.mk hplace
          have HIH := Aside0.mk hih
          clear hplace hih
          have hna : a ≠ (⟨xb, 4 + i, none⟩ : Addr).block := HXA.out
          have hnb : a ≠ (⟨(lastAt pre i).getD g, 4 + i, none⟩ : Addr).block := by
            obtain ⟨⟨cs, ty, hcs, hty⟩, _⟩ := HPL.out
            refine blk_ne HA.out hcs ?_
            rcases hty with rfl | rfl <;> first | decide | exact R.na | exact R.na.symm
          have k0 : wr.drew.cell? ⟨a, i, none⟩ = some (.pointer (some ⟨(lastAt pre i).getD g, 0, none⟩)) := a0
          have k1 : (wr.drew.setCell ⟨xb, 4 + i, none⟩ (.pointer oo)).cell? ⟨a, i, none⟩ = some (.pointer (some ⟨(lastAt pre i).getD g, 0, none⟩)) := outs_cell (blk_far HA.out hna _) hi8
          have k2 : ((wr.drew.setCell ⟨xb, 4 + i, none⟩ (.pointer oo)).setCell ⟨(lastAt pre i).getD g, 4 + i, none⟩ (.pointer (some ⟨xb, 0, none⟩))).cell? ⟨a, i, none⟩ = some (.pointer (some ⟨(lastAt pre i).getD g, 0, none⟩)) := outs_cell (blk_far (blk_far HA.out hna _) hnb _) hi8
          have HK := Aside0.mk (And.intro k0 (And.intro k1 k2))
          have HNA := Aside0.mk hna
          have HNB := Aside0.mk hnb
          clear k0 k1 k2 hna hnb
          go_wp2_with (fail)
          go_region
          have hBk : ∀ k, k ≠ g → k ∉ blocks pre → k ≠ (lastAt pre i).getD g := fun k k2 k3 z => by
            rcases HPL.out.2.2 with h6 | h6
            · exact k2 (z.trans h6)
            · exact k3 (z ▸ h6)
          have HBK := Aside0.mk hBk
          clear hBk
          go_wp2_with (fail)
          go_roundw
          case rel => exact ⟨i + 1, by go_num, by have := HIH.out; omega, ⟨by have h9 := IsL.step hi8 (HL.out.below (below_drew (Below.refl _ wr))); unfold up ptr at h9; rw [HOO.out]; exact h9⟩, ⟨blk_far (blk_far HA.out HNA.out _) HNB.out _⟩, ⟨below_set (below_set (below_drew HB.out) (HL.out.gb ⟨xb, i, e⟩ (by simp))) HPL.out.2.1⟩, ⟨fun k k1 k2 k3 => (Below.heap_setCell _ ⟨_, _, none⟩ _ k (HBK.out k k2 k3)).trans ((Below.heap_setCell _ ⟨_, _, none⟩ _ k (by have := HXB.out; show k ≠ xb; omega)).trans (HF.out k k1 k2 k3))⟩, ⟨by have := HS.out; simpa using this⟩⟩
          case measure => have := HIH.out; simp [intOf]; omega
        · have hie : i = h := by omega
          subst hie
          have t0 : decide ((i : Int) < (i : Int)) = false := decide_eq_false (by omega)
          have c12 : wr.cell? ⟨g, 12, none⟩ = some (.int .i64 n) := (blk_cell HL.out.hd 12).trans rfl
          have c13 : wr.cell? ⟨g, 13, none⟩ = some (.int .i64 t) := (blk_cell HL.out.hd 13).trans rfl
          have f12 := blk_frozen HL.out.hd 12
          have f13 := blk_frozen HL.out.hd 13
          have HGG := Aside0.mk HL.out.gg
          by_cases ct : t < (i : Int)
          · go_wp2_with (fail)
            go_ret
            exact ⟨rfl, xb, HXB.out, by have h9 := IsL.bump HL.out (wrap64 (n + 1)) (max t (i : Int)); rw [show max t (i : Int) = (i : Int) from by omega] at h9 ⊢; exact h9, below_set (below_set HB.out HGG.out) HGG.out, fun k k1 k2 k3 => (Below.heap_setCell _ ⟨_, _, none⟩ _ k k2).trans ((Below.heap_setCell _ ⟨_, _, none⟩ _ k k2).trans (HF.out k k1 k2 k3))⟩
          · go_wp2_with (fail)
            go_ret
            exact ⟨rfl, xb, HXB.out, by have h9 := IsL.bump HL.out (wrap64 (n + 1)) (max t (i : Int)); rw [show max t (i : Int) = t from by omega] at h9 ⊢; exact h9, below_set (below_set HB.out HGG.out) HGG.out, fun k k1 k2 k3 => (Below.heap_setCell _ ⟨_, _, none⟩ _ k k2).trans ((Below.heap_setCell _ ⟨_, _, none⟩ _ k k2).trans (HF.out k k1 k2 k3))⟩
  | cons y r =>
    have HY : Aside0 (1 ≤ y.h) := ⟨H1.out y (by simp)⟩
    have y1 : V.cell? ⟨(lastAt pre 0).getD g, 4, none⟩ = some (.pointer (some ⟨y.b, 0, none⟩)) := by
      rw [first_cons HY.out] at y0
      exact y0
    clear y0
    obtain ⟨kc, hkc⟩ := PuIkC.Compare_ev y.e e
    have HKC := Aside0.mk (hkc kc (Nat.le_refl _))
    have kne : (PuIkC.ce y.e e == 0) = false := beq_eq_false_iff_ne.mpr (HNE.out y r rfl)
    clear hkc
    go_wp2_with (fail)
    go_region_held3 (fun V => V.cell? ⟨y.b, 0, none⟩ = some (.string y.e.f0) ∧ V.cell? ⟨y.b, 1, none⟩ = some (.int .u64 y.e.f1) ∧ V.cell? ⟨y.b, 2, none⟩ = some (.int .i64 y.e.f2) ∧ V.cell? ⟨y.b, 3, none⟩ = some (.string y.e.f3) ∧ V.cell? ⟨w.heap.size, 0, none⟩ = some (.string e.f0) ∧ V.cell? ⟨w.heap.size, 1, none⟩ = some (.int .u64 e.f1) ∧ V.cell? ⟨w.heap.size, 2, none⟩ = some (.int .i64 e.f2) ∧ V.cell? ⟨w.heap.size, 3, none⟩ = some (.string e.f3) ∧ Aside0 (J R w0 w V g w.heap.size a pre (y :: r) n t e)) (first | exact J.outY HJ.out | exact J.outY (J.drew HJ.out) | exact J.outY (HJ.out.drew.below hb)) (first | (go_at_call 64; refine (ikey_Compare.calls kc _ _ _ _ _ _ _ _ _ _ HKC.out).mono ?_; rintro ee w3 ⟨rfl, hb⟩))
    have HJ5 : Aside0 (J R w0 w w3 g w.heap.size a pre (y :: r) n t e) := ⟨(show CY R w0 w w3 g w.heap.size a pre y r n t e from by unfold CY; assumption).2.2.2.2.2.2.2.2.out⟩
    clear HJ c0 y1 hb
    go_wp2_with (fail)
    go_region_held3 (fun V => V.cell? ⟨w.heap.size, 0, none⟩ = some (.string e.f0) ∧ V.cell? ⟨w.heap.size, 3, none⟩ = some (.string e.f3) ∧ V.frozen? ⟨w.heap.size, 0, none⟩ = false ∧ V.frozen? ⟨w.heap.size, 3, none⟩ = false ∧ Aside0 (J R w0 w V g w.heap.size a pre (y :: r) n t e)) (first | exact J.out HJ5.out | exact J.out (J.drew HJ5.out) | exact J.stepD HJ5.out hb | exact J.stepB hb (by assumption) | exact J.stepS0 (by assumption) | exact J.stepS3 (by assumption)) (first | (go_at_call 65; refine (clone_calls e.f0 _ S0.out).mono ?_; rintro ee w4 ⟨rfl, hb⟩) | (go_at_call 65; refine (clone_calls e.f3 _ S3.out).mono ?_; rintro ee w4 ⟨rfl, hb⟩))
    have hj : J R w0 w ((w4.setCell ⟨w.heap.size, 0, none⟩ (.string e.f0)).setCell ⟨w.heap.size, 3, none⟩ (.string e.f3)) g w.heap.size a pre (y :: r) n t e := (show CJ R w0 w ((w4.setCell ⟨w.heap.size, 0, none⟩ (.string e.f0)).setCell ⟨w.heap.size, 3, none⟩ (.string e.f3)) g w.heap.size a pre (y :: r) n t e from by unfold CJ; assumption).2.2.2.2.out
    generalize hV8 : World.setCell (World.setCell w4 _ _) _ _ = V8 at *
    have e0 : V8.cell? ⟨w.heap.size, 0, none⟩ = some (.string e.f0) := (blk_cell hj.box 0).trans rfl
    have e1 : V8.cell? ⟨w.heap.size, 1, none⟩ = some (.int .u64 e.f1) := (blk_cell hj.box 1).trans rfl
    have e2 : V8.cell? ⟨w.heap.size, 2, none⟩ = some (.int .i64 e.f2) := (blk_cell hj.box 2).trans rfl
    have e3 : V8.cell? ⟨w.heap.size, 3, none⟩ = some (.string e.f3) := (blk_cell hj.box 3).trans rfl
    have HJ8 := Aside0.mk hj
    clear hj hb hV8 HJ5
    go_upto_region 9 with (fail)
    have hxb : V8.heap.size ∉ blocks (pre ++ (y :: r)) := fun z => by
      obtain ⟨u, hu, hub⟩ := List.mem_map.1 z
      have := HJ8.out.li.ch.lt u hu
      omega
    have HL : Aside0 (IsL R w0 (V8.alloc (.cells #[.string (e).f0, .int .u64 (e).f1, .int .i64 (e).f2, .string (e).f3, .pointer none, .pointer none, .pointer none, .pointer none, .pointer none, .pointer none, .pointer none, .pointer none] 87)) g (pre ++ ⟨V8.heap.size, 0, e⟩ :: (y :: r)) n t) := ⟨IsL.enter (HJ8.out.li.below (below_alloc (Below.refl _ V8) _)) (by rw [cellsN_new]; exact blk_new V8 _) hxb (Nat.le_trans HJ8.out.ge (by have := blk_lt HJ8.out.box; omega))⟩
    have HA : Aside0 ((V8.alloc (.cells #[.string (e).f0, .int .u64 (e).f1, .int .i64 (e).f2, .string (e).f3, .pointer none, .pointer none, .pointer none, .pointer none, .pointer none, .pointer none, .pointer none, .pointer none] 87)).heap[a]? = some (.cells (outs g pre) 85 (0, 0))) := ⟨blk_alloc HJ8.out.arr _⟩
    have HB : Aside0 (Below w0.heap.size w0 (V8.alloc (.cells #[.string (e).f0, .int .u64 (e).f1, .int .i64 (e).f2, .string (e).f3, .pointer none, .pointer none, .pointer none, .pointer none, .pointer none, .pointer none, .pointer none, .pointer none] 87))) := ⟨below_alloc HJ8.out.bel _⟩
    have HF : Aside0 (Fr w (V8.alloc (.cells #[.string (e).f0, .int .u64 (e).f1, .int .i64 (e).f2, .string (e).f3, .pointer none, .pointer none, .pointer none, .pointer none, .pointer none, .pointer none, .pointer none, .pointer none] 87)) g pre) := ⟨HJ8.out.fr.below HJ8.out.sz (below_alloc (Below.refl _ V8) _)⟩
    have HS : Aside0 (w.heap.size ≤ (V8.alloc (.cells #[.string (e).f0, .int .u64 (e).f1, .int .i64 (e).f2, .string (e).f3, .pointer none, .pointer none, .pointer none, .pointer none, .pointer none, .pointer none, .pointer none, .pointer none] 87)).heap.size) := ⟨Nat.le_trans HJ8.out.sz (below_alloc (Below.refl _ V8) _).size⟩
    have HXB : Aside0 (w.heap.size ≤ V8.heap.size) := ⟨HJ8.out.sz⟩
    have HXA : Aside0 (a ≠ V8.heap.size) := ⟨fun z => by have := blk_lt HJ8.out.arr; omega⟩
    clear HJ8 e0 e1 e2 e3 hxb
    generalize World.alloc V8 _ = V9 at *
    generalize V8.heap.size = xb at *
    go_cut [2] (fun v2 wc => v2 = .int .i64 (h : Int) ∧ Aside0 (IsL R w0 wc g (pre ++ ⟨xb, 0, e⟩ :: (y :: r)) n t) ∧ Aside0 (wc.heap[a]? = some (.cells (outs g pre) 85 (0, 0))) ∧ Aside0 (Below w0.heap.size w0 wc) ∧ Aside0 (Fr w wc g pre) ∧ Aside0 (w.heap.size ≤ wc.heap.size))
    case first =>
      rcases (show lv < 1 ∨ (1 ≤ lv ∧ lv ≤ 8) ∨ 8 < lv by omega) with c | ⟨c, d⟩ | c
      · have c2 : ¬ (8 < lv) := by omega
        go_wp2_with (fail)
        go_meet
        case rel => exact ⟨by have := HH.out; congr 1; omega, HL, HA, HB, HF, HS⟩
      · have c2 : ¬ (lv < 1) := by omega
        have c3 : ¬ (8 < lv) := by omega
        go_wp2_with (fail)
        go_meet
        case rel => exact ⟨by have := HH.out; congr 1; omega, HL, HA, HB, HF, HS⟩
      · have c2 : ¬ (lv < 1) := by omega
        go_wp2_with (fail)
        go_meet
        case rel => exact ⟨by have := HH.out; congr 1; omega, HL, HA, HB, HF, HS⟩
    case rest =>
      clear HL HA HB HF HS
      obtain ⟨rfl, HL, HA, HB, HF, HS⟩ := hcut
      have hh8 : h ≤ 8 := by have := HH.out; omega
      go_wp2_with (fail)
      go_loopw [10, 53] (fun v10 v53 w' => ∃ i : Nat, v53 = .int .i64 i ∧ i ≤ h ∧ Aside0 (IsL R w0 w' g (pre ++ ⟨xb, i, e⟩ :: (y :: r)) n t) ∧ Aside0 (w'.heap[a]? = some (.cells (outs g pre) 85 (0, 0))) ∧ Aside0 (Below w0.heap.size w0 w') ∧ Aside0 (Fr w w' g pre) ∧ Aside0 (w.heap.size ≤ w'.heap.size)) (fun _ v53 _ => h - (intOf v53).toNat)
      case atStart => exact ⟨0, rfl, Nat.zero_le _, HL, HA, HB, HF, HS⟩
      case round =>
        clear HL HA HB HF HS
        obtain ⟨i, rfl, hi, HL, HA, HB, HF, HS⟩ := hrel
        by_cases hih : i < h
        · have hi8 : i < 8 := by omega
          have t0 : decide ((i : Int) < (h : Int)) = true := decide_eq_true (by omega)
          have t0' : decide (i < h) = true := decide_eq_true hih
          have q0 : (0 : Int) ≤ (i : Int) := Int.natCast_nonneg _
          have q1 : (i : Int) < 8 := by omega
          have a0 := outs_cell HA.out hi8
          obtain ⟨oo, hoo⟩ : ∃ oo : Option Addr, oo = (first (y :: r) i).map fun b => ⟨b, 0, none⟩ := ⟨_, rfl⟩
          have y0 : wr.cell? ⟨(lastAt pre i).getD g, 4 + i, none⟩ = some (.pointer oo) := by
            have h5 := HL.out.nextLast hi8
            rw [first, if_neg (Nat.lt_irrefl i)] at h5
            rw [hoo]
            exact h5
          have x0 : wr.cell? ⟨xb, 4 + i, none⟩ = some (.pointer none) := by
            have h5 := cellAt HL.out.ch.blk hi8
            unfold at_ at h5
            rw [if_neg (Nat.lt_irrefl i)] at h5
            exact h5
          have HOO := Aside0.mk hoo
          clear hoo
          have hplace := HL.out.place i
          have f0 : wr.frozen? ⟨(lastAt pre i).getD g, 4 + i, none⟩ = false := by
            obtain ⟨⟨cs, ty, hcs, _⟩, _⟩ := hplace
            exact blk_frozen hcs _
          have f1 : wr.frozen? ⟨xb, 4 + i, none⟩ = false := blk_frozen HL.out.ch.blk _
          have hne : ¬ (lastAt pre i).getD g = xb := by
            obtain ⟨_, _, h6⟩ := hplace
            have hnd := HL.out.nd
            rw [blocks_app] at hnd
            rcases h6 with h6 | h6
            · rw [h6]
              intro z
              apply HL.out.ne
              rw [z]
              simp [blocks]
            · intro z
              rw [z] at h6
              exact (List.nodup_append.1 hnd).2.2 xb h6 xb (by simp [blocks]) rfl
          have hne2 : ¬ xb = (lastAt pre i).getD g := fun z => hne z.symm
          have HPL := Aside0.mk hplace
          have HIH := Aside0.mk hih
          clear hplace hih
          have hna : a ≠ (⟨xb, 4 + i, none⟩ : Addr).block := HXA.out
          have hnb : a ≠ (⟨(lastAt pre i).getD g, 4 + i, none⟩ : Addr).block := by
            obtain ⟨⟨cs, ty, hcs, hty⟩, _⟩ := HPL.out
            refine blk_ne HA.out hcs ?_
            rcases hty with rfl | rfl <;> first | decide | exact R.na | exact R.na.symm
          have k0 : wr.drew.cell? ⟨a, i, none⟩ = some (.pointer (some ⟨(lastAt pre i).getD g, 0, none⟩)) := a0
          have k1 : (wr.drew.setCell ⟨xb, 4 + i, none⟩ (.pointer oo)).cell? ⟨a, i, none⟩ = some (.pointer (some ⟨(lastAt pre i).getD g, 0, none⟩)) := outs_cell (blk_far HA.out hna _) hi8
          have k2 : ((wr.drew.setCell ⟨xb, 4 + i, none⟩ (.pointer oo)).setCell ⟨(lastAt pre i).getD g, 4 + i, none⟩ (.pointer (some ⟨xb, 0, none⟩))).cell? ⟨a, i, none⟩ = some (.pointer (some ⟨(lastAt pre i).getD g, 0, none⟩)) := outs_cell (blk_far (blk_far HA.out hna _) hnb _) hi8
          have HK := Aside0.mk (And.intro k0 (And.intro k1 k2))
          have HNA := Aside0.mk hna
          have HNB := Aside0.mk hnb
          clear k0 k1 k2 hna hnb
          go_wp2_with (fail)
          go_region
          have hBk : ∀ k, k ≠ g → k ∉ blocks pre → k ≠ (lastAt pre i).getD g := fun k k2 k3 z => by
            rcases HPL.out.2.2 with h6 | h6
            · exact k2 (z.trans h6)
            · exact k3 (z ▸ h6)
          have HBK := Aside0.mk hBk
          clear hBk
          go_wp2_with (fail)
          go_roundw
          case rel => exact ⟨i + 1, by go_num, by have := HIH.out; omega, ⟨by have h9 := IsL.step hi8 (HL.out.below (below_drew (Below.refl _ wr))); unfold up ptr at h9; rw [HOO.out]; exact h9⟩, ⟨blk_far (blk_far HA.out HNA.out _) HNB.out _⟩, ⟨below_set (below_set (below_drew HB.out) (HL.out.gb ⟨xb, i, e⟩ (by simp))) HPL.out.2.1⟩, ⟨fun k k1 k2 k3 => (Below.heap_setCell _ ⟨_, _, none⟩ _ k (HBK.out k k2 k3)).trans ((Below.heap_setCell _ ⟨_, _, none⟩ _ k (by have := HXB.out; show k ≠ xb; omega)).trans (HF.out k k1 k2 k3))⟩, ⟨by have := HS.out; simpa using this⟩⟩
          case measure => have := HIH.out; simp [intOf]; omega
        · have hie : i = h := by omega
          subst hie
          have t0 : decide ((i : Int) < (i : Int)) = false := decide_eq_false (by omega)
          have c12 : wr.cell? ⟨g, 12, none⟩ = some (.int .i64 n) := (blk_cell HL.out.hd 12).trans rfl
          have c13 : wr.cell? ⟨g, 13, none⟩ = some (.int .i64 t) := (blk_cell HL.out.hd 13).trans rfl
          have f12 := blk_frozen HL.out.hd 12
          have f13 := blk_frozen HL.out.hd 13
          have HGG := Aside0.mk HL.out.gg
          by_cases ct : t < (i : Int)
          · go_wp2_with (fail)
            go_ret
            exact ⟨rfl, xb, HXB.out, by have h9 := IsL.bump HL.out (wrap64 (n + 1)) (max t (i : Int)); rw [show max t (i : Int) = (i : Int) from by omega] at h9 ⊢; exact h9, below_set (below_set HB.out HGG.out) HGG.out, fun k k1 k2 k3 => (Below.heap_setCell _ ⟨_, _, none⟩ _ k k2).trans ((Below.heap_setCell _ ⟨_, _, none⟩ _ k k2).trans (HF.out k k1 k2 k3))⟩
          · go_wp2_with (fail)
            go_ret
            exact ⟨rfl, xb, HXB.out, by have h9 := IsL.bump HL.out (wrap64 (n + 1)) (max t (i : Int)); rw [show max t (i : Int) = t from by omega] at h9 ⊢; exact h9, below_set (below_set HB.out HGG.out) HGG.out, fun k k1 k2 k3 => (Below.heap_setCell _ ⟨_, _, none⟩ _ k k2).trans ((Below.heap_setCell _ ⟨_, _, none⟩ _ k k2).trans (HF.out k k1 k2 k3))⟩
end Go.Proofs.Ytchgpcgolgcfdaa.Rk
