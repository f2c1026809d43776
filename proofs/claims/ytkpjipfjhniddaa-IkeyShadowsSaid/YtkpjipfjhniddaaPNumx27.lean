/- A walk, written by a program of this session out of the translation (a printed Lean function, and that the Go code comes to its answer). Lean checks it. -/
import Derived.Test.YtkpjipfjhniddaaPNumx0
namespace Go.Proofs.Ytkpjipfjhniddaa.PNum
open Go.RowKit Go.Proofs.YtkpjipfjhniddaaW.PrintWords Go.Proofs.YtkpjipfjhniddaaW.PrintLast Go.Proofs.YtkpjipfjhniddaaW.PrintMore
attribute [local go_sem] max2_int min2_int max_two min_two max_three min_three max_four min_four   -- for this text's walks alone
set_option linter.unusedVariables false
set_option linter.unusedSimpArgs false

/-! ### ikey_Shadow: function 16 -/
/-- The pins that have their version of a key, and whether the version stays. -/
def ikey_Shadow.inn (s : Int) : List Int → List Int → Bool → List Int × Bool
  | [], seen, stays => (seen, stays)
  | p :: ps, seen, stays => if seen.contains p = false ∧ s ≤ p then ikey_Shadow.inn s ps (seen ++ [p]) true else ikey_Shadow.inn s ps seen stays
def ikey_Shadow.first (pk : Option ByteArray) (e : S29) : Bool := match pk with | none => true | some k => k.toList != e.f0.toList
def ikey_Shadow.go (pins : List Int) : List S29 → Option ByteArray → List Int → List S29 → List S29
  | [], _, _, out => out
  | e :: l, pk, seen, out => ikey_Shadow.go pins l (some e.f0) (ikey_Shadow.inn e.f1 pins (if ikey_Shadow.first pk e = true then [] else seen) (ikey_Shadow.first pk e)).1 (if (ikey_Shadow.inn e.f1 pins (if ikey_Shadow.first pk e = true then [] else seen) (ikey_Shadow.first pk e)).2 = true then out ++ [e] else out)
def ikey_Shadow.f (l0 : List S29) (l1 : List Int) : Option (List S29) := if l0.length < 1000000 ∧ l1.length < 1000000 ∧ (∀ x ∈ l1, (Lit.int .u64 x).wf = true) then some (ikey_Shadow.go l1 l0 none [] []) else none
theorem ikey_Shadow.inn_len (s : Int) : ∀ (ps seen : List Int) (stays : Bool), (ikey_Shadow.inn s ps seen stays).1.length ≤ seen.length + ps.length
  | [], seen, stays => by simp [ikey_Shadow.inn]
  | p :: ps, seen, stays => by
    rw [ikey_Shadow.inn]
    split
    · have := ikey_Shadow.inn_len s ps (seen ++ [p]) true
      simp at this ⊢
      omega
    · have := ikey_Shadow.inn_len s ps seen stays
      simp
      omega
theorem ikey_Shadow.keepG {W w1 : World} {g : Nat} {x : Obj} {row : Option Nat} (h : W.heap[g]? = some x) (hg : W.grownBy w1 row) (hne : some g ≠ row) : w1.heap[g]? = some x := by
  have hlt : g < W.heap.size := by
    rcases Nat.lt_or_ge g W.heap.size with a | a
    · exact a
    · rw [Array.getElem?_eq_none a] at h
      cases h
  exact (hg.block g hlt hne).trans h
theorem ikey_Shadow.keepA {W : World} {g : Nat} {x : Obj} (h : W.heap[g]? = some x) (o : Obj) : (W.alloc o).heap[g]? = some x := ikey_Shadow.keepG h (grown_of_below (below_alloc (Below.refl W.heap.size W) o) none) (by simp)
theorem ikey_Shadow.step {pins : List Int} {e : S29} {l' : List S29} {pk : Option ByteArray} {seen sn seen1 : List Int} {out r : List S29} {fb st : Bool} (h : ikey_Shadow.go pins (e :: l') pk seen out = r) (hf : ikey_Shadow.first pk e = fb) (hs : (if fb = true then [] else seen) = seen1) (hi : (sn, st) = ikey_Shadow.inn e.f1 pins seen1 fb) : ikey_Shadow.go pins l' (some e.f0) sn (if st = true then out ++ [e] else out) = r := by
  rw [ikey_Shadow.go, hf, hs, ← hi] at h
  exact h
set_option maxHeartbeats 8000000 in
set_option maxRecDepth 100000 in
theorem ikey_Shadow.calls (A0 : Option Addr) (c0 : Nat) (l0 : List S29) (A1 : Option Addr) (c1 : Nat) (l1 : List Int) (r : List S29) (w : World) (hr0 : Kd.C k29 w A0 l0.length l0) (hc0 : l0.length ≤ c0) (hr1 : Kd.C (Kd.int .u64) w A1 l1.length l1) (hc1 : l1.length ≤ c1) (h : ikey_Shadow.f l0 l1 = some r) :
    Calls Try.prog 16 #[.slice A0 l0.length c0, .slice A1 l1.length c1] w fun e w' => ∃ v0_ : Value, e = .returned (v0_) ∧ Kd.R k29 29 w' w.heap.size (fun _ => True) v0_ r ∧ Below w.heap.size w w' := by
  have hu29 := Try.underlying29
  have hmm := @run_makeMap Try.prog
  have HR0 := Aside0.mk hr0
  have HR1 := Aside0.mk hr1
  unfold ikey_Shadow.f at h
  split at h
  · rename_i hg
    have HL0 := Aside0.mk hg.1
    have HL1 := Aside0.mk hg.2.1
    have HW1 := Aside0.mk hg.2.2
    have hlen0 : l0.length ≤ 9223372036854775807 := hr0.2.1
    have hlen1 : l1.length ≤ 9223372036854775807 := hr1.2.1
    have H := Aside0.mk (Option.some.inj h)
    clear h hg hr0 hr1 hc0 hc1
    go_enter Try.func16, Try.ntmps16
    go_wp2
    go_loopw [5, 6, 17] (fun v5 v6 v17 w' => ∃ (j : Nat) (pk : Option ByteArray) (seen : List Int) (out : List S29), v17 = .int .i64 j ∧ j ≤ l0.length ∧ Aside0 (out.length ≤ j) ∧ Aside0 (seen.length ≤ j * l1.length) ∧ Aside0 ((j = 0 ∧ pk = none) ∨ (0 < j ∧ pk = some (rd_T29 l0 ((j : Int) - 1)).f0)) ∧ Aside0 (pk = none ∨ ∃ b, v6 = .map (some b) ∧ w.heap.size ≤ b ∧ SetM.Is w' b seen) ∧ Aside0 (Kd.R k29 29 w' w.heap.size (fun _ => True) v5 out) ∧ Aside0 (Below w.heap.size w w') ∧ Aside0 (ikey_Shadow.go l1 (l0.drop j) pk seen out = r)) (fun _ _ v17 _ => l0.length - (intOf v17).toNat)
    case atStart => exact ⟨0, none, [], [], rfl, Nat.zero_le _, ⟨Nat.le_refl _⟩, ⟨Nat.zero_le _⟩, ⟨.inl ⟨rfl, rfl⟩⟩, ⟨.inl rfl⟩, ⟨Kd.R_nil _ _ _ _ _⟩, ⟨Below.refl _ _⟩, H⟩
    case round =>
      clear H
      obtain ⟨j, pk, seen, out, rfl, hj, HO, HS, HP, HM, HRo, HB, HA⟩ := hrel
      by_cases hlt : j < l0.length
      · have p0 : (0 : Int) ≤ (j : Int) := Int.natCast_nonneg _
        have q0 : (j : Int) < (l0.length : Int) := Int.ofNat_lt.mpr hlt
        obtain ⟨ad, e0, hx0, hx1, hx2, hx3⟩ := at_T29 HR0.out (j : Int) p0 q0
        cases e0
        have y0 := (HB.out.cell (World.block_lt_of_cell? w _ hx0)).trans hx0
        have y1 := (HB.out.cell (World.block_lt_of_cell? w _ hx1)).trans hx1
        have y2 := (HB.out.cell (World.block_lt_of_cell? w _ hx2)).trans hx2
        have y3 := (HB.out.cell (World.block_lt_of_cell? w _ hx3)).trans hx3
        clear hx0 hx1 hx2 hx3
        simp only [Int.toNat_natCast] at y0 y1 y2 y3
        have hgen : ∃ e, e = rd_T29 l0 (j : Int) := ⟨_, rfl⟩
        obtain ⟨e, he⟩ := hgen
        rw [← he] at y0 y1 y2 y3
        have HE := Aside0.mk he
        clear he
        have t0 : decide ((j : Int) < (l0.length : Int)) = true := decide_eq_true q0
        go_upto_region 6 with (fail)
        generalize hwa : wr.alloc _ = wa
        have hbx : wa.heap[wr.heap.size]? = some (.cells #[.string e.f0, .int .u64 e.f1, .int .i64 e.f2, .string e.f3] 29 (0, 0)) := by rw [← hwa]; exact heap_alloc_new wr _
        have BX := Aside0.mk hbx
        have HBa : Aside0 (Below w.heap.size w wa) := ⟨by rw [← hwa]; exact below_alloc HB.out _⟩
        have HRa : Aside0 (Kd.R k29 29 wa w.heap.size (fun _ => True) u5 out) := ⟨by rw [← hwa]; exact Kd.R_alloc HRo.out _⟩
        have HMa : Aside0 (pk = none ∨ ∃ b, u6 = .map (some b) ∧ w.heap.size ≤ b ∧ SetM.Is wa b seen) := ⟨by rw [← hwa]; exact HM.out.imp id (fun ⟨b, h1, h2, h3⟩ => ⟨b, h1, h2, h3.alloc _⟩)⟩
        have hgx : w.heap.size ≤ wr.heap.size := below_size HB.out
        have z0 : wa.cell? ⟨wr.heap.size, 0, none⟩ = some (.string e.f0) := (blk_cell hbx 0).trans rfl
        clear hbx HRo HM y0 y1 y2 y3
        generalize hg8 : wr.heap.size = g8 at *
        have GX := Aside0.mk hgx
        clear hgx hwa hg8
        go_cut [9] (fun v9 wc => v9 = .bool (ikey_Shadow.first pk e) ∧ Aside0 (wc.heap[g8]? = some (.cells #[.string e.f0, .int .u64 e.f1, .int .i64 e.f2, .string e.f3] 29 (0, 0))) ∧ Aside0 (Kd.R k29 29 wc w.heap.size (fun _ => True) u5 out) ∧ Aside0 (pk = none ∨ ∃ b, u6 = .map (some b) ∧ w.heap.size ≤ b ∧ SetM.Is wc b seen) ∧ Aside0 (Below w.heap.size w wc))
        case first =>
          rcases HP.out with ⟨hj0, hpk⟩ | ⟨hj0, hpk⟩
          · have s0 : ((j : Int) == 0) = true := by rw [beq_iff_eq]; omega
            have HPK := Aside0.mk hpk
            clear hj0 hpk
            go_quiet (fail)
            go_wp2_with (fail)
            go_meet
            case rel => exact ⟨by rw [HPK.out]; rfl, ⟨BX.out⟩, ⟨HRa.out⟩, ⟨HMa.out⟩, ⟨pw_below_drewN HBa.out _⟩⟩
          · have s0 : ((j : Int) == 0) = false := by rw [beq_eq_false_iff_ne]; omega
            have HPK := Aside0.mk hpk
            have p1 : (0 : Int) ≤ (j : Int) - 1 := by omega
            have q1 : (j : Int) - 1 < (l0.length : Int) := by omega
            obtain ⟨ad', e0', hx0, _⟩ := at_T29 HR0.out ((j : Int) - 1) p1 q1
            obtain rfl : ad = ad' := by injection e0'
            have x0 := (HBa.out.cell (World.block_lt_of_cell? w _ hx0)).trans hx0
            have ej : ((j : Int) - 1).toNat = j - 1 := by omega
            rw [ej] at x0
            generalize hpe : rd_T29 l0 ((j : Int) - 1) = pe at *
            clear hx0 hpk ej hpe
            go_quiet (fail)
            go_wp2_with (fail)
            go_meet
            case rel => exact ⟨by rw [HPK.out]; rfl, ⟨BX.out⟩, ⟨HRa.out⟩, ⟨HMa.out⟩, ⟨pw_below_drewN HBa.out _⟩⟩
        case rest =>
          obtain ⟨rfl, BX1, HR1o, HM1, HB1⟩ := hcut
          clear BX HRa HMa HBa z0
          generalize hfb : ikey_Shadow.first pk e = fb at *
          have HFB := Aside0.mk hfb
          clear hfb
          go_upto_if 35 with (fail)
          go_cut [6] (fun v6 wd => ∃ b, v6 = .map (some b) ∧ Aside0 (w.heap.size ≤ b) ∧ Aside0 (SetM.Is wd b (if fb = true then [] else seen)) ∧ Aside0 (wd.heap[g8]? = some (.cells #[.string e.f0, .int .u64 e.f1, .int .i64 e.f2, .string e.f3] 29 (0, 0))) ∧ Aside0 (Kd.R k29 29 wd w.heap.size (fun _ => True) u5 out) ∧ Aside0 (Below w.heap.size w wd))
          case first =>
            cases fb
            · go_wp2_with (fail)
              go_meet
              case rel =>
                rcases HM1.out with hn | ⟨b, hb0, hb1, hb2⟩
                · subst hn
                  exact absurd HFB.out (by simp [ikey_Shadow.first])
                · exact ⟨b, hb0, ⟨hb1⟩, ⟨hb2⟩, ⟨BX1.out⟩, ⟨HR1o.out⟩, ⟨HB1.out⟩⟩
            · go_wp2_with (fail)
              go_meet
              case rel => exact ⟨wc.heap.size, rfl, ⟨below_size HB1.out⟩, ⟨SetM.Is.new _⟩, ⟨(below_alloc (Below.refl wc.heap.size wc) _ : Below wc.heap.size wc (wc.alloc _)).block g8 (by have := BX1.out; rcases Nat.lt_or_ge g8 wc.heap.size with hlt' | hge'; exact hlt'; rw [Array.getElem?_eq_none hge'] at this; cases this) |>.trans BX1.out⟩, ⟨Kd.R_alloc HR1o.out _⟩, ⟨below_alloc HB1.out _⟩⟩
          case rest =>
            obtain ⟨b, rfl, HBb, HIs, BX2, HR2o, HB2⟩ := hcut
            clear BX1 HR1o HM1 HB1
            have HS1 : Aside0 ((if fb = true then ([] : List Int) else seen).length ≤ j * l1.length) := ⟨by split; exact Nat.zero_le _; exact HS.out⟩
            generalize hs1 : (if fb = true then ([] : List Int) else seen) = seen1 at *
            have HS1e := Aside0.mk hs1
            clear hs1
            generalize hM : j * l1.length = M at *
            have HMe := Aside0.mk hM
            clear hM HS
            go_wp2_with (fail)
            go_loopw [10, 40] (fun v10 v40 wi => ∃ (k : Nat) (sn : List Int) (st : Bool), v10 = .bool st ∧ v40 = .int .i64 k ∧ k ≤ l1.length ∧ Aside0 (sn.length ≤ M + k) ∧ Aside0 (SetM.Is wi b sn) ∧ Aside0 (wi.heap[g8]? = some (.cells #[.string e.f0, .int .u64 e.f1, .int .i64 e.f2, .string e.f3] 29 (0, 0))) ∧ Aside0 (Kd.R k29 29 wi w.heap.size (fun _ => True) u5 out) ∧ Aside0 (Below w.heap.size w wi) ∧ Aside0 (ikey_Shadow.inn e.f1 (l1.drop k) sn st = ikey_Shadow.inn e.f1 l1 seen1 fb)) (fun _ v40 _ => l1.length - (intOf v40).toNat)
            case atStart => exact ⟨0, seen1, fb, rfl, rfl, Nat.zero_le _, ⟨by have := HS1.out; omega⟩, ⟨HIs.out⟩, ⟨BX2.out⟩, ⟨HR2o.out⟩, ⟨HB2.out⟩, ⟨rfl⟩⟩
            case round =>
              obtain ⟨k, sn, st, rfl, rfl, hk, HN, HI, BX, HRo, HB, HA1⟩ := hrel
              by_cases hlk : k < l1.length
              · have p5 : (0 : Int) ≤ (k : Int) := Int.natCast_nonneg _
                have q5 : (k : Int) < (l1.length : Int) := Int.ofNat_lt.mpr hlk
                obtain ⟨ap, e1, hx5⟩ := Kd.at_int HR1.out (k : Int) p5 q5
                subst e1
                have y5 := (HB.out.cell (World.block_lt_of_cell? w _ hx5)).trans hx5
                clear hx5
                simp only [Int.toNat_natCast] at y5
                have hpin : rd l1 (k : Int) = l1[k] := by simp [rd, hlk]
                have hdr : l1.drop k = rd l1 (k : Int) :: l1.drop (k + 1) := by rw [hpin]; exact List.drop_eq_getElem_cons hlk
                have hwf : (Lit.int .u64 (rd l1 (k : Int))).wf = true := HW1.out _ (by rw [hpin]; exact List.getElem_mem hlk)
                generalize hp : rd l1 (k : Int) = p at *
                have HDR := Aside0.mk hdr
                have HKY := Aside0.mk (SetM.key hwf)
                clear hp hpin hdr hwf
                have t5 : decide ((k : Int) < (l1.length : Int)) = true := decide_eq_true q5
                have z1 : (wr.alloc (.cells #[] 83)).cell? ⟨g8, 1, none⟩ = some (.int .u64 e.f1) := (blk_cell (ikey_Shadow.keepA BX.out _) 1).trans rfl
                have hh : Maps.has (SetM.D sn) (.int .u64 p) = sn.contains p := SetM.has_D _ _
                cases hc : sn.contains p
                · by_cases hs : e.f1 ≤ p
                  · have t6 : decide (e.f1 ≤ p) = true := decide_eq_true hs
                    rw [hc] at hh
                    have HC := Aside0.mk hc
                    clear hc
                    go_wp2_with (first | (at_lookup; refine wpList_lookup_own_unit _ rfl _ _ 82 rfl 24 83 SetM.law Try.underlying82 (SetM.unit0 _) b _ (SetM.D sn) rfl HI.out _ _ rfl HKY.out ?_) | (at_mapUpdate; refine wpList_mapUpdate_own _ rfl _ _ _ 82 rfl 24 83 SetM.law Try.underlying82 (unitElem (H := Unit)) b _ (SetM.D sn) rfl (SetM.Is.alloc HI.out _) (by have a1 := HN.out; have a2 := HMe.out; have a3 := HL0.out; have a4 := HL1.out; have a5 := Nat.mul_le_mul (show j ≤ 1000000 by omega) (show l1.length ≤ 1000000 by omega); unfold maxLen; omega) _ _ _ rfl rfl HKY.out _ [] unitElem_mk ?_; intro w1 hown1 hgrow1))
                    go_roundw
                    case rel => exact ⟨k + 1, sn ++ [p], true, rfl, by go_num, by omega, ⟨by have := HN.out; simp; omega⟩, ⟨by have := hown1; rw [SetM.D_snoc] at this; unfold SetM.Is; simpa using this⟩, ⟨ikey_Shadow.keepG (ikey_Shadow.keepA BX.out _) hgrow1 (fun e => SetM.Is.ne HI.out BX.out (Option.some.inj e).symm)⟩, ⟨SetM.R_map (Kd.R_alloc HRo.out _) (SetM.Is.alloc HI.out _) hgrow1⟩, ⟨Below.grown (below_alloc HB.out _) hgrow1 (below_size (below_alloc HB.out _)) (fun k h => by cases h; exact HBb.out)⟩, ⟨by rw [← HA1.out, HDR.out, ikey_Shadow.inn, if_pos ⟨HC.out, of_decide_eq_true t6⟩]⟩⟩
                    case measure => simp [intOf]; omega
                  · have t6 : decide (e.f1 ≤ p) = false := decide_eq_false hs
                    rw [hc] at hh
                    have HC := Aside0.mk hc
                    clear hc
                    go_wp2_with (first | (at_lookup; refine wpList_lookup_own_unit _ rfl _ _ 82 rfl 24 83 SetM.law Try.underlying82 (SetM.unit0 _) b _ (SetM.D sn) rfl HI.out _ _ rfl HKY.out ?_))
                    go_roundw
                    case rel => exact ⟨k + 1, sn, st, rfl, by go_num, by omega, ⟨by have := HN.out; omega⟩, ⟨SetM.Is.alloc HI.out _⟩, ⟨ikey_Shadow.keepA BX.out _⟩, ⟨Kd.R_alloc HRo.out _⟩, ⟨below_alloc HB.out _⟩, ⟨by rw [← HA1.out, HDR.out, ikey_Shadow.inn, if_neg (fun h => absurd h.2 (of_decide_eq_false t6))]⟩⟩
                    case measure => simp [intOf]; omega
                · rw [hc] at hh
                  have HC := Aside0.mk hc
                  clear hc
                  go_wp2_with (first | (at_lookup; refine wpList_lookup_own_unit _ rfl _ _ 82 rfl 24 83 SetM.law Try.underlying82 (SetM.unit0 _) b _ (SetM.D sn) rfl HI.out _ _ rfl HKY.out ?_))
                  go_roundw
                  case rel => exact ⟨k + 1, sn, st, rfl, by go_num, by omega, ⟨by have := HN.out; omega⟩, ⟨SetM.Is.alloc HI.out _⟩, ⟨ikey_Shadow.keepA BX.out _⟩, ⟨Kd.R_alloc HRo.out _⟩, ⟨below_alloc HB.out _⟩, ⟨by rw [← HA1.out, HDR.out, ikey_Shadow.inn, if_neg (fun h => by rw [HC.out] at h; cases h.1)]⟩⟩
                  case measure => simp [intOf]; omega
              · have hke : k = l1.length := by omega
                have HST : Aside0 ((sn, st) = ikey_Shadow.inn e.f1 l1 seen1 fb) := ⟨by rw [← HA1.out, hke, List.drop_length, ikey_Shadow.inn]⟩
                have t5 : decide ((k : Int) < (l1.length : Int)) = false := decide_eq_false (by omega)
                have hdr : l0.drop j = e :: l0.drop (j + 1) := by
                  have he : e = l0[j] := by rw [HE.out]; simp [rd_T29, hlt]
                  rw [he]; exact List.drop_eq_getElem_cons hlt
                have HDR := Aside0.mk hdr
                have HSL : Aside0 (sn.length ≤ (j + 1) * l1.length) := ⟨by rw [Nat.succ_mul]; have a1 := HN.out; have a2 := HMe.out; omega⟩
                clear hdr hke HA1
                have z0 : wr.cell? ⟨g8, 0, none⟩ = some (.string e.f0) := (blk_cell BX.out 0).trans rfl
                have z1 : wr.cell? ⟨g8, 1, none⟩ = some (.int .u64 e.f1) := (blk_cell BX.out 1).trans rfl
                have z2 : wr.cell? ⟨g8, 2, none⟩ = some (.int .i64 e.f2) := (blk_cell BX.out 2).trans rfl
                have z3 : wr.cell? ⟨g8, 3, none⟩ = some (.string e.f3) := (blk_cell BX.out 3).trans rfl
                cases st
                · go_wp2_with (fail)
                  go_roundw
                  case rel => exact ⟨j + 1, some e.f0, sn, out, by go_num, by omega, ⟨by have := HO.out; omega⟩, ⟨HSL.out⟩, ⟨.inr ⟨by omega, by rw [HE.out]; congr 3; omega⟩⟩, ⟨.inr ⟨b, rfl, HBb.out, HI.out⟩⟩, ⟨HRo.out⟩, ⟨HB.out⟩, ⟨ikey_Shadow.step (by rw [← HDR.out]; exact HA.out) HFB.out HS1e.out HST.out⟩⟩
                  case measure => simp [intOf]; omega
                · go_wp2_with (first | ((with_reducible refine gate_builtin (b := .append) (xs := #[.tmp 63, .tmp 65]) rfl ?_); at_builtin; refine Kd.R_append k29 (w0 := w) w.heap.size rfl (.tmp 63) (.tmp 65) 22 29 (.agg #[(.string ⟨#[]⟩), (.int .u64 0), (.int .i64 0), (.string ⟨#[]⟩)]) 48 rfl Try.underlying22 info29 rfl (by decide) (by omega) u5 out e [.string e.f0, .int .u64 e.f1, .int .i64 e.f2, .string e.f3] (fun _ => True) (fun _ => False) rfl rfl ?aP (fun _ hk => hk.elim) ?aF ?aO ?aB ?aS ?aL ?_; (case aP => exact k29_mkM _ _ _ _); (case aB => exact HB.out); (case aF => exact (fun _ _ => trivial)); (case aO => exact HRo.out); (case aS => exact below_size HB.out); (case aL => have := HO.out; have := HL0.out; omega); intro v7 w7 ho hb hg hat; have HG := Aside0.mk hg; have HO7 := Aside0.mk ho; have HB7 := Aside0.mk hb; clear ho hb hg hat))
                  go_roundw
                  case rel => exact ⟨j + 1, some e.f0, sn, out ++ [e], by go_num, by omega, ⟨by have := HO.out; simp; omega⟩, ⟨HSL.out⟩, ⟨.inr ⟨by omega, by rw [HE.out]; congr 3; omega⟩⟩, ⟨.inr ⟨b, rfl, HBb.out, SetM.Is.grown HI.out HG.out (SetM.row_ne HRo.out HI.out)⟩⟩, ⟨HO7.out⟩, ⟨HB7.out⟩, ⟨ikey_Shadow.step (by rw [← HDR.out]; exact HA.out) HFB.out HS1e.out HST.out⟩⟩
                  case measure => simp [intOf]; omega
      · have hje : j = l0.length := by omega
        have HX : Aside0 (out = r) := ⟨by rw [← HA.out, hje, List.drop_length, ikey_Shadow.go]⟩
        have t0 : decide ((j : Int) < (l0.length : Int)) = false := decide_eq_false (by omega)
        clear hje HA HP
        go_wp2_with (fail)
        go_ret
        exact ⟨_, rfl, by rw [← HX.out]; exact HRo.out, HB.out⟩
  · cases h


end Go.Proofs.Ytkpjipfjhniddaa.PNum
