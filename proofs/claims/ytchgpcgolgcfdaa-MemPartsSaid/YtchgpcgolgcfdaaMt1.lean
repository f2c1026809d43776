/- What wal.PutBatch tells of few writes. -/
import Derived.Test.YtchgpcgolgcfdaaRk2
import Derived.Test.YtchgpcgolgcfdaaPuVt
import Derived.Test.YtchgpcgolgcfdaaPNumx7
import Derived.Test.YtchgpcgolgcfdaaPNumx8
namespace Go.Proofs.Ytchgpcgolgcfdaa.Mt
open Go Go.RowKit Go.Proofs.Ytchgpcgolgcfdaa.PNum Go.Proofs.YtchgpcgolgcfdaaW.PrintWords Go.Proofs.YtchgpcgolgcfdaaW.PrintLast Go.Proofs.YtchgpcgolgcfdaaW.PrintMore
set_option linter.unusedVariables false
set_option linter.unusedSimpArgs false
/-- Can a write be? -/
def rightW (x : S79) : Bool := decide ((x.f0.size : Int) ≤ 300 ∧ (x.f1.size : Int) ≤ 60000 ∧ (x.f2 = true → x.f1 = ⟨#[]⟩))
theorem right_eq (x : S79) : wal_right.f x.f0 x.f1 x.f2 = some (rightW x) := by
  unfold wal_right.f rightW
  by_cases h1 : (x.f0.size : Int) ≤ 300
  · by_cases h2 : (x.f1.size : Int) ≤ 60000
    · cases h3 : x.f2 with
      | false => simp [h1, h2]
      | true =>
        have : (x.f1.toList == ([] : List UInt8)) = decide (x.f1 = ⟨#[]⟩) := by
          have := PuIkC.tl_beq x.f1 ⟨#[]⟩
          rw [PuIkC.nil_toList] at this
          exact this
        simp [h1, h2, this]
    · simp [h1, h2]
  · simp [h1]
theorem right_ev {x : S79} {b : Bool} (h : rightW x = b) : wal_right.f x.f0 x.f1 x.f2 = some b := by rw [right_eq, h]
theorem right_sizes {x : S79} (h : rightW x = true) : x.f0.size ≤ 300 ∧ x.f1.size ≤ 60000 := by
  have := of_decide_eq_true h
  omega
def okW (W : List S79) : Bool := decide (W.length ≠ 0) && W.all rightW
theorem bstep {B : Nat} {a b c : World} (h : Below B a b) (hB : B ≤ a.heap.size) (k : Below b.heap.size b c) : Below B a c := h.trans ⟨k.os, k.tape, k.output, k.size, fun i hi => k.block i (Nat.lt_of_lt_of_le hi (Nat.le_trans hB h.size))⟩
theorem bool_ev (b : Bool) : ∃ s, num_Bool.f b = some s ∧ s.size = 1 := by
  cases b
  · exact ⟨_, rfl, rfl⟩
  · exact ⟨_, rfl, rfl⟩
theorem var2_ev (a b : Int) (ha : 0 ≤ a ∧ a ≤ 18446744073709551615) (hb : 0 ≤ b ∧ b ≤ 18446744073709551615) : ∃ k s, num_Var.f k [a, b] = some s ∧ s.size ≤ 20 := by
  have hu : PuVt.u64s [a, b] := by
    intro x hx
    simp only [List.mem_cons, List.not_mem_nil, or_false] at hx
    rcases hx with rfl | rfl
    · exact ha
    · exact hb
  obtain ⟨k, hk⟩ := PuVt.Var_ev hu (by simp)
  refine ⟨k, _, hk k (Nat.le_refl _), ?_⟩
  rw [YtchgpcgolgcfdaaW.Pu.S_size]
  exact PuVt.vbs_len hu
theorem text2_ev (a b : ByteArray) (ha : a.size ≤ 300) (hb : b.size ≤ 60000) : ∃ k s, num_Text.f k [a, b] = some s ∧ s.size ≤ 60320 := by
  have hr : PuVt.room [a, b] = a.size + 10 + (b.size + 10) := by simp [PuVt.room]
  obtain ⟨k, hk⟩ := PuVt.Text_ev [a, b] (by omega)
  refine ⟨k, _, hk k (Nat.le_refl _), ?_⟩
  rw [YtchgpcgolgcfdaaW.Pu.S_size]
  have := PuVt.tx_len [a, b] (by omega)
  omega
set_option maxHeartbeats 8000000 in
set_option maxRecDepth 100000 in
theorem len_builder (B b : Nat) (bs : List Value) (w : World) (h : Lib.IsBuilder 99 5 B b bs w) :
    Calls Try.prog 43 #[.pointer (some ⟨b, 0, none⟩)] w fun e w' => e = .returned (.int .i64 bs.length) ∧ w' = w := by
  have hx : ∃ A c, w.cell? ⟨b, 1, none⟩ = some (.slice A bs.length c) := by
    have key : ∀ p, Lib.BuilderAt 99 5 B b p bs w → ∃ A c, w.cell? ⟨b, 1, none⟩ = some (.slice A bs.length c) := by
      rintro p ⟨_, v, hb, hown, _⟩
      have c1 : w.cell? ⟨b, 1, none⟩ = some v := by rw [Lib.cell_of_heap hb]; rfl
      rcases hown.2 with ⟨hv, hl⟩ | ⟨g, cap, cur, hv, _⟩
      · exact ⟨none, 0, by rw [c1, hv]; simp_all⟩
      · exact ⟨_, _, by rw [c1, hv]⟩
    rcases h with h | h
    · exact key _ h
    · exact key _ h
  obtain ⟨A, c, c1⟩ := hx
  clear h
  go_enter Try.func43, Try.ntmps43
  go_wp2_with (fail)
  go_ret
  exact ⟨rfl, rfl⟩
def pb14.T : Bool × List (List Nat × List Nat) := (true, [([], []), ([0], [0]), ([1], [1]), ([], []), ([3], [3]), ([], []), ([5], [5]), ([4, 6], [4, 6]), ([7, 2], [7]), ([2, 8], [2, 8]), ([9, 8], [9])])
def pb14.B : List Nat := [0, 1, 3, 0, 8, 0, 32, 120, 255, 511, 1023]
theorem pb14.tab : rtab .any (opsOf Try.f36 14) = pb14.T := by kernel_rfl
theorem pb14.bits : waitsOk pb14.T.2 pb14.B = true := by kernel_rfl
set_option maxHeartbeats 8000000 in
set_option maxRecDepth 100000 in
theorem putBatch_calls (w : World) (A : Option Addr) (c : Nat) (W : List S79) (first : Int) (hC : Kd.C k79 w A W.length W) (hn : W.length ≤ 60) (hf : 0 ≤ first ∧ first ≤ 18446744073709551615) (r : Int) (hr : r = if okW W = true then 0 else 1) :
    Calls Try.prog 36 #[.agg #[.int .u64 first, .slice A W.length c]] w fun e w' => ∃ s, e = .returned (.tuple #[.string s, .int .i64 r]) ∧ Below w.heap.size w w' := by
  have HC := Aside0.mk hC
  have HF := Aside0.mk hf
  have HRR := Aside0.mk hr
  clear hC hf hr
  by_cases h0 : W.length = 0
  · have s0 : ((W.length : Int) == 0) = true := by rw [beq_iff_eq]; omega
    obtain rfl : r = 1 := by rw [HRR.out]; unfold okW; simp [h0]
    go_enter Try.func36, Try.ntmps36
    go_wp2_with (fail)
    go_ret2
    exact ⟨_, rfl, below_alloc (Below.refl _ w) _⟩
  have s0 : ((W.length : Int) == 0) = false := by rw [beq_eq_false_iff_ne]; omega
  have hlen : W.length ≤ 9223372036854775807 := by omega
  go_enter Try.func36, Try.ntmps36
  go_wp2_with (fail)
  have HB := Aside0.mk (below_alloc (Below.refl w.heap.size w) (.cells #[.int .u64 first, .slice A W.length c] 94))
  have HX : Aside0 ((w.alloc (.cells #[.int .u64 first, .slice A W.length c] 94)).heap[w.heap.size]? = some (.cells #[.int .u64 first, .slice A W.length c] 94 (0, 0))) := ⟨blk_new w _⟩
  go_loopw [16] (fun v16 w' => ∃ j : Nat, v16 = .int .i64 j ∧ j ≤ W.length ∧ Aside0 ((W.take j).all rightW = true) ∧ Aside0 (w'.heap[w.heap.size]? = some (.cells #[.int .u64 first, .slice A W.length c] 94 (0, 0))) ∧ Aside0 (Below w.heap.size w w')) (fun v16 _ => W.length - (intOf v16).toNat)
  case atStart => exact ⟨0, rfl, Nat.zero_le _, ⟨by simp⟩, HX, HB⟩
  case round =>
    clear HB HX
    obtain ⟨j, rfl, hj, HR, HX, HB⟩ := hrel
    by_cases hlt : j < W.length
    · have p0 : (0 : Int) ≤ (j : Int) := Int.natCast_nonneg _
      have q0 : (j : Int) < (W.length : Int) := Int.ofNat_lt.mpr hlt
      have t0 : decide ((j : Int) < (W.length : Int)) = true := decide_eq_true q0
      obtain ⟨ad, e0, hx0, hx1, hx2⟩ := at_T79 HC.out (j : Int) p0 q0
      cases e0
      have y0 := (HB.out.cell (World.block_lt_of_cell? w _ hx0)).trans hx0
      have y1 := (HB.out.cell (World.block_lt_of_cell? w _ hx1)).trans hx1
      have y2 := (HB.out.cell (World.block_lt_of_cell? w _ hx2)).trans hx2
      clear hx0 hx1 hx2
      simp only [Int.toNat_natCast] at y0 y1 y2
      have HD : Aside0 (W.drop j = rd_T79 W (j : Int) :: W.drop (j + 1) ∧ W.take (j + 1) = W.take j ++ [rd_T79 W (j : Int)] ∧ rd_T79 W (j : Int) ∈ W) := ⟨by
        have e : rd_T79 W (j : Int) = W[j] := by simp [rd_T79, hlt]
        rw [e]
        exact ⟨List.drop_eq_getElem_cons hlt, List.take_succ_eq_append_getElem hlt, List.getElem_mem hlt⟩⟩
      generalize rd_T79 W (j : Int) = x at *
      cases hr : rightW x with
      | false =>
        have HRW := Aside0.mk (right_ev hr)
        obtain rfl : r = 1 := by
          rw [HRR.out, if_neg]
          intro h
          unfold okW at h
          rw [Bool.and_eq_true, List.all_eq_true] at h
          rw [h.2 x HD.out.2.2] at hr
          cases hr
        clear hr
        go_wp2_with (first | (go_at_call 59; refine (wal_right.calls _ _ _ false _ HRW.out).mono ?_; rintro e w1 ⟨rfl, hb⟩; have HB2 := Aside0.mk hb; clear hb))
        go_ret2
        exact ⟨_, rfl, below_step (below_alloc HB.out _) HB2.out⟩
      | true =>
        have HRW := Aside0.mk (right_ev hr)
        have HRX := Aside0.mk hr
        clear hr
        go_wp2_with (first | (go_at_call 59; refine (wal_right.calls _ _ _ true _ HRW.out).mono ?_; rintro e w1 ⟨rfl, hb⟩; have HB2 := Aside0.mk hb; clear hb))
        go_roundw
        case rel =>
          exact ⟨j + 1, by go_num, by omega, ⟨by rw [HD.out.2.1, List.all_append, HR.out, List.all_cons, HRX.out]; rfl⟩, ⟨blk_below (blk_alloc HX.out _) HB2.out⟩, ⟨below_step (below_alloc HB.out _) HB2.out⟩⟩
        case measure => simp [intOf]; omega
    · obtain rfl : j = W.length := by omega
      have t0 : decide ((W.length : Int) < (W.length : Int)) = false := decide_eq_false (by omega)
      have b0 : wr.cell? ⟨w.heap.size, 0, none⟩ = some (.int .u64 first) := (blk_cell HX.out 0).trans rfl
      have b1 : wr.cell? ⟨w.heap.size, 1, none⟩ = some (.slice A W.length c) := (blk_cell HX.out 1).trans rfl
      have hwl : w.heap.size < wr.heap.size := blk_lt HX.out
      have HOK : Aside0 (W.all rightW = true) := ⟨by have := HR.out; rw [List.take_length] at this; exact this⟩
      obtain rfl : r = 0 := by
        rw [HRR.out, if_pos]
        unfold okW
        rw [HOK.out]
        simp [h0]
      obtain ⟨kv, sv, hkv, hsv⟩ := var2_ev first (W.length : Int) HF.out (by omega)
      have HKV := Aside0.mk hkv
      have HSV := Aside0.mk hsv
      clear hkv hsv HR HRR
      have hw64 : IntKind.u64.wrap (W.length : Int) = (W.length : Int) := by rw [IntKind.wrap_u64]; omega
      go_wp2_with (first | ((with_reducible refine gate_dst (N := 30) rfl ?_); refine Kd.R_lit (Kd.int .u64) _ 27 ?hg (N := 30) ?hd (xs := ([first, (W.length : Int)] : List Int)) (inner := [.int .u64 first, .int .u64 (W.length : Int)]) (ok := fun _ => True) (okp := fun _ => True) ?hr ?hp (fun _ hk => hk) trivial (Below.refl _ _) (Nat.le_refl _) (by simp) ?_; (case hd => rfl); (case hg => rfl); (case hr => first | (go_simp; done) | (go_simp; rfl)); (case hp => exact Kd.reps_scalar (enc := Value.int .u64) [first, (W.length : Int)]); intro v9 w9 ho9 hb9 hg_ hnew_; clear hg_ hnew_; have HO9 := Aside0.mk ho9; have HB9 := Aside0.mk hb9; clear ho9 hb9; obtain ⟨Ao, co, eo⟩ := Kd.R_slice HO9.out; subst eo) | (go_at_call 44; refine (num_Var.calls kv _ _ [first, (W.length : Int)] sv _ (Kd.R_reads' HO9.out).2.2 (Kd.R_reads' HO9.out).2.1 HKV.out).mono ?_; rintro e w10 ⟨rfl, hb10⟩; have HB10 := Aside0.mk hb10; clear hb10) | (go_at_call 41; refine (Bld.WriteString wr.heap.size wr.heap.size (Lib.strCells ⟨#[]⟩) sv _ (Bld.is_below (Bld.is_below (Lib.fresh_isBuilder _ _ wr) HB9.out) HB10.out) (by have := HSV.out; rw [Lib.strCells_length]; show 0 + sv.size ≤ _; omega) (below_size (below_step (below_step (below_alloc (Below.refl _ wr) _) HB9.out) HB10.out))).mono ?_; rintro e w11 ⟨rfl, hbd, hb11⟩; have HD := Aside0.mk hbd; have HB11 := Aside0.mk (Below.trans (below_step (below_step (below_alloc (Below.refl _ wr) _) HB9.out) HB10.out) hb11); clear hbd hb11; have b2 : w11.cell? ⟨w.heap.size, 1, none⟩ = some (.slice A W.length c) := (HB11.out.cell (World.block_lt_of_cell? _ _ b1)).trans b1))
      have HBW : Aside0 (Below w.heap.size w w11) := ⟨below_step HB.out HB11.out⟩
      obtain ⟨bb, hbe⟩ : ∃ bb, bb = wr.heap.size := ⟨_, rfl⟩
      rw [← hbe] at HD HB11 ⊢
      have HBB := Aside0.mk (Nat.le_of_eq hbe)
      have HWB : Aside0 (w.heap.size ≤ bb) := ⟨by omega⟩
      obtain ⟨wr0, hwe⟩ : ∃ wr0, wr0 = wr := ⟨_, rfl⟩
      rw [← hwe] at HBB HB11 HX HB
      have hbb0 := HBB
      clear hbe hwe HBB HB9 HO9 HB10 hwl
      go_loopw [36] (fun v36 w' => ∃ (j : Nat) (acc : ByteArray), v36 = .int .i64 j ∧ j ≤ W.length ∧ Aside0 (acc.size ≤ 20 + j * 60321) ∧ Aside0 (Lib.IsBuilder 99 5 bb bb (Lib.strCells acc) w') ∧ Aside0 (Below bb wr0 w')) (fun v36 _ => W.length - (intOf v36).toNat)
      case atStart => exact ⟨0, sv, rfl, Nat.zero_le _, ⟨by have := HSV.out; omega⟩, ⟨.inr (by have h := HD.out; rw [Bld.strCells_append] at h; rw [show (⟨#[]⟩ : ByteArray) ++ sv = sv from ByteArray.ext (by simp [ByteArray.data_append])] at h; exact h)⟩, HB11⟩
      case round =>
        clear b2
        obtain ⟨j, acc, rfl, hj, HA, HD, HB2⟩ := hrel
        by_cases hlt : j < W.length
        · have p0 : (0 : Int) ≤ (j : Int) := Int.natCast_nonneg _
          have q0 : (j : Int) < (W.length : Int) := Int.ofNat_lt.mpr hlt
          have t1 : decide ((j : Int) < (W.length : Int)) = true := decide_eq_true q0
          obtain ⟨ad, e0, hx0, hx1, hx2⟩ := at_T79 HC.out (j : Int) p0 q0
          cases e0
          have hbw := below_weaken HB.out HWB.out HB2.out
          have y0 := (hbw.cell (World.block_lt_of_cell? w _ hx0)).trans hx0
          have y1 := (hbw.cell (World.block_lt_of_cell? w _ hx1)).trans hx1
          have y2 := (hbw.cell (World.block_lt_of_cell? w _ hx2)).trans hx2
          clear hx0 hx1 hx2 hbw
          simp only [Int.toNat_natCast] at y0 y1 y2
          have hsz : (rd_T79 W (j : Int)).f0.size ≤ 300 ∧ (rd_T79 W (j : Int)).f1.size ≤ 60000 := by
            have e : rd_T79 W (j : Int) = W[j] := by simp [rd_T79, hlt]
            rw [e]
            exact right_sizes (List.all_eq_true.1 HOK.out _ (List.getElem_mem hlt))
          generalize rd_T79 W (j : Int) = x at *
          obtain ⟨sb, hsb, hsb1⟩ := bool_ev x.f2
          obtain ⟨kt, st, hkt, hst⟩ := text2_ev x.f0 x.f1 hsz.1 hsz.2
          have HSB := Aside0.mk hsb
          have HSB1 := Aside0.mk hsb1
          have HKT := Aside0.mk hkt
          have HST := Aside0.mk hst
          clear hsb hsb1 hkt hst hsz b0 b1
          have HACC : Aside0 (acc.size ≤ 20 + j * 60321 ∧ j < 60) := ⟨⟨HA.out, by omega⟩⟩
          go_wp2_with (fail)
          have BX : Aside0 ((wr.alloc (.cells #[.string x.f0, .string x.f1, .bool x.f2] 79)).drew.heap[wr.heap.size]? = some (.cells #[.string x.f0, .string x.f1, .bool x.f2] 79 (0, 0))) := ⟨blk_drew (blk_new wr _)⟩
          have BD : Aside0 (Lib.IsBuilder 99 5 bb bb (Lib.strCells acc) (wr.alloc (.cells #[.string x.f0, .string x.f1, .bool x.f2] 79)).drew) := ⟨Bld.is_below HD.out (below_drew (below_alloc (Below.refl _ wr) _))⟩
          have BB : Aside0 (Below bb wr0 (wr.alloc (.cells #[.string x.f0, .string x.f1, .bool x.f2] 79)).drew) := ⟨bstep HB2.out hbb0.out (below_drew (below_alloc (Below.refl _ wr) _))⟩
          clear y0 y1 y2 HD HB2 HA
          generalize wr.alloc _ = wa at *
          generalize wr.heap.size = gx at *
          refine start_ (n := 11) (S := fun w' => True) (ds := []) #[false, false, false, false, false, false, false, false, false, false, false] (by kernel_rfl) rfl rfl trivial (fun hHeld => ?_); refine with_tabW pb14.tab pb14.bits (fun HT_ HW_ => ?_)
          generalize wa.drew = wS at *
          refine pure_ (i := 0) (N := some 40) (v := ?_) (a' := ?_) #[true, false, false, false, false, false, false, false, false, false, false] rfl rfl (any_of HT_.out (by kernel_rfl)) (fun _ _ _ h => h) (Or.inl ⟨by rfl, ?_⟩) ?_ ?_
          rotate_left
          · intro w'
            go_simp
            with_reducible rfl
          rotate_left
          · simp only [Act.put, List.setIfInBounds_toArray, List.set_cons_zero, List.set_cons_succ, i64_w, i32_w]
            rfl
          refine pure_ (i := 3) (N := some 43) (v := ?_) (a' := ?_) #[true, false, false, true, false, false, false, false, false, false, false] rfl rfl (any_of HT_.out (by kernel_rfl)) (fun _ _ _ h => h) (Or.inl ⟨by rfl, ?_⟩) ?_ ?_
          rotate_left
          · intro w'
            go_simp
            with_reducible rfl
          rotate_left
          · simp only [Act.put, List.setIfInBounds_toArray, List.set_cons_zero, List.set_cons_succ, i64_w, i32_w]
            rfl
          refine pure_ (i := 5) (N := some 45) (v := ?_) (a' := ?_) #[true, false, false, true, false, true, false, false, false, false, false] rfl rfl (any_of HT_.out (by kernel_rfl)) (fun _ _ _ h => h) (Or.inl ⟨by rfl, ?_⟩) ?_ ?_
          rotate_left
          · intro w'
            go_simp
            with_reducible rfl
          rotate_left
          · simp only [Act.put, List.setIfInBounds_toArray, List.set_cons_zero, List.set_cons_succ, i64_w, i32_w]
            rfl
          refine inv_at [1, 2, 4, 6, 7, 8, 9, 10] (fun a0_ b a w' => ∃ (vs : Value), a = putSel a0_ b [(1, 41, .bool x.f2), (2, 42, .string sb), (4, 44, .string x.f0), (6, 46, .string x.f1), (7, 47, vs), (8, 48, .string st), (9, 49, .string (sb ++ st)), (10, 50, .tuple #[.int .i64 (sb ++ st).size, .nilIface])] ∧ (b 10 = false → w'.heap[gx]? = some (.cells #[.string x.f0, .string x.f1, .bool x.f2] 79 (0, 0)) ∧ Lib.IsBuilder 99 5 bb bb (Lib.strCells acc) w' ∧ Below bb wr0 w') ∧ (b 7 = true → b 10 = false → Kd.R Kd.string 9 w' bb (fun _ => True) vs [x.f0, x.f1]) ∧ (b 10 = true → Lib.IsBuilder 99 5 bb bb (Lib.strCells (acc ++ (sb ++ st))) w' ∧ Below bb wr0 w')) HT_.out HW_.out (by kernel_rfl) (by kernel_rfl) ?_ ?_ ?_
          · exact ⟨.bool false, by simp only [putSel, Bool.false_eq_true, if_false], fun _ => ⟨BX.out, BD.out, BB.out⟩, fun h_ => absurd h_ (by decide), fun h_ => absurd h_ (by decide)⟩
          · skip
            refine steps_cons ?_ ?_
            · rintro b a w' ⟨vs, ha, Q_PRE, Q_HS, Q_POST⟩ hb_ hon hoff
              refine ⟨_, rfl, fun K hK => ?_⟩
              have e40 : a.tmps[40]? = some (.pointer (some ⟨gx, 2, none⟩)) := by rw [ha]; exact (putSel_off rfl).trans rfl
              replace ha := Aside0.mk ha
              have hP := Q_PRE (hoff 10 (by kernel_rfl))
              have hc0_ : w'.cell? ⟨gx, 0, none⟩ = some (.string x.f0) := (blk_cell hP.1 0).trans rfl
              have hc1_ : w'.cell? ⟨gx, 1, none⟩ = some (.string x.f1) := (blk_cell hP.1 1).trans rfl
              have hc2_ : w'.cell? ⟨gx, 2, none⟩ = some (.bool x.f2) := (blk_cell hP.1 2).trans rfl
              refine value_ (w1 := w') (v := .bool x.f2) (by rfl) rfl ?_ ?_
              · go_simp
                (try simp only [i64_w])
                try rfl
              refine hK.out _ _ ⟨vs, by rw [ha.out]; exact putSel_upk 0 hb_ rfl rfl rfl, Q_PRE, Q_HS, Q_POST⟩
            refine steps_cons ?_ ?_
            · rintro b a w' ⟨vs, ha, Q_PRE, Q_HS, Q_POST⟩ hb_ hon hoff
              refine ⟨_, rfl, fun K hK => ?_⟩
              have e41 : a.tmps[41]? = some (.bool x.f2) := by rw [ha]; exact putSel_on (e := (1, 41, .bool x.f2)) 0 rfl rfl (hon 1 (by kernel_rfl)) rfl
              replace ha := Aside0.mk ha
              refine goes_ Try.func60 (by kernel_rfl) rfl #[.bool x.f2] (by rfl) rfl rfl (by first | (simp only [List.map_toArray, List.map_cons, List.map_nil, Act.eval, Array.getD_eq_getD_getElem?, Option.getD_some, e41]; done) | (simp only [List.map_toArray, List.map_cons, List.map_nil, Act.eval, Array.getD_eq_getD_getElem?, Option.getD_some, e41]; rfl)) ?_
              refine (num_Bool.calls x.f2 sb _ HSB.out).mono ?_
              rintro e w1 ⟨rfl, ⟨nd, rfl⟩⟩
              refine ⟨_, rfl, ?_⟩
              have hbb : Below w'.heap.size w' (w'.drewN nd) := pw_below_drewN (Below.refl _ _) nd
              refine hK.out _ _ ⟨vs, by rw [ha.out]; exact putSel_upk 1 hb_ rfl rfl rfl, fun h_ => ⟨blk_below (Q_PRE h_).1 hbb, Bld.is_below (Q_PRE h_).2.1 hbb, bstep (Q_PRE h_).2.2 hbb0.out hbb⟩, fun h_ k_ => Kd.R_below (Q_HS h_ k_) hbb, fun h_ => absurd ((hoff 10 (by kernel_rfl)).symm.trans h_) (by decide)⟩
            refine steps_cons ?_ ?_
            · rintro b a w' ⟨vs, ha, Q_PRE, Q_HS, Q_POST⟩ hb_ hon hoff
              refine ⟨_, rfl, fun K hK => ?_⟩
              have e43 : a.tmps[43]? = some (.pointer (some ⟨gx, 0, none⟩)) := by rw [ha]; exact (putSel_off rfl).trans rfl
              replace ha := Aside0.mk ha
              have hP := Q_PRE (hoff 10 (by kernel_rfl))
              have hc0_ : w'.cell? ⟨gx, 0, none⟩ = some (.string x.f0) := (blk_cell hP.1 0).trans rfl
              have hc1_ : w'.cell? ⟨gx, 1, none⟩ = some (.string x.f1) := (blk_cell hP.1 1).trans rfl
              have hc2_ : w'.cell? ⟨gx, 2, none⟩ = some (.bool x.f2) := (blk_cell hP.1 2).trans rfl
              refine value_ (w1 := w') (v := .string x.f0) (by rfl) rfl ?_ ?_
              · go_simp
                (try simp only [i64_w])
                try rfl
              refine hK.out _ _ ⟨vs, by rw [ha.out]; exact putSel_upk 2 hb_ rfl rfl rfl, Q_PRE, Q_HS, Q_POST⟩
            refine steps_cons ?_ ?_
            · rintro b a w' ⟨vs, ha, Q_PRE, Q_HS, Q_POST⟩ hb_ hon hoff
              refine ⟨_, rfl, fun K hK => ?_⟩
              have e45 : a.tmps[45]? = some (.pointer (some ⟨gx, 1, none⟩)) := by rw [ha]; exact (putSel_off rfl).trans rfl
              replace ha := Aside0.mk ha
              have hP := Q_PRE (hoff 10 (by kernel_rfl))
              have hc0_ : w'.cell? ⟨gx, 0, none⟩ = some (.string x.f0) := (blk_cell hP.1 0).trans rfl
              have hc1_ : w'.cell? ⟨gx, 1, none⟩ = some (.string x.f1) := (blk_cell hP.1 1).trans rfl
              have hc2_ : w'.cell? ⟨gx, 2, none⟩ = some (.bool x.f2) := (blk_cell hP.1 2).trans rfl
              refine value_ (w1 := w') (v := .string x.f1) (by rfl) rfl ?_ ?_
              · go_simp
                (try simp only [i64_w])
                try rfl
              refine hK.out _ _ ⟨vs, by rw [ha.out]; exact putSel_upk 3 hb_ rfl rfl rfl, Q_PRE, Q_HS, Q_POST⟩
            refine steps_cons ?_ ?_
            · rintro b a w' ⟨vs, ha, Q_PRE, Q_HS, Q_POST⟩ hb_ hon hoff
              refine ⟨_, rfl, fun K hK => ?_⟩
              have e44 : a.tmps[44]? = some (.string x.f0) := by rw [ha]; exact putSel_on (e := (4, 44, .string x.f0)) 2 rfl rfl (hon 4 (by kernel_rfl)) rfl
              have e46 : a.tmps[46]? = some (.string x.f1) := by rw [ha]; exact putSel_on (e := (6, 46, .string x.f1)) 3 rfl rfl (hon 6 (by kernel_rfl)) rfl
              replace ha := Aside0.mk ha
              have hP := Q_PRE (hoff 10 (by kernel_rfl))
              refine Kd.R_lit_step Kd.string _ 9 ?hg (N := 47) ?hd (xs := ([x.f0, x.f1] : List ByteArray)) (inner := [.string x.f0, .string x.f1]) (ok := fun _ => True) (okp := fun _ => True) ?hr ?hp (fun _ hk => hk) trivial (Below.refl _ _) (Nat.le_refl _) (by simp) ?_; (case hd => rfl); (case hg => rfl); (case hr => first | (go_simp; done) | (go_simp; rfl)); (case hp => exact Kd.reps_scalar (enc := Value.string) [x.f0, x.f1])
              intro vsn w1 ho1 hb1 hg_ hnew_
              clear hg_ hnew_
              refine hK.out _ _ ⟨vsn, by rw [ha.out]; exact putSel_upk 4 hb_ rfl rfl rfl, fun h_ => ⟨blk_below (Q_PRE h_).1 hb1, Bld.is_below (Q_PRE h_).2.1 hb1, bstep (Q_PRE h_).2.2 hbb0.out hb1⟩, fun _ _ => Kd.R_lower ho1 (Nat.le_trans hbb0.out hP.2.2.size), fun h_ => absurd ((hoff 10 (by kernel_rfl)).symm.trans h_) (by decide)⟩
            refine steps_cons ?_ ?_
            · rintro b a w' ⟨vs, ha, Q_PRE, Q_HS, Q_POST⟩ hb_ hon hoff
              refine ⟨_, rfl, fun K hK => ?_⟩
              have e47 : a.tmps[47]? = some (vs) := by rw [ha]; exact putSel_on (e := (7, 47, vs)) 4 rfl rfl (hon 7 (by kernel_rfl)) rfl
              replace ha := Aside0.mk ha
              have hS := Q_HS (hon 7 (by kernel_rfl)) (hoff 10 (by kernel_rfl))
              obtain ⟨As, cs, es⟩ := Kd.R_slice hS
              subst es
              refine goes_ Try.func45 (by kernel_rfl) rfl #[.slice As [x.f0, x.f1].length cs] (by rfl) rfl rfl (by first | (simp only [List.map_toArray, List.map_cons, List.map_nil, Act.eval, Array.getD_eq_getD_getElem?, Option.getD_some, e47]; done) | (simp only [List.map_toArray, List.map_cons, List.map_nil, Act.eval, Array.getD_eq_getD_getElem?, Option.getD_some, e47]; rfl)) ?_
              refine (num_Text.calls kt _ _ [x.f0, x.f1] st _ (Kd.R_reads' hS).2.2 (Kd.R_reads' hS).2.1 HKT.out).mono ?_
              rintro e w1 ⟨rfl, hb1⟩
              refine ⟨_, rfl, ?_⟩
              refine hK.out _ _ ⟨.slice As [x.f0, x.f1].length cs, by rw [ha.out]; exact putSel_upk 5 hb_ rfl rfl rfl, fun h_ => ⟨blk_below (Q_PRE h_).1 hb1, Bld.is_below (Q_PRE h_).2.1 hb1, bstep (Q_PRE h_).2.2 hbb0.out hb1⟩, fun h_ k_ => Kd.R_below (Q_HS h_ k_) hb1, fun h_ => absurd ((hoff 10 (by kernel_rfl)).symm.trans h_) (by decide)⟩
            refine steps_cons ?_ ?_
            · rintro b a w' ⟨vs, ha, Q_PRE, Q_HS, Q_POST⟩ hb_ hon hoff
              refine ⟨_, rfl, fun K hK => ?_⟩
              have e42 : a.tmps[42]? = some (.string sb) := by rw [ha]; exact putSel_on (e := (2, 42, .string sb)) 1 rfl rfl (hon 2 (by kernel_rfl)) rfl
              have e48 : a.tmps[48]? = some (.string st) := by rw [ha]; exact putSel_on (e := (8, 48, .string st)) 5 rfl rfl (hon 8 (by kernel_rfl)) rfl
              replace ha := Aside0.mk ha
              have f1 := eq_true (show sb.size + st.size ≤ 9223372036854775807 by have := HSB1.out; have := HST.out; omega)
              have f2 : (9223372036854775807 < sb.size + st.size) = False := eq_false (by have := HSB1.out; have := HST.out; omega)
              refine value_ (w1 := w') (v := .string (sb ++ st)) (by rfl) rfl ?_ ?_
              · go_simp
                (try simp only [i64_w])
                try rfl
              refine hK.out _ _ ⟨vs, by rw [ha.out]; exact putSel_upk 6 hb_ rfl rfl rfl, Q_PRE, Q_HS, Q_POST⟩
            refine steps_cons ?_ ?_
            · rintro b a w' ⟨vs, ha, Q_PRE, Q_HS, Q_POST⟩ hb_ hon hoff
              refine ⟨_, rfl, fun K hK => ?_⟩
              have e6 : a.tmps[6]? = some (.pointer (some ⟨bb, 0, none⟩)) := by rw [ha]; exact (putSel_off rfl).trans rfl
              have e49 : a.tmps[49]? = some (.string (sb ++ st)) := by rw [ha]; exact putSel_on (e := (9, 49, .string (sb ++ st))) 6 rfl rfl (hon 9 (by kernel_rfl)) rfl
              replace ha := Aside0.mk ha
              have hP := Q_PRE hb_
              refine goes_ Try.func41 (by kernel_rfl) rfl #[.pointer (some ⟨bb, 0, none⟩), .string (sb ++ st)] (by rfl) rfl rfl (by first | (simp only [List.map_toArray, List.map_cons, List.map_nil, Act.eval, Array.getD_eq_getD_getElem?, Option.getD_some, e6, e49]; done) | (simp only [List.map_toArray, List.map_cons, List.map_nil, Act.eval, Array.getD_eq_getD_getElem?, Option.getD_some, e6, e49]; rfl)) ?_
              refine (Bld.WriteString bb bb (Lib.strCells acc) (sb ++ st) _ hP.2.1 (by have h1 := HACC.out; have h2 := HSB1.out; have h3 := HST.out; rw [Lib.strCells_length, ByteArray.size_append]; omega) (Nat.le_trans hbb0.out hP.2.2.size)).mono ?_
              rintro e w1 ⟨rfl, hbd, hb1⟩
              refine ⟨_, rfl, ?_⟩
              refine hK.out _ _ ⟨vs, by rw [ha.out]; exact putSel_upk 7 hb_ rfl rfl rfl, fun h_ => absurd h_ (by simp [up]), fun _ h_ => absurd h_ (by simp [up]), fun _ => ⟨.inr (by rw [Bld.strCells_append] at hbd; exact hbd), Below.trans hP.2.2 hb1⟩⟩
            exact steps_nil
          rintro b a w25 hall ⟨vs, ha, Q_PRE, Q_HS, Q_POST⟩
          have hb1_ := hall 1 (by kernel_rfl)
          have hb2_ := hall 2 (by kernel_rfl)
          have hb4_ := hall 4 (by kernel_rfl)
          have hb6_ := hall 6 (by kernel_rfl)
          have hb7_ := hall 7 (by kernel_rfl)
          have hb8_ := hall 8 (by kernel_rfl)
          have hb9_ := hall 9 (by kernel_rfl)
          have hb10_ := hall 10 (by kernel_rfl)
          subst ha
          simp only [putSel, hb1_, hb2_, hb4_, hb6_, hb7_, hb8_, hb9_, hb10_, if_true, Act.put, List.setIfInBounds_toArray, List.set_cons_zero, List.set_cons_succ]
          have HS := Aside0.mk (Q_HS hb7_)
          have POST := Aside0.mk (Q_POST hb10_)
          clear hall hb1_ hb2_ hb4_ hb6_ hb7_ hb8_ hb9_ hb10_ Q_PRE Q_HS Q_POST
          have hsz : ((acc ++ (sb ++ st)).size : Nat) ≤ 20 + (j + 1) * 60321 := by have h1 := HACC.out; have h2 := HSB1.out; have h3 := HST.out; rw [ByteArray.size_append, ByteArray.size_append]; omega
          have u1 : decide (16777216 < ((acc ++ (sb ++ st)).size : Int)) = false := decide_eq_false (by have := HACC.out; omega)
          have u1' : decide (16777216 < (acc ++ (sb ++ st)).size) = false := decide_eq_false (by have := HACC.out; omega)
          have hl : (Lib.strCells (acc ++ (sb ++ st))).length = (acc ++ (sb ++ st)).size := Lib.strCells_length _
          have HSZ := Aside0.mk hsz
          have HPL := Aside0.mk (len_builder bb bb _ _ POST.out.1)
          rw [hl] at HPL
          clear hsz hl
          generalize acc ++ (sb ++ st) = acc2 at *
          go_wp2_with (first | (go_at_call 43; refine (HPL.out).mono ?_; rintro e w26 ⟨rfl, rfl⟩))
          go_roundw
          case rel => exact ⟨j + 1, acc2, by go_num, by omega, HSZ, ⟨POST.out.1⟩, ⟨POST.out.2⟩⟩
          case measure => simp [intOf]; omega
        · obtain rfl : j = W.length := by omega
          have t0 : decide ((W.length : Int) < (W.length : Int)) = false := decide_eq_false (by omega)
          go_wp2_with (go_at_call 47; refine (Bld.String_any bb bb acc _ HD.out (Nat.le_trans hbb0.out HB2.out.size)).mono ?_; rintro e w12 ⟨rfl, hb12⟩; have HB12 := Aside0.mk hb12; clear hb12)
          go_ret2
          exact ⟨_, rfl, below_weaken HB.out HWB.out (Below.trans HB2.out HB12.out)⟩
end Go.Proofs.Ytchgpcgolgcfdaa.Mt
