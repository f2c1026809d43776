/- What Add makes of a table. -/
import Derived.Test.YtchgpcgolgcfdaaMt2
namespace Go.Proofs.Ytchgpcgolgcfdaa.Mt
open Go Go.RowKit Go.Proofs.Ytchgpcgolgcfdaa.PNum Go.Proofs.Ytchgpcgolgcfdaa.RkM Go.Proofs.Ytchgpcgolgcfdaa.Rk Go.Proofs.YtchgpcgolgcfdaaW.PrintWords Go.Proofs.YtchgpcgolgcfdaaW.PrintLast Go.Proofs.YtchgpcgolgcfdaaW.PrintMore
set_option linter.unusedVariables false
set_option linter.unusedSimpArgs false
def eOf (first : Int) (i : Nat) (x : S79) : E := ⟨x.f0, first + i, (if x.f2 = true then 2 else 1), x.f1⟩
def addL (first : Int) : Nat → List S79 → List E → List E
  | _, [], l => l
  | i, x :: r, l => addL first (i + 1) r (insV (eOf first i x) l)
def sizeL : List S79 → Int → Int
  | [], s => s
  | x :: r, s => sizeL r (min (s + x.f0.size + x.f1.size + 16) 4611686018427387904)
set_option maxHeartbeats 8000000 in
set_option maxRecDepth 100000 in
theorem add_bad {w0 w : World} {g : Nat} {d : Value} {ds : List Int} {ns : List Nd} {size last : Int} (h : OkT w0 w g d ds ns size last) (A : Option Addr) (c : Nat) (W : List S79) (first : Int) (hC : Kd.C k79 w A W.length W) (hn : W.length ≤ 60) (hf : 0 ≤ first ∧ first ≤ 18446744073709551615) (hbad : okW W = false ∨ first ≤ last ∨ 4611686018427387904 < first ∨ 4611686018427387904 - (W.length : Int) < first) :
    Calls Try.prog 18 #[.pointer (some ⟨g, 0, none⟩), .int .u64 first, .slice A W.length c] w fun e w' => e = .returned (.tuple #[.int .u64 0, .int .i64 1]) ∧ Below w.heap.size w w' := by
  have hc17 := h.cells
  obtain ⟨a, _, _, _, _, c17, _⟩ := hc17
  have HC := Aside0.mk hC
  have HF := Aside0.mk hf
  have HBD := Aside0.mk hbad
  clear h hC hf hbad
  cases hok : okW W with
  | false =>
    have HP := Aside0.mk (putBatch_calls w A c W first HC.out hn HF.out 1 (by rw [hok]; rfl))
    clear hok
    go_enter Try.func18, Try.ntmps18
    go_wp2_with (first | (go_at_call 36; refine HP.out.mono ?_; rintro e w1 ⟨s, rfl, hb⟩; have HB := Aside0.mk hb; clear hb))
    go_ret2
    exact ⟨rfl, HB.out⟩
  | true =>
    have HP := Aside0.mk (putBatch_calls w A c W first HC.out hn HF.out 0 (by rw [hok]; rfl))
    have HBD2 : Aside0 (first ≤ last ∨ 4611686018427387904 < first ∨ 4611686018427387904 - (W.length : Int) < first) := ⟨HBD.out.resolve_left (by rw [hok]; simp)⟩
    clear hok HBD
    have hlen : W.length ≤ 9223372036854775807 := by omega
    have hw1 : IntKind.u64.wrap (W.length : Int) = (W.length : Int) := by rw [IntKind.wrap_u64]; omega
    have hw2 : IntKind.u64.wrap (4611686018427387904 - (W.length : Int)) = 4611686018427387904 - (W.length : Int) := by rw [IntKind.wrap_u64]; omega
    have fin : ∀ (b1 b2 b3 : Bool), decide (first ≤ last) = b1 → decide (4611686018427387904 < first) = b2 → decide (4611686018427387904 - (W.length : Int) < first) = b3 → (b1 || b2 || b3) = true → Calls Try.prog 18 #[.pointer (some ⟨g, 0, none⟩), .int .u64 first, .slice A W.length c] w fun e w' => e = .returned (.tuple #[.int .u64 0, .int .i64 1]) ∧ Below w.heap.size w w' := by
      intro b1 b2 b3 d1 d2 d3 hb
      clear HBD2
      cases b1
      case true =>
        clear d2 d3 hb
        go_enter Try.func18, Try.ntmps18
        go_wp2_with (first | (go_at_call 36; refine HP.out.mono ?_; rintro e w1 ⟨s, rfl, hb⟩; have HB := Aside0.mk hb; have e17 := (hb.cell (World.block_lt_of_cell? _ _ c17)).trans c17; clear hb))
        go_ret2
        exact ⟨rfl, HB.out⟩
      case false =>
        cases b2
        case true =>
          clear d3 hb
          go_enter Try.func18, Try.ntmps18
          go_wp2_with (first | (go_at_call 36; refine HP.out.mono ?_; rintro e w1 ⟨s, rfl, hb⟩; have HB := Aside0.mk hb; have e17 := (hb.cell (World.block_lt_of_cell? _ _ c17)).trans c17; clear hb))
          go_ret2
          exact ⟨rfl, HB.out⟩
        case false =>
          cases b3
          case true =>
            clear hb
            go_enter Try.func18, Try.ntmps18
            go_wp2_with (first | (go_at_call 36; refine HP.out.mono ?_; rintro e w1 ⟨s, rfl, hb⟩; have HB := Aside0.mk hb; have e17 := (hb.cell (World.block_lt_of_cell? _ _ c17)).trans c17; clear hb))
            go_ret2
            exact ⟨rfl, HB.out⟩
          case false => cases hb
    refine fin _ _ _ rfl rfl rfl ?_
    rcases HBD2.out with h | h | h
    · rw [decide_eq_true h]; rfl
    · rw [decide_eq_true h]; simp
    · rw [decide_eq_true h]; simp
def ad15.T : Bool × List (List Nat × List Nat) := (true, [([], []), ([0], [0]), ([1], [1]), ([], []), ([], []), ([4], [4]), ([2, 3, 5, 5], [2, 3, 5])])
def ad15.B : List Nat := [0, 1, 3, 0, 0, 16, 63]
theorem ad15.tab : rtab .any (opsOf Try.f18 15) = ad15.T := by kernel_rfl
theorem ad15.bits : waitsOk ad15.T.2 ad15.B = true := by kernel_rfl
theorem tput_calls {w0 w : World} {g : Nat} {d : Value} {ds : List Int} {ns : List Nd} {size last : Int} (h : OkT w0 w g d ds ns size last) (e : E) (lv : Int) (hB : Below w0.heap.size w0 w) (hl : ns.length < 1000000) (s0 : e.f0.size ≤ 140737488351232) (s3 : e.f3.size ≤ 140737488351232) :
    Calls Try.prog 37 #[.pointer (some ⟨g, 0, none⟩), .agg #[.string (e).f0, .int .u64 (e).f1, .int .i64 (e).f2, .string (e).f3], .int .i64 lv] w fun ee w' => ∃ b, ee = .returned (.bool b) ∧ ∃ ns', OkT w0 w' g d ds ns' size last ∧ ns'.map (·.e) = insV e (ns.map (·.e)) ∧ Below w0.heap.size w0 w' ∧ FrO w w' g ns ∧ (∀ k ∈ blocks ns', k ∈ blocks ns ∨ w.heap.size ≤ k) ∧ w.heap.size ≤ w'.heap.size ∧ ns'.length ≤ ns.length + 1 := by
  obtain ⟨⟨a, h1, h2⟩, h3⟩ := h
  refine (put_any _ w0 w g ns e lv h1 hB hl s0 s3).mono ?_
  rintro ee w' ⟨rfl, hs, ns', ho, hm, hb, hfr, hbk⟩
  refine ⟨_, rfl, ns', ⟨⟨a, ho, h2⟩, Kd.R_step h3 (fun k hk hlt => hfr k hlt (dr_ne h3 h1 rfl k hk).1 (dr_ne h3 h1 rfl k hk).2)⟩, hm, hb, hfr, hbk, hs, ?_⟩
  have q1 := congrArg List.length hm
  have q2 := insV_len e (ns.map (·.e))
  simp only [List.length_map] at q1 q2
  omega
set_option maxHeartbeats 8000000 in
set_option maxRecDepth 100000 in
theorem add_yes {w0 w : World} {g : Nat} {d : Value} {ds : List Int} {ns : List Nd} {size last : Int} (h : OkT w0 w g d ds ns size last) (A : Option Addr) (c : Nat) (W : List S79) (first : Int) (hC : ∀ V : World, FrO w V g ns → Below w0.heap.size w0 V → w.heap.size ≤ V.heap.size → Kd.C k79 V A W.length W) (hn : W.length ≤ 60) (hf : 0 ≤ first ∧ last < first ∧ first ≤ 4611686018427387904 - (W.length : Int)) (hok : okW W = true) (hB : Below w0.heap.size w0 w) (hs : 0 ≤ size ∧ size ≤ 4611686018427387904) (hl : ns.length < 900000) (hd : ds.length ≤ 1000000) :
    Calls Try.prog 18 #[.pointer (some ⟨g, 0, none⟩), .int .u64 first, .slice A W.length c] w fun e w' => e = .returned (.tuple #[.int .u64 (first + W.length), .int .i64 0]) ∧ ∃ ns', OkT w0 w' g d ds ns' (sizeL W size) (first + W.length - 1) ∧ ns'.map (·.e) = addL first 0 W (ns.map (·.e)) ∧ Below w0.heap.size w0 w' ∧ FrO w w' g ns ∧ ∀ k ∈ blocks ns', k ∈ blocks ns ∨ w.heap.size ≤ k := by
  have hc17 := h.cells
  obtain ⟨a, _, _, _, _, c17, _⟩ := hc17
  have H := Aside0.mk h
  have HC := Aside0.mk hC
  have HF := Aside0.mk hf
  have HB := Aside0.mk hB
  have HS := Aside0.mk hs
  have HL := Aside0.mk hl
  have HW : Aside0 (W.all rightW = true ∧ W.length ≠ 0) := ⟨by unfold okW at hok; rw [Bool.and_eq_true] at hok; exact ⟨hok.2, of_decide_eq_true hok.1⟩⟩
  have HP := Aside0.mk (putBatch_calls w A c W first (hC w (fun _ _ _ _ => rfl) hB (Nat.le_refl _)) hn (by omega) 0 (by rw [hok]; rfl))
  have hlen : W.length ≤ 9223372036854775807 := by omega
  have hw1 : IntKind.u64.wrap (W.length : Int) = (W.length : Int) := by rw [IntKind.wrap_u64]; omega
  have hw2 : IntKind.u64.wrap (4611686018427387904 - (W.length : Int)) = 4611686018427387904 - (W.length : Int) := by rw [IntKind.wrap_u64]; omega
  have d1 : decide (first ≤ last) = false := decide_eq_false (by omega)
  have d2 : decide (4611686018427387904 < first) = false := decide_eq_false (by omega)
  have d3 : decide (4611686018427387904 - (W.length : Int) < first) = false := decide_eq_false (by omega)
  clear h hC hf hB hs hl hok
  go_enter Try.func18, Try.ntmps18
  go_wp2_with (first | (go_at_call 36; refine HP.out.mono ?_; rintro e w1 ⟨s, rfl, hb⟩; have HB1 := Aside0.mk hb; have e17 := (hb.cell (World.block_lt_of_cell? _ _ c17)).trans c17; clear hb))
  clear c17 e17
  go_loopw [47] (fun v47 w' => ∃ (j : Nat) (ns' : List Nd) (sz la : Int), v47 = .int .i64 j ∧ j ≤ W.length ∧ Aside0 (ns'.length ≤ ns.length + j) ∧ Aside0 (OkT w0 w' g d ds ns' sz la) ∧ Aside0 (sizeL (W.drop j) sz = sizeL W size ∧ addL first j (W.drop j) (ns'.map (·.e)) = addL first 0 W (ns.map (·.e))) ∧ Aside0 (0 ≤ sz ∧ sz ≤ 4611686018427387904) ∧ Aside0 ((0 < j → la = first + j - 1)) ∧ Aside0 (Below w0.heap.size w0 w') ∧ Aside0 (FrO w w' g ns) ∧ Aside0 (∀ k ∈ blocks ns', k ∈ blocks ns ∨ w.heap.size ≤ k) ∧ Aside0 (w.heap.size ≤ w'.heap.size)) (fun v47 _ => W.length - (intOf v47).toNat)
  case atStart => exact ⟨0, ns, size, last, rfl, Nat.zero_le _, ⟨Nat.le_refl _⟩, ⟨H.out.below HB1.out⟩, ⟨⟨rfl, rfl⟩⟩, HS, ⟨fun h => by omega⟩, ⟨below_step HB.out HB1.out⟩, ⟨fun k hk _ _ => HB1.out.block k hk⟩, ⟨fun k hk => Or.inl hk⟩, ⟨HB1.out.size⟩⟩
  case round =>
    clear HB1 H HP HB HS
    obtain ⟨j, ns', sz, la, rfl, hj, HN, H, HE, HS, HLA, HB, HFR, HBK, HSZ⟩ := hrel
    by_cases hlt : j < W.length
    · have p0 : (0 : Int) ≤ (j : Int) := Int.natCast_nonneg _
      have q0 : (j : Int) < (W.length : Int) := Int.ofNat_lt.mpr hlt
      have t0 : decide ((j : Int) < (W.length : Int)) = true := decide_eq_true q0
      obtain ⟨ad, e0, y0, y1, y2⟩ := at_T79 (HC.out wr HFR.out HB.out HSZ.out) (j : Int) p0 q0
      cases e0
      simp only [Int.toNat_natCast] at y0 y1 y2
      have HD : Aside0 (W.drop j = rd_T79 W (j : Int) :: W.drop (j + 1) ∧ rightW (rd_T79 W (j : Int)) = true) := ⟨by
        have e : rd_T79 W (j : Int) = W[j] := by simp [rd_T79, hlt]
        rw [e]
        exact ⟨List.drop_eq_getElem_cons hlt, List.all_eq_true.1 HW.out.1 _ (List.getElem_mem hlt)⟩⟩
      generalize rd_T79 W (j : Int) = x at *
      have hwj : IntKind.u64.wrap (first + (j : Int)) = first + (j : Int) := by rw [IntKind.wrap_u64]; have := HF.out; omega
      have HX : Aside0 (wr.heap.size < wr.heap.size + 1) := ⟨by omega⟩
      go_upto_if 62 with (fail)
      generalize hwa : World.alloc _ _ = wa at *
      have HC1 : Aside0 (wa.heap[wr.heap.size]? = some (.cells #[.string x.f0, .string x.f1, .bool x.f2] 79 (0, 0)) ∧ wa.heap[wr.heap.size + 1]? = some (.cells #[.string x.f0, .int .u64 (first + j), .int .i64 1, .string x.f1] 29 (0, 0)) ∧ Below wr.heap.size wr wa) := ⟨by
        subst hwa
        have h1 := blk_new (wr.alloc (.cells #[.string x.f0, .string x.f1, .bool x.f2] 79)) (.cells #[.string x.f0, .int .u64 (first + j), .int .i64 1, .string x.f1] 29)
        rw [show (wr.alloc (.cells #[.string x.f0, .string x.f1, .bool x.f2] 79)).heap.size = wr.heap.size + 1 from by simp] at h1
        exact ⟨blk_alloc (blk_new wr _) _, h1, below_alloc (below_alloc (Below.refl _ wr) _) _⟩⟩
      clear y0 y1 y2 hwa
      generalize hgx : wr.heap.size = gx at *
      go_cut [63] (fun v63 wc => Aside0 (wc.heap[gx]? = some (.cells #[.string x.f0, .string x.f1, .bool x.f2] 79 (0, 0)) ∧ wc.heap[gx + 1]? = some (.cells #[.string (eOf first j x).f0, .int .u64 (eOf first j x).f1, .int .i64 (eOf first j x).f2, .string (eOf first j x).f3] 29 (0, 0)) ∧ Below gx wr wc))
      case first =>
        have b2 : wa.cell? ⟨gx, 2, none⟩ = some (.bool x.f2) := (blk_cell HC1.out.1 2).trans rfl
        have e2 : wa.cell? ⟨gx + 1, 2, none⟩ = some (.int .i64 1) := (blk_cell HC1.out.2.1 2).trans rfl
        have f2 : wa.frozen? ⟨gx + 1, 2, none⟩ = false := blk_frozen HC1.out.2.1 2
        cases hx2 : x.f2
        case true =>
          have HX2 := Aside0.mk hx2
          go_wp2_with (fail)
          go_meet
          case rel => exact ⟨⟨blk_far HC1.out.1 (by show gx ≠ gx + 1; omega) _, by rw [show (eOf first j x).f2 = 2 from by unfold eOf; simp [HX2.out]]; exact blk_put HC1.out.2.1 2 _ rfl, HC1.out.2.2.setCell (p := ⟨gx + 1, 2, none⟩) (by show gx ≤ gx + 1; omega) _⟩⟩
        case false =>
          have HX2 := Aside0.mk hx2
          go_wp2_with (fail)
          go_meet
          case rel => exact ⟨⟨HC1.out.1, by rw [show (eOf first j x).f2 = 1 from by unfold eOf; simp [HX2.out]]; exact HC1.out.2.1, HC1.out.2.2⟩⟩
      case rest =>
        clear HC1
        have HC1 := hcut
        clear hcut
        have GLT : Aside0 (g < gx) := ⟨by rw [← hgx]; exact H.out.lt g (Or.inl rfl)⟩
        have HLT : Aside0 (∀ k ∈ blocks ns', k < gx) := ⟨fun k hk => by rw [← hgx]; exact H.out.lt k (Or.inr (Or.inl hk))⟩
        have HNL : Aside0 (ns'.length < 1000000) := ⟨by have h1 := HN.out; have h2 := HL.out; omega⟩
        have HSZ2 := Aside0.mk (right_sizes HD.out.2)
        have hbc : Below wr.heap.size wr wc := by rw [hgx]; exact HC1.out.2.2
        have HP0 : Aside0 (wc.drew.heap[gx]? = some (.cells #[.string x.f0, .string x.f1, .bool x.f2] 79 (0, 0)) ∧ wc.drew.heap[gx + 1]? = some (.cells #[.string (eOf first j x).f0, .int .u64 (eOf first j x).f1, .int .i64 (eOf first j x).f2, .string (eOf first j x).f3] 29 (0, 0)) ∧ OkT w0 wc.drew g d ds ns' sz la ∧ Below w0.heap.size w0 wc.drew ∧ gx ≤ wc.drew.heap.size ∧ ∀ k, k < gx → k ≠ g → wc.drew.heap[k]? = wr.heap[k]?) := ⟨⟨blk_drew HC1.out.1, blk_drew HC1.out.2.1, H.out.below (below_drew hbc), below_step HB.out (below_drew hbc), by have := (below_drew hbc).size; omega, fun k hk _ => (below_drew hbc).block k (by omega)⟩⟩
        clear HC1 hbc
        go_wp2_with (fail)
        refine start_ (n := 7) (S := fun w' => True) (ds := []) #[false, false, false, false, false, false, false] (by kernel_rfl) rfl rfl trivial (fun hHeld => ?_); refine with_tabW ad15.tab ad15.bits (fun HT_ HW_ => ?_)
        generalize wc.drew = wS at *
        refine pure_ (i := 0) (N := some 64) (v := ?_) (a' := ?_) #[true, false, false, false, false, false, false] rfl rfl (any_of HT_.out (by kernel_rfl)) (fun _ _ _ h => h) (Or.inl ⟨by rfl, ?_⟩) ?_ ?_
        rotate_left
        · intro w'
          go_simp
          with_reducible rfl
        rotate_left
        · simp only [Act.put, List.setIfInBounds_toArray, List.set_cons_zero, List.set_cons_succ, i64_w, i32_w]
          rfl
        refine pure_ (i := 1) (N := some 65) (v := ?_) (a' := ?_) #[true, true, false, false, false, false, false] rfl rfl (any_of HT_.out (by kernel_rfl)) (fun _ _ _ h => h) (Or.inl ⟨by rfl, ?_⟩) ?_ ?_
        rotate_left
        · intro w'
          go_simp
          with_reducible rfl
        rotate_left
        · simp only [Act.put, List.setIfInBounds_toArray, List.set_cons_zero, List.set_cons_succ, i64_w, i32_w]
          rfl
        refine pure_ (i := 2) (N := some 66) (v := ?_) (a' := ?_) #[true, true, true, false, false, false, false] rfl rfl (any_of HT_.out (by kernel_rfl)) (fun _ _ _ h => h) (Or.inl ⟨by rfl, ?_⟩) ?_ ?_
        rotate_left
        · intro w'
          go_simp
          with_reducible rfl
        rotate_left
        · simp only [Act.put, List.setIfInBounds_toArray, List.set_cons_zero, List.set_cons_succ, i64_w, i32_w]
          rfl
        refine pure_ (i := 4) (N := some 68) (v := ?_) (a' := ?_) #[true, true, true, false, true, false, false] rfl rfl (any_of HT_.out (by kernel_rfl)) (fun _ _ _ h => h) (Or.inl ⟨by rfl, ?_⟩) ?_ ?_
        rotate_left
        · intro w'
          go_simp
          with_reducible rfl
        rotate_left
        · simp only [Act.put, List.setIfInBounds_toArray, List.set_cons_zero, List.set_cons_succ, i64_w, i32_w]
          rfl
        refine inv_at [3, 5, 6] (fun a0_ b a w' => ∃ (xv : Int), ∃ (bv : Bool), a = putSel a0_ b [(3, 67, .agg #[.string (eOf first j x).f0, .int .u64 (eOf first j x).f1, .int .i64 (eOf first j x).f2, .string (eOf first j x).f3]), (5, 69, .int .i64 xv), (6, 70, .bool bv)] ∧ (b 6 = false → w'.heap[gx]? = some (.cells #[.string x.f0, .string x.f1, .bool x.f2] 79 (0, 0)) ∧ w'.heap[gx + 1]? = some (.cells #[.string (eOf first j x).f0, .int .u64 (eOf first j x).f1, .int .i64 (eOf first j x).f2, .string (eOf first j x).f3] 29 (0, 0)) ∧ OkT w0 w' g d ds ns' sz la ∧ Below w0.heap.size w0 w' ∧ gx ≤ w'.heap.size ∧ ∀ k, k < gx → k ≠ g → w'.heap[k]? = wr.heap[k]?) ∧ (b 6 = true → ∃ ns2, w'.heap[gx]? = some (.cells #[.string x.f0, .string x.f1, .bool x.f2] 79 (0, 0)) ∧ w'.heap[gx + 1]? = some (.cells #[.string (eOf first j x).f0, .int .u64 (eOf first j x).f1, .int .i64 (eOf first j x).f2, .string (eOf first j x).f3] 29 (0, 0)) ∧ OkT w0 w' g d ds ns2 sz la ∧ ns2.map (·.e) = insV (eOf first j x) (ns'.map (·.e)) ∧ ns2.length ≤ ns'.length + 1 ∧ Below w0.heap.size w0 w' ∧ gx ≤ w'.heap.size ∧ (∀ k, k < gx → k ≠ g → k ∉ blocks ns' → w'.heap[k]? = wr.heap[k]?) ∧ ∀ k ∈ blocks ns2, k ∈ blocks ns' ∨ gx ≤ k)) HT_.out HW_.out (by kernel_rfl) (by kernel_rfl) ?_ ?_ ?_
        · exact ⟨0, false, by simp only [putSel, Bool.false_eq_true, if_false], fun _ => HP0.out, fun h_ => absurd h_ (by decide)⟩
        · skip
          refine steps_cons ?_ ?_
          · rintro b a w' ⟨xv, bv, ha, Q_PRE, Q_POST⟩ hb_ hon hoff
            refine ⟨_, rfl, fun K hK => ?_⟩
            have e13 : a.tmps[13]? = some (.pointer (some ⟨gx + 1, 0, none⟩)) := by rw [ha]; exact (putSel_off rfl).trans rfl
            replace ha := Aside0.mk ha
            have hP := Q_PRE (hoff 6 (by kernel_rfl))
            have hc0_ : w'.cell? ⟨gx + 1, 0, none⟩ = some (.string (eOf first j x).f0) := (blk_cell hP.2.1 0).trans rfl
            have hc1_ : w'.cell? ⟨gx + 1, 1, none⟩ = some (.int .u64 (eOf first j x).f1) := (blk_cell hP.2.1 1).trans rfl
            have hc2_ : w'.cell? ⟨gx + 1, 2, none⟩ = some (.int .i64 (eOf first j x).f2) := (blk_cell hP.2.1 2).trans rfl
            have hc3_ : w'.cell? ⟨gx + 1, 3, none⟩ = some (.string (eOf first j x).f3) := (blk_cell hP.2.1 3).trans rfl
            refine value_ (w1 := w') (v := .agg #[.string (eOf first j x).f0, .int .u64 (eOf first j x).f1, .int .i64 (eOf first j x).f2, .string (eOf first j x).f3]) (by rfl) rfl ?_ ?_
            · go_simp
              (try simp only [i64_w])
              try rfl
            refine hK.out _ _ ⟨xv, bv, by rw [ha.out]; exact putSel_upk 0 hb_ rfl rfl rfl, Q_PRE, Q_POST⟩
          refine steps_cons ?_ ?_
          · rintro b a w' ⟨xv, bv, ha, Q_PRE, Q_POST⟩ hb_ hon hoff
            refine ⟨_, rfl, fun K hK => ?_⟩
            have e68 : a.tmps[68]? = some (.pointer (some ⟨g, 0, none⟩)) := by rw [ha]; exact (putSel_off rfl).trans rfl
            replace ha := Aside0.mk ha
            have hP := Q_PRE (hoff 6 (by kernel_rfl))
            have hPg : g < gx := GLT.out
            refine goes_ Try.func38 (by kernel_rfl) rfl #[.pointer (some ⟨g, 0, none⟩)] (by rfl) rfl rfl (by first | (simp only [List.map_toArray, List.map_cons, List.map_nil, Act.eval, Array.getD_eq_getD_getElem?, Option.getD_some, e68]; done) | (simp only [List.map_toArray, List.map_cons, List.map_nil, Act.eval, Array.getD_eq_getD_getElem?, Option.getD_some, e68]; rfl)) ?_
            refine (draw_calls hP.2.2.1 hd hP.2.2.2.1).mono ?_
            rintro e w1 ⟨xn, rfl, ho, hb, hsz, hfr⟩
            refine ⟨_, rfl, ?_⟩
            refine hK.out _ _ ⟨xn, bv, by rw [ha.out]; exact putSel_upk 1 hb_ rfl rfl rfl, fun _ => ⟨(hfr gx (by omega)).trans hP.1, (hfr (gx + 1) (by omega)).trans hP.2.1, ho, hb, by rw [hsz]; exact hP.2.2.2.2.1, fun k hk hg => (hfr k hg).trans (hP.2.2.2.2.2 k hk hg)⟩, fun h_ => absurd ((hoff 6 (by kernel_rfl)).symm.trans h_) (by decide)⟩
          refine steps_cons ?_ ?_
          · rintro b a w' ⟨xv, bv, ha, Q_PRE, Q_POST⟩ hb_ hon hoff
            refine ⟨_, rfl, fun K hK => ?_⟩
            have e66 : a.tmps[66]? = some (.pointer (some ⟨g, 0, none⟩)) := by rw [ha]; exact (putSel_off rfl).trans rfl
            have e67 : a.tmps[67]? = some (.agg #[.string (eOf first j x).f0, .int .u64 (eOf first j x).f1, .int .i64 (eOf first j x).f2, .string (eOf first j x).f3]) := by rw [ha]; exact putSel_on (e := (3, 67, .agg #[.string (eOf first j x).f0, .int .u64 (eOf first j x).f1, .int .i64 (eOf first j x).f2, .string (eOf first j x).f3])) 0 rfl rfl (hon 3 (by kernel_rfl)) rfl
            have e69 : a.tmps[69]? = some (.int .i64 xv) := by rw [ha]; exact putSel_on (e := (5, 69, .int .i64 xv)) 1 rfl rfl (hon 5 (by kernel_rfl)) rfl
            replace ha := Aside0.mk ha
            have hP := Q_PRE hb_
            have hPg : g < gx := GLT.out
            have hnl := HNL.out
            have hzz := HSZ2.out
            refine goes_ Try.func37 (by kernel_rfl) rfl #[.pointer (some ⟨g, 0, none⟩), .agg #[.string (eOf first j x).f0, .int .u64 (eOf first j x).f1, .int .i64 (eOf first j x).f2, .string (eOf first j x).f3], .int .i64 xv] (by rfl) rfl rfl (by first | (simp only [List.map_toArray, List.map_cons, List.map_nil, Act.eval, Array.getD_eq_getD_getElem?, Option.getD_some, e66, e67, e69]; done) | (simp only [List.map_toArray, List.map_cons, List.map_nil, Act.eval, Array.getD_eq_getD_getElem?, Option.getD_some, e66, e67, e69]; rfl)) ?_
            refine (tput_calls hP.2.2.1 (eOf first j x) xv hP.2.2.2.1 (by omega) (by show x.f0.size ≤ _; omega) (by show x.f1.size ≤ _; omega)).mono ?_
            rintro e w1 ⟨bn, rfl, ns2, ho, hm, hb, hfr, hbk, hsz, hlen2⟩
            refine ⟨_, rfl, ?_⟩
            have hng : ∀ i, gx + i ∉ blocks ns' := fun i hi => by have := HLT.out _ hi; omega
            refine hK.out _ _ ⟨xv, bn, by rw [ha.out]; exact putSel_upk 2 hb_ rfl rfl rfl, fun h_ => absurd h_ (by simp [Go.Proofs.YtchgpcgolgcfdaaW.PrintLast.up]), fun _ => ⟨ns2, (hfr gx (blk_lt hP.1) (by omega) (hng 0)).trans hP.1, (hfr (gx + 1) (blk_lt hP.2.1) (by omega) (hng 1)).trans hP.2.1, ho, hm, hlen2, hb, Nat.le_trans hP.2.2.2.2.1 hsz, fun k hk hg hn => (hfr k (by have := hP.2.2.2.2.1; omega) hg hn).trans (hP.2.2.2.2.2 k hk hg), fun k hk => (hbk k hk).imp id (fun h => Nat.le_trans hP.2.2.2.2.1 h)⟩⟩
          exact steps_nil
        rintro b a w25 hall ⟨xv, bv, ha, Q_PRE, Q_POST⟩
        have hb3_ := hall 3 (by kernel_rfl)
        have hb5_ := hall 5 (by kernel_rfl)
        have hb6_ := hall 6 (by kernel_rfl)
        subst ha
        simp only [putSel, hb3_, hb5_, hb6_, if_true, Act.put, List.setIfInBounds_toArray, List.set_cons_zero, List.set_cons_succ]
        have POST := Aside0.mk (Q_POST hb6_)
        clear hall hb3_ hb5_ hb6_ Q_PRE Q_POST
        obtain ⟨ns2, p1, p2, p3, p4, p5, p6, p7, p8, p9⟩ := POST.out
        clear POST
        obtain ⟨a2, _, _, _, c16, c17, _, f16, f17, _⟩ := p3.cells
        have HSS := HS.out
        have hz1 := HSZ2.out
        have P3 := Aside0.mk p3
        have b0 : w25.cell? ⟨gx, 0, none⟩ = some (.string x.f0) := (blk_cell p1 0).trans rfl
        have b1 : w25.cell? ⟨gx, 1, none⟩ = some (.string x.f1) := (blk_cell p1 1).trans rfl
        have e1 : w25.cell? ⟨gx + 1, 1, none⟩ = some (.int .u64 (eOf first j x).f1) := (blk_cell p2 1).trans rfl
        have PP := Aside0.mk (And.intro p4 (And.intro p5 (And.intro p6 (And.intro p7 (And.intro p8 p9)))))
        clear p1 p2 p3 p4 p5 p6 p7 p8 p9
        have v1 : IntKind.i64.wrap (sz + (x.f0.size : Int)) = sz + (x.f0.size : Int) := by rw [IntKind.wrap_i64]; omega
        have v2 : IntKind.i64.wrap (sz + (x.f0.size : Int) + (x.f1.size : Int)) = sz + (x.f0.size : Int) + (x.f1.size : Int) := by rw [IntKind.wrap_i64]; omega
        have v3 : IntKind.i64.wrap (sz + (x.f0.size : Int) + (x.f1.size : Int) + 16) = sz + (x.f0.size : Int) + (x.f1.size : Int) + 16 := by rw [IntKind.wrap_i64]; omega
        go_wp2_with (fail)
        go_still_tail 15, (by kernel_rfl)
        change wpList _ _ _ _ _ w25.drew
        go_wp2_with (fail)
        go_roundw
        case rel =>
          obtain ⟨p4, p5, p6, p7, p8, p9⟩ := PP.out
          have hge := P3.out.ge
          refine ⟨j + 1, ns2, min (sz + (x.f0.size : Int) + (x.f1.size : Int) + 16) 4611686018427387904, (eOf first j x).f1, by go_num, by omega, ⟨by have := HN.out; omega⟩, ⟨?_⟩, ⟨?_⟩, ⟨by omega⟩, ⟨fun _ => ?_⟩, ⟨?_⟩, ⟨?_⟩, ⟨?_⟩, ⟨?_⟩⟩
          · exact ((P3.out.turn (i := 16) (u := .int .i64 (min (sz + (x.f0.size : Int) + (x.f1.size : Int) + 16) 4611686018427387904)) (s' := min (sz + (x.f0.size : Int) + (x.f1.size : Int) + 16) 4611686018427387904) (l' := la) (fun _ _ _ => rfl)).turn (i := 17) (u := .int .u64 (eOf first j x).f1) (l' := (eOf first j x).f1) (fun _ _ _ => rfl)).below (below_drew (Below.refl _ _))
          · have h1 := HE.out
            rw [HD.out.1] at h1
            exact ⟨h1.1, by rw [p4]; exact h1.2⟩
          · show first + (j : Int) = first + ((j + 1 : Nat) : Int) - 1
            omega
          · exact below_drew (below_set (below_set p6 hge) hge)
          · intro k h1 h2 h3
            refine (Below.heap_setCell _ ⟨g, 17, none⟩ _ k h2).trans ((Below.heap_setCell _ ⟨g, 16, none⟩ _ k h2).trans ((p8 k (by have := HSZ.out; omega) h2 (fun hk => ?_)).trans (HFR.out k h1 h2 h3)))
            rcases HBK.out k hk with hk | hk
            · exact h3 hk
            · omega
          · intro k hk
            rcases p9 k hk with hk | hk
            · exact HBK.out k hk
            · exact Or.inr (Nat.le_trans HSZ.out hk)
          · have := HSZ.out
            simp
            omega
        case measure => simp [intOf]; omega
    · obtain rfl : j = W.length := by omega
      have t0 : decide ((W.length : Int) < (W.length : Int)) = false := decide_eq_false (by omega)
      have hw3 : IntKind.u64.wrap (first + (W.length : Int)) = first + (W.length : Int) := by rw [IntKind.wrap_u64]; have := HF.out; omega
      go_wp2_with (fail)
      go_ret2
      have h1 := HE.out
      rw [List.drop_length] at h1
      have h2 := HLA.out (by have := HW.out.2; omega)
      refine ⟨rfl, ns', ?_, h1.2, HB.out, HFR.out, HBK.out⟩
      rw [← h2]
      have h3 : sz = sizeL W size := h1.1
      rw [← h3]
      exact H.out
end Go.Proofs.Ytchgpcgolgcfdaa.Mt
