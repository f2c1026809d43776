/- A walk, written by a program of this session out of the translation (a printed Lean function, and that the Go code comes to its answer). Lean checks it. -/
import Derived.Test.YtkpjipfjhniddaaPNumx0
namespace Go.Proofs.Ytkpjipfjhniddaa.PNum
open Go.RowKit Go.Proofs.YtkpjipfjhniddaaW.PrintWords Go.Proofs.YtkpjipfjhniddaaW.PrintLast Go.Proofs.YtkpjipfjhniddaaW.PrintMore
attribute [local go_sem] max2_int min2_int max_two min_two max_three min_three max_four min_four   -- for this text's walks alone
set_option linter.unusedVariables false
set_option linter.unusedSimpArgs false

/-! ### num_Digits: function 23 -/
/-- A number's decimal digits, put ahead of what stands there. -/
def num_Digits.dg (n : Nat) (acc : List Int) : List Int := if n < 10 then (48 + (n : Int)) :: acc else num_Digits.dg (n / 10) ((48 + ((n % 10 : Nat) : Int)) :: acc)
def num_Digits.f (a0 : Int) : Option ByteArray := if -9223372036854775808 ≤ a0 ∧ a0 ≤ 9223372036854775807 then some (strOfNums (if a0 < 0 then 45 :: num_Digits.dg a0.natAbs [] else num_Digits.dg a0.natAbs [])) else none
/-- From place j of the array on stand these bytes. -/
def num_Digits.At (W : World) (b j : Nat) (L : List Int) : Prop := ∃ cells : Array Value, W.heap[b]? = some (.cells cells 92 (0, 0)) ∧ cells.size = 21 ∧ cells.toList.drop j = L.map (Value.int .u8)
theorem num_Digits.At.cell {W : World} {b j : Nat} {L : List Int} (h : num_Digits.At W b j L) (i : Nat) (hi : i < 21) : ∃ u, W.cell? ⟨b, i, none⟩ = some u := by
  obtain ⟨cells, hb, hs, _⟩ := h
  exact ⟨cells[i]'(by omega), (blk_cell hb i).trans (by simp [hs, hi])⟩
theorem num_Digits.At.free {W : World} {b j : Nat} {L : List Int} (h : num_Digits.At W b j L) (i : Nat) : W.frozen? ⟨b, i, none⟩ = false := by
  obtain ⟨cells, hb, _⟩ := h
  exact blk_frozen hb i
theorem num_Digits.At.put {W : World} {b i : Nat} {L : List Int} (h : num_Digits.At W b (i + 1) L) (hi : i < 21) (x : Int) : num_Digits.At (W.setCell ⟨b, i, none⟩ (.int .u8 x)) b i (x :: L) := by
  obtain ⟨cells, hb, hs, hd⟩ := h
  refine ⟨_, blk_set hb i _, by simpa using hs, ?_⟩
  rw [List.drop_eq_getElem_cons (by simp [hs, hi])]
  simp only [List.map_cons]
  congr 1
  · simp
  · rw [Array.toList_setIfInBounds, List.drop_set_of_lt (by omega), hd]
theorem num_Digits.At.str {W : World} {b j : Nat} {L : List Int} (h : num_Digits.At W b j L) (n : Nat) (hn : n = L.length) (c : Nat) :
    (convert 88 9 (.slice (some ⟨b, j, none⟩) n c)).run Try.prog W = .ok (.string (strOfNums L)) W := by
  subst hn
  refine run_convert_bytes_arg W 88 5 Try.underlying88 Try.underlying5 b j _ c L rfl (fun i hi => ?_) 9 Try.underlying9
  obtain ⟨cells, hb, hs, hd⟩ := h
  rw [blk_cell hb]
  have := congrArg (fun l => l[i]?) hd
  simp only [List.getElem?_drop, List.getElem?_map, Array.getElem?_toList] at this
  rw [this]
  simp [List.getD_eq_getElem?_getD, List.getElem?_eq_getElem hi]
theorem num_Digits.cut (B i : Nat) (X : Int) (hX : X = i) (hi : i < 21) (W : World) :
    (Instr.sliceAt 92 (.pointer (some ⟨B, 0, none⟩)) (some (.int .i64 X)) none none).run Try.prog W = .ok (.slice (some ⟨B, i, none⟩) (21 - i) (21 - i)) W := by
  subst hX
  have hz := Try.sizeOf5
  have h0 : (0 : Int) ≤ (i : Int) := by omega
  have h1 : (i : Int) ≤ 21 := by omega
  simp only [Instr.sliceAt, Sem.run_bind, run_underlying Try.underlying92, Result.andThen, Instr.sureAddr, Sem.run_pure, Instr.sliceBounds]
  rw [run_sliceBound W .i64 (i : Int) 21 _ h0 h1]
  simp only [hz, Sem.run_pure, Int.toNat_natCast, Nat.mul_one]
  rw [if_neg (by omega)]
  simp only [Addr.add, Nat.zero_add]
  split
  · rename_i hi0
    rw [hi0]
  · rfl
set_option maxHeartbeats 4000000 in
set_option maxRecDepth 100000 in
theorem num_Digits.calls (a0 : Int) (r : ByteArray) (w : World) (h : num_Digits.f a0 = some r) :
    Calls Try.prog 23 #[.int .i64 a0] w fun e w' => e = .returned (.string r) ∧ Below w.heap.size w w' := by
  unfold num_Digits.f at h
  split at h
  · rename_i hr
    have hN : a0.natAbs < 10 ^ 20 := by omega
    by_cases hneg : a0 < 0
    · have t0 : decide (a0 < 0) = true := decide_eq_true hneg
      have u0 : IntKind.u64.wrap (-(IntKind.u64.wrap a0)) = ((a0.natAbs : Nat) : Int) := by simp [IntKind.wrap, IntKind.bits, IntKind.signed]; omega
      rw [if_pos hneg] at h
      have HN := Aside0.mk hN
      have HN2 := Aside0.mk (show a0.natAbs ≤ 9223372036854775808 by omega)
      have HR := Aside0.mk (Option.some.inj h)
      clear h hN hr hneg
      go_enter Try.func23, Try.ntmps23
      go_wp2
      go_loopw [3, 5] (fun v3 v5 w' => ∃ (m i : Nat) (L : List Int), v3 = .int .u64 m ∧ v5 = .int .i64 ((i : Int) + 2) ∧ i ≤ 19 ∧ Aside0 (m < 10 ^ (i + 1)) ∧ Aside0 (m ≤ 9223372036854775808) ∧ Aside0 (L.length + i = 19) ∧ Aside0 (num_Digits.At w' w.heap.size (i + 2) L) ∧ Aside0 (num_Digits.dg m L = num_Digits.dg a0.natAbs []) ∧ Aside0 (Below w.heap.size w w')) (fun _ v5 _ => (intOf v5).toNat)
      case atStart => exact ⟨a0.natAbs, 19, [], rfl, rfl, by omega, HN, HN2, ⟨rfl⟩, ⟨⟨_, heap_alloc_new w _, rfl, rfl⟩⟩, ⟨rfl⟩, ⟨below_alloc (Below.refl _ _) _⟩⟩
      case round =>
        obtain ⟨m, i, L, rfl, rfl, hi2, HM, HM2, HL, HAt, HD, HB⟩ := hrel
        obtain ⟨u, hu⟩ := HAt.out.cell (i + 1) (by omega)
        have hf := HAt.out.free (i + 1)
        have hm0 : (0 : Int) ≤ (m : Int) := Int.natCast_nonneg _
        have hm1 : (m : Int) ≤ 18446744073709551615 := by have := HM2.out; omega
        have hput := Aside0.mk (HAt.out.put (by omega) (48 + (m : Int) % 10))
        have hbel := Aside0.mk ((HB.out).setCell (p := ⟨w.heap.size, i + 1, none⟩) (Nat.le_refl _) (.int .u8 (48 + (m : Int) % 10)))
        by_cases hlt : m < 10
        · have tz : ((m : Int) / 10 == 0) = true := by rw [beq_iff_eq]; omega
          have HLT := Aside0.mk hlt
          clear hlt
          have hcell : ∃ u2, (wr.setCell ⟨w.heap.size, i + 1, none⟩ (.int .u8 (48 + (m : Int) % 10))).cell? ⟨w.heap.size, i, none⟩ = some u2 := hput.out.cell i (by omega)
          obtain ⟨u2, hu2⟩ := hcell
          have hf2 := hput.out.free i
          have hput2 := Aside0.mk (hput.out.put (by omega) 45)
          have hs := hput2.out.str (21 - i) (by have := HL.out; simp; omega) (21 - i)
          have hcut := num_Digits.cut w.heap.size i ((i : Int) + 2 - 1 - 1) (by omega) (by omega)
          go_wp2
          go_ret
          have e : num_Digits.dg m L = (48 + (m : Int) % 10) :: L := by
            have h := HLT.out
            rw [num_Digits.dg, if_pos h, show (m : Int) % 10 = (m : Int) from by omega]
          exact ⟨by rw [← HR.out, ← HD.out, e]; rfl, hbel.out.setCell (p := ⟨w.heap.size, i, none⟩) (Nat.le_refl _) _⟩
        · have tz : ((m : Int) / 10 == 0) = false := by rw [beq_eq_false_iff_ne]; omega
          have HLT := Aside0.mk hlt
          clear hlt
          go_wp2
          have hp : ∃ p, i = p + 1 := by
            rcases Nat.eq_zero_or_pos i with h0 | h0
            · have h := HM.out
              rw [h0] at h
              have h2 := HLT.out
              omega
            · exact ⟨i - 1, by omega⟩
          obtain ⟨p, rfl⟩ := hp
          refine ⟨⟨m / 10, p, (48 + (m : Int) % 10) :: L, congrArg (Value.int .u64) (by omega), congrArg (Value.int .i64) (by omega), by omega, ⟨?_⟩, ⟨by have := HM2.out; omega⟩, ⟨by have := HL.out; simp; omega⟩, hput, ⟨?_⟩, hbel⟩, by simp [intOf]; omega⟩
          · have h := HM.out
            rw [Nat.pow_succ] at h
            generalize 10 ^ (p + 1) = q at h ⊢
            omega
          · have h := HD.out
            rw [num_Digits.dg, if_neg HLT.out, show ((m % 10 : Nat) : Int) = (m : Int) % 10 from by omega] at h
            exact h
    · have t0 : decide (a0 < 0) = false := decide_eq_false hneg
      have u0 : IntKind.u64.wrap a0 = ((a0.natAbs : Nat) : Int) := by simp [IntKind.wrap, IntKind.bits, IntKind.signed]; omega
      rw [if_neg hneg] at h
      have HN := Aside0.mk hN
      have HN2 := Aside0.mk (show a0.natAbs ≤ 9223372036854775808 by omega)
      have HR := Aside0.mk (Option.some.inj h)
      clear h hN hr hneg
      go_enter Try.func23, Try.ntmps23
      go_wp2
      go_loopw [3, 5] (fun v3 v5 w' => ∃ (m i : Nat) (L : List Int), v3 = .int .u64 m ∧ v5 = .int .i64 ((i : Int) + 2) ∧ i ≤ 19 ∧ Aside0 (m < 10 ^ (i + 1)) ∧ Aside0 (m ≤ 9223372036854775808) ∧ Aside0 (L.length + i = 19) ∧ Aside0 (num_Digits.At w' w.heap.size (i + 2) L) ∧ Aside0 (num_Digits.dg m L = num_Digits.dg a0.natAbs []) ∧ Aside0 (Below w.heap.size w w')) (fun _ v5 _ => (intOf v5).toNat)
      case atStart => exact ⟨a0.natAbs, 19, [], rfl, rfl, by omega, HN, HN2, ⟨rfl⟩, ⟨⟨_, heap_alloc_new w _, rfl, rfl⟩⟩, ⟨rfl⟩, ⟨below_alloc (Below.refl _ _) _⟩⟩
      case round =>
        obtain ⟨m, i, L, rfl, rfl, hi2, HM, HM2, HL, HAt, HD, HB⟩ := hrel
        obtain ⟨u, hu⟩ := HAt.out.cell (i + 1) (by omega)
        have hf := HAt.out.free (i + 1)
        have hm0 : (0 : Int) ≤ (m : Int) := Int.natCast_nonneg _
        have hm1 : (m : Int) ≤ 18446744073709551615 := by have := HM2.out; omega
        have hput := Aside0.mk (HAt.out.put (by omega) (48 + (m : Int) % 10))
        have hbel := Aside0.mk ((HB.out).setCell (p := ⟨w.heap.size, i + 1, none⟩) (Nat.le_refl _) (.int .u8 (48 + (m : Int) % 10)))
        by_cases hlt : m < 10
        · have tz : ((m : Int) / 10 == 0) = true := by rw [beq_iff_eq]; omega
          have HLT := Aside0.mk hlt
          clear hlt
          have hs := hput.out.str (20 - i) (by have := HL.out; simp; omega) (20 - i)
          have hcut := num_Digits.cut w.heap.size (i + 1) ((i : Int) + 2 - 1) (by omega) (by omega)
          go_wp2
          go_ret
          have e : num_Digits.dg m L = (48 + (m : Int) % 10) :: L := by
            have h := HLT.out
            rw [num_Digits.dg, if_pos h, show (m : Int) % 10 = (m : Int) from by omega]
          exact ⟨by rw [← HR.out, ← HD.out, e]; rfl, hbel.out⟩
        · have tz : ((m : Int) / 10 == 0) = false := by rw [beq_eq_false_iff_ne]; omega
          have HLT := Aside0.mk hlt
          clear hlt
          go_wp2
          have hp : ∃ p, i = p + 1 := by
            rcases Nat.eq_zero_or_pos i with h0 | h0
            · have h := HM.out
              rw [h0] at h
              have h2 := HLT.out
              omega
            · exact ⟨i - 1, by omega⟩
          obtain ⟨p, rfl⟩ := hp
          refine ⟨⟨m / 10, p, (48 + (m : Int) % 10) :: L, congrArg (Value.int .u64) (by omega), congrArg (Value.int .i64) (by omega), by omega, ⟨?_⟩, ⟨by have := HM2.out; omega⟩, ⟨by have := HL.out; simp; omega⟩, hput, ⟨?_⟩, hbel⟩, by simp [intOf]; omega⟩
          · have h := HM.out
            rw [Nat.pow_succ] at h
            generalize 10 ^ (p + 1) = q at h ⊢
            omega
          · have h := HD.out
            rw [num_Digits.dg, if_neg HLT.out, show ((m % 10 : Nat) : Int) = (m : Int) % 10 from by omega] at h
            exact h
  · cases h


/-! ### num_Unfix: function 26 -/
mutual
def num_Unfix.j0 : Nat → ByteArray → Int → Int → Bool → Option (Int × Int)
  | 0, _, _, _, _ => none
  | k + 1, x0, x1, x2, x10 => if x10 = true then (some (0, 1)) else (if x1 > (x0.size : Int) then (some (0, 5)) else (if (wrap64 ((x0.size : Int) - x1)) < x2 then (some (0, 5)) else (num_Unfix.l0 k x0 x1 0 x2 0)))
def num_Unfix.l0 : Nat → ByteArray → Int → Int → Int → Int → Option (Int × Int)
  | 0, _, _, _, _, _ => none
  | k + 1, x0, x1, x8, x34, x35 => if x35 < x34 then (if 0 ≤ (wrap64 (x1 + x35)) then (if (wrap64 (x1 + x35)) < (x0.size : Int) then (num_Unfix.l0 k x0 x1 (Go.bits .or .u64 (IntKind.u64.wrap (x8 * 256)) (IntKind.u64.wrap (bt x0 (wrap64 (x1 + x35))))) x34 (wrap64 (x35 + 1))) else (none)) else (none)) else (some (x8, 0))
end
def num_Unfix.f (k : Nat) (a0 : ByteArray) (a1 : Int) (a2 : Int) : Option (Int × Int) := if a2 < 1 then (num_Unfix.j0 k a0 a1 a2 true) else (if a2 > 8 then (num_Unfix.j0 k a0 a1 a2 true) else (num_Unfix.j0 k a0 a1 a2 (decide (a1 < 0))))
theorem num_Unfix.mono_l : ∀ k, (∀ y0 y1 y2 y3, LeO (num_Unfix.j0 k y0 y1 y2 y3) (num_Unfix.j0 (k + 1) y0 y1 y2 y3)) ∧ (∀ y0 y1 y2 y3 y4, LeO (num_Unfix.l0 k y0 y1 y2 y3 y4) (num_Unfix.l0 (k + 1) y0 y1 y2 y3 y4))
  | 0 => ⟨fun _ _ _ _ r h => by simp [num_Unfix.j0] at h, fun _ _ _ _ _ r h => by simp [num_Unfix.l0] at h⟩
  | k + 1 => by
    obtain ⟨ih0, ih1⟩ := num_Unfix.mono_l k
    refine ⟨?_, ?_⟩
    · intro y0 y1 y2 y3
      unfold num_Unfix.j0
      repeat' first
      | (with_reducible exact ih0 _ _ _ _)
      | (with_reducible exact ih1 _ _ _ _ _)
      | (with_reducible exact LeO.refl _)
      | (with_reducible exact LeO.none _)
      | (with_reducible refine LeO.ite ?_ ?_)
      | (with_reducible refine LeO.bind ?_ (fun _ => ?_))
      | exact ih0 _ _ _ _
      | exact ih1 _ _ _ _ _
      | exact LeO.none _
      | refine LeO.ite ?_ ?_
      | refine LeO.bind ?_ (fun _ => ?_)
    · intro y0 y1 y2 y3 y4
      unfold num_Unfix.l0
      repeat' first
      | (with_reducible exact ih0 _ _ _ _)
      | (with_reducible exact ih1 _ _ _ _ _)
      | (with_reducible exact LeO.refl _)
      | (with_reducible exact LeO.none _)
      | (with_reducible refine LeO.ite ?_ ?_)
      | (with_reducible refine LeO.bind ?_ (fun _ => ?_))
      | exact ih0 _ _ _ _
      | exact ih1 _ _ _ _ _
      | exact LeO.none _
      | refine LeO.ite ?_ ?_
      | refine LeO.bind ?_ (fun _ => ?_)
theorem num_Unfix.mono : ∀ a0 a1 a2 k, LeO (num_Unfix.f k a0 a1 a2) (num_Unfix.f (k + 1) a0 a1 a2) := by
  intro a0 a1 a2 k
  obtain ⟨ih0, ih1⟩ := num_Unfix.mono_l k
  unfold num_Unfix.f
  repeat' first
      | (with_reducible exact ih0 _ _ _ _)
      | (with_reducible exact ih1 _ _ _ _ _)
      | (with_reducible exact LeO.refl _)
      | (with_reducible exact LeO.none _)
      | (with_reducible refine LeO.ite ?_ ?_)
      | (with_reducible refine LeO.bind ?_ (fun _ => ?_))
      | exact ih0 _ _ _ _
      | exact ih1 _ _ _ _ _
      | exact LeO.none _
      | refine LeO.ite ?_ ?_
      | refine LeO.bind ?_ (fun _ => ?_)
set_option maxHeartbeats 8000000 in
set_option maxRecDepth 100000 in
theorem num_Unfix.calls (k : Nat) (a0 : ByteArray) (a1 : Int) (a2 : Int) (r1 : Int) (r2 : Int) (w : World) (h : num_Unfix.f k a0 a1 a2 = some (r1, r2)) :
    Calls Try.prog 26 #[.string a0, .int .i64 a1, .int .i64 a2] w fun e w' => e = .returned (.tuple #[.int .u64 r1, .int .i64 r2]) ∧ Drawn0 w w' := by
  have H : (if a2 < 1 then (num_Unfix.j0 k a0 a1 a2 true) else (if a2 > 8 then (num_Unfix.j0 k a0 a1 a2 true) else (num_Unfix.j0 k a0 a1 a2 (decide (a1 < 0))))) = some (r1, r2) := h
  clear h
  have HC4 := Aside0.mk H
  clear H
  go_enter Try.func26, Try.ntmps26
  go_upto_region 1 with (fail)
  go_cut [10] (fun v10 wc => ∃ (kq : Nat) (x10_3 : Bool), v10 = .bool x10_3 ∧ Aside0 (num_Unfix.j0 kq a0 a1 a2 x10_3 = some (r1, r2)) ∧ Aside0 (kq ≤ k) ∧ Drawn0 w wc)
  case first =>
    have H := HC4.out
    clear HC4
    by_cases c5 : a2 < 1
    · rw [if_pos c5] at H
      have c5b0 : decide (a2 < 1) = true := decide_eq_true c5
      clear c5
      (first | rw [c5b0] | (simp only [i64_w, i32_w]; rw [c5b0]) | skip)
      have H' := Aside0.mk H
      clear H
      go_wp2
      go_meet
      case rel => exact ⟨_, (true), (by first | rfl | (simp; done) | (simp [*]; done)), H', ⟨by first | omega | exact Nat.le_refl _⟩, by repeat (first | exact Drawn0.refl _ | apply Drawn0.step)⟩
    · rw [if_neg c5] at H
      have c5b0 : decide (a2 < 1) = false := decide_eq_false c5
      clear c5
      (first | rw [c5b0] | (simp only [i64_w, i32_w]; rw [c5b0]) | skip)
      by_cases c6 : a2 > 8
      · rw [if_pos c6] at H
        have c6b0 : decide (8 < a2) = true := decide_eq_true c6
        clear c6
        have H' := Aside0.mk H
        clear H
        go_wp2
        go_meet
        case rel => exact ⟨_, (true), (by first | rfl | (simp; done) | (simp [*]; done)), H', ⟨by first | omega | exact Nat.le_refl _⟩, by repeat (first | exact Drawn0.refl _ | apply Drawn0.step)⟩
      · rw [if_neg c6] at H
        have c6b0 : decide (8 < a2) = false := decide_eq_false c6
        clear c6
        have H' := Aside0.mk H
        clear H
        go_wp2
        go_meet
        case rel => exact ⟨_, (decide (a1 < 0)), (by first | rfl | (simp; done) | (simp [*]; done)), H', ⟨by first | omega | exact Nat.le_refl _⟩, by repeat (first | exact Drawn0.refl _ | apply Drawn0.step)⟩
  case rest =>
    clear HC4
    try clear c2
    try clear p2
    try clear c5
    try clear c5b0
    try clear c6
    try clear c6b0
    obtain ⟨kq, x10_3, rfl, HA, HJ3, ⟨mc3, rfl⟩⟩ := hcut
    cases kq with
    | zero => exact absurd HA.out (by simp [num_Unfix.j0])
    | succ kj3 =>
      have H := HA.out
      clear HA
      simp only [num_Unfix.j0] at H
      by_cases c7 : x10_3 = true
      · subst c7
        have H1 : (some (0, 1)) = some (r1, r2) := by rw [if_pos rfl] at H; exact H
        clear H
        have H := H1
        clear H1
        simp only [Option.some.injEq, Prod.mk.injEq] at H
        obtain ⟨rfl, rfl⟩ := H
        go_wp2
        go_ret2
        exact ⟨by first | rfl | (simp; done) | (simp [*]; done), by repeat (first | exact Drawn0.refl _ | apply Drawn0.step)⟩
      · replace c7 := Bool.eq_false_iff.mpr c7
        subst c7
        have H1 : (if a1 > (a0.size : Int) then (some (0, 5)) else (if (wrap64 ((a0.size : Int) - a1)) < a2 then (some (0, 5)) else (num_Unfix.l0 kj3 a0 a1 0 a2 0))) = some (r1, r2) := by rw [if_neg (show ¬ (false = true) by decide)] at H; exact H
        clear H
        have H := H1
        clear H1
        by_cases c8 : a1 > (a0.size : Int)
        · rw [if_pos c8] at H
          have c8b0 : decide ((a0.size : Int) < a1) = true := decide_eq_true c8
          clear c8
          simp only [Option.some.injEq, Prod.mk.injEq] at H
          obtain ⟨rfl, rfl⟩ := H
          go_wp2
          go_ret2
          exact ⟨by first | rfl | (simp; done) | (simp [*]; done), by repeat (first | exact Drawn0.refl _ | apply Drawn0.step)⟩
        · rw [if_neg c8] at H
          have c8b0 : decide ((a0.size : Int) < a1) = false := decide_eq_false c8
          clear c8
          by_cases c9 : (wrap64 ((a0.size : Int) - a1)) < a2
          · rw [if_pos c9] at H
            have c9b0 : decide ((wrap64 ((a0.size : Int) - a1)) < a2) = true := decide_eq_true c9
            clear c9
            simp only [Option.some.injEq, Prod.mk.injEq] at H
            obtain ⟨rfl, rfl⟩ := H
            go_wp2
            go_ret2
            exact ⟨by first | rfl | (simp; done) | (simp [*]; done), by repeat (first | exact Drawn0.refl _ | apply Drawn0.step)⟩
          · rw [if_neg c9] at H
            have c9b0 : decide ((wrap64 ((a0.size : Int) - a1)) < a2) = false := decide_eq_false c9
            clear c9
            have H' := Aside0.mk H
            clear H
            go_wp2
            go_loopg [8, 35] kj3 (fun kq v8 v35 w' => ∃ (x8_2 : Int) (x35_2 : Int), v8 = .int .u64 x8_2 ∧ v35 = .int .i64 x35_2 ∧ Aside0 (num_Unfix.l0 kq a0 a1 x8_2 a2 x35_2 = some (r1, r2)) ∧ Aside0 (kq ≤ kj3) ∧ Drawn0 w w')
            case atStart => exact ⟨(0), (0), (by first | rfl | (simp; done) | (simp [*]; done)), (by first | rfl | (simp; done) | (simp [*]; done)), H', ⟨Nat.le_refl _⟩, by repeat (first | exact Drawn0.refl _ | apply Drawn0.step)⟩
            case round =>
              clear H'
              try clear c2
              try clear p2
              try clear c3
              try clear c5
              try clear c5b0
              try clear c6
              try clear c6b0
              try clear p6
              try clear c7
              try clear c8
              try clear c8b0
              try clear c9
              try clear c9b0
              try clear p2
              obtain ⟨x8_2, x35_2, rfl, rfl, HA, HK2, ⟨m2, rfl⟩⟩ := hrel
              cases gk with
              | zero => exact absurd HA.out (by simp [num_Unfix.l0])
              | succ k2 =>
                have H := HA.out
                clear HA
                simp only [num_Unfix.l0] at H
                by_cases c10 : x35_2 < a2
                · rw [if_pos c10] at H
                  have c10b0 : decide (x35_2 < a2) = true := decide_eq_true c10
                  clear c10
                  obtain ⟨ji11, hji11⟩ : ∃ j_ : Int, (wrap64 (a1 + x35_2)) = j_ := ⟨_, rfl⟩
                  replace H : (if 0 ≤ (ji11) then (if (ji11) < (a0.size : Int) then (num_Unfix.l0 k2 a0 a1 (Go.bits .or .u64 (IntKind.u64.wrap (x8_2 * 256)) (IntKind.u64.wrap (bt a0 (ji11)))) a2 (wrap64 (x35_2 + 1))) else (none)) else (none)) = some (r1, r2) := by first | (rw [hji11] at H; exact H) | (simp only [hji11] at H ⊢; exact H)
                  have hji11w : (IntKind.i64.wrap (a1 + x35_2)) = ji11 := (i64_w _).trans hji11
                  by_cases c12 : 0 ≤ (ji11)
                  · rw [if_pos c12] at H
                    have c12b0 : decide (0 ≤ (ji11)) = true := decide_eq_true c12
                    clear c12
                    by_cases c13 : (ji11) < (a0.size : Int)
                    · rw [if_pos c13] at H
                      have c13b0 : decide ((ji11) < (a0.size : Int)) = true := decide_eq_true c13
                      clear c13
                      have H' := Aside0.mk H
                      clear H
                      have p14 : 0 ≤ ((ji11) : Int) := of_decide_eq_true (by first | (with_reducible assumption) | assumption)
                      have q14 : (ji11) < (a0.size : Int) := of_decide_eq_true (by first | (with_reducible assumption) | assumption)
                      have hx14 := bt_at a0 (ji11)
                      replace p14 := eq_true p14
                      replace q14 := eq_true q14
                      go_wp2
                      go_roundg k2
                      case measure => have := HJ3.out; have := HK2.out; omega
                      case rel => exact ⟨(Go.bits .or .u64 (IntKind.u64.wrap (x8_2 * 256)) (IntKind.u64.wrap (bt a0 (ji11)))), (wrap64 (x35_2 + 1)), (by first | rfl | (simp; done) | (simp only [← hji11] <;> (first | rfl | simp)) | (simp [*]; done)), (by first | rfl | (simp; done) | (simp [*]; done)), H', ⟨by have := HJ3.out; have := HK2.out; omega⟩, by repeat (first | exact Drawn0.refl _ | apply Drawn0.step)⟩
                    · rw [if_neg c13] at H
                      exact absurd H (by simp)
                  · rw [if_neg c12] at H
                    exact absurd H (by simp)
                · rw [if_neg c10] at H
                  have c10b0 : decide (x35_2 < a2) = false := decide_eq_false c10
                  clear c10
                  simp only [Option.some.injEq, Prod.mk.injEq] at H
                  obtain ⟨rfl, rfl⟩ := H
                  go_wp2
                  go_ret2
                  exact ⟨by first | rfl | (simp; done) | (simp [*]; done), by repeat (first | exact Drawn0.refl _ | apply Drawn0.step)⟩

end Go.Proofs.Ytkpjipfjhniddaa.PNum
