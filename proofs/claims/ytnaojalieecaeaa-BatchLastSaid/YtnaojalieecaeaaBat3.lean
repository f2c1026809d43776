/- Writes and Size of batch.Batch. -/
import Derived.Test.YtnaojalieecaeaaBat2
namespace Go.Proofs.Ytnaojalieecaeaa.Bat
open Go Go.RowKit Go.Maps Go.Sort Go.Proofs.Ytnaojalieecaeaa.PBat Go.Proofs.Ytnaojalieecaeaa.BatM Go.Proofs.YtnaojalieecaeaaW.PrintWords Go.Proofs.YtnaojalieecaeaaW.PrintLast Go.Proofs.YtnaojalieecaeaaW.PrintMore
set_option linter.unusedVariables false
set_option linter.unusedSimpArgs false
/-- The keys as texts. -/
def kb (l : List S27) : List ByteArray := (ks l).map fun k => ⟨k.toArray⟩
theorem kb_len (l : List S27) : (kb l).length = (writes l).length := by simp [kb, writes]
theorem bs_mk (k : List UInt8) : bs (⟨k.toArray⟩ : ByteArray) = k := by simp [bs]
theorem kb_row {V : World} {base n : Nat} {v : Value} {ss : List (List UInt8)} {l : List S27} (hS : ss.Perm (strKeys (D l))) (h : V.ownsRow base 9 1 v ss.length ((ss.mergeSort (fun x y => decide (x ≤ y))).map encStr)) : Kd.string.R 9 V base (fun _ => True) v (kb l) := by
  have e : ss.mergeSort (fun x y => decide (x ≤ y)) = ks l := mergeSort_of_perm hS
  have e2 : ss.length = (kb l).length := by
    rw [← List.length_mergeSort (le := fun x y => decide (x ≤ y)) ss, e]
    simp [kb]
  rw [e, e2] at h
  refine Kd.R_of_own (enc := Value.string) ?_ (fun _ _ => trivial)
  have e3 : (ks l).map encStr = encs Value.string (kb l) := by simp [encs, kb]
  rw [e3] at h
  exact h
theorem writes_at {l : List S27} {j : Nat} (h : j < (writes l).length) : ∃ k, rdOf ByteArray.empty (kb l) (j : Int) = ⟨k.toArray⟩ ∧ k ∈ ks l ∧ (writes l).take (j + 1) = (writes l).take j ++ [wr l k] := by
  have h2 : j < (ks l).length := by simpa [writes] using h
  refine ⟨(ks l)[j], ?_, List.getElem_mem h2, ?_⟩
  · simp [rdOf, kb, h2]
  · rw [List.take_succ_eq_append_getElem h]
    simp [writes]
theorem key_size {l : List S27} {V : World} {b : Nat} (h : Own V b l) {k : List UInt8} (hk : k ∈ ks l) : k.length ≤ maxLen := strKeys_le h Try.underlying9 k ((List.mergeSort_perm _ _).mem_iff.1 hk)
set_option maxHeartbeats 8000000 in
set_option maxRecDepth 100000 in
theorem writes_calls (w0 w : World) (g : Nat) (l : List S27) (hI : IsB w0 w g l) (hB : Below w0.heap.size w0 w) (hl : l.length < 1000000) :
    Calls Try.prog 9 #[.pointer (some ⟨g, 0, none⟩)] w fun e w' => ∃ v, e = .returned v ∧ Kd.R k27 27 w' w.heap.size (fun _ => True) v (writes l) ∧ Below w.heap.size w w' := by
  have hlt : g < w.heap.size := by
    obtain ⟨m, hm⟩ := hI.blk
    exact blk_lt hm
  have HL := Aside0.mk hl
  have HB := Aside0.mk (Below.refl w.heap.size w)
  clear hl hB
  obtain ⟨hg, hc | ⟨b, hc, hb0, hown⟩⟩ := hI
  · obtain ⟨hc, rfl⟩ := hc
    have c0 : w.cell? ⟨g, 0, none⟩ = some (.map none) := (blk_cell hc 0).trans rfl
    clear hc hg
    go_enter Try.func9, Try.ntmps9
    go_wp2_with (first
      | (go_at_call 17; refine (callsIn_wide.1 (Try.maps_Keys_17 _ _)).mono ?_; rintro e w1 ⟨rfl, rfl⟩)
      | (go_at_call 16; refine (callsIn_wide.1 (Try.slices_Sorted_keys_nil_16_17 w)).mono ?_; rintro e w2 ⟨v, ss, rfl, hS, hrow, hnil, hb⟩; obtain rfl := hnil.2 hS; have n0_ := Aside0.mk (below_step (below_alloc HB.out _) hb); clear HB hS hrow hnil hb; have HB := n0_; clear n0_))
    go_loopw [3, 15] (fun v3 v15 w' => v3 = .slice none 0 0 ∧ v15 = .int .i64 0 ∧ Aside0 (Below w.heap.size w w')) (fun _ _ _ => 0)
    case atStart => exact ⟨rfl, rfl, ⟨HB.out⟩⟩
    case round =>
      obtain ⟨rfl, rfl, HB⟩ := hrel
      go_wp2_with (fail)
      go_ret
      exact ⟨_, rfl, by rw [writes_nil]; exact Kd.R_nil _ _ _ _ _, HB.out⟩
  · have c0 : w.cell? ⟨g, 0, none⟩ = some (.map (some b)) := (blk_cell hc 0).trans rfl
    have hsz : Maps.size (D l) ≤ l.length := World.ownsMap.size_le hown
    have HSZ := Aside0.mk hsz
    have HO0 := Aside0.mk hown
    have HI0 : Aside0 (IsB w0 w g l) := ⟨⟨hg, .inr ⟨b, hc, hb0, hown⟩⟩⟩
    have HC := Aside0.mk hc
    clear hc hg hb0 hown hsz
    go_enter Try.func9, Try.ntmps9
    go_wp2_with (first
      | (go_at_call 17; refine (callsIn_wide.1 (Try.maps_Keys_17 _ _)).mono ?_; rintro e w1 ⟨rfl, rfl⟩)
      | (go_at_call 16; refine (callsIn_wide.1 (Try.slices_Sorted_keys_16_17 b _ (D l) RW w HO0.out (by have := HSZ.out; have := HL.out; unfold maxLen; omega) (by have := HSZ.out; have := HL.out; omega))).mono ?_; rintro e w2 ⟨v, ss, rfl, hS, hrow, hnil, hb⟩; have n0_ := Aside0.mk (below_step (below_alloc HB.out _) hb); have HK0 := Aside0.mk (kb_row (n := 0) hS hrow); clear HB hS hrow hnil hb; have HB := n0_; clear n0_; obtain ⟨Ak, ck, rfl⟩ := Kd.R_slice HK0.out))
    have HE := Aside0.mk (kb_len l)
    have HN : Aside0 ((writes l).length ≤ l.length) := ⟨by rw [length_writes]; exact HSZ.out⟩
    have hlenk : (kb l).length ≤ 1000000 := by
      have h1 := HE.out
      have h2 := HN.out
      have h3 := HL.out
      omega
    go_loopw [3, 15] (fun v3 v15 w' => ∃ j : Nat, v15 = .int .i64 j ∧ j ≤ (kb l).length ∧ Aside0 (Kd.string.R 9 w' w.heap.size (fun _ => True) (.slice Ak (kb l).length ck) (kb l)) ∧ Aside0 (Kd.R k27 27 w' w.heap.size (fun _ => True) v3 ((writes l).take j)) ∧ Aside0 (Own w' b l) ∧ Aside0 (w'.heap[g]? = some (.cells #[.map (some b)] 39 (0, 0))) ∧ Aside0 (Below w.heap.size w w')) (fun _ v15 _ => (kb l).length - (intOf v15).toNat)
    case atStart => exact ⟨0, rfl, Nat.zero_le _, ⟨Kd.R_lower HK0.out (by simp)⟩, ⟨by rw [List.take_zero]; exact Kd.R_nil _ _ _ _ _⟩, ⟨Own.below HO0.out HB.out⟩, ⟨blk_below HC.out HB.out⟩, HB⟩
    case round =>
      obtain ⟨j, rfl, hj, HK, HR, HO, HF, HB⟩ := hrel
      by_cases hlk : j < (kb l).length
      · have p0 : (0 : Int) ≤ (j : Int) := Int.natCast_nonneg _
        have q0 : (j : Int) < ((kb l).length : Int) := Int.ofNat_lt.mpr hlk
        obtain ⟨_, _, hk2⟩ := Kd.R_reads' HK.out
        obtain ⟨ad, e0, hx0⟩ := Kd.at_string hk2 (j : Int) p0 q0
        cases e0
        clear hk2
        obtain ⟨k, hrd, hmem, htk⟩ := writes_at (l := l) (j := j) (by have := HE.out; omega)
        rw [hrd] at hx0
        simp only [Int.toNat_natCast] at hx0
        have HM := Aside0.mk hmem
        have HT := Aside0.mk htk
        clear hrd hmem htk
        have HKY : Aside0 (keyOf Try.prog 9 (.string ⟨k.toArray⟩) = some (ky k)) := ⟨by have h5 := WideMaps.keyOf_string_mk (P := Try.prog) (s := ⟨k.toArray⟩) Try.underlying9 (by have := key_size HO.out HM.out; show k.toArray.size ≤ maxLen; rw [List.size_toArray]; exact this); rw [h5]; rfl⟩
        have c2 : wr.cell? ⟨g, 0, none⟩ = some (.map (some b)) := (blk_cell HF.out 0).trans rfl
        have t0 : decide ((j : Int) < ((kb l).length : Int)) = true := decide_eq_true q0
        have HLW : Aside0 (((writes l).take j).length ≤ l.length) := ⟨by have := HN.out; simp; omega⟩
        go_wp2_with (first
          | (at_lookup; refine wpList_lookup_any _ rfl _ _ 37 rfl 9 27 law Try.underlying37 RW (zero27 _) (dW z27) [] (RW_mk z27) b _ (D l) rfl HO.out _ _ rfl HKY.out ?_; intro v ps hv; rw [wr_at] at hv; obtain rfl := RW_inv hv; clear hv)
          | ((with_reducible refine gate_builtin (b := .append) (xs := #[.tmp 19, .tmp 26]) rfl ?_); at_builtin; refine Kd.R_append k27 (w0 := w) w.heap.size rfl (.tmp 19) (.tmp 26) 22 27 (.agg #[(.string ⟨#[]⟩), (.string ⟨#[]⟩), (.bool false)]) 40 rfl Try.underlying22 info27 rfl (by decide) (by omega) u3 ((writes l).take j) (BatM.wr l k) [.string (BatM.wr l k).f0, .string (BatM.wr l k).f1, .bool (BatM.wr l k).f2] (fun _ => True) (fun _ => False) rfl rfl ?aP (fun _ hk => hk.elim) ?aF ?aO ?aB ?aS ?aL ?_; (case aP => exact k27_mkM _ _ _ _); (case aB => exact HB.out); (case aF => exact (fun _ _ => trivial)); (case aO => exact HR.out); (case aS => exact below_size HB.out); (case aL => have := HLW.out; have := HL.out; omega); intro v7 w7 ho hb hg hat; have HG := Aside0.mk hg; have HO7 := Aside0.mk ho; have HB7 := Aside0.mk hb; clear ho hb hg hat))
        go_roundw
        case rel => exact ⟨j + 1, by go_num, by omega, ⟨Kd.R_over HK.out HR.out (by decide) HG.out⟩, ⟨by rw [HT.out]; exact HO7.out⟩, ⟨World.ownsMap.kept HO.out HG.out (Own.row_ne HO.out HR.out)⟩, ⟨(HG.out.block g (blk_lt HF.out) (Kd.R_ne HR.out HF.out (by decide))).trans HF.out⟩, ⟨HB7.out⟩⟩
        case measure => simp [intOf]; omega
      · have hje : j = (kb l).length := by omega
        have HX : Aside0 ((writes l).take j = writes l) := ⟨by rw [hje, HE.out, List.take_length]⟩
        have t0 : decide ((j : Int) < ((kb l).length : Int)) = false := decide_eq_false (by omega)
        clear hje
        go_wp2_with (fail)
        go_ret
        exact ⟨_, rfl, by rw [← HX.out]; exact HR.out, HB.out⟩
end Go.Proofs.Ytnaojalieecaeaa.Bat
