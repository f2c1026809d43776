/- Names of a file system; how many stay. -/
import Derived.Test.YtimcibifghidjaaFs7
namespace Go.Proofs.Ytimcibifghidjaa.Fs
open Go Go.RowKit Go.Maps Go.Sort Go.Proofs.Ytimcibifghidjaa.PFil Go.Proofs.Ytimcibifghidjaa.FsM Go.Proofs.YtimcibifghidjaaW.PrintWords Go.Proofs.YtimcibifghidjaaW.PrintLast Go.Proofs.YtimcibifghidjaaW.PrintMore
set_option linter.unusedVariables false
set_option linter.unusedSimpArgs false
/-- How many of n stay. -/
def partN (keep : Int) (n : Nat) : Nat := (keep % (n + 1 : Int)).toNat
theorem partN_le (keep : Int) (n : Nat) : partN keep n ≤ n := by
  unfold partN
  have h1 := Int.emod_lt_of_pos keep (show (0 : Int) < n + 1 by omega)
  omega
theorem partN_cast (keep : Int) (n : Nat) : (partN keep n : Int) = keep % (n + 1 : Int) := by
  unfold partN
  have h1 := Int.emod_nonneg keep (show (n + 1 : Int) ≠ 0 by omega)
  omega
theorem part_ev (keep : Int) (n : Nat) (hn : n ≤ 4611686018427387904) : file_part.f keep (n : Int) = some (partN keep n : Int) := by
  have hw : wrap64 ((n : Int) + 1) = (n : Int) + 1 := by unfold wrap64; omega
  have h0 := Int.emod_nonneg keep (show (n + 1 : Int) ≠ 0 by omega)
  have h1 := Int.emod_lt_of_pos keep (show (0 : Int) < n + 1 by omega)
  have hm := Int.tmod_eq_emod (a := keep) (b := (n : Int) + 1)
  unfold file_part.f
  rw [hw, if_neg (by omega), partN_cast]
  have hna : (((n : Int) + 1).natAbs : Int) = (n : Int) + 1 := by omega
  by_cases hc : 0 ≤ keep ∨ ((n : Int) + 1) ∣ keep
  · rw [if_pos hc] at hm
    rw [if_neg (by omega), hm]
    simp
  · rw [if_neg hc, hna] at hm
    rw [if_pos (by omega)]
    have e : Int.tmod keep (n + 1) + (n + 1) = keep % (n + 1) := by omega
    rw [e]
    have : wrap64 (keep % ((n : Int) + 1)) = keep % ((n : Int) + 1) := by unfold wrap64; omega
    rw [this]
/-- The names, in order. -/
def ks (d : Dir) : List K8 := (d.map (·.1)).mergeSort (fun x y => decide (x ≤ y))
def nm (d : Dir) : List ByteArray := (ks d).map fun k => ⟨k.toArray⟩
theorem ks_len (d : Dir) : (ks d).length = d.length := by unfold ks; rw [List.length_mergeSort, List.length_map]
theorem nm_len (d : Dir) : (nm d).length = d.length := by unfold nm; rw [List.length_map, ks_len]
theorem ks_mem (d : Dir) (k : K8) : k ∈ ks d ↔ k ∈ d.map (·.1) := by unfold ks; rw [List.mem_mergeSort]
theorem bs_mk (k : K8) : bs (⟨k.toArray⟩ : ByteArray) = k := by simp [bs]
theorem nm_row {V : World} {base : Nat} {v : Value} {ss : List K8} {d : Dir} {D : DataW Unit} (hV : View D d) (hS : ss.Perm (strKeys D)) (h : V.ownsRow base 9 1 v ss.length ((ss.mergeSort (fun x y => decide (x ≤ y))).map encStr)) : Kd.string.R 9 V base (fun k => v.ownBlock = some k) v (nm d) := by
  have e : ss.mergeSort (fun x y => decide (x ≤ y)) = ks d := mergeSort_of_perm (hS.trans hV.keys)
  have e2 : ss.length = (nm d).length := by
    rw [← List.length_mergeSort (le := fun x y => decide (x ≤ y)) ss, e]
    simp [nm]
  rw [e, e2] at h
  refine Kd.R_of_own (enc := Value.string) ?_ (fun _ hk => hk)
  have e3 : (ks d).map encStr = encs Value.string (nm d) := by simp [encs, nm]
  rw [e3] at h
  exact h
/-- slices.Sorted(maps.Keys(m)), as one. -/
theorem sorted_keys {w : World} {b : Nat} {d : Dir} (h : Own w b d) (hd : d.length ≤ 1000000) :
    Calls Try.prog 39 #[.func (.func 49) #[] #[.pointer (some ⟨w.heap.size, 0, none⟩)]] (w.alloc (.cells #[.map (some b)] 52)) fun e w' => ∃ A c, e = .returned (.slice A (nm d).length c) ∧ Kd.string.R 9 w' w.heap.size (fun k => (Value.slice A (nm d).length c).ownBlock = some k) (.slice A (nm d).length c) (nm d) ∧ Below w.heap.size w w' := by
  obtain ⟨D, h1, h2⟩ := h
  have hsz := h2.size
  refine (callsIn_wide.1 (Try.slices_Sorted_keys_39_40 b _ D RB w h1 (by unfold maxLen; omega) (by omega))).mono ?_
  rintro e w' ⟨v, ss, rfl, hS, hrow, hnil, hb⟩
  have hr := nm_row h2 hS hrow
  obtain ⟨A, c, rfl⟩ := Kd.R_slice hr
  exact ⟨A, c, rfl, Kd.R_lower hr (by simp), below_step (below_alloc (Below.refl _ w) _) hb⟩
set_option maxHeartbeats 8000000 in
set_option maxRecDepth 100000 in
theorem names_calls {w0 w : World} {g ma ms : Nat} {vp : Value} {S : Sy} (h : Fx w0 w g ma ms vp S) (ho : S.on = true) (hd : S.at_.length ≤ 1000000) :
    Calls Try.prog 16 #[.pointer (some ⟨g, 0, none⟩)] w fun e w' => (∃ A c, e = .returned (.slice A (nm S.at_).length c) ∧ Kd.string.R 9 w' w.heap.size (fun k => (Value.slice A (nm S.at_).length c).ownBlock = some k) (.slice A (nm S.at_).length c) (nm S.at_)) ∧ Below w.heap.size w w' := by
  have HO := Aside0.mk (off_calls h)
  rw [ho] at HO
  have HS := Aside0.mk (sorted_keys h.oa hd)
  obtain ⟨_, _, _, _, _, _, _, c7, _⟩ := h.cells
  clear h ho
  go_enter Try.func16, Try.ntmps16
  go_wp2_with (first
    | (go_at_call 32; refine HO.out.mono ?_; rintro e w1 ⟨rfl, rfl⟩)
    | (go_at_call 40; refine (callsIn_wide.1 (Try.maps_Keys_40 _ _)).mono ?_; rintro e w2 ⟨rfl, rfl⟩)
    | (go_at_call 39; refine HS.out.mono ?_; rintro e w3 ⟨A, c, rfl, hr, hb⟩; have HR := Aside0.mk hr; have HB := Aside0.mk hb; clear hr hb))
  go_ret
  exact ⟨⟨_, _, rfl, HR.out⟩, HB.out⟩
end Go.Proofs.Ytimcibifghidjaa.Fs
