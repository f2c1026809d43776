/- Changes of a directory. -/
import Derived.Test.YtimcibifghidjaaFs2
import Derived.Test.YtimcibifghidjaaWPu
namespace Go.Proofs.Ytimcibifghidjaa.Fs
open Go Go.RowKit Go.Maps Go.Proofs.Ytimcibifghidjaa.PFil Go.Proofs.Ytimcibifghidjaa.FsM Go.Proofs.YtimcibifghidjaaW.PrintWords Go.Proofs.YtimcibifghidjaaW.PrintLast Go.Proofs.YtimcibifghidjaaW.PrintMore
set_option linter.unusedVariables false
set_option linter.unusedSimpArgs false
theorem toList_nil {s : ByteArray} (h : bs s = []) : (s.toList == ([] : List UInt8)) = true := by
  rw [Go.Proofs.YtimcibifghidjaaW.Pu.toList_data]
  exact beq_iff_eq.mpr h
theorem toList_cons {s : ByteArray} (h : bs s ≠ []) : (s.toList == ([] : List UInt8)) = false := by
  rw [Go.Proofs.YtimcibifghidjaaW.Pu.toList_data]
  exact beq_eq_false_iff_ne.mpr h
set_option maxHeartbeats 8000000 in
set_option maxRecDepth 100000 in
theorem apply_made (w : World) (b m : Nat) (d : Dir) (c : Ch) (hO : Own w b d) (hf : bs c.from_ = []) (ht : bs c.to_ ≠ []) (hm : c.made = some m) (hz : c.to_.size ≤ 140737488355328) (hd : d.length ≤ 1000000) :
    Calls Try.prog 38 #[.agg #[.string c.from_, .string c.to_, pO c.made], .map (some b)] w fun e w' => e = .returned (.tuple #[]) ∧ Own w' b (put d (bs c.to_) m) ∧ w.grownBy w' (some b) := by
  have k1 := toList_nil hf
  have k2 := toList_cons ht
  have HO := Aside0.mk hO
  have HKY := Aside0.mk (keyS c.to_ hz)
  rw [hm]
  obtain ⟨D, ho, hv⟩ := hO.below (below_alloc (Below.refl _ w) (.cells #[.string c.from_, .string c.to_, .pointer (some ⟨m, 0, none⟩)] 64))
  have HD := Aside0.mk ho
  have HV := Aside0.mk hv
  unfold pO
  clear hf ht hO hm hz ho hv HO
  go_enter Try.func38, Try.ntmps38
  go_wp2_with (first | (at_mapUpdate; refine wpList_mapUpdate_own _ rfl _ _ _ 52 rfl 9 58 law Try.underlying52 RB b _ D rfl HD.out (by unfold maxLen; omega) _ _ (ky (bs c.to_)) rfl rfl HKY.out (dB m) [] (RB_mk m) ?_; intro w1 hown1 hgrow1))
  first | go_end0 | ((try simp only [Exit.inBlock, Exit.then]); refine bodyPost_ret (results_none rfl _ _ _) rfl ?_)
  exact ⟨rfl, own_of hown1 (HV.out.put _ _), (World.grownBy_alloc w _ (some b)).andThen hgrow1 (fun j hj => .inr hj)⟩
set_option maxHeartbeats 8000000 in
set_option maxRecDepth 100000 in
theorem apply_ren (w : World) (b m : Nat) (d : Dir) (c : Ch) (hO : Own w b d) (hf : bs c.from_ ≠ []) (ht : bs c.to_ ≠ []) (hm : lk d (bs c.from_) = some m) (hy : c.from_.size ≤ 140737488355328) (hz : c.to_.size ≤ 140737488355328) (hd : d.length ≤ 1000000) :
    Calls Try.prog 38 #[.agg #[.string c.from_, .string c.to_, pO c.made], .map (some b)] w fun e w' => e = .returned (.tuple #[]) ∧ Own w' b (put (del d (bs c.from_)) (bs c.to_) m) ∧ w.grownBy w' (some b) := by
  have k1 := toList_cons hf
  have k2 := toList_cons ht
  have hblt := hO.lt
  have HKY := Aside0.mk (keyS c.to_ hz)
  have HKF := Aside0.mk (keyS c.from_ hy)
  have hO1 := hO.below (below_alloc (Below.refl _ w) (.cells #[.string c.from_, .string c.to_, pO c.made] 64))
  have hlk := look_run hO1 c.from_ hy
  rw [hm] at hlk
  obtain ⟨D, ho, hv⟩ := hO1
  have HD := Aside0.mk ho
  have HV := Aside0.mk hv
  have HX := Aside0.mk (blk_new w (.cells #[.string c.from_, .string c.to_, pO c.made] 64))
  unfold pO at hlk HD HX ⊢
  generalize hpm : Option.map (fun b => (⟨b, 0, none⟩ : Addr)) c.made = pm at *
  clear hf ht hO hm hz ho hv hy
  go_enter Try.func38, Try.ntmps38
  go_wp2_with (first | (at_delete; refine wpList_delete_own _ rfl _ _ 52 9 rfl 58 law Try.underlying52 RB b _ D rfl HD.out _ _ rfl HKF.out ?_; intro w1 hown1 hturn1; have HO1 := Aside0.mk hown1; have HG1 := Aside0.mk hturn1.grown; clear hown1 hturn1; have z1 : w1.cell? ⟨w.heap.size, 1, none⟩ = some (.string c.to_) := (blk_cell ((HG1.out.block _ (blk_lt HX.out) (fun e => by injection e with e; omega)).trans HX.out) 1).trans rfl) | (at_mapUpdate; refine wpList_mapUpdate_own _ rfl _ _ _ 52 rfl 9 58 law Try.underlying52 RB b _ _ rfl HO1.out (by unfold maxLen; omega) _ _ (ky (bs c.to_)) rfl rfl HKY.out (dB m) [] (RB_mk m) ?_; intro w2 hown2 hgrow2))
  first | go_end0 | ((try simp only [Exit.inBlock, Exit.then]); refine bodyPost_ret (results_none rfl _ _ _) rfl ?_)
  exact ⟨rfl, own_of hown2 ((HV.out.del _).put _ _), ((World.grownBy_alloc w _ (some b)).andThen HG1.out (fun j hj => .inr hj)).andThen hgrow2 (fun j hj => .inr hj)⟩
set_option maxHeartbeats 8000000 in
set_option maxRecDepth 100000 in
theorem apply_rem (w : World) (b m : Nat) (d : Dir) (c : Ch) (hO : Own w b d) (hf : bs c.from_ ≠ []) (ht : bs c.to_ = []) (hm : lk d (bs c.from_) = some m) (hy : c.from_.size ≤ 140737488355328) :
    Calls Try.prog 38 #[.agg #[.string c.from_, .string c.to_, pO c.made], .map (some b)] w fun e w' => e = .returned (.tuple #[]) ∧ Own w' b (del d (bs c.from_)) ∧ w.grownBy w' (some b) := by
  have k1 := toList_cons hf
  have k2 := toList_nil ht
  have hblt := hO.lt
  have HKF := Aside0.mk (keyS c.from_ hy)
  have hO1 := hO.below (below_alloc (Below.refl _ w) (.cells #[.string c.from_, .string c.to_, pO c.made] 64))
  have hlk := look_run hO1 c.from_ hy
  rw [hm] at hlk
  obtain ⟨D, ho, hv⟩ := hO1
  have HD := Aside0.mk ho
  have HV := Aside0.mk hv
  have HX := Aside0.mk (blk_new w (.cells #[.string c.from_, .string c.to_, pO c.made] 64))
  unfold pO at hlk HD HX ⊢
  generalize hpm : Option.map (fun b => (⟨b, 0, none⟩ : Addr)) c.made = pm at *
  clear hf ht hO hm ho hv hy
  go_enter Try.func38, Try.ntmps38
  go_wp2_with (first | (at_delete; refine wpList_delete_own _ rfl _ _ 52 9 rfl 58 law Try.underlying52 RB b _ D rfl HD.out _ _ rfl HKF.out ?_; intro w1 hown1 hturn1; have HO1 := Aside0.mk hown1; have HG1 := Aside0.mk hturn1.grown; clear hown1 hturn1; have z1 : w1.cell? ⟨w.heap.size, 1, none⟩ = some (.string c.to_) := (blk_cell ((HG1.out.block _ (blk_lt HX.out) (fun e => by injection e with e; omega)).trans HX.out) 1).trans rfl))
  first | go_end0 | ((try simp only [Exit.inBlock, Exit.then]); refine bodyPost_ret (results_none rfl _ _ _) rfl ?_)
  exact ⟨rfl, own_of HO1.out (HV.out.del _), (World.grownBy_alloc w _ (some b)).andThen HG1.out (fun j hj => .inr hj)⟩
/-- What a change makes of a directory. -/
def ap (c : Ch) (d : Dir) : Dir := if bs c.from_ = [] then (match c.made with | some m => put d (bs c.to_) m | none => d) else (match lk d (bs c.from_) with | some m => if bs c.to_ = [] then del d (bs c.from_) else put (del d (bs c.from_)) (bs c.to_) m | none => d)
/-- Can it be done? -/
def okC (c : Ch) (d : Dir) : Prop := c.from_.size ≤ 140737488351232 ∧ c.to_.size ≤ 140737488351232 ∧ ((bs c.from_ = [] ∧ bs c.to_ ≠ [] ∧ ∃ m, c.made = some m) ∨ (bs c.from_ ≠ [] ∧ ∃ m, lk d (bs c.from_) = some m))
theorem apply_calls (w : World) (b : Nat) (d : Dir) (c : Ch) (hO : Own w b d) (hc : okC c d) (hd : d.length ≤ 1000000) :
    Calls Try.prog 38 #[.agg #[.string c.from_, .string c.to_, pO c.made], .map (some b)] w fun e w' => e = .returned (.tuple #[]) ∧ Own w' b (ap c d) ∧ w.grownBy w' (some b) := by
  obtain ⟨h1, h2, ⟨hf, ht, m, hm⟩ | ⟨hf, m, hm⟩⟩ := hc
  · have e : ap c d = put d (bs c.to_) m := by unfold ap; rw [if_pos hf, hm]
    rw [e]
    exact apply_made w b m d c hO hf ht hm (by omega) hd
  · by_cases ht : bs c.to_ = []
    · have e : ap c d = del d (bs c.from_) := by unfold ap; rw [if_neg hf, hm]; simp only []; rw [if_pos ht]
      rw [e]
      exact apply_rem w b m d c hO hf ht hm (by omega)
    · have e : ap c d = put (del d (bs c.from_)) (bs c.to_) m := by unfold ap; rw [if_neg hf, hm]; simp only []; rw [if_neg ht]
      rw [e]
      exact apply_ren w b m d c hO hf ht hm (by omega) (by omega) hd
theorem ap_len (c : Ch) (d : Dir) : (ap c d).length ≤ d.length + 1 := by
  have h1 : ∀ k, (del d k).length ≤ d.length := fun k => List.length_filter_le _ _
  have h2 : ∀ k k', (del (del d k) k').length ≤ d.length := fun k k' => Nat.le_trans (List.length_filter_le _ _) (h1 k)
  unfold ap
  split
  · split
    · unfold put; rw [List.length_append]; have := h1 (bs c.to_); simp; omega
    · omega
  · split
    · split
      · have := h1 (bs c.from_); omega
      · unfold put; rw [List.length_append]; have := h2 (bs c.from_) (bs c.to_); simp; omega
    · omega
theorem ap_mem {c : Ch} {d : Dir} {p : K8 × Nat} (h : p ∈ ap c d) : p ∈ d ∨ c.made = some p.2 ∨ ∃ q ∈ d, q.2 = p.2 := by
  unfold ap at h
  split at h
  · split at h
    · rename_i m hm
      rcases mem_put h with h | h
      · exact Or.inl h
      · exact Or.inr (Or.inl (by rw [hm, h]))
    · exact Or.inl h
  · split at h
    · rename_i m hm
      split at h
      · exact Or.inl (mem_del h)
      · rcases mem_put h with h | h
        · exact Or.inl (mem_del h)
        · exact Or.inr (Or.inr ⟨_, lk_mem hm, by rw [h]⟩)
    · exact Or.inl h
end Go.Proofs.Ytimcibifghidjaa.Fs
