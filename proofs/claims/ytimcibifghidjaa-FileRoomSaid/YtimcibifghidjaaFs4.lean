/- change, Create, Remove, Rename of a file system. -/
import Derived.Test.YtimcibifghidjaaFs3
namespace Go.Proofs.Ytimcibifghidjaa.Fs
open Go Go.RowKit Go.Maps Go.Proofs.Ytimcibifghidjaa.PFil Go.Proofs.Ytimcibifghidjaa.FsM Go.Proofs.YtimcibifghidjaaW.PrintWords Go.Proofs.YtimcibifghidjaaW.PrintLast Go.Proofs.YtimcibifghidjaaW.PrintMore
set_option linter.unusedVariables false
set_option linter.unusedSimpArgs false
theorem infoC : (Try.prog.info? 64).map (fun i => (i.zero, i.size, i.bytes)) = some (some (.agg #[(.string ⟨#[]⟩), (.string ⟨#[]⟩), (.pointer none)]), 3, 40) := by kernel_rfl
theorem opS_at (S : Sy) : (opS S).1.at_ = S.at_ ∧ (opS S).1.sy = S.sy ∧ (opS S).1.pend = S.pend ∧ (opS S).1.bd = S.bd := by
  unfold opS
  split <;> exact ⟨rfl, rfl, rfl, rfl⟩
set_option maxHeartbeats 8000000 in
set_option maxRecDepth 100000 in
theorem change_no {w0 w : World} {g ma ms : Nat} {vp : Value} {S : Sy} (h : Fx w0 w g ma ms vp S) (hB : Below w0.heap.size w0 w) (hs : 0 ≤ S.steps ∧ S.steps ≤ 4611686018427387904) (hl : S.fl ≤ 9223372036854775807) (e : Int) (he : e ≠ 0) (c : Ch) :
    Calls Try.prog 34 #[.pointer (some ⟨g, 0, none⟩), .int .i64 e, .agg #[.string c.from_, .string c.to_, pO c.made]] w fun ee w' => ee = .returned (.int .i64 (if (opS S).2 = true then 14 else e)) ∧ Fx w0 w' g ma ms vp (opS S).1 ∧ Below w0.heap.size w0 w' := by
  have HB0 : Aside0 (Below w.heap.size w (w.alloc (.cells #[.string c.from_, .string c.to_, pO c.made] 64))) := ⟨below_alloc (Below.refl _ w) _⟩
  have HG := Aside0.mk (op_calls (h.below HB0.out) (below_step hB HB0.out) hs hl)
  have s0 : (e == 0) = false := by rw [beq_eq_false_iff_ne]; exact he
  unfold pO at HG ⊢
  generalize hpm : Option.map (fun b => (⟨b, 0, none⟩ : Addr)) c.made = pm at *
  generalize opS S = R at *
  obtain ⟨S1, b⟩ := R
  clear h hB HB0 hpm
  cases b with
  | false =>
    go_enter Try.func34, Try.ntmps34
    go_wp2_with (first | (go_at_call 41; refine HG.out.mono ?_; rintro ee w1 ⟨rfl, hf, hb, _⟩; have HF := Aside0.mk hf; have HB := Aside0.mk hb; clear hf hb))
    go_ret
    exact ⟨rfl, HF.out, HB.out⟩
  | true =>
    go_enter Try.func34, Try.ntmps34
    go_wp2_with (first | (go_at_call 41; refine HG.out.mono ?_; rintro ee w1 ⟨rfl, hf, hb, _⟩; have HF := Aside0.mk hf; have HB := Aside0.mk hb; clear hf hb))
    go_ret
    exact ⟨rfl, HF.out, HB.out⟩
theorem ap_in {c : Ch} {d : Dir} {B : List Nat} (h : ∀ p ∈ d, p.2 ∈ B) (hm : ∀ b, c.made = some b → b ∈ B) {p : K8 × Nat} (hp : p ∈ ap c d) : p.2 ∈ B := by
  rcases ap_mem hp with h1 | h1 | ⟨q, h1, h2⟩
  · exact h p h1
  · exact hm _ h1
  · rw [← h2]
    exact h q h1
def ch4.T : Bool × List (List Nat × List Nat) := (true, [([], []), ([], []), ([1], [1]), ([2], [2]), ([3], [3]), ([], []), ([5], [5]), ([4, 6], [4, 6]), ([0, 0, 1, 2, 3, 4, 5, 6, 7], [0]), ([8, 0, 1, 2, 3, 4, 5, 6, 7], [8]), ([9, 7, 7, 0, 1, 2, 3, 4, 5, 6, 7], [7, 9])])
def ch4.B : List Nat := [0, 0, 2, 6, 14, 0, 32, 126, 255, 511, 1023]
theorem ch4.tab : rtab .any (opsOf Try.f34 4) = ch4.T := by kernel_rfl
theorem ch4.bits : waitsOk ch4.T.2 ch4.B = true := by kernel_rfl
set_option maxHeartbeats 8000000 in
set_option maxRecDepth 100000 in
theorem change_yes {w0 w : World} {g ma ms : Nat} {vp : Value} {S : Sy} (h : Fx w0 w g ma ms vp S) (hB : Below w0.heap.size w0 w) (hs : 0 ≤ S.steps ∧ S.steps ≤ 4611686018427387904) (hl : S.fl ≤ 9223372036854775807) (c : Ch) (hc : okC c S.at_) (hd : S.at_.length ≤ 1000000) (hp : S.pend.length ≤ 1000000) (hm : ∀ b, c.made = some b → b ∈ blks S.bd) :
    Calls Try.prog 34 #[.pointer (some ⟨g, 0, none⟩), .int .i64 0, .agg #[.string c.from_, .string c.to_, pO c.made]] w fun ee w' => ee = .returned (.int .i64 (if (opS S).2 = true then 14 else 0)) ∧ (∃ vp', Fx w0 w' g ma ms vp' {(opS S).1 with at_ := ap c S.at_, pend := S.pend ++ [c]}) ∧ Below w0.heap.size w0 w' := by
  have HB0 : Aside0 (Below w.heap.size w (w.alloc (.cells #[.string c.from_, .string c.to_, pO c.made] 64))) := ⟨below_alloc (Below.refl _ w) _⟩
  have HX := Aside0.mk (blk_new w (.cells #[.string c.from_, .string c.to_, pO c.made] 64))
  have HG := Aside0.mk (op_calls (h.below HB0.out) (below_step hB HB0.out) hs hl)
  have ho := opS_at S
  generalize opS S = R at *
  obtain ⟨S1, bf⟩ := R
  obtain ⟨e1, e2, e3, e4⟩ := ho
  have hlt := h.lt g (.inl rfl)
  clear h hB HB0
  go_enter Try.func34, Try.ntmps34
  go_wp2_with (first | (go_at_call 41; refine HG.out.mono ?_; rintro ee w1 ⟨rfl, hf, hb, hk⟩; have HF := Aside0.mk hf; have HB := Aside0.mk hb; have HX1 := Aside0.mk ((hk.2 w.heap.size (by omega)).trans HX.out); clear hf hb hk HX))
  have z0 : w1.cell? ⟨w.heap.size, 0, none⟩ = some (.string c.from_) := (blk_cell HX1.out 0).trans rfl
  have z1 : w1.cell? ⟨w.heap.size, 1, none⟩ = some (.string c.to_) := (blk_cell HX1.out 1).trans rfl
  have z2 : w1.cell? ⟨w.heap.size, 2, none⟩ = some (pO c.made) := (blk_cell HX1.out 2).trans rfl
  obtain ⟨_, _, _, _, _, _, _, c7, _⟩ := HF.out.cells
  unfold pO at z2 HX1 ⊢
  generalize hpm : Option.map (fun b => (⟨b, 0, none⟩ : Addr)) c.made = pm at *
  go_still_tail 5, (by kernel_rfl)
  change wpList _ _ _ _ _ w1.drew
  have HA := Aside0.mk (apply_calls w1.drew ma S1.at_ c (HF.out.oa.below (below_drew (Below.refl _ _))) (by rw [e1]; exact hc) (by rw [e1]; exact hd))
  unfold pO at HA
  rw [hpm] at HA
  have HHC := Aside0.mk hc
  have HHM := Aside0.mk hm
  clear c7 z0 z1 z2 hc hm
  go_wp2_with (first | (go_at_call 38; refine HA.out.mono ?_; rintro ee w2 ⟨rfl, ho, hg⟩; have HF2 := Aside0.mk ((HF.out.below (below_drew (Below.refl _ _))).dir ho hg (fun p hp => ap_in HF.out.ia (by rw [e4]; exact HHM.out) hp)); have HB2 := Aside0.mk (Below.grown (below_drew HB.out) hg (below_drew HB.out).size (fun k hk => by cases hk; exact HF.out.ga)); have HX2 := Aside0.mk ((hg.block w.heap.size (blk_lt (blk_drew HX1.out)) (fun e => by injection e with e; exact HF.out.oa.ne HX1.out e.symm)).trans (blk_drew HX1.out)); clear ho hg HA HX1))
  have HFS := Aside0.mk (HF2.out.below (below_drew (Below.refl _ _)))
  have HC9 := Aside0.mk HFS.out.cells.2.2.2.2.2.2.2.2.2
  have HX3 := Aside0.mk (blk_drew HX2.out)
  have HGB := Aside0.mk HFS.out.hd
  have GLT := Aside0.mk (blk_lt HFS.out.hd)
  have GNE : Aside0 (some g ≠ vp.ownBlock) := ⟨fun e => (HFS.out.apart.1 g e.symm).1 rfl⟩
  have HPR : Aside0 (Kd.R kCh 64 w2.drew w0.heap.size (fun _ => True) vp S1.pend) := ⟨Kd.R_mono HFS.out.pr (fun _ _ => trivial)⟩
  have HBS := Aside0.mk (below_drew HB2.out)
  have HPL : Aside0 (S1.pend.length ≤ 1000000) := ⟨by rw [e3]; exact hp⟩
  have HPM : Aside0 (∀ (W : World) (base : Nat) (ok : Nat → Prop), kCh.M W base ok c [.string c.from_, .string c.to_, .pointer pm]) := ⟨fun W base ok => by have h := kCh_mkM W base ok c; unfold pO at h; rw [hpm] at h; exact h⟩
  clear HF2 HB2 HX2 HF HB hpm
  generalize w.heap.size = gx at *
  refine start_ (n := 11) (S := fun w' => True) (ds := []) #[false, false, false, false, false, false, false, false, false, false, false] (by kernel_rfl) rfl rfl trivial (fun hHeld => ?_); refine with_tabW ch4.tab ch4.bits (fun HT_ HW_ => ?_)
  generalize w2.drew = wS at *
  refine pure_ (i := 0) (N := some 18) (v := ?_) (a' := ?_) #[true, false, false, false, false, false, false, false, false, false, false] rfl rfl (any_of HT_.out (by kernel_rfl)) (fun _ _ _ h => h) (Or.inl ⟨by rfl, ?_⟩) ?_ ?_
  rotate_left
  · intro w'
    go_simp
    with_reducible rfl
  rotate_left
  · simp only [Act.put, List.setIfInBounds_toArray, List.set_cons_zero, List.set_cons_succ, i64_w, i32_w]
    rfl
  refine pure_ (i := 1) (N := some 19) (v := ?_) (a' := ?_) #[true, true, false, false, false, false, false, false, false, false, false] rfl rfl (any_of HT_.out (by kernel_rfl)) (fun _ _ _ h => h) (Or.inl ⟨by rfl, ?_⟩) ?_ ?_
  rotate_left
  · intro w'
    go_simp
    with_reducible rfl
  rotate_left
  · simp only [Act.put, List.setIfInBounds_toArray, List.set_cons_zero, List.set_cons_succ, i64_w, i32_w]
    rfl
  refine pure_ (i := 2) (N := some 20) (v := ?_) (a' := ?_) #[true, true, true, false, false, false, false, false, false, false, false] rfl rfl (any_of HT_.out (by kernel_rfl)) (fun _ _ _ h => h) (Or.inl ⟨by rfl, ?_⟩) ?_ ?_
  rotate_left
  · intro w'
    go_simp
    with_reducible rfl
  rotate_left
  · simp only [Act.put, List.setIfInBounds_toArray, List.set_cons_zero, List.set_cons_succ, i64_w, i32_w]
    rfl
  refine pure_ (i := 3) (N := some 21) (v := ?_) (a' := ?_) #[true, true, true, true, false, false, false, false, false, false, false] rfl rfl (any_of HT_.out (by kernel_rfl)) (fun _ _ _ h => h) (Or.inl ⟨by rfl, ?_⟩) ?_ ?_
  rotate_left
  · intro w'
    go_simp
    with_reducible rfl
  rotate_left
  · simp only [Act.put, List.setIfInBounds_toArray, List.set_cons_zero, List.set_cons_succ, i64_w, i32_w]
    rfl
  refine inv_at [4, 5, 6, 7, 8, 9, 10] (fun a0_ b a w' => ∃ (vq : Value), a = putSel a0_ b [(4, 22, vp), (5, 23, .agg #[.string c.from_, .string c.to_, .pointer pm]), (6, 24, .slice (some ⟨wS.heap.size, 0, none⟩) 1 1), (7, 25, vq), (8, 26, .pointer (some ⟨g, 0, none⟩)), (9, 27, .pointer (some ⟨g, 9, none⟩))] ∧ (b 6 = false → w' = wS) ∧ (b 6 = true → b 7 = false → w' = wS.alloc (.cells #[.string c.from_, .string c.to_, .pointer pm] 64)) ∧ (b 7 = false → w'.cell? ⟨g, 9, none⟩ = some vp ∧ w'.heap[gx]? = some (.cells #[.string c.from_, .string c.to_, .pointer pm] 64 (0, 0))) ∧ (b 7 = true → b 10 = false → Kd.R kCh 64 w' w0.heap.size (fun _ => True) vq (S1.pend ++ [c]) ∧ Below w0.heap.size w0 w' ∧ wS.grownBy w' vp.ownBlock ∧ (vq.ownBlock = vp.ownBlock ∨ ∃ b, vq.ownBlock = some b ∧ wS.heap.size ≤ b)) ∧ (b 10 = true → ∃ W9 : World, Kd.R kCh 64 W9 w0.heap.size (fun _ => True) vq (S1.pend ++ [c]) ∧ Below w0.heap.size w0 W9 ∧ wS.grownBy W9 vp.ownBlock ∧ (vq.ownBlock = vp.ownBlock ∨ ∃ b, vq.ownBlock = some b ∧ wS.heap.size ≤ b) ∧ w' = W9.setCell ⟨g, 9, none⟩ vq)) HT_.out HW_.out (by kernel_rfl) (by kernel_rfl) ?_ ?_ ?_
  · exact ⟨.bool false, by simp only [putSel, Bool.false_eq_true, if_false], fun _ => rfl, fun h_ => absurd h_ (by decide), fun _ => ⟨HC9.out, HX3.out⟩, fun h_ => absurd h_ (by decide), fun h_ => absurd h_ (by decide)⟩
  · skip
    refine steps_cons ?_ ?_
    · rintro b a w' ⟨vq, ha, Q_W0, Q_W1, Q_PRE, Q_MID, Q_POST⟩ hb_ hon hoff
      refine ⟨_, rfl, fun K hK => ?_⟩
      have e21 : a.tmps[21]? = some (.pointer (some ⟨g, 9, none⟩)) := by rw [ha]; exact (putSel_off rfl).trans rfl
      replace ha := Aside0.mk ha
      have hP := (Q_PRE (hoff 7 (by kernel_rfl))).1
      refine value_ (w1 := w') (v := vp) (by rfl) rfl ?_ ?_
      · go_simp
        (try simp only [i64_w])
        try rfl
      refine hK.out _ _ ⟨vq, by rw [ha.out]; exact putSel_upk 0 hb_ rfl rfl rfl, Q_W0, Q_W1, Q_PRE, Q_MID, Q_POST⟩
    refine steps_cons ?_ ?_
    · rintro b a w' ⟨vq, ha, Q_W0, Q_W1, Q_PRE, Q_MID, Q_POST⟩ hb_ hon hoff
      refine ⟨_, rfl, fun K hK => ?_⟩
      have e5 : a.tmps[5]? = some (.pointer (some ⟨gx, 0, none⟩)) := by rw [ha]; exact (putSel_off rfl).trans rfl
      replace ha := Aside0.mk ha
      have hP := Q_PRE (hoff 7 (by kernel_rfl))
      have z0 : w'.cell? ⟨gx, 0, none⟩ = some (.string c.from_) := (blk_cell hP.2 0).trans rfl
      have z1 : w'.cell? ⟨gx, 1, none⟩ = some (.string c.to_) := (blk_cell hP.2 1).trans rfl
      have z2 : w'.cell? ⟨gx, 2, none⟩ = some (.pointer pm) := (blk_cell hP.2 2).trans rfl
      refine value_ (w1 := w') (v := .agg #[.string c.from_, .string c.to_, .pointer pm]) (by rfl) rfl ?_ ?_
      · go_simp
        (try simp only [i64_w])
        try rfl
      refine hK.out _ _ ⟨vq, by rw [ha.out]; exact putSel_upk 1 hb_ rfl rfl rfl, Q_W0, Q_W1, Q_PRE, Q_MID, Q_POST⟩
    refine steps_cons ?_ ?_
    · rintro b a w' ⟨vq, ha, Q_W0, Q_W1, Q_PRE, Q_MID, Q_POST⟩ hb_ hon hoff
      refine ⟨_, rfl, fun K hK => ?_⟩
      have e23 : a.tmps[23]? = some (.agg #[.string c.from_, .string c.to_, .pointer pm]) := by rw [ha]; exact putSel_on (e := (5, 23, .agg #[.string c.from_, .string c.to_, .pointer pm])) 1 rfl rfl (hon 5 (by kernel_rfl)) rfl
      replace ha := Aside0.mk ha
      have hP := Q_PRE (hoff 7 (by kernel_rfl))
      obtain rfl := Q_W0 hb_
      refine value_ (w1 := w'.alloc (.cells #[.string c.from_, .string c.to_, .pointer pm] 64)) (v := .slice (some ⟨w'.heap.size, 0, none⟩) 1 1) (by rfl) rfl ?_ ?_
      · go_simp
        (try simp only [i64_w])
        try rfl
      refine hK.out _ _ ⟨vq, by rw [ha.out]; exact putSel_upk 2 hb_ rfl rfl rfl, fun h_ => absurd h_ (by simp [Go.Proofs.YtimcibifghidjaaW.PrintLast.up]), fun _ _ => rfl, fun _ => ⟨pw_cell_below (below_alloc (Below.refl _ _) _) hP.1, blk_alloc hP.2 _⟩, fun h_ => absurd ((hoff 7 (by kernel_rfl)).symm.trans h_) (by decide), fun h_ => absurd ((hoff 10 (by kernel_rfl)).symm.trans h_) (by decide)⟩
    refine steps_cons ?_ ?_
    · rintro b a w' ⟨vq, ha, Q_W0, Q_W1, Q_PRE, Q_MID, Q_POST⟩ hb_ hon hoff
      refine ⟨_, rfl, fun K hK => ?_⟩
      have e22 : a.tmps[22]? = some (vp) := by rw [ha]; exact putSel_on (e := (4, 22, vp)) 0 rfl rfl (hon 4 (by kernel_rfl)) rfl
      have e24 : a.tmps[24]? = some (.slice (some ⟨wS.heap.size, 0, none⟩) 1 1) := by rw [ha]; exact putSel_on (e := (6, 24, .slice (some ⟨wS.heap.size, 0, none⟩) 1 1)) 2 rfl rfl (hon 6 (by kernel_rfl)) rfl
      replace ha := Aside0.mk ha
      obtain rfl := Q_W1 (hon 6 (by kernel_rfl)) hb_
      refine Kd.R_append_step kCh (w0 := w0) w0.heap.size (by rfl) (.tmp 22) (.tmp 24) 53 64 (.agg #[(.string ⟨#[]⟩), (.string ⟨#[]⟩), (.pointer none)]) 40 rfl Try.underlying53 infoC rfl (by decide) (by omega) vp S1.pend c [.string c.from_, .string c.to_, .pointer pm] (fun _ => True) (fun _ => False) (by simp only [Act.eval, Array.getD_eq_getD_getElem?, e22, Option.getD_some]) (by simp only [Act.eval, Array.getD_eq_getD_getElem?, e24, Option.getD_some]) ?aP (fun _ hk => hk.elim) (fun _ _ => trivial) ?aO ?aB ?aS ?aL ?_
      (case aP => exact HPM.out _ _ _)
      (case aO => exact HPR.out)
      (case aB => exact HBS.out)
      (case aS => exact HBS.out.size)
      (case aL => have := HPL.out; omega)
      intro vn w1 hr1 hb1 hg1 hat1
      refine hK.out _ _ ⟨vn, by rw [ha.out]; exact putSel_upk 3 hb_ rfl rfl rfl, fun h_ => absurd ((hon 6 (by kernel_rfl)).symm.trans h_) (by decide), fun _ h_ => absurd h_ (by simp [Go.Proofs.YtimcibifghidjaaW.PrintLast.up]), fun h_ => absurd h_ (by simp [Go.Proofs.YtimcibifghidjaaW.PrintLast.up]), fun _ _ => ⟨hr1, hb1, hg1, hat1⟩, fun h_ => absurd ((hoff 10 (by kernel_rfl)).symm.trans h_) (by decide)⟩
    refine steps_cons ?_ ?_
    · rintro b a w' ⟨vq, ha, Q_W0, Q_W1, Q_PRE, Q_MID, Q_POST⟩ hb_ hon hoff
      refine ⟨_, rfl, fun K hK => ?_⟩
      have e18 : a.tmps[18]? = some (.pointer (some ⟨g, 0, none⟩)) := by rw [ha]; exact (putSel_off rfl).trans rfl
      replace ha := Aside0.mk ha
      refine value_ (w1 := w') (v := .pointer (some ⟨g, 0, none⟩)) (by rfl) rfl ?_ ?_
      · go_simp
        (try simp only [i64_w])
        try rfl
      refine hK.out _ _ ⟨vq, by rw [ha.out]; exact putSel_upk 4 hb_ rfl rfl rfl, Q_W0, Q_W1, Q_PRE, Q_MID, Q_POST⟩
    refine steps_cons ?_ ?_
    · rintro b a w' ⟨vq, ha, Q_W0, Q_W1, Q_PRE, Q_MID, Q_POST⟩ hb_ hon hoff
      refine ⟨_, rfl, fun K hK => ?_⟩
      have e26 : a.tmps[26]? = some (.pointer (some ⟨g, 0, none⟩)) := by rw [ha]; exact putSel_on (e := (8, 26, .pointer (some ⟨g, 0, none⟩))) 4 rfl rfl (hon 8 (by kernel_rfl)) rfl
      replace ha := Aside0.mk ha
      refine value_ (w1 := w') (v := .pointer (some ⟨g, 9, none⟩)) (by rfl) rfl ?_ ?_
      · go_simp
        (try simp only [i64_w])
        try rfl
      refine hK.out _ _ ⟨vq, by rw [ha.out]; exact putSel_upk 5 hb_ rfl rfl rfl, Q_W0, Q_W1, Q_PRE, Q_MID, Q_POST⟩
    refine steps_cons ?_ ?_
    · rintro b a w' ⟨vq, ha, Q_W0, Q_W1, Q_PRE, Q_MID, Q_POST⟩ hb_ hon hoff
      refine ⟨_, rfl, fun K hK => ?_⟩
      have e27 : a.tmps[27]? = some (.pointer (some ⟨g, 9, none⟩)) := by rw [ha]; exact putSel_on (e := (9, 27, .pointer (some ⟨g, 9, none⟩))) 5 rfl rfl (hon 9 (by kernel_rfl)) rfl
      have e25 : a.tmps[25]? = some (vq) := by rw [ha]; exact putSel_on (e := (7, 25, vq)) 3 rfl rfl (hon 7 (by kernel_rfl)) rfl
      replace ha := Aside0.mk ha
      have hM := Q_MID (hon 7 (by kernel_rfl)) hb_
      obtain ⟨Aq, cq, es⟩ := Kd.R_slice hM.1
      subst es
      have hgb := (hM.2.2.1.block g GLT.out GNE.out).trans HGB.out
      have c9 : w'.cell? ⟨g, 9, none⟩ = some vp := (blk_cell hgb 9).trans rfl
      have f9 : w'.frozen? ⟨g, 9, none⟩ = false := blk_frozen hgb 9
      refine skip_ (w1 := w'.setCell ⟨g, 9, none⟩ (.slice Aq (S1.pend ++ [c]).length cq)) (by rfl) rfl ?_ ?_
      · go_simp
      refine hK.out _ _ ⟨.slice Aq (S1.pend ++ [c]).length cq, by rw [ha.out]; exact putSel_none (v := undef) rfl, fun h_ => absurd ((hon 6 (by kernel_rfl)).symm.trans h_) (by decide), fun _ h_ => absurd ((hon 7 (by kernel_rfl)).symm.trans h_) (by decide), fun h_ => absurd ((hon 7 (by kernel_rfl)).symm.trans h_) (by decide), fun _ h_ => absurd h_ (by simp [Go.Proofs.YtimcibifghidjaaW.PrintLast.up]), fun _ => ⟨w', hM.1, hM.2.1, hM.2.2.1, hM.2.2.2, rfl⟩⟩
    exact steps_nil
  rintro b a w25 hall ⟨vq, ha, Q_W0, Q_W1, Q_PRE, Q_MID, Q_POST⟩
  have hb4_ := hall 4 (by kernel_rfl)
  have hb5_ := hall 5 (by kernel_rfl)
  have hb6_ := hall 6 (by kernel_rfl)
  have hb7_ := hall 7 (by kernel_rfl)
  have hb8_ := hall 8 (by kernel_rfl)
  have hb9_ := hall 9 (by kernel_rfl)
  have hb10_ := hall 10 (by kernel_rfl)
  subst ha
  simp only [putSel, hb4_, hb5_, hb6_, hb7_, hb8_, hb9_, hb10_, if_true, Act.put, List.setIfInBounds_toArray, List.set_cons_zero, List.set_cons_succ]
  have W1 := Aside0.mk (Q_W1 hb6_)
  have MID := Aside0.mk (Q_MID hb7_)
  have POST := Aside0.mk (Q_POST hb10_)
  clear hall hb4_ hb5_ hb6_ hb7_ hb8_ hb9_ hb10_ Q_W0 Q_W1 Q_PRE Q_MID Q_POST
  obtain ⟨W9, p1, p2, p3, p4, rfl⟩ := POST.out
  have hfin : Fx w0 (W9.setCell ⟨g, 9, none⟩ vq) g ma ms vq {S1 with at_ := ap c S.at_, pend := S.pend ++ [c]} := by
    have h := HFS.out.row (Kd.R_flat (ok' := fun k => vq.ownBlock = some k) (fun {ok1 ok2 x cs} hm => by rw [kCh_open (kCh.K_of_M hm)]; exact kCh_mkM _ _ _ _) p1 (fun k hk _ => hk)) p3 (fun k hk => by
      rcases p4 with e | ⟨b, e, hb⟩
      · exact Or.inl (e ▸ hk)
      · rw [e] at hk
        cases hk
        exact Or.inr hb) (fun x hx b hb => by
      rcases List.mem_append.1 hx with hx | hx
      · exact HFS.out.ip x hx b hb
      · rw [List.mem_singleton.1 hx] at hb
        rw [show ({room := S1.room, on := S1.on, fs := S1.fs, fl := S1.fl, bs := S1.bs, bl := S1.bl, steps := S1.steps, at_ := ap c S1.at_, sy := S1.sy, pend := S1.pend, bd := S1.bd} : Sy).bd = S.bd from e4]
        exact HHM.out b hb)
    rw [e1, e3] at h
    exact h
  have HFIN := Aside0.mk hfin
  have HBF : Aside0 (Below w0.heap.size w0 (W9.setCell ⟨g, 9, none⟩ vq)) := ⟨below_set p2 HFS.out.gg⟩
  clear hfin p1 p2 p3 p4 POST HFS HPR HBS
  generalize World.setCell W9 _ _ = W10 at *
  cases bf with
  | false =>
    go_wp2_with (fail)
    go_ret
    exact ⟨rfl, ⟨_, by have h := HFIN.out; rw [e2, e4] at h; exact h⟩, HBF.out⟩
  | true =>
    go_wp2_with (fail)
    go_ret
    exact ⟨rfl, ⟨_, by have h := HFIN.out; rw [e2, e4] at h; exact h⟩, HBF.out⟩
end Go.Proofs.Ytimcibifghidjaa.Fs
