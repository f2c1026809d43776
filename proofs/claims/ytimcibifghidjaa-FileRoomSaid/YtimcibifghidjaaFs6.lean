/- Append, Sync and SyncDir of a file system. -/
import Derived.Test.YtimcibifghidjaaFs5
namespace Go.Proofs.Ytimcibifghidjaa.Fs
open Go Go.RowKit Go.Maps Go.Proofs.Ytimcibifghidjaa.PFil Go.Proofs.Ytimcibifghidjaa.FsM Go.Proofs.YtimcibifghidjaaW.PrintWords Go.Proofs.YtimcibifghidjaaW.PrintLast Go.Proofs.YtimcibifghidjaaW.PrintMore
set_option linter.unusedVariables false
set_option linter.unusedSimpArgs false
/-- A file is another one. -/
def rep (l : List Bd) (x : Bd) : List Bd := l.map fun y => if y.b = x.b then x else y
theorem rep_blks (l : List Bd) (x : Bd) : blks (rep l x) = blks l := by
  unfold blks rep
  rw [List.map_map]
  refine List.map_congr_left fun y _ => ?_
  show (if y.b = x.b then x else y).b = y.b
  split
  · rename_i h; exact h.symm
  · rfl
theorem mem_rep {l : List Bd} {x y : Bd} (h : y ∈ rep l x) : y = x ∨ (y ∈ l ∧ y.b ≠ x.b) := by
  obtain ⟨z, hz, rfl⟩ := List.mem_map.1 h
  split
  · exact Or.inl rfl
  · rename_i hne
    exact Or.inr ⟨hz, hne⟩
theorem rep_mem {l : List Bd} {x z : Bd} (h : z ∈ l) (hz : z.b = x.b) : x ∈ rep l x := List.mem_map.2 ⟨z, h, by rw [if_pos hz]⟩
/-- A cell of a file's block is turned. -/
theorem Fx.body {w0 V : World} {g ma ms i : Nat} {vp u : Value} {S : Sy} (h : Fx w0 V g ma ms vp S) (x x' : Bd) (hx : x ∈ S.bd) (hb : x'.b = x.b) (hu : (cellsB x).setIfInBounds i u = cellsB x') : Fx w0 (V.setCell ⟨x.b, i, none⟩ u) g ma ms vp {S with bd := rep S.bd x'} := by
  have q := h.apart
  have hxm : x.b ∈ blks S.bd := List.mem_map.2 ⟨x, hx, rfl⟩
  have nh : ∀ k, k ≠ x.b → (V.setCell ⟨x.b, i, none⟩ u).heap[k]? = V.heap[k]? := fun k hk => Below.heap_setCell V ⟨x.b, i, none⟩ u k hk
  refine ⟨(nh g (fun e => q.2.1 (e ▸ hxm))).trans h.hd, h.oa.same (nh ma (fun e => q.2.2.2.2.1 (e ▸ hxm))), h.os.same (nh ms (fun e => q.2.2.2.2.2 (e ▸ hxm))), h.ne, Kd.R_move h.pr (fun k hk => nh k (fun e => (q.1 k hk).2 (e ▸ hxm))), ?_, h.gg, h.ga, h.gs, ?_, ?_, ?_, ?_, ?_⟩
  · intro y hy
    rcases mem_rep hy with rfl | ⟨hy, hne⟩
    · rw [hb]
      exact blk_put (h.bd x hx) i u hu
    · exact (nh y.b (fun e => hne (e.trans hb.symm))).trans (h.bd y hy)
  · intro y hy
    rcases mem_rep hy with rfl | ⟨hy, _⟩
    · rw [hb]; exact h.gb x hx
    · exact h.gb y hy
  · show (blks (rep S.bd x')).Nodup
    rw [rep_blks]; exact h.nd
  · show ∀ p ∈ S.at_, p.2 ∈ blks (rep S.bd x')
    rw [rep_blks]; exact h.ia
  · show ∀ p ∈ S.sy, p.2 ∈ blks (rep S.bd x')
    rw [rep_blks]; exact h.is_
  · show ∀ c ∈ S.pend, ∀ b, c.made = some b → b ∈ blks (rep S.bd x')
    rw [rep_blks]; exact h.ip
def badS (S : Sy) : Sy × Bool := ({S with bs := (goesC S.bs S.bl).2.1, bl := (goesC S.bs S.bl).2.2}, (goesC S.bs S.bl).1)
def errB (fails bad : Bool) : Int := if fails = true then 14 else if bad = true then 16 else 0
def sy1.T : Bool × List (List Nat × List Nat) := (true, [([], []), ([0], [0]), ([], []), ([2], [2]), ([3], [3]), ([4, 1], [4]), ([1, 5, 0, 1], [1]), ([5, 6, 0, 1, 2, 3, 4, 5, 6], [5])])
def sy1.B : List Nat := [0, 1, 0, 4, 12, 31, 63, 127]
theorem sy1.tab : rtab .any (opsOf Try.f42 1) = sy1.T := by kernel_rfl
theorem sy1.bits : waitsOk sy1.T.2 sy1.B = true := by kernel_rfl
set_option maxHeartbeats 8000000 in
set_option maxRecDepth 100000 in
theorem sync_walk (w : World) (g : Nat) (P1 P2 : World → Prop) (bf bb : Bool) (h1 : Calls Try.prog 41 #[.pointer (some ⟨g, 0, none⟩)] w.drew fun e w' => e = .returned (.bool bf) ∧ P1 w') (h2 : ∀ w1, P1 w1 → Calls Try.prog 50 #[.pointer (some ⟨g, 4, none⟩)] w1 fun e w' => e = .returned (.bool bb) ∧ P2 w') :
    Calls Try.prog 42 #[.pointer (some ⟨g, 0, none⟩)] w fun ee w' => ee = .returned (.int .i64 (errB bf bb)) ∧ P2 w' := by
  go_enter Try.func42, Try.ntmps42
  go_wp2_with (fail)
  refine start_ (n := 8) (S := fun w' => True) (ds := []) #[false, false, false, false, false, false, false, false] (by kernel_rfl) rfl rfl trivial (fun hHeld => ?_); refine with_tabW sy1.tab sy1.bits (fun HT_ HW_ => ?_)
  generalize w.drew = wS at *
  refine pure_ (i := 0) (N := some 5) (v := ?_) (a' := ?_) #[true, false, false, false, false, false, false, false] rfl rfl (any_of HT_.out (by kernel_rfl)) (fun _ _ _ h => h) (Or.inl ⟨by rfl, ?_⟩) ?_ ?_
  rotate_left
  · intro w'
    go_simp
    with_reducible rfl
  rotate_left
  · simp only [Act.put, List.setIfInBounds_toArray, List.set_cons_zero, List.set_cons_succ, i64_w, i32_w]
    rfl
  refine pure_ (i := 2) (N := some 7) (v := ?_) (a' := ?_) #[true, false, true, false, false, false, false, false] rfl rfl (any_of HT_.out (by kernel_rfl)) (fun _ _ _ h => h) (Or.inl ⟨by rfl, ?_⟩) ?_ ?_
  rotate_left
  · intro w'
    go_simp
    with_reducible rfl
  rotate_left
  · simp only [Act.put, List.setIfInBounds_toArray, List.set_cons_zero, List.set_cons_succ, i64_w, i32_w]
    rfl
  refine pure_ (i := 3) (N := some 8) (v := ?_) (a' := ?_) #[true, false, true, true, false, false, false, false] rfl rfl (any_of HT_.out (by kernel_rfl)) (fun _ _ _ h => h) (Or.inl ⟨by rfl, ?_⟩) ?_ ?_
  rotate_left
  · intro w'
    go_simp
    with_reducible rfl
  rotate_left
  · simp only [Act.put, List.setIfInBounds_toArray, List.set_cons_zero, List.set_cons_succ, i64_w, i32_w]
    rfl
  refine pure_ (i := 4) (N := some 9) (v := ?_) (a' := ?_) #[true, false, true, true, true, false, false, false] rfl rfl (any_of HT_.out (by kernel_rfl)) (fun _ _ _ h => h) (Or.inl ⟨by rfl, ?_⟩) ?_ ?_
  rotate_left
  · intro w'
    go_simp
    with_reducible rfl
  rotate_left
  · simp only [Act.put, List.setIfInBounds_toArray, List.set_cons_zero, List.set_cons_succ, i64_w, i32_w]
    rfl
  refine inv_at [1, 5, 6, 7] (fun a0_ b a w' => a = putSel a0_ b [(1, 6, .bool bf), (5, 10, .bool bb), (6, 3, .bool bf), (7, 4, .bool bb)] ∧ (b 1 = false → w' = wS) ∧ (b 1 = true → b 5 = false → P1 w') ∧ (b 5 = true → P2 w')) HT_.out HW_.out (by kernel_rfl) (by kernel_rfl) ?_ ?_ ?_
  · exact ⟨by simp only [putSel, Bool.false_eq_true, if_false], fun _ => rfl, fun h_ => absurd h_ (by decide), fun h_ => absurd h_ (by decide)⟩
  · skip
    refine steps_cons ?_ ?_
    · rintro b a w' ⟨ha, Q_W0, Q_F1, Q_F2⟩ hb_ hon hoff
      refine ⟨_, rfl, fun K hK => ?_⟩
      have e5 : a.tmps[5]? = some (.pointer (some ⟨g, 0, none⟩)) := by rw [ha]; exact (putSel_off rfl).trans rfl
      replace ha := Aside0.mk ha
      obtain rfl := Q_W0 hb_
      refine goes_ Try.func41 (by kernel_rfl) rfl #[.pointer (some ⟨g, 0, none⟩)] (by rfl) rfl rfl (by first | (simp only [List.map_toArray, List.map_cons, List.map_nil, Act.eval, Array.getD_eq_getD_getElem?, Option.getD_some, e5]; done) | (simp only [List.map_toArray, List.map_cons, List.map_nil, Act.eval, Array.getD_eq_getD_getElem?, Option.getD_some, e5]; rfl)) ?_
      refine (h1).mono ?_
      rintro e w1 ⟨rfl, hp1⟩
      refine ⟨_, rfl, ?_⟩
      refine hK.out _ _ ⟨by rw [ha.out]; exact putSel_upk 0 hb_ rfl rfl rfl, fun h_ => absurd h_ (by simp [Go.Proofs.YtimcibifghidjaaW.PrintLast.up]), fun _ _ => hp1, fun h_ => absurd ((hoff 5 (by kernel_rfl)).symm.trans h_) (by decide)⟩
    refine steps_cons ?_ ?_
    · rintro b a w' ⟨ha, Q_W0, Q_F1, Q_F2⟩ hb_ hon hoff
      refine ⟨_, rfl, fun K hK => ?_⟩
      have e9 : a.tmps[9]? = some (.pointer (some ⟨g, 4, none⟩)) := by rw [ha]; exact (putSel_off rfl).trans rfl
      replace ha := Aside0.mk ha
      have hp0 := Q_F1 (hon 1 (by kernel_rfl)) hb_
      refine goes_ Try.func50 (by kernel_rfl) rfl #[.pointer (some ⟨g, 4, none⟩)] (by rfl) rfl rfl (by first | (simp only [List.map_toArray, List.map_cons, List.map_nil, Act.eval, Array.getD_eq_getD_getElem?, Option.getD_some, e9]; done) | (simp only [List.map_toArray, List.map_cons, List.map_nil, Act.eval, Array.getD_eq_getD_getElem?, Option.getD_some, e9]; rfl)) ?_
      refine (h2 _ hp0).mono ?_
      rintro e w1 ⟨rfl, hp2⟩
      refine ⟨_, rfl, ?_⟩
      refine hK.out _ _ ⟨by rw [ha.out]; exact putSel_upk 1 hb_ rfl rfl rfl, fun h_ => absurd ((hon 1 (by kernel_rfl)).symm.trans h_) (by decide), fun _ h_ => absurd h_ (by simp [Go.Proofs.YtimcibifghidjaaW.PrintLast.up]), fun _ => hp2⟩
    refine steps_cons ?_ ?_
    · rintro b a w' ⟨ha, Q_W0, Q_F1, Q_F2⟩ hb_ hon hoff
      refine ⟨_, rfl, fun K hK => ?_⟩
      have e6 : a.tmps[6]? = some (.bool bf) := by rw [ha]; exact putSel_on (e := (1, 6, .bool bf)) 0 rfl rfl (hon 1 (by kernel_rfl)) rfl
      replace ha := Aside0.mk ha
      refine value_ (w1 := w') (v := .bool bf) (by rfl) rfl ?_ ?_
      · go_simp
        (try simp only [i64_w])
        try rfl
      refine hK.out _ _ ⟨by rw [ha.out]; exact putSel_upk 2 hb_ rfl rfl rfl, Q_W0, Q_F1, Q_F2⟩
    refine steps_cons ?_ ?_
    · rintro b a w' ⟨ha, Q_W0, Q_F1, Q_F2⟩ hb_ hon hoff
      refine ⟨_, rfl, fun K hK => ?_⟩
      have e10 : a.tmps[10]? = some (.bool bb) := by rw [ha]; exact putSel_on (e := (5, 10, .bool bb)) 1 rfl rfl (hon 5 (by kernel_rfl)) rfl
      replace ha := Aside0.mk ha
      refine value_ (w1 := w') (v := .bool bb) (by rfl) rfl ?_ ?_
      · go_simp
        (try simp only [i64_w])
        try rfl
      refine hK.out _ _ ⟨by rw [ha.out]; exact putSel_upk 3 hb_ rfl rfl rfl, Q_W0, Q_F1, Q_F2⟩
    exact steps_nil
  rintro b a w25 hall ⟨ha, Q_W0, Q_F1, Q_F2⟩
  have hb1_ := hall 1 (by kernel_rfl)
  have hb5_ := hall 5 (by kernel_rfl)
  have hb6_ := hall 6 (by kernel_rfl)
  have hb7_ := hall 7 (by kernel_rfl)
  subst ha
  simp only [putSel, hb1_, hb5_, hb6_, hb7_, if_true, Act.put, List.setIfInBounds_toArray, List.set_cons_zero, List.set_cons_succ]
  have F1 := Aside0.mk (Q_F1 hb1_)
  have F2 := Aside0.mk (Q_F2 hb5_)
  clear hall hb1_ hb5_ hb6_ hb7_ Q_W0 Q_F1 Q_F2
  clear h1 h2
  cases bf <;> cases bb
  · go_wp2_with (fail)
    go_ret
    exact ⟨rfl, F2.out⟩
  · go_wp2_with (fail)
    go_ret
    exact ⟨rfl, F2.out⟩
  · go_wp2_with (fail)
    go_ret
    exact ⟨rfl, F2.out⟩
  · go_wp2_with (fail)
    go_ret
    exact ⟨rfl, F2.out⟩
theorem sync0_calls {w0 w : World} {g ma ms : Nat} {vp : Value} {S : Sy} (h : Fx w0 w g ma ms vp S) (hB : Below w0.heap.size w0 w) (hs : 0 ≤ S.steps ∧ S.steps ≤ 4611686018427387904) (hl : S.fl ≤ 9223372036854775807) (hl2 : S.bl ≤ 9223372036854775807) (hfs : S.fs = false) :
    Calls Try.prog 42 #[.pointer (some ⟨g, 0, none⟩)] w fun ee w' => ee = .returned (.int .i64 (errB false (badS S).2)) ∧ Fx w0 w' g ma ms vp {(badS S).1 with steps := min (S.steps + 1) 4611686018427387904} ∧ Below w0.heap.size w0 w' := by
  refine sync_walk w g (fun w1 => Fx w0 w1 g ma ms vp {S with steps := min (S.steps + 1) 4611686018427387904} ∧ Below w0.heap.size w0 w1) _ false (badS S).2 ?_ ?_
  · have h1 := op_calls (h.below (below_drew (Below.refl _ w))) (below_drew hB) hs hl
    rw [opS_no hfs] at h1
    exact h1.mono (fun e w' hh => ⟨hh.1, hh.2.1, hh.2.2.1⟩)
  · rintro w1 ⟨hf, hb⟩
    exact (goes_bad hf hb hl2).mono (fun e w' hh => ⟨hh.1, hh.2.1, hh.2.2.1⟩)
end Go.Proofs.Ytimcibifghidjaa.Fs
