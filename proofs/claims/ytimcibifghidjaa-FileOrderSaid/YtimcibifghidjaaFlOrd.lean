/- FileOrder: of what is pending some first ones stay. -/
import Derived.Test.YtimcibifghidjaaFs12
namespace Go.Proofs.Ytimcibifghidjaa.Fs
open Go Go.RowKit Go.Maps Go.Sort Go.Proofs.Ytimcibifghidjaa.PFil Go.Proofs.Ytimcibifghidjaa.FsM Go.Proofs.YtimcibifghidjaaW.PrintWords Go.Proofs.YtimcibifghidjaaW.PrintLast Go.Proofs.YtimcibifghidjaaW.PrintMore
set_option linter.unusedVariables false
set_option linter.unusedSimpArgs false
/-- The j-th name. -/
def nj (j : Nat) : ByteArray := ⟨#[UInt8.ofNat (97 + j)]⟩
def en (p : Nat × Nat) : K8 × Nat := (bs (nj p.1), p.2)
def ch (p : Nat × Nat) : Ch := ⟨t0, nj p.1, some p.2⟩
def bo (p : Nat × Nat) : Bd := ⟨p.2, t0, 0⟩
theorem nj_bs (j : Nat) : bs (nj j) = [UInt8.ofNat (97 + j)] := rfl
theorem nj_inj {i j : Nat} (hi : i < 100) (hj : j < 100) (h : bs (nj i) = bs (nj j)) : i = j := by
  rw [nj_bs, nj_bs, List.cons.injEq] at h
  have h1 := congrArg UInt8.toNat h.1
  simp only [UInt8.toNat_ofNat'] at h1
  omega
theorem del_none {d : Dir} {k : K8} (h : k ∉ d.map (·.1)) : del d k = d := by
  unfold del
  refine List.filter_eq_self.2 fun p hp => ?_
  have : p.1 ≠ k := fun e => h (by rw [← e]; exact List.mem_map.2 ⟨p, hp, rfl⟩)
  simp [this]
theorem lk_none {d : Dir} {k : K8} (h : k ∉ d.map (·.1)) : lk d k = none := by
  cases hl : lk d k with
  | none => rfl
  | some b => exact absurd ((lk_some_iff d k).1 (by rw [hl]; rfl)) h
theorem apL_ch (Q : List (Nat × Nat)) (d : Dir) (hn : (d.map (·.1) ++ Q.map (fun p => bs (nj p.1))).Nodup) : apL (Q.map ch) d = d ++ Q.map en := by
  induction Q generalizing d with
  | nil => simp [apL]
  | cons p Q ih =>
    have hk : bs (nj p.1) ∉ d.map (·.1) := fun hm => by
      rw [List.nodup_append] at hn
      exact hn.2.2 _ hm _ (by simp) rfl
    have h1 : ap (ch p) d = d ++ [en p] := by
      unfold ap
      rw [if_pos (show bs (ch p).from_ = [] from rfl)]
      show put d (bs (nj p.1)) p.2 = _
      unfold put
      rw [del_none hk]
      rfl
    show apL (Q.map ch) (ap (ch p) d) = _
    rw [h1, ih (d ++ [en p]) (by simpa [en] using hn)]
    simp
theorem okL_ch (Q : List (Nat × Nat)) (d : Dir) : okL (Q.map ch) d := by
  induction Q generalizing d with
  | nil => trivial
  | cons p Q ih => exact ⟨⟨by show t0.size ≤ _; decide, by show (nj p.1).size ≤ _; simp [nj, ByteArray.size], .inl ⟨rfl, by show bs (nj p.1) ≠ []; rw [nj_bs]; simp, p.2, rfl⟩⟩, ih _⟩
theorem keys_nd {P : List (Nat × Nat)} {i : Nat} (hP : P.map (·.1) = List.range i) (hi : i ≤ 50) : (P.map (fun p => bs (nj p.1))).Nodup := by
  have e : P.map (fun p => bs (nj p.1)) = (List.range i).map (fun j => bs (nj j)) := by rw [← hP, List.map_map]; rfl
  rw [e]
  refine List.pairwise_map.2 ?_
  refine List.nodup_range.imp_of_mem ?_
  intro a b ha hb hne he
  rw [List.mem_range] at ha hb
  exact hne (nj_inj (by omega) (by omega) he)
theorem new_key {P : List (Nat × Nat)} {i : Nat} (hP : P.map (·.1) = List.range i) (hi : i ≤ 50) : bs (nj i) ∉ (P.map en).map (·.1) := by
  intro hm
  rw [List.map_map] at hm
  obtain ⟨p, hp, he⟩ := List.mem_map.1 hm
  have hp1 : p.1 ∈ List.range i := by rw [← hP]; exact List.mem_map.2 ⟨p, hp, rfl⟩
  rw [List.mem_range] at hp1
  have := nj_inj (by omega) (by omega) (show bs (nj p.1) = bs (nj i) from he)
  omega
theorem sorted20 : ((List.range 20).map (fun j => bs (nj j))).Pairwise (fun a b => decide (a ≤ b) = true) := by decide +kernel
theorem nm_en {P : List (Nat × Nat)} {k : Nat} (hP : P.map (·.1) = List.range k) (hk : k ≤ 20) : nm (P.map en) = (List.range k).map nj := by
  have e : (P.map en).map (·.1) = (List.range k).map (fun j => bs (nj j)) := by rw [← hP, List.map_map, List.map_map]; rfl
  have h1 : ks (P.map en) = (List.range k).map (fun j => bs (nj j)) := by
    unfold ks
    rw [e]
    refine List.mergeSort_of_pairwise ?_
    have h2 : (List.range k).map (fun j => bs (nj j)) = ((List.range 20).map (fun j => bs (nj j))).take k := by
      rw [← List.map_take, List.take_range, Nat.min_eq_left hk]
    rw [h2]
    exact sorted20.sublist (List.take_sublist _ _)
  unfold nm
  rw [h1, List.map_map]
  rfl
/-- i files have names. -/
def Or (P : List (Nat × Nat)) (i : Nat) : Sy := Q true i (P.map en) [] (P.map ch) (P.map bo)
theorem or_create {w0 w : World} {g i : Nat} {P : List (Nat × Nat)} (h : St w0 w g (Or P i)) (hP : P.map (·.1) = List.range i) (hi : i < 20) :
    Calls Try.prog 13 #[.pointer (some ⟨g, 0, none⟩), .string (nj i)] w fun ee w' => ee = .returned (.int .i64 0) ∧ ∃ P' : List (Nat × Nat), P'.map (·.1) = List.range (i + 1) ∧ St w0 w' g (Or P' (i + 1)) ∧ (blks (P'.map bo)).Nodup := by
  have hl : P.length = i := by have := congrArg List.length hP; simpa using this
  have hk := new_key hP (by omega)
  refine (q_create h ⟨by omega, by omega, by rw [List.length_map]; omega, by rw [List.length_map]; show 0 + P.length ≤ _; omega⟩ (nj i) (by rw [nj_bs]; simp) (by simp [nj, ByteArray.size]) (lk_none hk)).mono ?_
  rintro ee w' ⟨rfl, b, hb, ht⟩
  have ht2 : St w0 w' g (Or (P ++ [(i, b)]) (i + 1)) := ht.eq (by
    unfold Or
    rw [List.map_append, List.map_append, List.map_append]
    unfold put
    rw [del_none hk]
    rfl)
  refine ⟨rfl, P ++ [(i, b)], by rw [List.map_append, hP, List.range_succ]; rfl, ht2, ?_⟩
  obtain ⟨⟨ma, ms, vp, hf⟩, _⟩ := ht2
  exact hf.nd
theorem or_k {P : List (Nat × Nat)} {k n : Nat} (hP : P.map (·.1) = List.range k) (hk : k ≤ 20) (hn : n ≤ 20) : Qk (n : Int) (P.map en) (P.map en) [] := by
  have hl : P.length = k := by have := congrArg List.length hP; simpa using this
  exact ⟨by omega, by omega, by rw [List.length_map]; omega, by rw [List.length_map]; show P.length + 0 ≤ _; omega⟩
theorem or_crash {w0 w : World} {g n : Nat} {P : List (Nat × Nat)} (h : St w0 w g (Or P n)) (hP : P.map (·.1) = List.range n) (hn : n ≤ 20) (keep : Int) :
    Calls Try.prog 14 #[.pointer (some ⟨g, 0, none⟩), .int .i64 keep, .slice none 0 0] w fun e w' => e = .returned (.tuple #[]) ∧ ∃ (P' : List (Nat × Nat)) (l : List Bd), P'.map (·.1) = List.range (partN keep n) ∧ St w0 w' g (Q false n (P'.map en) (P'.map en) [] l) := by
  have hl : P.length = n := by have := congrArg List.length hP; simpa using this
  have hk := partN_le keep n
  have hd1 : apL ((P.map ch).take (partN keep (P.map ch).length)) [] = (P.take (partN keep n)).map en := by
    rw [List.length_map, hl, ← List.map_take, apL_ch _ _ (by
      rw [List.map_nil, List.nil_append, List.map_take]
      exact (List.take_sublist _ _).nodup (keys_nd hP (by omega)))]
    rfl
  refine (q_crash h ⟨by omega, by omega, by rw [List.length_map]; omega, by rw [List.length_map]; show 0 + P.length ≤ _; omega⟩ keep [] none 0 (by simp) 0 (row_none w 0) (by
      intro x hx
      obtain ⟨p, _, rfl⟩ := List.mem_map.1 hx
      exact ⟨Nat.zero_le _, by show t0.size ≤ _; decide⟩) _ hd1 (by rw [← List.map_take]; exact okL_ch _ _) (by
      intro q hq
      obtain ⟨p, _, rfl⟩ := List.mem_map.1 hq
      show (bs (nj p.1)).length ≤ _
      rw [nj_bs]
      simp) _ rfl).mono ?_
  rintro e w' ⟨rfl, ht, _⟩
  refine ⟨rfl, P.take (partN keep n), _, ?_, ht⟩
  rw [List.map_take, hP, List.take_range, Nat.min_eq_left hk]
theorem conv1 (W : World) (i : Nat) : (convert 27 9 (.slice (some ⟨W.heap.size, 0, none⟩) 1 1)).run Try.prog (W.alloc (.cells #[.int .u8 (97 + (i : Int))] 5)) = .ok (.string (nj i)) (W.alloc (.cells #[.int .u8 (97 + (i : Int))] 5)) := by
  have h := Go.run_convert_bytes_arg (P := Try.prog) (W.alloc (.cells #[.int .u8 (97 + (i : Int))] 5)) 27 5 Try.underlying27 Try.underlying5 W.heap.size 0 1 1 [97 + (i : Int)] rfl (by
    intro j hj
    obtain rfl : j = 0 := by omega
    exact (blk_cell (blk_new W _) 0).trans rfl) 9 Try.underlying9
  rw [h]
  have e : strOfNums [97 + (i : Int)] = nj i := by
    have : (97 + (i : Int)).toNat = 97 + i := by omega
    simp [strOfNums, nj, this]
  rw [e]
def or20.T : Bool × List (List Nat × List Nat) := (true, [([], []), ([], []), ([0, 1], [0, 1]), ([2], [2]), ([], []), ([4], [4]), ([5], [5]), ([6], [6]), ([7], [7]), ([3, 8], [3, 8])])
def or20.B : List Nat := [0, 0, 3, 7, 0, 16, 48, 112, 240, 511]
theorem or20.tab : rtab .any (opsOf Try.f3 20) = or20.T := by kernel_rfl
theorem or20.bits : waitsOk or20.T.2 or20.B = true := by kernel_rfl
set_option maxHeartbeats 8000000 in
set_option maxRecDepth 100000 in
theorem order_in (w : World) (n : Nat) (keep : Int) (hn : n ≤ 20) :
    Calls Try.prog 3 #[.int .i64 (n : Int), .int .i64 keep] w fun e w' => e = .returned (.bool true) ∧ Below w.heap.size w w' := by
  have HB := Aside0.mk (Below.refl w.heap.size w)
  have q0 : decide ((n : Int) < 0) = false := decide_eq_false (by omega)
  have q1 : decide (20 < (n : Int)) = false := decide_eq_false (by omega)
  go_enter Try.func3, Try.ntmps3
  go_wp2_with (first
    | (go_at_call 12; refine (q_new w _ HB.out).mono ?_; rintro e w_ ⟨g, rfl, ht⟩; have HT0 : Aside0 (St w w_ g (Or [] 0)) := ⟨ht⟩; clear ht HB))
  go_loopw [6] (fun v6 w' => ∃ (i : Nat) (P : List (Nat × Nat)), v6 = .int .i64 i ∧ i ≤ n ∧ Aside0 (P.map (·.1) = List.range i) ∧ Aside0 (St w w' g (Or P i)) ∧ Aside0 ((blks (P.map bo)).Nodup)) (fun v6 _ => n - (intOf v6).toNat)
  case atStart => exact ⟨0, [], rfl, Nat.zero_le _, ⟨rfl⟩, HT0, ⟨by simp [blks]⟩⟩
  case round =>
    obtain ⟨i, P, rfl, hi, HP, HS, HND⟩ := hrel
    clear HT0
    by_cases hlk : i < n
    · have z0 : decide ((i : Int) < (n : Int)) = true := decide_eq_true (Int.ofNat_lt.mpr hlk)
      have hw1 : IntKind.i64.wrap (97 + (i : Int)) = 97 + (i : Int) := by rw [IntKind.wrap_i64]; omega
      have hcv := conv1 wr i
      go_wp2_with (first | (go_at_call 13; refine (or_create (HS.out.below (below_alloc (Below.refl _ _) _)) HP.out (by omega)).mono ?_; rintro e w2 ⟨rfl, P2, hP2, ht, hnd⟩; have HP2 := Aside0.mk hP2; have HS2 := Aside0.mk ht; have HND2 := Aside0.mk hnd; clear hP2 ht hnd HS HP HND hcv))
      go_roundw
      case rel => exact ⟨i + 1, P2, by go_num, by omega, HP2, HS2, HND2⟩
      case measure => simp [intOf]; omega
    · have hin : i = n := by omega
      subst hin
      have z0 : decide ((i : Int) < (i : Int)) = false := decide_eq_false (by omega)
      have hkl := partN_le keep i
      have hwn : IntKind.i64.wrap ((i : Int) + 1) = (i : Int) + 1 := by rw [IntKind.wrap_i64]; omega
      have hne0 : ((i : Int) + 1 == 0) = false := beq_eq_false_iff_ne.mpr (by omega)
      have hpc := partN_cast keep i
      have hm := Int.tmod_eq_emod (a := keep) (b := (i : Int) + 1)
      have hna : (((i : Int) + 1).natAbs : Int) = (i : Int) + 1 := by omega
      obtain ⟨kk, hkk⟩ : ∃ kk, kk = partN keep i := ⟨_, rfl⟩
      rw [← hkk] at hpc hkl
      have hwn0 : True := trivial
      by_cases htn : Int.tmod keep ((i : Int) + 1) < 0
      · have z2 : decide (Int.tmod keep ((i : Int) + 1) < 0) = true := decide_eq_true htn
        have hws : IntKind.i64.wrap (Int.tmod keep ((i : Int) + 1) + ((i : Int) + 1)) = (kk : Int) := by
          rw [hpc, IntKind.wrap_i64]
          have h0 := Int.emod_nonneg keep (show ((i : Int) + 1) ≠ 0 by omega)
          split at hm <;> omega
        have HKK : Aside0 (kk = partN keep i) := ⟨hkk⟩
        clear hkk hpc hm hna hwn0
        go_wp2_with (first
          | (go_at_call 14; refine (or_crash HS.out HP.out hn keep).mono ?_; rintro e w5 ⟨rfl, P3, l3, hP3, ht⟩; rw [← HKK.out] at hP3; have HP3 := Aside0.mk hP3; have HE2 := Aside0.mk ht; clear ht hP3 HS)
          | (go_at_call 15; refine (q_restore HE2.out).mono ?_; rintro e w6 ⟨rfl, ht, _⟩; have HE3 := Aside0.mk ht; clear ht HE2)
          | (go_at_call 16; refine (s_names HE3.out (Qk.ok (or_k HP3.out (by omega) (by omega))) rfl).mono ?_; rintro e w7 ⟨⟨An, cn, rfl, hr⟩, hb, ht⟩; rw [show nm (Q true (i : Int) (P3.map en) (P3.map en) [] l3).at_ = (List.range kk).map nj from nm_en HP3.out (by omega)] at hr ⊢; have HR := Aside0.mk hr; have HE4 := Aside0.mk ht; clear hr hb ht HE3))
        go_loopw [9] (fun v9 w' => ∃ j : Nat, v9 = .int .i64 j ∧ j ≤ kk ∧ Aside0 (Kd.string.R 9 w' w6.heap.size (fun k => (Value.slice An ((List.range kk).map nj).length cn).ownBlock = some k) (.slice An ((List.range kk).map nj).length cn) ((List.range kk).map nj)) ∧ Aside0 (St w w' g (Q true (i : Int) (P3.map en) (P3.map en) [] l3))) (fun v9 _ => kk - (intOf v9).toNat)
        case atStart => exact ⟨0, rfl, Nat.zero_le _, HR, HE4⟩
        case round =>
          obtain ⟨j, rfl, hj, HRJ, HSJ⟩ := hrel
          clear HR HE4
          by_cases hjk : j < kk
          · have z1 : decide ((j : Int) < (kk : Int)) = true := decide_eq_true (Int.ofNat_lt.mpr hjk)
            have p0 : (0 : Int) ≤ (j : Int) := Int.natCast_nonneg _
            have r0 : (j : Int) < (kk : Int) := Int.ofNat_lt.mpr hjk
            obtain ⟨ad, e0, hx0⟩ := Kd.at_string (Kd.R_reads' HRJ.out).2.2 (j : Int) p0 (by simpa using r0)
            cases e0
            rw [show rdOf ByteArray.empty ((List.range kk).map nj) (j : Int) = nj j by simp [rdOf, hjk], Int.toNat_natCast] at hx0
            have hw1 : IntKind.i64.wrap (97 + (j : Int)) = 97 + (j : Int) := by rw [IntKind.wrap_i64]; omega
            have hw2 : IntKind.u8.wrap (97 + (j : Int)) = 97 + (j : Int) := by rw [IntKind.wrap_u8]; omega
            have hw3 : (97 + (j : Int)) % 256 = 97 + (j : Int) := by omega
            have HRD := Aside0.mk (Kd.R_step HRJ.out (fun k _ hlt => (below_drew (Below.refl _ wr)).block k hlt))
            have HSD := Aside0.mk (HSJ.out.below (below_drew (Below.refl _ wr)))
            have HX := Aside0.mk (show wr.drew.cell? (ad.add j) = some (.string (nj j)) from hx0)
            go_wp2_with (fail)
            refine start_ (n := 10) (S := fun w' => True) (ds := []) #[false, false, false, false, false, false, false, false, false, false] (by kernel_rfl) rfl rfl trivial (fun hHeld => ?_); refine with_tabW or20.tab or20.bits (fun HT_ HW_ => ?_)
            generalize wr.drew = wS at *
            refine pure_ (i := 0) (N := some 56) (v := ?_) (a' := ?_) #[true, false, false, false, false, false, false, false, false, false] rfl rfl (any_of HT_.out (by kernel_rfl)) (fun _ _ _ h => h) (Or.inl ⟨by rfl, ?_⟩) ?_ ?_
            rotate_left
            · intro w'
              go_simp
              with_reducible rfl
            rotate_left
            · simp only [Act.put, List.setIfInBounds_toArray, List.set_cons_zero, List.set_cons_succ, i64_w, i32_w]
              rfl
            refine pure_ (i := 1) (N := some 57) (v := ?_) (a' := ?_) #[true, true, false, false, false, false, false, false, false, false] rfl rfl (any_of HT_.out (by kernel_rfl)) (fun _ _ _ h => h) (Or.inl ⟨by rfl, ?_⟩) ?_ ?_
            rotate_left
            · intro w'
              go_simp
              with_reducible rfl
            rotate_left
            · simp only [Act.put, List.setIfInBounds_toArray, List.set_cons_zero, List.set_cons_succ, i64_w, i32_w]
              rfl
            refine pure_ (i := 2) (N := some 58) (v := ?_) (a' := ?_) #[true, true, true, false, false, false, false, false, false, false] rfl rfl (any_of HT_.out (by kernel_rfl)) (fun _ _ _ h => h) (Or.inl ⟨by rfl, ?_⟩) ?_ ?_
            rotate_left
            · intro w'
              go_simp
              with_reducible rfl
            rotate_left
            · simp only [Act.put, List.setIfInBounds_toArray, List.set_cons_zero, List.set_cons_succ, i64_w, i32_w]
              rfl
            refine pure_ (i := 4) (N := some 60) (v := ?_) (a' := ?_) #[true, true, true, false, true, false, false, false, false, false] rfl rfl (any_of HT_.out (by kernel_rfl)) (fun _ _ _ h => h) (Or.inl ⟨by rfl, ?_⟩) ?_ ?_
            rotate_left
            · intro w'
              go_simp
              with_reducible rfl
            rotate_left
            · simp only [Act.put, List.setIfInBounds_toArray, List.set_cons_zero, List.set_cons_succ, i64_w, i32_w]
              rfl
            refine pure_ (i := 5) (N := some 61) (v := ?_) (a' := ?_) #[true, true, true, false, true, true, false, false, false, false] rfl rfl (any_of HT_.out (by kernel_rfl)) (fun _ _ _ h => h) (Or.inl ⟨by rfl, ?_⟩) ?_ ?_
            rotate_left
            · intro w'
              go_simp
              with_reducible rfl
            rotate_left
            · simp only [Act.put, List.setIfInBounds_toArray, List.set_cons_zero, List.set_cons_succ, i64_w, i32_w]
              rfl
            refine pure_ (i := 6) (N := some 62) (v := ?_) (a' := ?_) #[true, true, true, false, true, true, true, false, false, false] rfl rfl (any_of HT_.out (by kernel_rfl)) (fun _ _ _ h => h) (Or.inl ⟨by rfl, ?_⟩) ?_ ?_
            rotate_left
            · intro w'
              go_simp
              with_reducible rfl
            rotate_left
            · simp only [Act.put, List.setIfInBounds_toArray, List.set_cons_zero, List.set_cons_succ, i64_w, i32_w]
              rfl
            refine inv_at [3, 7, 8, 9] (fun a0_ b a w' => a = putSel a0_ b [(3, 59, .string (nj j)), (7, 63, .slice (some ⟨wS.heap.size, 0, none⟩) 1 1), (8, 64, .string (nj j)), (9, 65, .bool false)] ∧ (b 7 = false → w' = wS) ∧ (b 7 = true → w' = wS.alloc (.cells #[.int .u8 (97 + (j : Int))] 5)) ∧ (w'.cell? (ad.add j) = some (.string (nj j)))) HT_.out HW_.out (by kernel_rfl) (by kernel_rfl) ?_ ?_ ?_
            · exact ⟨by simp only [putSel, Bool.false_eq_true, if_false], fun _ => rfl, fun h_ => absurd h_ (by decide), HX.out⟩
            · skip
              refine steps_cons ?_ ?_
              · rintro b a w' ⟨ha, Q_W0, Q_W1, Q_CE⟩ hb_ hon hoff
                refine ⟨_, rfl, fun K hK => ?_⟩
                have e58 : a.tmps[58]? = some (.pointer (some (ad.add j))) := by rw [ha]; exact (putSel_off rfl).trans rfl
                replace ha := Aside0.mk ha
                have hC := Q_CE
                refine value_ (w1 := w') (v := .string (nj j)) (by rfl) rfl ?_ ?_
                · go_simp
                  (try simp only [i64_w])
                  try rfl
                refine hK.out _ _ ⟨by rw [ha.out]; exact putSel_upk 0 hb_ rfl rfl rfl, Q_W0, Q_W1, Q_CE⟩
              refine steps_cons ?_ ?_
              · rintro b a w' ⟨ha, Q_W0, Q_W1, Q_CE⟩ hb_ hon hoff
                refine ⟨_, rfl, fun K hK => ?_⟩
                have e62 : a.tmps[62]? = some (.int .u8 (97 + (j : Int))) := by rw [ha]; exact (putSel_off rfl).trans rfl
                replace ha := Aside0.mk ha
                obtain rfl := Q_W0 hb_
                refine value_ (w1 := w'.alloc (.cells #[.int .u8 (97 + (j : Int))] 5)) (v := .slice (some ⟨w'.heap.size, 0, none⟩) 1 1) (by rfl) rfl ?_ ?_
                · go_simp
                  (try simp only [i64_w])
                  try rfl
                refine hK.out _ _ ⟨by rw [ha.out]; exact putSel_upk 1 hb_ rfl rfl rfl, fun h_ => absurd h_ (by simp [Go.Proofs.YtimcibifghidjaaW.PrintLast.up]), fun _ => rfl, pw_cell_below (below_alloc (Below.refl _ _) _) Q_CE⟩
              refine steps_cons ?_ ?_
              · rintro b a w' ⟨ha, Q_W0, Q_W1, Q_CE⟩ hb_ hon hoff
                refine ⟨_, rfl, fun K hK => ?_⟩
                have e63 : a.tmps[63]? = some (.slice (some ⟨wS.heap.size, 0, none⟩) 1 1) := by rw [ha]; exact putSel_on (e := (7, 63, .slice (some ⟨wS.heap.size, 0, none⟩) 1 1)) 1 rfl rfl (hon 7 (by kernel_rfl)) rfl
                replace ha := Aside0.mk ha
                obtain rfl := Q_W1 (hon 7 (by kernel_rfl))
                have hcv := conv1 wS j
                refine value_ (w1 := wS.alloc (.cells #[.int .u8 (97 + (j : Int))] 5)) (v := .string (nj j)) (by rfl) rfl ?_ ?_
                · go_simp
                  (try simp only [i64_w])
                  try rfl
                refine hK.out _ _ ⟨by rw [ha.out]; exact putSel_upk 2 hb_ rfl rfl rfl, Q_W0, Q_W1, Q_CE⟩
              refine steps_cons ?_ ?_
              · rintro b a w' ⟨ha, Q_W0, Q_W1, Q_CE⟩ hb_ hon hoff
                refine ⟨_, rfl, fun K hK => ?_⟩
                have e59 : a.tmps[59]? = some (.string (nj j)) := by rw [ha]; exact putSel_on (e := (3, 59, .string (nj j))) 0 rfl rfl (hon 3 (by kernel_rfl)) rfl
                have e64 : a.tmps[64]? = some (.string (nj j)) := by rw [ha]; exact putSel_on (e := (8, 64, .string (nj j))) 2 rfl rfl (hon 8 (by kernel_rfl)) rfl
                replace ha := Aside0.mk ha
                refine value_ (w1 := w') (v := .bool false) (by rfl) rfl ?_ ?_
                · go_simp
                  (try simp only [i64_w])
                  try rfl
                refine hK.out _ _ ⟨by rw [ha.out]; exact putSel_upk 3 hb_ rfl rfl rfl, Q_W0, Q_W1, Q_CE⟩
              exact steps_nil
            rintro b a w25 hall ⟨ha, Q_W0, Q_W1, Q_CE⟩
            have hb3_ := hall 3 (by kernel_rfl)
            have hb7_ := hall 7 (by kernel_rfl)
            have hb8_ := hall 8 (by kernel_rfl)
            have hb9_ := hall 9 (by kernel_rfl)
            subst ha
            simp only [putSel, hb3_, hb7_, hb8_, hb9_, if_true, Act.put, List.setIfInBounds_toArray, List.set_cons_zero, List.set_cons_succ]
            have W1 := Aside0.mk (Q_W1 hb7_)
            have CE := Aside0.mk (Q_CE)
            clear hall hb3_ hb7_ hb8_ hb9_ Q_W0 Q_W1 Q_CE
            obtain rfl := W1.out
            go_wp2_with (fail)
            go_roundw
            case rel => exact ⟨j + 1, by go_num, by omega, ⟨Kd.R_step HRD.out (fun k _ hlt => (below_alloc (Below.refl _ _) _).block k hlt)⟩, ⟨HSD.out.below (below_alloc (Below.refl _ _) _)⟩⟩
            case measure => simp [intOf]; omega
          · have hje : j = kk := by omega
            subst hje
            have z1 : decide ((j : Int) < (j : Int)) = false := decide_eq_false (by omega)
            go_wp2_with (first | (go_at_call 11; refine (alive_calls _).mono ?_; rintro e w8 ⟨rfl, hb⟩; have HZ := Aside0.mk (below_step HSJ.out.2 hb); clear hb))
            go_ret
            exact ⟨rfl, HZ.out⟩
      · have z2 : decide (Int.tmod keep ((i : Int) + 1) < 0) = false := decide_eq_false htn
        have htk : Int.tmod keep ((i : Int) + 1) = (kk : Int) := by
          rw [hpc]
          have h1 := Int.emod_lt_of_pos keep (show (0 : Int) < (i : Int) + 1 by omega)
          split at hm <;> omega
        have HKK : Aside0 (kk = partN keep i) := ⟨hkk⟩
        clear hkk hpc hm hna hwn0
        go_wp2_with (first
          | (go_at_call 14; refine (or_crash HS.out HP.out hn keep).mono ?_; rintro e w5 ⟨rfl, P3, l3, hP3, ht⟩; rw [← HKK.out] at hP3; have HP3 := Aside0.mk hP3; have HE2 := Aside0.mk ht; clear ht hP3 HS)
          | (go_at_call 15; refine (q_restore HE2.out).mono ?_; rintro e w6 ⟨rfl, ht, _⟩; have HE3 := Aside0.mk ht; clear ht HE2)
          | (go_at_call 16; refine (s_names HE3.out (Qk.ok (or_k HP3.out (by omega) (by omega))) rfl).mono ?_; rintro e w7 ⟨⟨An, cn, rfl, hr⟩, hb, ht⟩; rw [show nm (Q true (i : Int) (P3.map en) (P3.map en) [] l3).at_ = (List.range kk).map nj from nm_en HP3.out (by omega)] at hr ⊢; have HR := Aside0.mk hr; have HE4 := Aside0.mk ht; clear hr hb ht HE3))
        go_loopw [9] (fun v9 w' => ∃ j : Nat, v9 = .int .i64 j ∧ j ≤ kk ∧ Aside0 (Kd.string.R 9 w' w6.heap.size (fun k => (Value.slice An ((List.range kk).map nj).length cn).ownBlock = some k) (.slice An ((List.range kk).map nj).length cn) ((List.range kk).map nj)) ∧ Aside0 (St w w' g (Q true (i : Int) (P3.map en) (P3.map en) [] l3))) (fun v9 _ => kk - (intOf v9).toNat)
        case atStart => exact ⟨0, rfl, Nat.zero_le _, HR, HE4⟩
        case round =>
          obtain ⟨j, rfl, hj, HRJ, HSJ⟩ := hrel
          clear HR HE4
          by_cases hjk : j < kk
          · have z1 : decide ((j : Int) < (kk : Int)) = true := decide_eq_true (Int.ofNat_lt.mpr hjk)
            have p0 : (0 : Int) ≤ (j : Int) := Int.natCast_nonneg _
            have r0 : (j : Int) < (kk : Int) := Int.ofNat_lt.mpr hjk
            obtain ⟨ad, e0, hx0⟩ := Kd.at_string (Kd.R_reads' HRJ.out).2.2 (j : Int) p0 (by simpa using r0)
            cases e0
            rw [show rdOf ByteArray.empty ((List.range kk).map nj) (j : Int) = nj j by simp [rdOf, hjk], Int.toNat_natCast] at hx0
            have hw1 : IntKind.i64.wrap (97 + (j : Int)) = 97 + (j : Int) := by rw [IntKind.wrap_i64]; omega
            have hw2 : IntKind.u8.wrap (97 + (j : Int)) = 97 + (j : Int) := by rw [IntKind.wrap_u8]; omega
            have hw3 : (97 + (j : Int)) % 256 = 97 + (j : Int) := by omega
            have HRD := Aside0.mk (Kd.R_step HRJ.out (fun k _ hlt => (below_drew (Below.refl _ wr)).block k hlt))
            have HSD := Aside0.mk (HSJ.out.below (below_drew (Below.refl _ wr)))
            have HX := Aside0.mk (show wr.drew.cell? (ad.add j) = some (.string (nj j)) from hx0)
            go_wp2_with (fail)
            refine start_ (n := 10) (S := fun w' => True) (ds := []) #[false, false, false, false, false, false, false, false, false, false] (by kernel_rfl) rfl rfl trivial (fun hHeld => ?_); refine with_tabW or20.tab or20.bits (fun HT_ HW_ => ?_)
            generalize wr.drew = wS at *
            refine pure_ (i := 0) (N := some 56) (v := ?_) (a' := ?_) #[true, false, false, false, false, false, false, false, false, false] rfl rfl (any_of HT_.out (by kernel_rfl)) (fun _ _ _ h => h) (Or.inl ⟨by rfl, ?_⟩) ?_ ?_
            rotate_left
            · intro w'
              go_simp
              with_reducible rfl
            rotate_left
            · simp only [Act.put, List.setIfInBounds_toArray, List.set_cons_zero, List.set_cons_succ, i64_w, i32_w]
              rfl
            refine pure_ (i := 1) (N := some 57) (v := ?_) (a' := ?_) #[true, true, false, false, false, false, false, false, false, false] rfl rfl (any_of HT_.out (by kernel_rfl)) (fun _ _ _ h => h) (Or.inl ⟨by rfl, ?_⟩) ?_ ?_
            rotate_left
            · intro w'
              go_simp
              with_reducible rfl
            rotate_left
            · simp only [Act.put, List.setIfInBounds_toArray, List.set_cons_zero, List.set_cons_succ, i64_w, i32_w]
              rfl
            refine pure_ (i := 2) (N := some 58) (v := ?_) (a' := ?_) #[true, true, true, false, false, false, false, false, false, false] rfl rfl (any_of HT_.out (by kernel_rfl)) (fun _ _ _ h => h) (Or.inl ⟨by rfl, ?_⟩) ?_ ?_
            rotate_left
            · intro w'
              go_simp
              with_reducible rfl
            rotate_left
            · simp only [Act.put, List.setIfInBounds_toArray, List.set_cons_zero, List.set_cons_succ, i64_w, i32_w]
              rfl
            refine pure_ (i := 4) (N := some 60) (v := ?_) (a' := ?_) #[true, true, true, false, true, false, false, false, false, false] rfl rfl (any_of HT_.out (by kernel_rfl)) (fun _ _ _ h => h) (Or.inl ⟨by rfl, ?_⟩) ?_ ?_
            rotate_left
            · intro w'
              go_simp
              with_reducible rfl
            rotate_left
            · simp only [Act.put, List.setIfInBounds_toArray, List.set_cons_zero, List.set_cons_succ, i64_w, i32_w]
              rfl
            refine pure_ (i := 5) (N := some 61) (v := ?_) (a' := ?_) #[true, true, true, false, true, true, false, false, false, false] rfl rfl (any_of HT_.out (by kernel_rfl)) (fun _ _ _ h => h) (Or.inl ⟨by rfl, ?_⟩) ?_ ?_
            rotate_left
            · intro w'
              go_simp
              with_reducible rfl
            rotate_left
            · simp only [Act.put, List.setIfInBounds_toArray, List.set_cons_zero, List.set_cons_succ, i64_w, i32_w]
              rfl
            refine pure_ (i := 6) (N := some 62) (v := ?_) (a' := ?_) #[true, true, true, false, true, true, true, false, false, false] rfl rfl (any_of HT_.out (by kernel_rfl)) (fun _ _ _ h => h) (Or.inl ⟨by rfl, ?_⟩) ?_ ?_
            rotate_left
            · intro w'
              go_simp
              with_reducible rfl
            rotate_left
            · simp only [Act.put, List.setIfInBounds_toArray, List.set_cons_zero, List.set_cons_succ, i64_w, i32_w]
              rfl
            refine inv_at [3, 7, 8, 9] (fun a0_ b a w' => a = putSel a0_ b [(3, 59, .string (nj j)), (7, 63, .slice (some ⟨wS.heap.size, 0, none⟩) 1 1), (8, 64, .string (nj j)), (9, 65, .bool false)] ∧ (b 7 = false → w' = wS) ∧ (b 7 = true → w' = wS.alloc (.cells #[.int .u8 (97 + (j : Int))] 5)) ∧ (w'.cell? (ad.add j) = some (.string (nj j)))) HT_.out HW_.out (by kernel_rfl) (by kernel_rfl) ?_ ?_ ?_
            · exact ⟨by simp only [putSel, Bool.false_eq_true, if_false], fun _ => rfl, fun h_ => absurd h_ (by decide), HX.out⟩
            · skip
              refine steps_cons ?_ ?_
              · rintro b a w' ⟨ha, Q_W0, Q_W1, Q_CE⟩ hb_ hon hoff
                refine ⟨_, rfl, fun K hK => ?_⟩
                have e58 : a.tmps[58]? = some (.pointer (some (ad.add j))) := by rw [ha]; exact (putSel_off rfl).trans rfl
                replace ha := Aside0.mk ha
                have hC := Q_CE
                refine value_ (w1 := w') (v := .string (nj j)) (by rfl) rfl ?_ ?_
                · go_simp
                  (try simp only [i64_w])
                  try rfl
                refine hK.out _ _ ⟨by rw [ha.out]; exact putSel_upk 0 hb_ rfl rfl rfl, Q_W0, Q_W1, Q_CE⟩
              refine steps_cons ?_ ?_
              · rintro b a w' ⟨ha, Q_W0, Q_W1, Q_CE⟩ hb_ hon hoff
                refine ⟨_, rfl, fun K hK => ?_⟩
                have e62 : a.tmps[62]? = some (.int .u8 (97 + (j : Int))) := by rw [ha]; exact (putSel_off rfl).trans rfl
                replace ha := Aside0.mk ha
                obtain rfl := Q_W0 hb_
                refine value_ (w1 := w'.alloc (.cells #[.int .u8 (97 + (j : Int))] 5)) (v := .slice (some ⟨w'.heap.size, 0, none⟩) 1 1) (by rfl) rfl ?_ ?_
                · go_simp
                  (try simp only [i64_w])
                  try rfl
                refine hK.out _ _ ⟨by rw [ha.out]; exact putSel_upk 1 hb_ rfl rfl rfl, fun h_ => absurd h_ (by simp [Go.Proofs.YtimcibifghidjaaW.PrintLast.up]), fun _ => rfl, pw_cell_below (below_alloc (Below.refl _ _) _) Q_CE⟩
              refine steps_cons ?_ ?_
              · rintro b a w' ⟨ha, Q_W0, Q_W1, Q_CE⟩ hb_ hon hoff
                refine ⟨_, rfl, fun K hK => ?_⟩
                have e63 : a.tmps[63]? = some (.slice (some ⟨wS.heap.size, 0, none⟩) 1 1) := by rw [ha]; exact putSel_on (e := (7, 63, .slice (some ⟨wS.heap.size, 0, none⟩) 1 1)) 1 rfl rfl (hon 7 (by kernel_rfl)) rfl
                replace ha := Aside0.mk ha
                obtain rfl := Q_W1 (hon 7 (by kernel_rfl))
                have hcv := conv1 wS j
                refine value_ (w1 := wS.alloc (.cells #[.int .u8 (97 + (j : Int))] 5)) (v := .string (nj j)) (by rfl) rfl ?_ ?_
                · go_simp
                  (try simp only [i64_w])
                  try rfl
                refine hK.out _ _ ⟨by rw [ha.out]; exact putSel_upk 2 hb_ rfl rfl rfl, Q_W0, Q_W1, Q_CE⟩
              refine steps_cons ?_ ?_
              · rintro b a w' ⟨ha, Q_W0, Q_W1, Q_CE⟩ hb_ hon hoff
                refine ⟨_, rfl, fun K hK => ?_⟩
                have e59 : a.tmps[59]? = some (.string (nj j)) := by rw [ha]; exact putSel_on (e := (3, 59, .string (nj j))) 0 rfl rfl (hon 3 (by kernel_rfl)) rfl
                have e64 : a.tmps[64]? = some (.string (nj j)) := by rw [ha]; exact putSel_on (e := (8, 64, .string (nj j))) 2 rfl rfl (hon 8 (by kernel_rfl)) rfl
                replace ha := Aside0.mk ha
                refine value_ (w1 := w') (v := .bool false) (by rfl) rfl ?_ ?_
                · go_simp
                  (try simp only [i64_w])
                  try rfl
                refine hK.out _ _ ⟨by rw [ha.out]; exact putSel_upk 3 hb_ rfl rfl rfl, Q_W0, Q_W1, Q_CE⟩
              exact steps_nil
            rintro b a w25 hall ⟨ha, Q_W0, Q_W1, Q_CE⟩
            have hb3_ := hall 3 (by kernel_rfl)
            have hb7_ := hall 7 (by kernel_rfl)
            have hb8_ := hall 8 (by kernel_rfl)
            have hb9_ := hall 9 (by kernel_rfl)
            subst ha
            simp only [putSel, hb3_, hb7_, hb8_, hb9_, if_true, Act.put, List.setIfInBounds_toArray, List.set_cons_zero, List.set_cons_succ]
            have W1 := Aside0.mk (Q_W1 hb7_)
            have CE := Aside0.mk (Q_CE)
            clear hall hb3_ hb7_ hb8_ hb9_ Q_W0 Q_W1 Q_CE
            obtain rfl := W1.out
            go_wp2_with (fail)
            go_roundw
            case rel => exact ⟨j + 1, by go_num, by omega, ⟨Kd.R_step HRD.out (fun k _ hlt => (below_alloc (Below.refl _ _) _).block k hlt)⟩, ⟨HSD.out.below (below_alloc (Below.refl _ _) _)⟩⟩
            case measure => simp [intOf]; omega
          · have hje : j = kk := by omega
            subst hje
            have z1 : decide ((j : Int) < (j : Int)) = false := decide_eq_false (by omega)
            go_wp2_with (first | (go_at_call 11; refine (alive_calls _).mono ?_; rintro e w8 ⟨rfl, hb⟩; have HZ := Aside0.mk (below_step HSJ.out.2 hb); clear hb))
            go_ret
            exact ⟨rfl, HZ.out⟩
theorem order_calls (w : World) (n keep : Int) :
    Calls Try.prog 3 #[.int .i64 n, .int .i64 keep] w fun e w' => e = .returned (.bool true) ∧ Below w.heap.size w w' := by
  by_cases h1 : n < 0
  · have q0 : decide (n < 0) = true := decide_eq_true h1
    go_enter Try.func3, Try.ntmps3
    go_wp2_with (first | (go_at_call 11; refine (alive_calls _).mono ?_; rintro e w_ ⟨rfl, hb⟩))
    go_ret
    exact ⟨rfl, hb⟩
  · by_cases h2 : 20 < n
    · have q0 : decide (n < 0) = false := decide_eq_false h1
      have q1 : decide (20 < n) = true := decide_eq_true h2
      go_enter Try.func3, Try.ntmps3
      go_wp2_with (first | (go_at_call 11; refine (alive_calls _).mono ?_; rintro e w_ ⟨rfl, hb⟩))
      go_ret
      exact ⟨rfl, hb⟩
    · obtain ⟨k, rfl⟩ := Int.eq_ofNat_of_zero_le (show 0 ≤ n by omega)
      exact order_in w k keep (by omega)
end Go.Proofs.Ytimcibifghidjaa.Fs
