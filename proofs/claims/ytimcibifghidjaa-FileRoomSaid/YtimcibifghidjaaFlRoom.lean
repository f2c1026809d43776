/- FileRoom: bytes have just so much room. -/
import Derived.Test.YtimcibifghidjaaFs12
import Derived.Test.YtimcibifghidjaaFs15
namespace Go.Proofs.Ytimcibifghidjaa.Fs
open Go Go.RowKit Go.Maps Go.Sort Go.Proofs.Ytimcibifghidjaa.PFil Go.Proofs.Ytimcibifghidjaa.FsM Go.Proofs.YtimcibifghidjaaW.PrintWords Go.Proofs.YtimcibifghidjaaW.PrintLast Go.Proofs.YtimcibifghidjaaW.PrintMore
set_option linter.unusedVariables false
set_option linter.unusedSimpArgs false
def Rm (room n : Int) (b c : Nat) (da db : ByteArray) : Sy := ⟨room, true, false, 0, false, 0, n, [([97], b), ([98], c)], [], [⟨t0, tA, some b⟩, ⟨t0, tB, some c⟩], [⟨b, da, 0⟩, ⟨c, db, 0⟩]⟩
theorem Rm.ok {room n : Int} {b c : Nat} {da db : ByteArray} (hn : 0 ≤ n ∧ n ≤ 1000000) : Okk (Rm room n b c da db) := ⟨⟨hn.1, by show n ≤ _; omega⟩, by show (0 : Int) ≤ _; omega, by show (0 : Int) ≤ _; omega, by simp [Rm], by simp [Rm]⟩
theorem rm_sum {room n : Int} {b c : Nat} {da db : ByteArray} (h : c ≠ b) : sumL (Rm room n b c da db).bd (Rm room n b c da db).at_ = da.size + db.size := by
  simp [sumL, Rm, szOf, fB, Ne.symm h]
def R6 (room n : Int) (b c : Nat) (da db : ByteArray) : Sy := ⟨room, true, false, 0, false, 0, n, [([98], c)], [], [⟨t0, tA, some b⟩, ⟨t0, tB, some c⟩, ⟨tA, ⟨#[]⟩, none⟩], [⟨b, da, 0⟩, ⟨c, db, 0⟩]⟩
theorem rm_rem {room n : Int} {b c : Nat} {da db : ByteArray} (h : c ≠ b) : sumL (R6 room n b c da db).bd (R6 room n b c da db).at_ = db.size := by
  simp [sumL, R6, szOf, fB, Ne.symm h]
theorem rm_app {w0 w : World} {g b c : Nat} {room n : Int} {da db : ByteArray} (h : St w0 w g (Rm room n b c da db)) (hcb : c ≠ b) (hn : 0 ≤ n ∧ n ≤ 1000) (hr : 1 ≤ room ∧ room ≤ 2000) (hu : ((da.size + db.size : Nat) : Int) ≤ room) (m : Nat) (hm : m ≤ 1000) (odd : Bool) :
    Calls Try.prog 18 #[.pointer (some ⟨g, 0, none⟩), .string (if odd = true then tB else tA), .string (zs m)] w fun ee w' => ee = .returned (.int .i64 (if ((da.size + db.size + m : Nat) : Int) ≤ room then 0 else 10)) ∧ ∃ da' db', da'.size + db'.size = (if ((da.size + db.size + m : Nat) : Int) ≤ room then da.size + db.size + m else da.size + db.size) ∧ St w0 w' g (Rm room (n + 1) b c da' db') := by
  have hs := rm_sum (room := room) (n := n) (da := da) (db := db) hcb
  have hzm := zs_size m
  have hst : min ((Rm room n b c da db).steps + 1) 4611686018427387904 = n + 1 := by show min (n + 1) _ = _; omega
  by_cases hf : ((da.size + db.size + m : Nat) : Int) ≤ room
  · rw [if_pos hf, if_pos hf]
    cases odd with
    | false =>
      refine (append_fits h (Rm.ok (by omega)) rfl rfl ⟨by show (0 : Int) < room; omega, by show room ≤ _; omega⟩ tA (zs m) (by decide) ⟨b, da, 0⟩ (by simp [Rm]) (by simp [Rm, lk, bs, tA]) (by rw [hs]; omega) (by omega) (by rw [hs, hzm]; exact hf) (by rw [hzm]; show da.size + m ≤ _; omega)).mono ?_
      rintro ee w' ⟨rfl, ht⟩
      rw [hst] at ht
      exact ⟨rfl, da ++ zs m, db, by rw [ByteArray.size_append, hzm]; omega, ht.eq (by
        show (⟨room, true, false, 0, false, 0, n + 1, _, _, _, rep [⟨b, da, 0⟩, ⟨c, db, 0⟩] ⟨b, da ++ zs m, 0⟩⟩ : Sy) = _
        rw [rep2a hcb]
        rfl)⟩
    | true =>
      refine (append_fits h (Rm.ok (by omega)) rfl rfl ⟨by show (0 : Int) < room; omega, by show room ≤ _; omega⟩ tB (zs m) (by decide) ⟨c, db, 0⟩ (by simp [Rm]) (by simp [Rm, lk, bs, tB]) (by rw [hs]; omega) (by omega) (by rw [hs, hzm]; exact hf) (by rw [hzm]; show db.size + m ≤ _; omega)).mono ?_
      rintro ee w' ⟨rfl, ht⟩
      rw [hst] at ht
      exact ⟨rfl, da, db ++ zs m, by rw [ByteArray.size_append, hzm]; omega, ht.eq (by
        show (⟨room, true, false, 0, false, 0, n + 1, _, _, _, rep [⟨b, da, 0⟩, ⟨c, db, 0⟩] ⟨c, db ++ zs m, 0⟩⟩ : Sy) = _
        rw [rep2b hcb]
        rfl)⟩
  · rw [if_neg hf, if_neg hf]
    cases odd with
    | false =>
      refine (append_full h (Rm.ok (by omega)) rfl rfl ⟨by show (0 : Int) < room; omega, by show room ≤ _; omega⟩ tA (zs m) (by decide) ⟨b, da, 0⟩ (by simp [Rm, lk, bs, tA]) (by rw [hs]; omega) (by omega) (by rw [hs, hzm]; show room < _; omega)).mono ?_
      rintro ee w' ⟨rfl, ht⟩
      rw [hst] at ht
      exact ⟨rfl, da, db, rfl, ht⟩
    | true =>
      refine (append_full h (Rm.ok (by omega)) rfl rfl ⟨by show (0 : Int) < room; omega, by show room ≤ _; omega⟩ tB (zs m) (by decide) ⟨c, db, 0⟩ (by simp [Rm, lk, bs, tB]) (by rw [hs]; omega) (by omega) (by rw [hs, hzm]; show room < _; omega)).mono ?_
      rintro ee w' ⟨rfl, ht⟩
      rw [hst] at ht
      exact ⟨rfl, da, db, rfl, ht⟩
def rm12.T : Bool × List (List Nat × List Nat) := (true, [([], []), ([], []), ([], []), ([2], [2]), ([1, 3], [1, 3]), ([4], [4]), ([], []), ([], []), ([6, 7], [6, 7]), ([8], [8]), ([9, 9], [9]), ([10], [10]), ([0, 5, 11], [0, 5, 11]), ([12, 12, 0, 1, 2, 3, 4, 5, 6, 7, 8, 9, 10, 11, 12], [12])])
def rm12.B : List Nat := [0, 0, 0, 4, 14, 30, 0, 0, 192, 448, 960, 1984, 4095, 8191]
theorem rm12.tab : rtab .any (opsOf Try.f5 12) = rm12.T := by kernel_rfl
theorem rm12.bits : waitsOk rm12.T.2 rm12.B = true := by kernel_rfl
set_option maxHeartbeats 8000000 in
set_option maxRecDepth 100000 in
theorem room_in (w : World) (room : Int) (A : Option Addr) (c0 : Nat) (sizes : List Int) (hroom : 1 ≤ room ∧ room ≤ 2000) (hl : sizes.length ≤ 40) (hr : Kd.C (Kd.int .i64) w A sizes.length sizes) :
    Calls Try.prog 5 #[.int .i64 room, .slice A sizes.length c0] w fun e w' => e = .returned (.bool true) ∧ Below w.heap.size w w' := by
  have HB := Aside0.mk (Below.refl w.heap.size w)
  have q0 : decide (room < 1) = false := decide_eq_false (by omega)
  have q1 : decide (2000 < room) = false := decide_eq_false (by omega)
  have q2 : decide (40 < (sizes.length : Int)) = false := decide_eq_false (by omega)
  have HKE := Aside0.mk hr
  clear hr
  go_enter Try.func5, Try.ntmps5
  go_wp2_with (first
    | (go_at_call 12; refine (s_new w _ HB.out room).mono ?_; rintro e w_ ⟨g, rfl, ht⟩; have HT0 : Aside0 (St w w_ g (A0 room)) := ⟨ht⟩; clear ht HB)
    | (go_at_call 13; refine (s_create HT0.out (okA0 room) rfl rfl tA (by decide) (by decide) rfl).mono ?_; rintro e w_ ⟨rfl, ba, hb, ht⟩; have HT1 : Aside0 (St w w_ g (A1 room ba 1)) := ⟨ht⟩; clear ht hb HT0)
    | (go_at_call 13; refine (s_create HT1.out (okA1 room ba 1 (by decide)) rfl rfl tB (by decide) (by decide) rfl).mono ?_; rintro e w_ ⟨rfl, c, hc, ht⟩; have HCB : Aside0 (c ≠ ba) := ⟨by simpa [blks, A1] using hc⟩; have HT2 : Aside0 (St w w_ g (Rm room 2 ba c t0 t0)) := ⟨ht⟩; clear ht hc HT1))
  go_loopw [6, 7] (fun v6 v7 w' => ∃ (i tot : Nat) (da db : ByteArray), v7 = .int .i64 i ∧ v6 = .int .i64 tot ∧ i ≤ sizes.length ∧ (tot : Int) ≤ room ∧ Aside0 (tot = da.size + db.size) ∧ Aside0 (St w w' g (Rm room (2 + i) ba c da db))) (fun _ v7 _ => sizes.length - (intOf v7).toNat)
  case atStart => exact ⟨0, 0, t0, t0, rfl, rfl, Nat.zero_le _, (by show (0 : Int) ≤ _; omega), ⟨rfl⟩, HT2⟩
  case round =>
    obtain ⟨i, tot, da, db, rfl, rfl, hi, hu, HTT, HS⟩ := hrel
    clear HT2
    by_cases hlk : i < sizes.length
    · have z0 : decide ((i : Int) < (sizes.length : Int)) = true := decide_eq_true (Int.ofNat_lt.mpr hlk)
      have p0 : (0 : Int) ≤ (i : Int) := Int.natCast_nonneg _
      have r0 : (i : Int) < (sizes.length : Int) := Int.ofNat_lt.mpr hlk
      obtain ⟨ad, e0, hx0⟩ := Kd.at_int (Kd.C_below HKE.out HS.out.2) (i : Int) p0 r0
      cases e0
      rw [Int.toNat_natCast] at hx0
      obtain ⟨z, hzr⟩ : ∃ z, z = rd sizes (i : Int) := ⟨_, rfl⟩
      rw [← hzr] at hx0
      have HZR := Aside0.mk hzr
      clear hzr
      by_cases hz0 : z < 0
      · have z1 : decide (z < 0) = true := decide_eq_true hz0
        go_wp2_with (first | (go_quiet (fail)) | (go_at_call 11; refine (alive_calls _).mono ?_; rintro e w8 ⟨rfl, hb⟩; have HZ := Aside0.mk (below_step HS.out.2 hb); clear hb))
        go_ret
        exact ⟨rfl, HZ.out⟩
      · have z1 : decide (z < 0) = false := decide_eq_false hz0
        by_cases hz1 : 1000 < z
        · have z2 : decide (1000 < z) = true := decide_eq_true hz1
          go_wp2_with (first | (go_quiet (fail)) | (go_at_call 11; refine (alive_calls _).mono ?_; rintro e w8 ⟨rfl, hb⟩; have HZ := Aside0.mk (below_step HS.out.2 hb); clear hb))
          go_ret
          exact ⟨rfl, HZ.out⟩
        · have z2 : decide (1000 < z) = false := decide_eq_false hz1
          obtain ⟨zn, rfl⟩ := Int.eq_ofNat_of_zero_le (show 0 ≤ z by omega)
          have HZN : Aside0 (zn ≤ 1000) := ⟨by omega⟩
          have hand := and1 i (by omega)
          have HSD := Aside0.mk (HS.out.below (below_drew (Below.refl _ wr)))
          have HX := Aside0.mk (show wr.drew.cell? (ad.add i) = some (.int .i64 (zn : Int)) from hx0)
          obtain ⟨er, her⟩ : ∃ er : Int, er = (if ((tot + zn : Nat) : Int) ≤ room then 0 else 10) := ⟨_, rfl⟩
          obtain ⟨tn, htn⟩ : ∃ tn : Nat, tn = (if ((tot + zn : Nat) : Int) ≤ room then tot + zn else tot) := ⟨_, rfl⟩
          have HAPP : Aside0 (∀ (V : World) (odd : Bool), St w V g (Rm room (2 + i) ba c da db) → Calls Try.prog 18 #[.pointer (some ⟨g, 0, none⟩), .string (if odd = true then tB else tA), .string (zs zn)] V fun e w' => e = .returned (.int .i64 er) ∧ ∃ da' db', da'.size + db'.size = tn ∧ St w w' g (Rm room (2 + i + 1) ba c da' db')) := ⟨fun V odd hV => by
            have h1 := rm_app hV HCB.out (by omega) hroom (by rw [← HTT.out]; exact hu) zn HZN.out odd
            rw [← HTT.out, ← her, ← htn] at h1
            exact h1⟩
          have HER := Aside0.mk her
          have HTN := Aside0.mk htn
          clear her htn
          obtain hpar | hpar : i % 2 = 0 ∨ i % 2 = 1 := by omega
          · rw [hpar] at hand
            have HIW := Aside0.mk hi
            clear hpar
            go_wp2_with (fail)
            clear hx0
            refine start_ (n := 14) (S := fun w' => True) (ds := []) #[false, false, false, false, false, false, false, false, false, false, false, false, false, false] (by kernel_rfl) rfl rfl trivial (fun hHeld => ?_); refine with_tabW rm12.tab rm12.bits (fun HT_ HW_ => ?_)
            generalize wr.drew = wS at *
            refine pure_ (i := 0) (N := some 56) (v := ?_) (a' := ?_) #[true, false, false, false, false, false, false, false, false, false, false, false, false, false] rfl rfl (any_of HT_.out (by kernel_rfl)) (fun _ _ _ h => h) (Or.inl ⟨by rfl, ?_⟩) ?_ ?_
            rotate_left
            · intro w'
              go_simp
              with_reducible rfl
            rotate_left
            · simp only [Act.put, List.setIfInBounds_toArray, List.set_cons_zero, List.set_cons_succ, i64_w, i32_w]
              rfl
            refine pure_ (i := 2) (N := some 58) (v := ?_) (a' := ?_) #[true, false, true, false, false, false, false, false, false, false, false, false, false, false] rfl rfl (any_of HT_.out (by kernel_rfl)) (fun _ _ _ h => h) (Or.inl ⟨by rfl, ?_⟩) ?_ ?_
            rotate_left
            · intro w'
              go_simp
              with_reducible rfl
            rotate_left
            · simp only [Act.put, List.setIfInBounds_toArray, List.set_cons_zero, List.set_cons_succ, i64_w, i32_w]
              rfl
            refine pure_ (i := 3) (N := some 59) (v := ?_) (a' := ?_) #[true, false, true, true, false, false, false, false, false, false, false, false, false, false] rfl rfl (any_of HT_.out (by kernel_rfl)) (fun _ _ _ h => h) (Or.inl ⟨by rfl, ?_⟩) ?_ ?_
            rotate_left
            · intro w'
              go_simp
              with_reducible rfl
            rotate_left
            · simp only [Act.put, List.setIfInBounds_toArray, List.set_cons_zero, List.set_cons_succ, i64_w, i32_w]
              rfl
            refine pure_ (i := 6) (N := some 62) (v := ?_) (a' := ?_) #[true, false, true, true, false, false, true, false, false, false, false, false, false, false] rfl rfl (any_of HT_.out (by kernel_rfl)) (fun _ _ _ h => h) (Or.inl ⟨by rfl, ?_⟩) ?_ ?_
            rotate_left
            · intro w'
              go_simp
              with_reducible rfl
            rotate_left
            · simp only [Act.put, List.setIfInBounds_toArray, List.set_cons_zero, List.set_cons_succ, i64_w, i32_w]
              rfl
            refine pure_ (i := 7) (N := some 63) (v := ?_) (a' := ?_) #[true, false, true, true, false, false, true, true, false, false, false, false, false, false] rfl rfl (any_of HT_.out (by kernel_rfl)) (fun _ _ _ h => h) (Or.inl ⟨by rfl, ?_⟩) ?_ ?_
            rotate_left
            · intro w'
              go_simp
              with_reducible rfl
            rotate_left
            · simp only [Act.put, List.setIfInBounds_toArray, List.set_cons_zero, List.set_cons_succ, i64_w, i32_w]
              rfl
            refine pure_ (i := 8) (N := some 64) (v := ?_) (a' := ?_) #[true, false, true, true, false, false, true, true, true, false, false, false, false, false] rfl rfl (any_of HT_.out (by kernel_rfl)) (fun _ _ _ h => h) (Or.inl ⟨by rfl, ?_⟩) ?_ ?_
            rotate_left
            · intro w'
              go_simp
              with_reducible rfl
            rotate_left
            · simp only [Act.put, List.setIfInBounds_toArray, List.set_cons_zero, List.set_cons_succ, i64_w, i32_w]
              rfl
            refine inv_at [1, 4, 5, 9, 10, 11, 12, 13] (fun a0_ b a w' => ∃ (v57 : Value), ∃ (v60 : Value), ∃ (v66 : Value), a = putSel a0_ b [(1, 57, v57), (4, 60, v60), (5, 61, .string tA), (9, 65, .int .i64 (zn : Int)), (10, 66, v66), (11, 67, .string (zs zn)), (12, 68, .int .i64 er), (13, 8, .int .i64 er)] ∧ (b 1 = true → b 12 = false → ∃ p, v57 = .slice (some ⟨p, 0, none⟩) 2 2 ∧ w'.heap[p]? = some (.cells #[.string ⟨#[97]⟩, .string ⟨#[98]⟩] 9 (0, 0))) ∧ (b 4 = true → b 12 = false → ∃ p, v60 = .pointer (some ⟨p, 0, none⟩) ∧ w'.heap[p]? = some (.cells #[.string ⟨#[97]⟩, .string ⟨#[98]⟩] 9 (0, 0))) ∧ (b 10 = true → b 12 = false → ∃ q, v66 = .slice (some ⟨q, 0, none⟩) zn zn ∧ w'.heap[q]? = some (.cells (zc zn) 5 (0, 0))) ∧ (b 12 = false → w'.cell? (ad.add i) = some (.int .i64 (zn : Int)) ∧ St w w' g (Rm room (2 + i) ba c da db)) ∧ (b 12 = true → ∃ da' db', da'.size + db'.size = tn ∧ St w w' g (Rm room (2 + i + 1) ba c da' db'))) HT_.out HW_.out (by kernel_rfl) (by kernel_rfl) ?_ ?_ ?_
            · exact ⟨.bool false, .bool false, .bool false, by simp only [putSel, Bool.false_eq_true, if_false], fun h_ => absurd h_ (by decide), fun h_ => absurd h_ (by decide), fun h_ => absurd h_ (by decide), fun _ => ⟨HX.out, HSD.out⟩, fun h_ => absurd h_ (by decide)⟩
            · skip
              refine steps_cons ?_ ?_
              · rintro b a w' ⟨v57, v60, v66, ha, Q_LIT, Q_L4, Q_MK, Q_SZ, Q_POST⟩ hb_ hon hoff
                refine ⟨_, rfl, fun K hK => ?_⟩
                replace ha := Aside0.mk ha
                refine value_ (w1 := w'.alloc (.cells #[.string ⟨#[97]⟩, .string ⟨#[98]⟩] 9)) (v := .slice (some ⟨w'.heap.size, 0, none⟩) 2 2) (by rfl) rfl ?_ ?_
                · go_simp
                  (try simp only [i64_w])
                  try rfl
                refine hK.out _ _ ⟨.slice (some ⟨w'.heap.size, 0, none⟩) 2 2, v60, v66, by rw [ha.out]; exact putSel_upk 0 hb_ rfl rfl rfl, fun _ _ => ⟨_, rfl, blk_new _ _⟩, fun h1 h2 => (Q_L4 h1 h2).imp (fun p hp => ⟨hp.1, blk_alloc hp.2 _⟩), fun h1 h2 => (Q_MK h1 h2).imp (fun p hp => ⟨hp.1, blk_alloc hp.2 _⟩), fun h_ => ⟨pw_cell_below (below_alloc (Below.refl _ _) _) (Q_SZ h_).1, (Q_SZ h_).2.below (below_alloc (Below.refl _ _) _)⟩, fun h_ => absurd ((hoff 12 (by kernel_rfl)).symm.trans h_) (by decide)⟩
              refine steps_cons ?_ ?_
              · rintro b a w' ⟨v57, v60, v66, ha, Q_LIT, Q_L4, Q_MK, Q_SZ, Q_POST⟩ hb_ hon hoff
                refine ⟨_, rfl, fun K hK => ?_⟩
                have e57 : a.tmps[57]? = some (v57) := by rw [ha]; exact putSel_on (e := (1, 57, v57)) 0 rfl rfl (hon 1 (by kernel_rfl)) rfl
                have e59 : a.tmps[59]? = some (.int .i64 0) := by rw [ha]; exact (putSel_off rfl).trans rfl
                replace ha := Aside0.mk ha
                obtain ⟨p, rfl, hL⟩ := Q_LIT (hon 1 (by kernel_rfl)) (hoff 12 (by kernel_rfl))
                refine value_ (w1 := w') (v := .pointer (some ⟨p, 0, none⟩)) (by rfl) rfl ?_ ?_
                · go_simp
                  (try simp only [i64_w])
                  try rfl
                refine hK.out _ _ ⟨.slice (some ⟨p, 0, none⟩) 2 2, .pointer (some ⟨p, 0, none⟩), v66, by rw [ha.out]; exact putSel_upk 1 hb_ rfl rfl rfl, Q_LIT, fun _ _ => ⟨p, rfl, hL⟩, Q_MK, Q_SZ, Q_POST⟩
              refine steps_cons ?_ ?_
              · rintro b a w' ⟨v57, v60, v66, ha, Q_LIT, Q_L4, Q_MK, Q_SZ, Q_POST⟩ hb_ hon hoff
                refine ⟨_, rfl, fun K hK => ?_⟩
                have e60 : a.tmps[60]? = some (v60) := by rw [ha]; exact putSel_on (e := (4, 60, v60)) 1 rfl rfl (hon 4 (by kernel_rfl)) rfl
                replace ha := Aside0.mk ha
                obtain ⟨p, rfl, hL⟩ := Q_L4 (hon 4 (by kernel_rfl)) (hoff 12 (by kernel_rfl))
                have y0 : w'.cell? ⟨p, 0, none⟩ = some (.string tA) := (blk_cell hL 0).trans rfl
                refine value_ (w1 := w') (v := .string tA) (by rfl) rfl ?_ ?_
                · go_simp
                  (try simp only [i64_w])
                  try rfl
                refine hK.out _ _ ⟨v57, .pointer (some ⟨p, 0, none⟩), v66, by rw [ha.out]; exact putSel_upk 2 hb_ rfl rfl rfl, Q_LIT, Q_L4, Q_MK, Q_SZ, Q_POST⟩
              refine steps_cons ?_ ?_
              · rintro b a w' ⟨v57, v60, v66, ha, Q_LIT, Q_L4, Q_MK, Q_SZ, Q_POST⟩ hb_ hon hoff
                refine ⟨_, rfl, fun K hK => ?_⟩
                have e64 : a.tmps[64]? = some (.pointer (some (ad.add i))) := by rw [ha]; exact (putSel_off rfl).trans rfl
                replace ha := Aside0.mk ha
                have hC := (Q_SZ (hoff 12 (by kernel_rfl))).1
                refine value_ (w1 := w') (v := .int .i64 (zn : Int)) (by rfl) rfl ?_ ?_
                · go_simp
                  (try simp only [i64_w])
                  try rfl
                refine hK.out _ _ ⟨v57, v60, v66, by rw [ha.out]; exact putSel_upk 3 hb_ rfl rfl rfl, Q_LIT, Q_L4, Q_MK, Q_SZ, Q_POST⟩
              refine steps_cons ?_ ?_
              · rintro b a w' ⟨v57, v60, v66, ha, Q_LIT, Q_L4, Q_MK, Q_SZ, Q_POST⟩ hb_ hon hoff
                refine ⟨_, rfl, fun K hK => ?_⟩
                have e65 : a.tmps[65]? = some (.int .i64 (zn : Int)) := by rw [ha]; exact putSel_on (e := (9, 65, .int .i64 (zn : Int))) 3 rfl rfl (hon 9 (by kernel_rfl)) rfl
                replace ha := Aside0.mk ha
                have hmk := mkz w' zn HZN.out
                refine value_ (w1 := w'.alloc (.cells (zc zn) 5)) (v := .slice (some ⟨w'.heap.size, 0, none⟩) zn zn) (by rfl) rfl ?_ ?_
                · go_simp
                  (try simp only [i64_w])
                  try rfl
                refine hK.out _ _ ⟨v57, v60, .slice (some ⟨w'.heap.size, 0, none⟩) zn zn, by rw [ha.out]; exact putSel_upk 4 hb_ rfl rfl rfl, fun h1 h2 => (Q_LIT h1 h2).imp (fun p hp => ⟨hp.1, blk_alloc hp.2 _⟩), fun h1 h2 => (Q_L4 h1 h2).imp (fun p hp => ⟨hp.1, blk_alloc hp.2 _⟩), fun _ _ => ⟨_, rfl, blk_new _ _⟩, fun h_ => ⟨pw_cell_below (below_alloc (Below.refl _ _) _) (Q_SZ h_).1, (Q_SZ h_).2.below (below_alloc (Below.refl _ _) _)⟩, fun h_ => absurd ((hoff 12 (by kernel_rfl)).symm.trans h_) (by decide)⟩
              refine steps_cons ?_ ?_
              · rintro b a w' ⟨v57, v60, v66, ha, Q_LIT, Q_L4, Q_MK, Q_SZ, Q_POST⟩ hb_ hon hoff
                refine ⟨_, rfl, fun K hK => ?_⟩
                have e66 : a.tmps[66]? = some (v66) := by rw [ha]; exact putSel_on (e := (10, 66, v66)) 4 rfl rfl (hon 10 (by kernel_rfl)) rfl
                replace ha := Aside0.mk ha
                obtain ⟨q, rfl, hM⟩ := Q_MK (hon 10 (by kernel_rfl)) (hoff 12 (by kernel_rfl))
                have hcv := convz w' q zn hM
                refine value_ (w1 := w') (v := .string (zs zn)) (by rfl) rfl ?_ ?_
                · go_simp
                  (try simp only [i64_w])
                  try rfl
                refine hK.out _ _ ⟨v57, v60, .slice (some ⟨q, 0, none⟩) zn zn, by rw [ha.out]; exact putSel_upk 5 hb_ rfl rfl rfl, Q_LIT, Q_L4, Q_MK, Q_SZ, Q_POST⟩
              refine steps_cons ?_ ?_
              · rintro b a w' ⟨v57, v60, v66, ha, Q_LIT, Q_L4, Q_MK, Q_SZ, Q_POST⟩ hb_ hon hoff
                refine ⟨_, rfl, fun K hK => ?_⟩
                have e56 : a.tmps[56]? = some (.pointer (some ⟨g, 0, none⟩)) := by rw [ha]; exact (putSel_off rfl).trans rfl
                have e61 : a.tmps[61]? = some (.string tA) := by rw [ha]; exact putSel_on (e := (5, 61, .string tA)) 2 rfl rfl (hon 5 (by kernel_rfl)) rfl
                have e67 : a.tmps[67]? = some (.string (zs zn)) := by rw [ha]; exact putSel_on (e := (11, 67, .string (zs zn))) 5 rfl rfl (hon 11 (by kernel_rfl)) rfl
                replace ha := Aside0.mk ha
                refine goes_ Try.func18 (by kernel_rfl) rfl #[.pointer (some ⟨g, 0, none⟩), .string tA, .string (zs zn)] (by rfl) rfl rfl (by first | (simp only [List.map_toArray, List.map_cons, List.map_nil, Act.eval, Array.getD_eq_getD_getElem?, Option.getD_some, e56, e61, e67]; done) | (simp only [List.map_toArray, List.map_cons, List.map_nil, Act.eval, Array.getD_eq_getD_getElem?, Option.getD_some, e56, e61, e67]; rfl)) ?_
                refine (HAPP.out _ false (Q_SZ hb_).2).mono ?_
                rintro e w1 ⟨rfl, hpost⟩
                refine ⟨_, rfl, ?_⟩
                refine hK.out _ _ ⟨v57, v60, v66, by rw [ha.out]; exact putSel_upk 6 hb_ rfl rfl rfl, fun _ h_ => absurd h_ (by simp [Go.Proofs.YtimcibifghidjaaW.PrintLast.up]), fun _ h_ => absurd h_ (by simp [Go.Proofs.YtimcibifghidjaaW.PrintLast.up]), fun _ h_ => absurd h_ (by simp [Go.Proofs.YtimcibifghidjaaW.PrintLast.up]), fun h_ => absurd h_ (by simp [Go.Proofs.YtimcibifghidjaaW.PrintLast.up]), fun _ => hpost⟩
              refine steps_cons ?_ ?_
              · rintro b a w' ⟨v57, v60, v66, ha, Q_LIT, Q_L4, Q_MK, Q_SZ, Q_POST⟩ hb_ hon hoff
                refine ⟨_, rfl, fun K hK => ?_⟩
                have e68 : a.tmps[68]? = some (.int .i64 er) := by rw [ha]; exact putSel_on (e := (12, 68, .int .i64 er)) 6 rfl rfl (hon 12 (by kernel_rfl)) rfl
                replace ha := Aside0.mk ha
                refine value_ (w1 := w') (v := .int .i64 er) (by rfl) rfl ?_ ?_
                · go_simp
                  (try simp only [i64_w])
                  try rfl
                refine hK.out _ _ ⟨v57, v60, v66, by rw [ha.out]; exact putSel_upk 7 hb_ rfl rfl rfl, Q_LIT, Q_L4, Q_MK, Q_SZ, Q_POST⟩
              exact steps_nil
            rintro b a w25 hall ⟨v57, v60, v66, ha, Q_LIT, Q_L4, Q_MK, Q_SZ, Q_POST⟩
            have hb1_ := hall 1 (by kernel_rfl)
            have hb4_ := hall 4 (by kernel_rfl)
            have hb5_ := hall 5 (by kernel_rfl)
            have hb9_ := hall 9 (by kernel_rfl)
            have hb10_ := hall 10 (by kernel_rfl)
            have hb11_ := hall 11 (by kernel_rfl)
            have hb12_ := hall 12 (by kernel_rfl)
            have hb13_ := hall 13 (by kernel_rfl)
            subst ha
            simp only [putSel, hb1_, hb4_, hb5_, hb9_, hb10_, hb11_, hb12_, hb13_, if_true, Act.put, List.setIfInBounds_toArray, List.set_cons_zero, List.set_cons_succ]
            have LIT := Aside0.mk (Q_LIT hb1_)
            have L4 := Aside0.mk (Q_L4 hb4_)
            have MK := Aside0.mk (Q_MK hb10_)
            have POST := Aside0.mk (Q_POST hb12_)
            clear hall hb1_ hb4_ hb5_ hb9_ hb10_ hb11_ hb12_ hb13_ Q_LIT Q_L4 Q_MK Q_SZ Q_POST
            obtain ⟨da2, db2, hsz2, hst2⟩ := POST.out
            have HS2 := Aside0.mk hst2
            have HZ2 := Aside0.mk hsz2
            have hx2 : w25.cell? (ad.add i) = some (.int .i64 (zn : Int)) := by
              obtain ⟨ad', e1, h1⟩ := Kd.at_int (Kd.C_below HKE.out HS2.out.2) (i : Int) p0 r0
              cases e1
              rw [Int.toNat_natCast, ← HZR.out] at h1
              exact h1
            have HU2 : Aside0 (∀ V, Below w25.heap.size w25 V → Calls Try.prog 22 #[.pointer (some ⟨g, 0, none⟩)] V fun e w' => e = .returned (.int .i64 (tn : Int)) ∧ St w w' g (Rm room (2 + i + 1) ba c da2 db2)) := ⟨fun V hV => by
              have h1 := HS2.out.below hV
              have h2 := rm_sum (room := room) (n := 2 + (i : Int) + 1) (da := da2) (db := db2) HCB.out
              have h3 : tn ≤ 3000 := by have := HTN.out; split at this <;> omega
              refine (used_calls h1 (by rw [h2, HZ2.out]; omega)).mono ?_
              rintro e w' ⟨rfl, hb⟩
              rw [h2, HZ2.out]
              exact ⟨rfl, h1.below hb⟩⟩
            have HTZ : Aside0 (tn = da2.size + db2.size) := ⟨HZ2.out.symm⟩
            clear hst2 hsz2 POST
            have hwu : IntKind.i64.wrap ((tot : Int) + (zn : Int)) = (tot : Int) + (zn : Int) := by rw [IntKind.wrap_i64]; omega
            by_cases hf : (tot : Int) + (zn : Int) ≤ room
            · have z3 : decide ((tot : Int) + (zn : Int) ≤ room) = true := decide_eq_true hf
              obtain rfl : er = 0 := by rw [HER.out, if_pos (by omega)]
              obtain rfl : tn = tot + zn := by rw [HTN.out, if_pos (by omega)]
              rw [Int.natCast_add] at HU2
              go_wp2_with (first
                | (go_quiet (fail))
                | (go_at_call 22; refine (HU2.out _ (by first | exact pw_below_drewN (Below.refl _ _) _ | exact Below.refl _ _)).mono ?_; rintro e w5 ⟨rfl, ht⟩; have HS5 := Aside0.mk ht; clear ht))
              go_roundw
              case rel => exact ⟨i + 1, tot + zn, da2, db2, by go_num, by go_num, by omega, by omega, HTZ, ⟨HS5.out.eq (by first | rfl | (congr 1; omega))⟩⟩
              case measure => simp [intOf]; omega
            · have z3 : decide ((tot : Int) + (zn : Int) ≤ room) = false := decide_eq_false hf
              obtain rfl : er = 10 := by rw [HER.out, if_neg (by omega)]
              obtain rfl : tn = tot := by rw [HTN.out, if_neg (by omega)]
              go_wp2_with (first
                | (go_quiet (fail))
                | (go_at_call 22; refine (HU2.out _ (by first | exact pw_below_drewN (Below.refl _ _) _ | exact Below.refl _ _)).mono ?_; rintro e w5 ⟨rfl, ht⟩; have HS5 := Aside0.mk ht; clear ht))
              go_roundw
              case rel => exact ⟨i + 1, tn, da2, db2, by go_num, by go_num, by omega, by omega, HTZ, ⟨HS5.out.eq (by first | rfl | (congr 1; omega))⟩⟩
              case measure => simp [intOf]; omega
          · rw [hpar] at hand
            have HIW := Aside0.mk hi
            clear hpar
            go_wp2_with (fail)
            clear hx0
            refine start_ (n := 14) (S := fun w' => True) (ds := []) #[false, false, false, false, false, false, false, false, false, false, false, false, false, false] (by kernel_rfl) rfl rfl trivial (fun hHeld => ?_); refine with_tabW rm12.tab rm12.bits (fun HT_ HW_ => ?_)
            generalize wr.drew = wS at *
            refine pure_ (i := 0) (N := some 56) (v := ?_) (a' := ?_) #[true, false, false, false, false, false, false, false, false, false, false, false, false, false] rfl rfl (any_of HT_.out (by kernel_rfl)) (fun _ _ _ h => h) (Or.inl ⟨by rfl, ?_⟩) ?_ ?_
            rotate_left
            · intro w'
              go_simp
              with_reducible rfl
            rotate_left
            · simp only [Act.put, List.setIfInBounds_toArray, List.set_cons_zero, List.set_cons_succ, i64_w, i32_w]
              rfl
            refine pure_ (i := 2) (N := some 58) (v := ?_) (a' := ?_) #[true, false, true, false, false, false, false, false, false, false, false, false, false, false] rfl rfl (any_of HT_.out (by kernel_rfl)) (fun _ _ _ h => h) (Or.inl ⟨by rfl, ?_⟩) ?_ ?_
            rotate_left
            · intro w'
              go_simp
              with_reducible rfl
            rotate_left
            · simp only [Act.put, List.setIfInBounds_toArray, List.set_cons_zero, List.set_cons_succ, i64_w, i32_w]
              rfl
            refine pure_ (i := 3) (N := some 59) (v := ?_) (a' := ?_) #[true, false, true, true, false, false, false, false, false, false, false, false, false, false] rfl rfl (any_of HT_.out (by kernel_rfl)) (fun _ _ _ h => h) (Or.inl ⟨by rfl, ?_⟩) ?_ ?_
            rotate_left
            · intro w'
              go_simp
              with_reducible rfl
            rotate_left
            · simp only [Act.put, List.setIfInBounds_toArray, List.set_cons_zero, List.set_cons_succ, i64_w, i32_w]
              rfl
            refine pure_ (i := 6) (N := some 62) (v := ?_) (a' := ?_) #[true, false, true, true, false, false, true, false, false, false, false, false, false, false] rfl rfl (any_of HT_.out (by kernel_rfl)) (fun _ _ _ h => h) (Or.inl ⟨by rfl, ?_⟩) ?_ ?_
            rotate_left
            · intro w'
              go_simp
              with_reducible rfl
            rotate_left
            · simp only [Act.put, List.setIfInBounds_toArray, List.set_cons_zero, List.set_cons_succ, i64_w, i32_w]
              rfl
            refine pure_ (i := 7) (N := some 63) (v := ?_) (a' := ?_) #[true, false, true, true, false, false, true, true, false, false, false, false, false, false] rfl rfl (any_of HT_.out (by kernel_rfl)) (fun _ _ _ h => h) (Or.inl ⟨by rfl, ?_⟩) ?_ ?_
            rotate_left
            · intro w'
              go_simp
              with_reducible rfl
            rotate_left
            · simp only [Act.put, List.setIfInBounds_toArray, List.set_cons_zero, List.set_cons_succ, i64_w, i32_w]
              rfl
            refine pure_ (i := 8) (N := some 64) (v := ?_) (a' := ?_) #[true, false, true, true, false, false, true, true, true, false, false, false, false, false] rfl rfl (any_of HT_.out (by kernel_rfl)) (fun _ _ _ h => h) (Or.inl ⟨by rfl, ?_⟩) ?_ ?_
            rotate_left
            · intro w'
              go_simp
              with_reducible rfl
            rotate_left
            · simp only [Act.put, List.setIfInBounds_toArray, List.set_cons_zero, List.set_cons_succ, i64_w, i32_w]
              rfl
            refine inv_at [1, 4, 5, 9, 10, 11, 12, 13] (fun a0_ b a w' => ∃ (v57 : Value), ∃ (v60 : Value), ∃ (v66 : Value), a = putSel a0_ b [(1, 57, v57), (4, 60, v60), (5, 61, .string tB), (9, 65, .int .i64 (zn : Int)), (10, 66, v66), (11, 67, .string (zs zn)), (12, 68, .int .i64 er), (13, 8, .int .i64 er)] ∧ (b 1 = true → b 12 = false → ∃ p, v57 = .slice (some ⟨p, 0, none⟩) 2 2 ∧ w'.heap[p]? = some (.cells #[.string ⟨#[97]⟩, .string ⟨#[98]⟩] 9 (0, 0))) ∧ (b 4 = true → b 12 = false → ∃ p, v60 = .pointer (some ⟨p, 1, none⟩) ∧ w'.heap[p]? = some (.cells #[.string ⟨#[97]⟩, .string ⟨#[98]⟩] 9 (0, 0))) ∧ (b 10 = true → b 12 = false → ∃ q, v66 = .slice (some ⟨q, 0, none⟩) zn zn ∧ w'.heap[q]? = some (.cells (zc zn) 5 (0, 0))) ∧ (b 12 = false → w'.cell? (ad.add i) = some (.int .i64 (zn : Int)) ∧ St w w' g (Rm room (2 + i) ba c da db)) ∧ (b 12 = true → ∃ da' db', da'.size + db'.size = tn ∧ St w w' g (Rm room (2 + i + 1) ba c da' db'))) HT_.out HW_.out (by kernel_rfl) (by kernel_rfl) ?_ ?_ ?_
            · exact ⟨.bool false, .bool false, .bool false, by simp only [putSel, Bool.false_eq_true, if_false], fun h_ => absurd h_ (by decide), fun h_ => absurd h_ (by decide), fun h_ => absurd h_ (by decide), fun _ => ⟨HX.out, HSD.out⟩, fun h_ => absurd h_ (by decide)⟩
            · skip
              refine steps_cons ?_ ?_
              · rintro b a w' ⟨v57, v60, v66, ha, Q_LIT, Q_L4, Q_MK, Q_SZ, Q_POST⟩ hb_ hon hoff
                refine ⟨_, rfl, fun K hK => ?_⟩
                replace ha := Aside0.mk ha
                refine value_ (w1 := w'.alloc (.cells #[.string ⟨#[97]⟩, .string ⟨#[98]⟩] 9)) (v := .slice (some ⟨w'.heap.size, 0, none⟩) 2 2) (by rfl) rfl ?_ ?_
                · go_simp
                  (try simp only [i64_w])
                  try rfl
                refine hK.out _ _ ⟨.slice (some ⟨w'.heap.size, 0, none⟩) 2 2, v60, v66, by rw [ha.out]; exact putSel_upk 0 hb_ rfl rfl rfl, fun _ _ => ⟨_, rfl, blk_new _ _⟩, fun h1 h2 => (Q_L4 h1 h2).imp (fun p hp => ⟨hp.1, blk_alloc hp.2 _⟩), fun h1 h2 => (Q_MK h1 h2).imp (fun p hp => ⟨hp.1, blk_alloc hp.2 _⟩), fun h_ => ⟨pw_cell_below (below_alloc (Below.refl _ _) _) (Q_SZ h_).1, (Q_SZ h_).2.below (below_alloc (Below.refl _ _) _)⟩, fun h_ => absurd ((hoff 12 (by kernel_rfl)).symm.trans h_) (by decide)⟩
              refine steps_cons ?_ ?_
              · rintro b a w' ⟨v57, v60, v66, ha, Q_LIT, Q_L4, Q_MK, Q_SZ, Q_POST⟩ hb_ hon hoff
                refine ⟨_, rfl, fun K hK => ?_⟩
                have e57 : a.tmps[57]? = some (v57) := by rw [ha]; exact putSel_on (e := (1, 57, v57)) 0 rfl rfl (hon 1 (by kernel_rfl)) rfl
                have e59 : a.tmps[59]? = some (.int .i64 1) := by rw [ha]; exact (putSel_off rfl).trans rfl
                replace ha := Aside0.mk ha
                obtain ⟨p, rfl, hL⟩ := Q_LIT (hon 1 (by kernel_rfl)) (hoff 12 (by kernel_rfl))
                refine value_ (w1 := w') (v := .pointer (some ⟨p, 1, none⟩)) (by rfl) rfl ?_ ?_
                · go_simp
                  (try simp only [i64_w])
                  try rfl
                refine hK.out _ _ ⟨.slice (some ⟨p, 0, none⟩) 2 2, .pointer (some ⟨p, 1, none⟩), v66, by rw [ha.out]; exact putSel_upk 1 hb_ rfl rfl rfl, Q_LIT, fun _ _ => ⟨p, rfl, hL⟩, Q_MK, Q_SZ, Q_POST⟩
              refine steps_cons ?_ ?_
              · rintro b a w' ⟨v57, v60, v66, ha, Q_LIT, Q_L4, Q_MK, Q_SZ, Q_POST⟩ hb_ hon hoff
                refine ⟨_, rfl, fun K hK => ?_⟩
                have e60 : a.tmps[60]? = some (v60) := by rw [ha]; exact putSel_on (e := (4, 60, v60)) 1 rfl rfl (hon 4 (by kernel_rfl)) rfl
                replace ha := Aside0.mk ha
                obtain ⟨p, rfl, hL⟩ := Q_L4 (hon 4 (by kernel_rfl)) (hoff 12 (by kernel_rfl))
                have y0 : w'.cell? ⟨p, 1, none⟩ = some (.string tB) := (blk_cell hL 1).trans rfl
                refine value_ (w1 := w') (v := .string tB) (by rfl) rfl ?_ ?_
                · go_simp
                  (try simp only [i64_w])
                  try rfl
                refine hK.out _ _ ⟨v57, .pointer (some ⟨p, 1, none⟩), v66, by rw [ha.out]; exact putSel_upk 2 hb_ rfl rfl rfl, Q_LIT, Q_L4, Q_MK, Q_SZ, Q_POST⟩
              refine steps_cons ?_ ?_
              · rintro b a w' ⟨v57, v60, v66, ha, Q_LIT, Q_L4, Q_MK, Q_SZ, Q_POST⟩ hb_ hon hoff
                refine ⟨_, rfl, fun K hK => ?_⟩
                have e64 : a.tmps[64]? = some (.pointer (some (ad.add i))) := by rw [ha]; exact (putSel_off rfl).trans rfl
                replace ha := Aside0.mk ha
                have hC := (Q_SZ (hoff 12 (by kernel_rfl))).1
                refine value_ (w1 := w') (v := .int .i64 (zn : Int)) (by rfl) rfl ?_ ?_
                · go_simp
                  (try simp only [i64_w])
                  try rfl
                refine hK.out _ _ ⟨v57, v60, v66, by rw [ha.out]; exact putSel_upk 3 hb_ rfl rfl rfl, Q_LIT, Q_L4, Q_MK, Q_SZ, Q_POST⟩
              refine steps_cons ?_ ?_
              · rintro b a w' ⟨v57, v60, v66, ha, Q_LIT, Q_L4, Q_MK, Q_SZ, Q_POST⟩ hb_ hon hoff
                refine ⟨_, rfl, fun K hK => ?_⟩
                have e65 : a.tmps[65]? = some (.int .i64 (zn : Int)) := by rw [ha]; exact putSel_on (e := (9, 65, .int .i64 (zn : Int))) 3 rfl rfl (hon 9 (by kernel_rfl)) rfl
                replace ha := Aside0.mk ha
                have hmk := mkz w' zn HZN.out
                refine value_ (w1 := w'.alloc (.cells (zc zn) 5)) (v := .slice (some ⟨w'.heap.size, 0, none⟩) zn zn) (by rfl) rfl ?_ ?_
                · go_simp
                  (try simp only [i64_w])
                  try rfl
                refine hK.out _ _ ⟨v57, v60, .slice (some ⟨w'.heap.size, 0, none⟩) zn zn, by rw [ha.out]; exact putSel_upk 4 hb_ rfl rfl rfl, fun h1 h2 => (Q_LIT h1 h2).imp (fun p hp => ⟨hp.1, blk_alloc hp.2 _⟩), fun h1 h2 => (Q_L4 h1 h2).imp (fun p hp => ⟨hp.1, blk_alloc hp.2 _⟩), fun _ _ => ⟨_, rfl, blk_new _ _⟩, fun h_ => ⟨pw_cell_below (below_alloc (Below.refl _ _) _) (Q_SZ h_).1, (Q_SZ h_).2.below (below_alloc (Below.refl _ _) _)⟩, fun h_ => absurd ((hoff 12 (by kernel_rfl)).symm.trans h_) (by decide)⟩
              refine steps_cons ?_ ?_
              · rintro b a w' ⟨v57, v60, v66, ha, Q_LIT, Q_L4, Q_MK, Q_SZ, Q_POST⟩ hb_ hon hoff
                refine ⟨_, rfl, fun K hK => ?_⟩
                have e66 : a.tmps[66]? = some (v66) := by rw [ha]; exact putSel_on (e := (10, 66, v66)) 4 rfl rfl (hon 10 (by kernel_rfl)) rfl
                replace ha := Aside0.mk ha
                obtain ⟨q, rfl, hM⟩ := Q_MK (hon 10 (by kernel_rfl)) (hoff 12 (by kernel_rfl))
                have hcv := convz w' q zn hM
                refine value_ (w1 := w') (v := .string (zs zn)) (by rfl) rfl ?_ ?_
                · go_simp
                  (try simp only [i64_w])
                  try rfl
                refine hK.out _ _ ⟨v57, v60, .slice (some ⟨q, 0, none⟩) zn zn, by rw [ha.out]; exact putSel_upk 5 hb_ rfl rfl rfl, Q_LIT, Q_L4, Q_MK, Q_SZ, Q_POST⟩
              refine steps_cons ?_ ?_
              · rintro b a w' ⟨v57, v60, v66, ha, Q_LIT, Q_L4, Q_MK, Q_SZ, Q_POST⟩ hb_ hon hoff
                refine ⟨_, rfl, fun K hK => ?_⟩
                have e56 : a.tmps[56]? = some (.pointer (some ⟨g, 0, none⟩)) := by rw [ha]; exact (putSel_off rfl).trans rfl
                have e61 : a.tmps[61]? = some (.string tB) := by rw [ha]; exact putSel_on (e := (5, 61, .string tB)) 2 rfl rfl (hon 5 (by kernel_rfl)) rfl
                have e67 : a.tmps[67]? = some (.string (zs zn)) := by rw [ha]; exact putSel_on (e := (11, 67, .string (zs zn))) 5 rfl rfl (hon 11 (by kernel_rfl)) rfl
                replace ha := Aside0.mk ha
                refine goes_ Try.func18 (by kernel_rfl) rfl #[.pointer (some ⟨g, 0, none⟩), .string tB, .string (zs zn)] (by rfl) rfl rfl (by first | (simp only [List.map_toArray, List.map_cons, List.map_nil, Act.eval, Array.getD_eq_getD_getElem?, Option.getD_some, e56, e61, e67]; done) | (simp only [List.map_toArray, List.map_cons, List.map_nil, Act.eval, Array.getD_eq_getD_getElem?, Option.getD_some, e56, e61, e67]; rfl)) ?_
                refine (HAPP.out _ true (Q_SZ hb_).2).mono ?_
                rintro e w1 ⟨rfl, hpost⟩
                refine ⟨_, rfl, ?_⟩
                refine hK.out _ _ ⟨v57, v60, v66, by rw [ha.out]; exact putSel_upk 6 hb_ rfl rfl rfl, fun _ h_ => absurd h_ (by simp [Go.Proofs.YtimcibifghidjaaW.PrintLast.up]), fun _ h_ => absurd h_ (by simp [Go.Proofs.YtimcibifghidjaaW.PrintLast.up]), fun _ h_ => absurd h_ (by simp [Go.Proofs.YtimcibifghidjaaW.PrintLast.up]), fun h_ => absurd h_ (by simp [Go.Proofs.YtimcibifghidjaaW.PrintLast.up]), fun _ => hpost⟩
              refine steps_cons ?_ ?_
              · rintro b a w' ⟨v57, v60, v66, ha, Q_LIT, Q_L4, Q_MK, Q_SZ, Q_POST⟩ hb_ hon hoff
                refine ⟨_, rfl, fun K hK => ?_⟩
                have e68 : a.tmps[68]? = some (.int .i64 er) := by rw [ha]; exact putSel_on (e := (12, 68, .int .i64 er)) 6 rfl rfl (hon 12 (by kernel_rfl)) rfl
                replace ha := Aside0.mk ha
                refine value_ (w1 := w') (v := .int .i64 er) (by rfl) rfl ?_ ?_
                · go_simp
                  (try simp only [i64_w])
                  try rfl
                refine hK.out _ _ ⟨v57, v60, v66, by rw [ha.out]; exact putSel_upk 7 hb_ rfl rfl rfl, Q_LIT, Q_L4, Q_MK, Q_SZ, Q_POST⟩
              exact steps_nil
            rintro b a w25 hall ⟨v57, v60, v66, ha, Q_LIT, Q_L4, Q_MK, Q_SZ, Q_POST⟩
            have hb1_ := hall 1 (by kernel_rfl)
            have hb4_ := hall 4 (by kernel_rfl)
            have hb5_ := hall 5 (by kernel_rfl)
            have hb9_ := hall 9 (by kernel_rfl)
            have hb10_ := hall 10 (by kernel_rfl)
            have hb11_ := hall 11 (by kernel_rfl)
            have hb12_ := hall 12 (by kernel_rfl)
            have hb13_ := hall 13 (by kernel_rfl)
            subst ha
            simp only [putSel, hb1_, hb4_, hb5_, hb9_, hb10_, hb11_, hb12_, hb13_, if_true, Act.put, List.setIfInBounds_toArray, List.set_cons_zero, List.set_cons_succ]
            have LIT := Aside0.mk (Q_LIT hb1_)
            have L4 := Aside0.mk (Q_L4 hb4_)
            have MK := Aside0.mk (Q_MK hb10_)
            have POST := Aside0.mk (Q_POST hb12_)
            clear hall hb1_ hb4_ hb5_ hb9_ hb10_ hb11_ hb12_ hb13_ Q_LIT Q_L4 Q_MK Q_SZ Q_POST
            obtain ⟨da2, db2, hsz2, hst2⟩ := POST.out
            have HS2 := Aside0.mk hst2
            have HZ2 := Aside0.mk hsz2
            have hx2 : w25.cell? (ad.add i) = some (.int .i64 (zn : Int)) := by
              obtain ⟨ad', e1, h1⟩ := Kd.at_int (Kd.C_below HKE.out HS2.out.2) (i : Int) p0 r0
              cases e1
              rw [Int.toNat_natCast, ← HZR.out] at h1
              exact h1
            have HU2 : Aside0 (∀ V, Below w25.heap.size w25 V → Calls Try.prog 22 #[.pointer (some ⟨g, 0, none⟩)] V fun e w' => e = .returned (.int .i64 (tn : Int)) ∧ St w w' g (Rm room (2 + i + 1) ba c da2 db2)) := ⟨fun V hV => by
              have h1 := HS2.out.below hV
              have h2 := rm_sum (room := room) (n := 2 + (i : Int) + 1) (da := da2) (db := db2) HCB.out
              have h3 : tn ≤ 3000 := by have := HTN.out; split at this <;> omega
              refine (used_calls h1 (by rw [h2, HZ2.out]; omega)).mono ?_
              rintro e w' ⟨rfl, hb⟩
              rw [h2, HZ2.out]
              exact ⟨rfl, h1.below hb⟩⟩
            have HTZ : Aside0 (tn = da2.size + db2.size) := ⟨HZ2.out.symm⟩
            clear hst2 hsz2 POST
            have hwu : IntKind.i64.wrap ((tot : Int) + (zn : Int)) = (tot : Int) + (zn : Int) := by rw [IntKind.wrap_i64]; omega
            by_cases hf : (tot : Int) + (zn : Int) ≤ room
            · have z3 : decide ((tot : Int) + (zn : Int) ≤ room) = true := decide_eq_true hf
              obtain rfl : er = 0 := by rw [HER.out, if_pos (by omega)]
              obtain rfl : tn = tot + zn := by rw [HTN.out, if_pos (by omega)]
              rw [Int.natCast_add] at HU2
              go_wp2_with (first
                | (go_quiet (fail))
                | (go_at_call 22; refine (HU2.out _ (by first | exact pw_below_drewN (Below.refl _ _) _ | exact Below.refl _ _)).mono ?_; rintro e w5 ⟨rfl, ht⟩; have HS5 := Aside0.mk ht; clear ht))
              go_roundw
              case rel => exact ⟨i + 1, tot + zn, da2, db2, by go_num, by go_num, by omega, by omega, HTZ, ⟨HS5.out.eq (by first | rfl | (congr 1; omega))⟩⟩
              case measure => simp [intOf]; omega
            · have z3 : decide ((tot : Int) + (zn : Int) ≤ room) = false := decide_eq_false hf
              obtain rfl : er = 10 := by rw [HER.out, if_neg (by omega)]
              obtain rfl : tn = tot := by rw [HTN.out, if_neg (by omega)]
              go_wp2_with (first
                | (go_quiet (fail))
                | (go_at_call 22; refine (HU2.out _ (by first | exact pw_below_drewN (Below.refl _ _) _ | exact Below.refl _ _)).mono ?_; rintro e w5 ⟨rfl, ht⟩; have HS5 := Aside0.mk ht; clear ht))
              go_roundw
              case rel => exact ⟨i + 1, tn, da2, db2, by go_num, by go_num, by omega, by omega, HTZ, ⟨HS5.out.eq (by first | rfl | (congr 1; omega))⟩⟩
              case measure => simp [intOf]; omega
    · have hin : i = sizes.length := by omega
      have z0 : decide ((i : Int) < (sizes.length : Int)) = false := decide_eq_false (by omega)
      have hdt := HTT.out
      have hwf : IntKind.i64.wrap ((tot : Int) - (da.size : Int)) = (db.size : Int) := by rw [IntKind.wrap_i64]; omega
      have HDB : Aside0 (db.size ≤ 2000) := ⟨by omega⟩
      have HDI : Aside0 (i ≤ 40) := ⟨by omega⟩
      clear hdt hin
      go_wp2_with (first
        | (go_at_call 20; refine (s_read HS.out rfl tA (by decide) ⟨ba, da, 0⟩ (by simp [Rm]) (by simp [Rm, lk, bs, tA])).mono ?_; rintro e w4 ⟨rfl, rfl⟩)
        | (go_at_call 11; refine (alive_calls _).mono ?_; rintro e w5 ⟨rfl, hb⟩; have HS4 := Aside0.mk (HS.out.below hb); clear hb HS)
        | (go_at_call 23; refine (s_remove HS4.out (Rm.ok (by have := HDI.out; omega)) rfl rfl tA (by decide) (by decide) ba (by simp [Rm, lk, bs, tA])).mono ?_; rintro e w6 ⟨rfl, ht⟩; have HS6 : Aside0 (St w w6 g (R6 room (min (2 + (i : Int) + 1) 4611686018427387904) ba c da db)) := ⟨ht⟩; clear ht HS4)
        | (go_at_call 22; refine (used_calls HS6.out (by rw [rm_rem HCB.out]; have := HDB.out; omega)).mono ?_; rintro e w7 ⟨rfl, hb⟩; rw [rm_rem HCB.out]; have HZ := Aside0.mk (below_step HS6.out.2 hb); clear hb))
      go_ret
      exact ⟨rfl, HZ.out⟩
theorem room_calls (w : World) (room : Int) (A : Option Addr) (c0 : Nat) (sizes : List Int) (hr : Kd.C (Kd.int .i64) w A sizes.length sizes) :
    Calls Try.prog 5 #[.int .i64 room, .slice A sizes.length c0] w fun e w' => e = .returned (.bool true) ∧ Below w.heap.size w w' := by
  by_cases h0 : room < 1
  · have q0 : decide (room < 1) = true := decide_eq_true h0
    clear hr
    go_enter Try.func5, Try.ntmps5
    go_wp2_with (first | (go_at_call 11; refine (alive_calls _).mono ?_; rintro e w_ ⟨rfl, hb⟩))
    go_ret
    exact ⟨rfl, hb⟩
  by_cases h1 : 2000 < room
  · have q1 : decide (2000 < room) = true := decide_eq_true h1
    have q0 : decide (room < 1) = false := decide_eq_false h0
    clear hr
    go_enter Try.func5, Try.ntmps5
    go_wp2_with (first | (go_at_call 11; refine (alive_calls _).mono ?_; rintro e w_ ⟨rfl, hb⟩))
    go_ret
    exact ⟨rfl, hb⟩
  by_cases h2 : 40 < (sizes.length : Int)
  · have q2 : decide (40 < (sizes.length : Int)) = true := decide_eq_true h2
    have q0 : decide (room < 1) = false := decide_eq_false h0
    have q1 : decide (2000 < room) = false := decide_eq_false h1
    clear hr
    go_enter Try.func5, Try.ntmps5
    go_wp2_with (first | (go_at_call 11; refine (alive_calls _).mono ?_; rintro e w_ ⟨rfl, hb⟩))
    go_ret
    exact ⟨rfl, hb⟩
  exact room_in w room A c0 sizes (by omega) (by omega) hr
end Go.Proofs.Ytimcibifghidjaa.Fs
