/- FileBad: a sync that fails makes nothing last; all others do. -/
import Derived.Test.YtimcibifghidjaaFs12
namespace Go.Proofs.Ytimcibifghidjaa.Fs
open Go Go.RowKit Go.Maps Go.Sort Go.Proofs.Ytimcibifghidjaa.PFil Go.Proofs.Ytimcibifghidjaa.FsM Go.Proofs.YtimcibifghidjaaW.PrintWords Go.Proofs.YtimcibifghidjaaW.PrintLast Go.Proofs.YtimcibifghidjaaW.PrintMore
set_option linter.unusedVariables false
set_option linter.unusedSimpArgs false
/-- One file, whose directory is synced; the i-th sync is to come. -/
def Bs (bad : Int) (b : Nat) (i : Nat) (d : ByteArray) (s : Nat) : Sy := ⟨0, true, false, 0, decide ((i : Int) ≤ bad), (if (i : Int) ≤ bad then bad - i else 0), 2 + 2 * i, [([97], b)], [([97], b)], [], [⟨b, d, s⟩]⟩
theorem Bs.ok {bad : Int} {b i s : Nat} {d : ByteArray} (hb : 0 ≤ bad ∧ bad ≤ 30) (hi : i ≤ 20) : Okk (Bs bad b i d s) := ⟨⟨by show (0 : Int) ≤ 2 + 2 * i; omega, by show (2 + 2 * i : Int) ≤ _; omega⟩, by show (0 : Int) ≤ _; omega, by show (if (i : Int) ≤ bad then bad - i else 0) ≤ _; split <;> omega, by simp [Bs], by simp [Bs]⟩
def Bt (bad : Int) (b : Nat) (i : Nat) (d : ByteArray) (s : Nat) : Sy := ⟨0, true, false, 0, decide ((i : Int) ≤ bad), (if (i : Int) ≤ bad then bad - i else 0), 3 + 2 * i, [([97], b)], [([97], b)], [], [⟨b, d, s⟩]⟩
theorem Bt.ok {bad : Int} {b i s : Nat} {d : ByteArray} (hb : 0 ≤ bad ∧ bad ≤ 30) (hi : i ≤ 20) : Okk (Bt bad b i d s) := ⟨⟨by show (0 : Int) ≤ 3 + 2 * i; omega, by show (3 + 2 * i : Int) ≤ _; omega⟩, by show (0 : Int) ≤ _; omega, by show (if (i : Int) ≤ bad then bad - i else 0) ≤ _; split <;> omega, by simp [Bt], by simp [Bt]⟩
theorem bs_start {bad : Int} (hb : 0 ≤ bad) (b : Nat) : ({Q true 2 [([97], b)] [([97], b)] [] [⟨b, t0, 0⟩] with bs := decide (0 ≤ bad), bl := bad} : Sy) = Bs bad b 0 t0 0 := by
  show (⟨0, true, false, 0, decide (0 ≤ bad), bad, 2, [([97], b)], [([97], b)], [], [⟨b, t0, 0⟩]⟩ : Sy) = ⟨0, true, false, 0, decide (((0 : Nat) : Int) ≤ bad), (if ((0 : Nat) : Int) ≤ bad then bad - ((0 : Nat) : Int) else 0), 2 + 2 * ((0 : Nat) : Int), [([97], b)], [([97], b)], [], [⟨b, t0, 0⟩]⟩
  rw [if_pos (show ((0 : Nat) : Int) ≤ bad by omega), show bad - ((0 : Nat) : Int) = bad by omega]
  rfl
theorem bad_append {w0 w : World} {g b i s : Nat} {bad : Int} {d data : ByteArray} (h : St w0 w g (Bs bad b i d s)) (hb : 0 ≤ bad ∧ bad ≤ 30) (hi : i ≤ 20) (hd : d.size ≤ 10000) (hz : data.size ≤ 100) :
    Calls Try.prog 18 #[.pointer (some ⟨g, 0, none⟩), .string tA, .string data] w fun ee w' => ee = .returned (.int .i64 0) ∧ St w0 w' g (Bt bad b i (d ++ data) s) := by
  refine (s_append h (Bs.ok hb hi) rfl (Int.le_refl 0) tA data (by decide) ⟨b, d, s⟩ (by simp [Bs]) (lk1 _ _) (by show d.size + data.size ≤ _; omega)).mono ?_
  rintro ee w' ⟨rfl, ht⟩
  rw [opS_no (S := Bs bad b i d s) rfl] at ht ⊢
  refine ⟨rfl, ht.eq ?_⟩
  show (⟨0, true, false, 0, _, _, min ((2 + 2 * i : Int) + 1) 4611686018427387904, _, _, _, rep [⟨b, d, s⟩] ⟨b, d ++ data, s⟩⟩ : Sy) = _
  rw [rep1, show min ((2 + 2 * i : Int) + 1) 4611686018427387904 = 3 + 2 * (i : Int) by omega]
  rfl
theorem goes_next {bad : Int} {i : Nat} (hne : (i : Int) ≠ bad) : goesC (decide ((i : Int) ≤ bad)) (if (i : Int) ≤ bad then bad - i else 0) = (false, decide (((i + 1 : Nat) : Int) ≤ bad), if ((i + 1 : Nat) : Int) ≤ bad then bad - (i + 1 : Nat) else 0) := by
  unfold goesC
  by_cases h : (i : Int) ≤ bad
  · rw [if_pos (decide_eq_true h), if_pos h, if_pos (show 0 < bad - (i : Int) by omega), if_pos (show ((i + 1 : Nat) : Int) ≤ bad by omega), decide_eq_true (show ((i + 1 : Nat) : Int) ≤ bad by omega), show bad - (i : Int) - 1 = bad - ((i + 1 : Nat) : Int) by omega]
  · rw [decide_eq_false h, if_neg (by simp), if_neg h, if_neg (show ¬ ((i + 1 : Nat) : Int) ≤ bad by omega), decide_eq_false (show ¬ ((i + 1 : Nat) : Int) ≤ bad by omega)]
theorem goes_now {bad : Int} {i : Nat} (he : (i : Int) = bad) : goesC (decide ((i : Int) ≤ bad)) (if (i : Int) ≤ bad then bad - i else 0) = (true, decide (((i + 1 : Nat) : Int) ≤ bad), if ((i + 1 : Nat) : Int) ≤ bad then bad - (i + 1 : Nat) else 0) := by
  unfold goesC
  rw [if_pos (decide_eq_true (show (i : Int) ≤ bad by omega)), if_pos (show (i : Int) ≤ bad by omega), if_neg (show ¬ 0 < bad - (i : Int) by omega), if_neg (show ¬ ((i + 1 : Nat) : Int) ≤ bad by omega), decide_eq_false (show ¬ ((i + 1 : Nat) : Int) ≤ bad by omega), show bad - (i : Int) = 0 by omega]
theorem bad_sync_ok {w0 w : World} {g b i s : Nat} {bad : Int} {d : ByteArray} (h : St w0 w g (Bt bad b i d s)) (hb : 0 ≤ bad ∧ bad ≤ 30) (hi : i ≤ 20) (hne : (i : Int) ≠ bad) :
    Calls Try.prog 24 #[.pointer (some ⟨g, 0, none⟩), .string tA] w fun ee w' => ee = .returned (.int .i64 0) ∧ St w0 w' g (Bs bad b (i + 1) d d.size) := by
  have hg := goes_next hne
  have hbs : badS (Bt bad b i d s) = (⟨0, true, false, 0, decide (((i + 1 : Nat) : Int) ≤ bad), (if ((i + 1 : Nat) : Int) ≤ bad then bad - (i + 1 : Nat) else 0), 3 + 2 * i, [([97], b)], [([97], b)], [], [⟨b, d, s⟩]⟩, false) := by
    unfold badS
    rw [show goesC (Bt bad b i d s).bs (Bt bad b i d s).bl = _ from hg]
    rfl
  refine (s_sync h (Bt.ok hb hi) rfl rfl (by rw [hbs]) tA (by decide) ⟨b, d, s⟩ (by simp [Bt]) (lk1 _ _)).mono ?_
  rintro ee w' ⟨rfl, ht⟩
  rw [hbs] at ht
  refine ⟨rfl, ht.eq ?_⟩
  show (⟨0, true, false, 0, _, _, min ((3 + 2 * i : Int) + 1) 4611686018427387904, _, _, _, rep [⟨b, d, s⟩] ⟨b, d, d.size⟩⟩ : Sy) = _
  rw [rep1, show min ((3 + 2 * i : Int) + 1) 4611686018427387904 = 2 + 2 * ((i + 1 : Nat) : Int) by omega]
  rfl
theorem bad_sync_no {w0 w : World} {g b i s : Nat} {bad : Int} {d : ByteArray} (h : St w0 w g (Bt bad b i d s)) (hb : 0 ≤ bad ∧ bad ≤ 30) (hi : i ≤ 20) (he : (i : Int) = bad) :
    Calls Try.prog 24 #[.pointer (some ⟨g, 0, none⟩), .string tA] w fun ee w' => ee = .returned (.int .i64 16) ∧ St w0 w' g (Bs bad b (i + 1) d s) := by
  have hg := goes_now he
  have hbs : badS (Bt bad b i d s) = (⟨0, true, false, 0, decide (((i + 1 : Nat) : Int) ≤ bad), (if ((i + 1 : Nat) : Int) ≤ bad then bad - (i + 1 : Nat) else 0), 3 + 2 * i, [([97], b)], [([97], b)], [], [⟨b, d, s⟩]⟩, true) := by
    unfold badS
    rw [show goesC (Bt bad b i d s).bs (Bt bad b i d s).bl = _ from hg]
    rfl
  refine (s_sync_bad h (Bt.ok hb hi) rfl rfl (by rw [hbs]) tA).mono ?_
  rintro ee w' ⟨rfl, ht⟩
  rw [hbs] at ht
  refine ⟨rfl, ht.eq ?_⟩
  show (⟨0, true, false, 0, _, _, min ((3 + 2 * i : Int) + 1) 4611686018427387904, _, _, _, _⟩ : Sy) = _
  rw [show min ((3 + 2 * i : Int) + 1) 4611686018427387904 = 2 + 2 * ((i + 1 : Nat) : Int) by omega]
  rfl
/-- What a crash leaves of one file: what is synced. -/
theorem one_cut0 (b : Nat) (d : ByteArray) (s : Nat) (hs : s ≤ d.size) : ∃ sx : ByteArray, sx.size = s ∧ cuts [] [([97], b)] (ks [([97], b)]) ([([97], b)] : Dir).length [⟨b, d, s⟩] = [⟨b, sx, sx.size⟩] := by
  have h3 : (d.extract 0 (s + 0)).size = s := by
    rw [ByteArray.size_extract]
    omega
  refine ⟨d.extract 0 (s + 0), h3, ?_⟩
  rw [show ks [([97], b)] = [[97]] by simp [ks]]
  show cut1 [] [([97], b)] 0 [97] [⟨b, d, s⟩] = _
  unfold cut1
  rw [lk1]
  show rep _ (cutB [] 0 (fB _ b)) = _
  rw [fB1]
  show rep [⟨b, d, s⟩] ⟨b, d.extract 0 (s + 0), s + 0⟩ = _
  rw [rep1, h3]
  rfl
theorem bad_crash {w0 w : World} {g b i s : Nat} {bad : Int} {d : ByteArray} (h : St w0 w g (Bs bad b i d s)) (hb : 0 ≤ bad ∧ bad ≤ 30) (hi : i ≤ 20) (hs : s ≤ d.size) (hd : d.size ≤ 10000) :
    Calls Try.prog 14 #[.pointer (some ⟨g, 0, none⟩), .int .i64 0, .slice none 0 0] w fun e w' => e = .returned (.tuple #[]) ∧ ∃ sx : ByteArray, sx.size = s ∧ St w0 w' g (Q false (2 + 2 * i) [([97], b)] [([97], b)] [] [⟨b, sx, sx.size⟩]) := by
  obtain ⟨sx, h1, h2⟩ := one_cut0 b d s hs
  refine (s_crash h (Bs.ok hb hi) 0 [] none 0 (by simp) 0 (row_none w 0) (by intro x hx; rw [show x = ⟨b, d, s⟩ by simpa [Bs] using hx]; exact ⟨hs, by show d.size ≤ _; omega⟩) (by show okL (List.take _ []) _; simp [okL]) (by intro q hq; rw [show q = ([97], b) by simpa [Bs, apL] using hq]; simp)).mono ?_
  rintro e w' ⟨rfl, ht, _⟩
  refine ⟨rfl, sx, h1, ht.eq ?_⟩
  rw [← h2]
  simp [crS, offS, Bs, apL, Q]
set_option maxHeartbeats 8000000 in
set_option maxRecDepth 100000 in
theorem bads_in (w : World) (n : Nat) (bad : Int) (data : ByteArray) (hn : 1 ≤ n ∧ n ≤ 20) (hbd : 0 ≤ bad ∧ bad ≤ 30) (hz : 1 ≤ data.size ∧ data.size ≤ 100) :
    Calls Try.prog 8 #[.int .i64 (n : Int), .int .i64 bad, .string data] w fun e w' => e = .returned (.bool true) ∧ Below w.heap.size w w' := by
  have HB := Aside0.mk (Below.refl w.heap.size w)
  have q0 : decide ((n : Int) < 1) = false := decide_eq_false (by omega)
  have q1 : decide (20 < (n : Int)) = false := decide_eq_false (by omega)
  have q2 : decide (bad < 0) = false := decide_eq_false (by omega)
  have q3 : decide (30 < bad) = false := decide_eq_false (by omega)
  have q4 : decide ((data.size : Int) < 1) = false := decide_eq_false (by omega)
  have q5 : decide (100 < (data.size : Int)) = false := decide_eq_false (by omega)
  go_enter Try.func8, Try.ntmps8
  go_wp2_with (first
    | (go_at_call 12; refine (q_new w _ HB.out).mono ?_; rintro e w_ ⟨g, rfl, ht⟩; have HT0 : Aside0 (St w w_ g (Q true 0 [] [] [] [])) := ⟨ht⟩; clear ht HB)
    | (go_at_call 13; refine (q_create HT0.out (by refine ⟨?_, ?_, ?_, ?_⟩ <;> simp) tA (by decide) (by decide) rfl).mono ?_; rintro e w_ ⟨rfl, b, hb, ht⟩; have HT1 : Aside0 (St w w_ g (Q true 1 [([97], b)] [] [⟨t0, tA, some b⟩] [⟨b, t0, 0⟩])) := ⟨ht⟩; clear HT0; clear ht)
    | (go_at_call 25; refine (q_syncdir HT1.out (by refine ⟨?_, ?_, ?_, ?_⟩ <;> simp)).mono ?_; rintro e w_ ⟨rfl, ht⟩; have HT2 : Aside0 (St w w_ g (Q true 2 [([97], b)] [([97], b)] [] [⟨b, t0, 0⟩])) := ⟨ht⟩; clear HT1; clear ht)
    | (go_at_call 28; refine (s_bad HT2.out bad).mono ?_; rintro e w_ ⟨rfl, ht⟩; have HT3 : Aside0 (St w w_ g (Bs bad b 0 t0 0)) := ⟨ht.eq (bs_start hbd.1 b)⟩; clear HT2; clear ht))
  go_loopw [8, 9] (fun v8 v9 w' => ∃ (i last : Nat) (d : ByteArray), v8 = .int .i64 last ∧ v9 = .int .i64 i ∧ last ≤ i ∧ i ≤ n ∧ Aside0 (d.size = i * data.size) ∧ Aside0 (St w w' g (Bs bad b i d (last * data.size)))) (fun _ v9 _ => n - (intOf v9).toNat)
  case atStart => exact ⟨0, 0, t0, rfl, rfl, Nat.le_refl _, Nat.zero_le _, ⟨by rw [Nat.zero_mul]; rfl⟩, ⟨by rw [Nat.zero_mul]; exact HT3.out⟩⟩
  case round =>
    obtain ⟨i, last, d, rfl, rfl, hl, hi, HD, HS⟩ := hrel
    clear HT3 hb
    have hmul1 : i * data.size ≤ 20 * 100 := Nat.mul_le_mul (by omega) hz.2
    have hmul2 : last * data.size ≤ i * data.size := Nat.mul_le_mul_right _ hl
    have HDS : Aside0 (d.size ≤ 10000) := ⟨by rw [HD.out]; omega⟩
    by_cases hlk : i < n
    · have z0 : decide ((i : Int) < (n : Int)) = true := decide_eq_true (Int.ofNat_lt.mpr hlk)
      have HDA : Aside0 ((d ++ data).size = (i + 1) * data.size) := ⟨by rw [ByteArray.size_append, HD.out, Nat.succ_mul]⟩
      by_cases hne : (i : Int) = bad
      · have e0 : ((i : Int) == bad) = true := beq_iff_eq.mpr hne
        go_wp2_with (first
          | (go_at_call 18; refine (bad_append HS.out hbd (by omega) HDS.out hz.2).mono ?_; rintro e w2 ⟨rfl, ht⟩; have HS2 := Aside0.mk ht; clear ht HS)
          | (go_at_call 24; refine (bad_sync_no HS2.out hbd (by omega) hne).mono ?_; rintro e w3 ⟨rfl, ht⟩; have HS3 := Aside0.mk ht; clear ht HS2))
        go_roundw
        case rel => exact ⟨i + 1, last, d ++ data, by go_num, by go_num, by omega, by omega, HDA, HS3⟩
        case measure => simp [intOf]; omega
      · have e0 : ((i : Int) == bad) = false := beq_eq_false_iff_ne.mpr hne
        go_wp2_with (first
          | (go_at_call 18; refine (bad_append HS.out hbd (by omega) HDS.out hz.2).mono ?_; rintro e w2 ⟨rfl, ht⟩; have HS2 := Aside0.mk ht; clear ht HS)
          | (go_at_call 24; refine (bad_sync_ok HS2.out hbd (by omega) hne).mono ?_; rintro e w3 ⟨rfl, ht⟩; have HS3 : Aside0 (St w w3 g (Bs bad b (i + 1) (d ++ data) ((i + 1) * data.size))) := ⟨by rw [← HDA.out]; exact ht⟩; clear ht HS2))
        go_roundw
        case rel => exact ⟨i + 1, i + 1, d ++ data, by go_num, by go_num, by omega, by omega, HDA, HS3⟩
        case measure => simp [intOf]; omega
    · have hin : i = n := by omega
      subst hin
      have z0 : decide ((i : Int) < (i : Int)) = false := decide_eq_false (by omega)
      have hwm : IntKind.i64.wrap ((last : Int) * (data.size : Int)) = ((last * data.size : Nat) : Int) := by rw [IntKind.wrap_i64, ← Int.natCast_mul]; omega
      obtain ⟨m, hm⟩ : ∃ m, m = last * data.size := ⟨_, rfl⟩
      rw [← hm] at HS hwm hmul2
      clear hm
      go_wp2_with (first
        | (go_at_call 14; refine (bad_crash HS.out hbd (by omega) (by rw [HD.out]; exact hmul2) HDS.out).mono ?_; rintro e w5 ⟨rfl, sx, hsx, ht⟩; have HE2 := Aside0.mk ht; have HSX := Aside0.mk hsx; clear ht hsx HS)
        | (go_at_call 15; refine (q_restore HE2.out).mono ?_; rintro e w6 ⟨rfl, ht, _⟩; have HE3 := Aside0.mk ht; clear ht HE2)
        | (go_at_call 20; refine (q_read HE3.out tA (by decide) ⟨b, sx, sx.size⟩ (by simp) (lk1 _ _)).mono ?_; rintro e w7 ⟨rfl, rfl⟩; have hsz := HSX.out)
        | (go_at_call 11; refine (alive_calls _).mono ?_; rintro e w8 ⟨rfl, hb⟩; have HE4 := Aside0.mk (HE3.out.below hb); clear hb HE3))
      go_ret
      exact ⟨rfl, HE4.out.2⟩
theorem bads_calls (w : World) (n bad : Int) (data : ByteArray) :
    Calls Try.prog 8 #[.int .i64 n, .int .i64 bad, .string data] w fun e w' => e = .returned (.bool true) ∧ Below w.heap.size w w' := by
  by_cases h0 : n < 1
  · have q0 : decide (n < 1) = true := decide_eq_true h0
    go_enter Try.func8, Try.ntmps8
    go_wp2_with (first | (go_at_call 11; refine (alive_calls _).mono ?_; rintro e w_ ⟨rfl, hb⟩))
    go_ret
    exact ⟨rfl, hb⟩
  by_cases h1 : 20 < n
  · have q1 : decide (20 < n) = true := decide_eq_true h1
    have q0 : decide (n < 1) = false := decide_eq_false h0
    go_enter Try.func8, Try.ntmps8
    go_wp2_with (first | (go_at_call 11; refine (alive_calls _).mono ?_; rintro e w_ ⟨rfl, hb⟩))
    go_ret
    exact ⟨rfl, hb⟩
  by_cases h2 : bad < 0
  · have q2 : decide (bad < 0) = true := decide_eq_true h2
    have q0 : decide (n < 1) = false := decide_eq_false h0
    have q1 : decide (20 < n) = false := decide_eq_false h1
    go_enter Try.func8, Try.ntmps8
    go_wp2_with (first | (go_at_call 11; refine (alive_calls _).mono ?_; rintro e w_ ⟨rfl, hb⟩))
    go_ret
    exact ⟨rfl, hb⟩
  by_cases h3 : 30 < bad
  · have q3 : decide (30 < bad) = true := decide_eq_true h3
    have q0 : decide (n < 1) = false := decide_eq_false h0
    have q1 : decide (20 < n) = false := decide_eq_false h1
    have q2 : decide (bad < 0) = false := decide_eq_false h2
    go_enter Try.func8, Try.ntmps8
    go_wp2_with (first | (go_at_call 11; refine (alive_calls _).mono ?_; rintro e w_ ⟨rfl, hb⟩))
    go_ret
    exact ⟨rfl, hb⟩
  by_cases h4 : (data.size : Int) < 1
  · have q4 : decide ((data.size : Int) < 1) = true := decide_eq_true h4
    have q0 : decide (n < 1) = false := decide_eq_false h0
    have q1 : decide (20 < n) = false := decide_eq_false h1
    have q2 : decide (bad < 0) = false := decide_eq_false h2
    have q3 : decide (30 < bad) = false := decide_eq_false h3
    go_enter Try.func8, Try.ntmps8
    go_wp2_with (first | (go_at_call 11; refine (alive_calls _).mono ?_; rintro e w_ ⟨rfl, hb⟩))
    go_ret
    exact ⟨rfl, hb⟩
  by_cases h5 : 100 < (data.size : Int)
  · have q5 : decide (100 < (data.size : Int)) = true := decide_eq_true h5
    have q0 : decide (n < 1) = false := decide_eq_false h0
    have q1 : decide (20 < n) = false := decide_eq_false h1
    have q2 : decide (bad < 0) = false := decide_eq_false h2
    have q3 : decide (30 < bad) = false := decide_eq_false h3
    have q4 : decide ((data.size : Int) < 1) = false := decide_eq_false h4
    go_enter Try.func8, Try.ntmps8
    go_wp2_with (first | (go_at_call 11; refine (alive_calls _).mono ?_; rintro e w_ ⟨rfl, hb⟩))
    go_ret
    exact ⟨rfl, hb⟩
  obtain ⟨k, rfl⟩ := Int.eq_ofNat_of_zero_le (show 0 ≤ n by omega)
  exact bads_in w k bad data (by omega) (by omega) (by omega)
end Go.Proofs.Ytimcibifghidjaa.Fs
