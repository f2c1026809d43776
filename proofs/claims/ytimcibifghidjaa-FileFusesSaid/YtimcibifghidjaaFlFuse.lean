/- FileFuses: the power fails at its operation, and nothing is done behind it. -/
import Derived.Test.YtimcibifghidjaaFs12
namespace Go.Proofs.Ytimcibifghidjaa.Fs
open Go Go.RowKit Go.Maps Go.Sort Go.Proofs.Ytimcibifghidjaa.PFil Go.Proofs.Ytimcibifghidjaa.FsM Go.Proofs.YtimcibifghidjaaW.PrintWords Go.Proofs.YtimcibifghidjaaW.PrintLast Go.Proofs.YtimcibifghidjaaW.PrintMore
set_option linter.unusedVariables false
set_option linter.unusedSimpArgs false
def tX : ByteArray := ⟨#[120]⟩
/-- One file; a fuse of n operations, of which i are done. -/
def Fu (n : Nat) (b : Nat) (i : Nat) (d : ByteArray) : Sy := ⟨0, true, true, (n : Int) - i, false, 0, 1 + i, [([97], b)], [], [⟨t0, tA, some b⟩], [⟨b, d, 0⟩]⟩
theorem Fu.ok {n b i : Nat} {d : ByteArray} (hi : i ≤ 40) (hn : n ≤ 40) : Okk (Fu n b i d) := ⟨⟨by show (0 : Int) ≤ 1 + i; omega, by show (1 + i : Int) ≤ _; omega⟩, by show (n : Int) - i ≤ _; omega, by show (0 : Int) ≤ _; omega, by simp [Fu], by simp [Fu]⟩
theorem fu_step {n b i : Nat} {d : ByteArray} (hi : i < n) (hn : n ≤ 40) : opS (Fu n b i d) = (⟨0, true, true, (n : Int) - (i + 1 : Nat), false, 0, 1 + (i + 1 : Nat), [([97], b)], [], [⟨t0, tA, some b⟩], [⟨b, d, 0⟩]⟩, false) := by
  have h1 : goesC (Fu n b i d).fs (Fu n b i d).fl = (false, true, (n : Int) - i - 1) := by
    show goesC true ((n : Int) - i) = _
    unfold goesC
    rw [if_pos rfl, if_pos (by omega)]
  unfold opS
  rw [h1]
  simp only [Bool.false_eq_true, if_false, Prod.mk.injEq, Sy.mk.injEq, true_and, and_true]
  refine ⟨rfl, rfl, by omega, rfl, rfl, ?_, rfl, rfl, rfl, rfl⟩
  show min (1 + (i : Int) + 1) 4611686018427387904 = 1 + ((i + 1 : Nat) : Int)
  omega
theorem fu_last {n b : Nat} {d : ByteArray} (hn : n ≤ 40) : opS (Fu n b n d) = (Q false (n + 2) [([97], b)] [] [⟨t0, tA, some b⟩] [⟨b, d, 0⟩], true) := by
  have h1 : goesC (Fu n b n d).fs (Fu n b n d).fl = (true, false, (n : Int) - n) := by
    show goesC true ((n : Int) - n) = _
    unfold goesC
    rw [if_pos rfl, if_neg (by omega)]
  unfold opS
  rw [h1]
  simp only [if_true, Q, Prod.mk.injEq, Sy.mk.injEq, true_and, and_true]
  refine ⟨rfl, rfl, rfl, ?_, rfl, rfl, rfl, rfl⟩
  show min (1 + (n : Int) + 1) 4611686018427387904 = (n : Int) + 2
  omega
theorem fu_append {w0 w : World} {g n b i : Nat} {d : ByteArray} (h : St w0 w g (Fu n b i d)) (hi : i < n) (hn : n ≤ 40) (hd : d.size = i) :
    Calls Try.prog 18 #[.pointer (some ⟨g, 0, none⟩), .string tA, .string tX] w fun ee w' => ee = .returned (.int .i64 0) ∧ ∃ d', d'.size = i + 1 ∧ St w0 w' g (Fu n b (i + 1) d') := by
  refine (s_append h (Fu.ok (by omega) hn) rfl (Int.le_refl 0) tA tX (by decide) ⟨b, d, 0⟩ (by simp [Fu]) (lk1 _ _) (by have : tX.size = 1 := rfl; show d.size + tX.size ≤ _; omega)).mono ?_
  rintro ee w' ⟨rfl, ht⟩
  rw [fu_step hi hn] at ht ⊢
  refine ⟨rfl, d ++ tX, by rw [ByteArray.size_append, hd]; rfl, ht.eq ?_⟩
  show (⟨0, true, true, (n : Int) - (i + 1 : Nat), false, 0, 1 + (i + 1 : Nat), [([97], b)], [], [⟨t0, tA, some b⟩], rep [⟨b, d, 0⟩] ⟨b, d ++ tX, 0⟩⟩ : Sy) = _
  rw [rep1]
  rfl
theorem fu_end {w0 w : World} {g n b : Nat} {d : ByteArray} (h : St w0 w g (Fu n b n d)) (hn : n ≤ 40) (hd : d.size = n) :
    Calls Try.prog 18 #[.pointer (some ⟨g, 0, none⟩), .string tA, .string tX] w fun ee w' => ee = .returned (.int .i64 14) ∧ ∃ d', d'.size = n + 1 ∧ St w0 w' g (Q false (n + 2) [([97], b)] [] [⟨t0, tA, some b⟩] [⟨b, d', 0⟩]) := by
  refine (s_append h (Fu.ok hn hn) rfl (Int.le_refl 0) tA tX (by decide) ⟨b, d, 0⟩ (by simp [Fu]) (lk1 _ _) (by have : tX.size = 1 := rfl; show d.size + tX.size ≤ _; omega)).mono ?_
  rintro ee w' ⟨rfl, ht⟩
  rw [fu_last hn] at ht ⊢
  refine ⟨rfl, d ++ tX, by rw [ByteArray.size_append, hd]; rfl, ht.eq ?_⟩
  show (⟨0, false, false, 0, false, 0, (n : Int) + 2, [([97], b)], [], [⟨t0, tA, some b⟩], rep [⟨b, d, 0⟩] ⟨b, d ++ tX, 0⟩⟩ : Sy) = _
  rw [rep1]
  rfl
/-- What a crash leaves of one file of which nothing is synced. -/
theorem one_cut (b : Nat) (d : ByteArray) (s : Nat) (hs : s ≤ d.size) (keep : Int) : ∃ sx : ByteArray, sx.size = s + partN keep (d.size - s) ∧ cuts [keep] [([97], b)] (ks [([97], b)]) ([([97], b)] : Dir).length [⟨b, d, s⟩] = [⟨b, sx, sx.size⟩] := by
  have h1 := partN_le keep (d.size - s)
  have h2 : nOf [keep] 0 ⟨b, d, s⟩ = partN keep (d.size - s) := by
    unfold nOf
    rw [if_pos (by simp)]
    rfl
  have h3 : (d.extract 0 (s + partN keep (d.size - s))).size = s + partN keep (d.size - s) := by
    rw [ByteArray.size_extract]
    omega
  refine ⟨d.extract 0 (s + partN keep (d.size - s)), h3, ?_⟩
  rw [show ks [([97], b)] = [[97]] by simp [ks]]
  show cut1 [keep] [([97], b)] 0 [97] [⟨b, d, s⟩] = _
  unfold cut1
  rw [lk1]
  show rep _ (cutB [keep] 0 (fB _ b)) = _
  rw [fB1]
  unfold cutB
  rw [h2]
  show rep [⟨b, d, s⟩] ⟨b, d.extract 0 (s + partN keep (d.size - s)), s + partN keep (d.size - s)⟩ = _
  rw [rep1, h3]
theorem fu_start (n b : Nat) : ({Q true 1 [([97], b)] [] [⟨t0, tA, some b⟩] [⟨b, t0, 0⟩] with fs := decide (0 ≤ (n : Int)), fl := (n : Int)} : Sy) = Fu n b 0 t0 := by
  simp only [Q, Fu, Sy.mk.injEq, true_and, and_true, decide_eq_true_eq]
  refine ⟨by omega, by simp, rfl⟩
set_option maxHeartbeats 8000000 in
set_option maxRecDepth 100000 in
theorem fuses_in (w : World) (n : Nat) (hn : n ≤ 40) :
    Calls Try.prog 4 #[.int .i64 (n : Int)] w fun e w' => e = .returned (.bool true) ∧ Below w.heap.size w w' := by
  have HB := Aside0.mk (Below.refl w.heap.size w)
  have q0 : decide ((n : Int) < 0) = false := decide_eq_false (by omega)
  have q1 : decide (40 < (n : Int)) = false := decide_eq_false (by omega)
  go_enter Try.func4, Try.ntmps4
  go_wp2_with (first
    | (go_at_call 12; refine (q_new w _ HB.out).mono ?_; rintro e w_ ⟨g, rfl, ht⟩; have HT0 : Aside0 (St w w_ g (Q true 0 [] [] [] [])) := ⟨ht⟩; clear ht HB)
    | (go_at_call 13; refine (q_create HT0.out (by refine ⟨?_, ?_, ?_, ?_⟩ <;> simp) tA (by decide) (by decide) rfl).mono ?_; rintro e w_ ⟨rfl, b, hb, ht⟩; have HT1 : Aside0 (St w w_ g (Q true 1 [([97], b)] [] [⟨t0, tA, some b⟩] [⟨b, t0, 0⟩])) := ⟨ht⟩; clear HT0; clear ht)
    | (go_at_call 17; refine (s_fuse HT1.out (n : Int)).mono ?_; rintro e w_ ⟨rfl, ht⟩; have HT2 : Aside0 (St w w_ g (Fu n b 0 t0)) := ⟨ht.eq (fu_start n b)⟩; clear HT1; clear ht))
  go_loopw [4] (fun v4 w' => ∃ (i : Nat) (d : ByteArray), v4 = .int .i64 i ∧ i ≤ n ∧ Aside0 (d.size = i) ∧ Aside0 (St w w' g (Fu n b i d))) (fun v4 _ => n - (intOf v4).toNat)
  case atStart => exact ⟨0, t0, rfl, Nat.zero_le _, ⟨rfl⟩, HT2⟩
  case round =>
    obtain ⟨i, d, rfl, hi, HD, HS⟩ := hrel
    clear HT2 hb
    by_cases hlk : i < n
    · have z0 : decide ((i : Int) < (n : Int)) = true := decide_eq_true (Int.ofNat_lt.mpr hlk)
      go_wp2_with (first
        | (go_at_call 18; refine (fu_append HS.out hlk hn HD.out).mono ?_; rintro e w2 ⟨rfl, d', hd', ht⟩; have HD2 := Aside0.mk hd'; have HS2 := Aside0.mk ht; clear hd' ht HS HD)
        | (go_at_call 19; refine (s_on HS2.out).mono ?_; rintro e w3 ⟨rfl, rfl⟩; rw [show (Fu n b (i + 1) d').on = true from rfl]))
      go_roundw
      case rel => exact ⟨i + 1, d', by go_num, by omega, HD2, HS2⟩
      case measure => simp [intOf]; omega
    · have hin : i = n := by omega
      subst hin
      have z0 : decide ((i : Int) < (i : Int)) = false := decide_eq_false (by omega)
      have hwn : IntKind.i64.wrap ((i : Int) + 2) = (i : Int) + 2 := by rw [IntKind.wrap_i64]; omega
      go_wp2_with (first
        | (go_at_call 18; refine (fu_end HS.out hn HD.out).mono ?_; rintro e w2 ⟨rfl, d', hd', ht⟩; have HD2 := Aside0.mk hd'; have HE0 := Aside0.mk ht; clear hd' ht HS HD)
        | (go_at_call 18; refine (s_append_off HE0.out rfl tA tX).mono ?_; rintro e w3 ⟨rfl, ht⟩; have HE1 := Aside0.mk ht; clear ht HE0)
        | (go_at_call 19; refine (s_on HE1.out).mono ?_; rintro e w4 ⟨rfl, rfl⟩; rw [show (Q false ((i : Int) + 2) [([97], b)] [] [⟨t0, tA, some b⟩] [⟨b, d', 0⟩]).on = false from rfl])
        | (go_at_call 14; obtain ⟨sx, hs1, hs2⟩ := one_cut b d' 0 (Nat.zero_le _) 1099511627776; refine (q_crash (HE1.out.below (below_alloc (Below.refl _ _) _)) (by refine ⟨?_, ?_, ?_, ?_⟩ <;> first | omega | simp) 1 [1099511627776] _ 1 (by simp) _ (row_lit1 _ 1099511627776) (by intro x hx; simp at hx; subst hx; exact ⟨Nat.zero_le _, by have := HD2.out; show d'.size ≤ _; omega⟩) [([97], b)] rfl (by show okL [⟨t0, tA, some b⟩] []; exact ⟨⟨by show t0.size ≤ _; decide, by show tA.size ≤ _; decide, .inl ⟨rfl, by show bs tA ≠ []; decide, b, rfl⟩⟩, trivial⟩) (by intro q hq; simp at hq; subst hq; simp) _ hs2).mono ?_; rintro e w5 ⟨rfl, ht, _⟩; have HSX : Aside0 (sx.size = partN 1099511627776 (i + 1)) := ⟨by rw [hs1, HD2.out, Nat.zero_add]; rfl⟩; have HE2 := Aside0.mk ht; clear ht HE1 hs1 hs2)
        | (go_at_call 15; refine (q_restore HE2.out).mono ?_; rintro e w6 ⟨rfl, ht, _⟩; have HE3 := Aside0.mk ht; clear ht HE2)
        | (go_at_call 20; refine (q_read HE3.out tA (by decide) ⟨b, sx, sx.size⟩ (by simp) (lk1 _ _)).mono ?_; rintro e w7 ⟨rfl, rfl⟩; have hpc := partN_cast 1099511627776 (i + 1); have htm : Int.tmod 1099511627776 ((i : Int) + 2) = (sx.size : Int) := (by rw [HSX.out, hpc, Int.tmod_eq_emod_of_nonneg (by omega)]; congr 1 <;> omega); clear hpc; have hne0 : ((i : Int) + 2 == 0) = false := beq_eq_false_iff_ne.mpr (by omega))
        | (go_at_call 11; refine (alive_calls _).mono ?_; rintro e w8 ⟨rfl, hb⟩; have HE4 := Aside0.mk (HE3.out.below hb); clear hb HE3)
        | (go_at_call 21; refine (s_steps HE4.out).mono ?_; rintro e w9 ⟨rfl, rfl⟩; rw [show (Q true ((i : Int) + 2) [([97], b)] [([97], b)] [] [⟨b, sx, sx.size⟩]).steps = (i : Int) + 2 from rfl]))
      go_ret
      exact ⟨rfl, HE4.out.2⟩
theorem fuses_calls (w : World) (n : Int) :
    Calls Try.prog 4 #[.int .i64 n] w fun e w' => e = .returned (.bool true) ∧ Below w.heap.size w w' := by
  by_cases h1 : n < 0
  · have q0 : decide (n < 0) = true := decide_eq_true h1
    go_enter Try.func4, Try.ntmps4
    go_wp2_with (first | (go_at_call 11; refine (alive_calls _).mono ?_; rintro e w_ ⟨rfl, hb⟩))
    go_ret
    exact ⟨rfl, hb⟩
  · by_cases h2 : 40 < n
    · have q0 : decide (n < 0) = false := decide_eq_false h1
      have q1 : decide (40 < n) = true := decide_eq_true h2
      go_enter Try.func4, Try.ntmps4
      go_wp2_with (first | (go_at_call 11; refine (alive_calls _).mono ?_; rintro e w_ ⟨rfl, hb⟩))
      go_ret
      exact ⟨rfl, hb⟩
    · obtain ⟨k, rfl⟩ := Int.eq_ofNat_of_zero_le (show 0 ≤ n by omega)
      exact fuses_in w k (by omega)
end Go.Proofs.Ytimcibifghidjaa.Fs
