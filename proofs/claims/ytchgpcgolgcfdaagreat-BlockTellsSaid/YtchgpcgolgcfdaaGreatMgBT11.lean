/- Texts of this claim, put together and cut down to what is used (BT11). -/
import Derived.Deep.DeepCutAuto
import Derived.Deep.QuietTactic
import Derived.Laws.Cover1
import Derived.Test.YtchgpcgolgcfdaaGreatMgBT10
import Derived.Test.YtchgpcgolgcfdaaGreatMgBT4
import Derived.Test.YtchgpcgolgcfdaaGreatMgBT1
section
namespace Go.Proofs.YtchgpcgolgcfdaaGreat.Bt
open Go Go.RowKit Go.Proofs.YtchgpcgolgcfdaaGreat.PNum Go.Proofs.YtchgpcgolgcfdaaGreat.BkW Go.Proofs.YtchgpcgolgcfdaaGreat.BkAEntries Go.Proofs.YtchgpcgolgcfdaaGreat.PuVt Go.Proofs.YtchgpcgolgcfdaaGreat.PuVr Go.Proofs.YtchgpcgolgcfdaaGreat.PuCrc Go.Proofs.YtchgpcgolgcfdaaGreat.PuBk Go.Proofs.YtchgpcgolgcfdaaGreat.PuBq Go.Proofs.YtchgpcgolgcfdaaGreatW.PrintWords Go.Proofs.YtchgpcgolgcfdaaGreatW.PrintLast Go.Proofs.YtchgpcgolgcfdaaGreatW.PrintMore Go.Proofs.YtchgpcgolgcfdaaGreatW.Pu
set_option linter.unusedVariables false
set_option linter.unusedSimpArgs false
set_option maxRecDepth 100000
set_option maxHeartbeats 16000000
theorem bt_calls (A0 : Option Addr) (c0 : Nat) (l : List E) (b key : ByteArray) (own : Bool) (w : World) (hr0 : Kd.C kE w A0 l.length l) (hc0 : l.length ≤ c0) (hwf : ∀ e ∈ l, wfE e) (hb : b.size ≤ 140737488351232) (hkz : key.size ≤ 140737488351232) :
  Calls Tryz.prog 7 #[.slice A0 l.length c0, .string b, .string key, .bool own] w fun e w' => e = .returned (.bool true) ∧ Below w.heap.size w w' := by
 have HR0 := a_k hr0
 have HC0 := a_k hc0
 have HB := a_k (Below.refl w.heap.size w)
 obtain ⟨b1, hb1, hq1⟩ := PuSm.Small_ev l (fun e he => ⟨(hwf e he).1, (hwf e he).2.1⟩)
 have HB1 := a_k hb1
 have HU : Aside0 (u64s_ l) := ⟨fun e he => u64_wf (hwf e he).2.2⟩
 have HKZ : Aside0 (∀ e ∈ l, e.f0.size ≤ 140737488351232) := ⟨fun e he => (hwf e he).1⟩
 clear hb1 hwf hr0 hc0
 cases b1
 ·go_enter Tryz.func7, Tryz.ntmps7
  go_wp2_with (first | (go_at_call 9; refine (small_c (Kd.C_below HR0.out HB.out) HC0.out false HB1.out).mono ?_; rintro e w1 ⟨rfl, hb⟩; have n0_ := a_k (below_step HB.out hb); clear HB; have HB := n0_; clear n0_; clear hb) | (go_at_call 73; refine (alive_w _).mono ?_; rintro e w9 ⟨rfl, hb⟩; have n0_ := a_k (below_step HB.out hb); clear HB; have HB := n0_; clear n0_; clear hb))
  go_ret
  exact ⟨rfl, HB.out⟩
 have hl150 := hq1 rfl
 clear hq1
 by_cases hz1 : 6000 < b.size
 ·have t0 : decide (6000 < (b.size : Int)) = true := decide_eq_true (by omega)
  have t0' : decide (6000 < b.size) = true := decide_eq_true hz1
  go_enter Tryz.func7, Tryz.ntmps7
  go_wp2_with (first | (go_at_call 9; refine (small_c (Kd.C_below HR0.out HB.out) HC0.out true HB1.out).mono ?_; rintro e w1 ⟨rfl, hb⟩; have n0_ := a_k (below_step HB.out hb); clear HB; have HB := n0_; clear n0_; clear hb) | (go_at_call 73; refine (alive_w _).mono ?_; rintro e w9 ⟨rfl, hb⟩; have n0_ := a_k (below_step HB.out hb); clear HB; have HB := n0_; clear n0_; clear hb))
  go_ret
  exact ⟨rfl, HB.out⟩
 have t0 : decide (6000 < (b.size : Int)) = false := decide_eq_false (by omega)
 have t0' : decide (6000 < b.size) = false := decide_eq_false hz1
 by_cases hz2 : 3000 < key.size
 ·have t1 : decide (3000 < (key.size : Int)) = true := decide_eq_true (by omega)
  have t1' : decide (3000 < key.size) = true := decide_eq_true hz2
  go_enter Tryz.func7, Tryz.ntmps7
  go_wp2_with (first | (go_at_call 9; refine (small_c (Kd.C_below HR0.out HB.out) HC0.out true HB1.out).mono ?_; rintro e w1 ⟨rfl, hb⟩; have n0_ := a_k (below_step HB.out hb); clear HB; have HB := n0_; clear n0_; clear hb) | (go_at_call 73; refine (alive_w _).mono ?_; rintro e w9 ⟨rfl, hb⟩; have n0_ := a_k (below_step HB.out hb); clear HB; have HB := n0_; clear n0_; clear hb))
  go_ret
  exact ⟨rfl, HB.out⟩
 have t1 : decide (3000 < (key.size : Int)) = false := decide_eq_false (by omega)
 have t1' : decide (3000 < key.size) = false := decide_eq_false hz2
 obtain ⟨px, pr, hpp⟩ : ∃ px pr, putB l = (px, pr) := ⟨_, _, rfl⟩
 have HPP := a_k hpp
 obtain ⟨bb, hbb⟩ : ∃ bb, bb = if own = true then b ++ strOfNums (be 4 (crc (bytesOf b))) else b := ⟨_, rfl⟩
 have hbz : bb.size ≤ 6004 := by
  rw [hbb]
  split
  ·rw [ByteArray.size_append, S_size, be_len]; omega
  ·omega
 have HLX0 := gB_len bb hbz
 have HSX := a_k (gB_srt bb)
 have HKX := a_k (gB_key bb)
 obtain ⟨xs, er, hgb⟩ : ∃ xs er, gB bb = (xs, er) := ⟨_, _, rfl⟩
 rw [hgb] at HLX0 HSX HKX
 have HGB := a_k hgb
 have HLX := a_k HLX0
 have HBZ : Aside0 (bb.size ≤ 10000) := ⟨by omega⟩
 obtain ⟨us, hus⟩ : ∃ us, us = xs.dropWhile (lt key) := ⟨_, rfl⟩
 have HLU : Aside0 (us.length ≤ 1000) := ⟨by rw [hus]; exact Nat.le_trans (List.dropWhile_sublist _).length_le HLX.out⟩
 have HUS := a_k hus
 clear hpp hgb hus HLX0
 cases own with
 | false =>
  obtain rfl : bb = b := hbb
  go_enter Tryz.func7, Tryz.ntmps7
  go_wp2_with (first | (go_at_call 9; refine (small_c (Kd.C_below HR0.out HB.out) HC0.out true HB1.out).mono ?_; rintro e w1 ⟨rfl, hb⟩; have n0_ := a_k (below_step HB.out hb); clear HB; have HB := n0_; clear n0_; clear hb))
  have HP : Aside0 (BkX w (w1.alloc (.cells #[.slice none 0 0, .slice none 0 0, .slice none 0 0, .slice none 0 0, .slice none 0 0, .slice none 0 0, .slice none 0 0, .slice none 0 0, .slice none 0 0, .slice none 0 0, .slice none 0 0, .slice none 0 0, .slice none 0 0, .slice none 0 0, .slice none 0 0, .slice none 0 0, .slice none 0 0, .slice none 0 0, .slice none 0 0, .slice none 0 0, .slice none 0 0, .slice none 0 0, .slice none 0 0, .slice none 0 0, .slice none 0 0, .slice none 0 0, .slice none 0 0, .slice none 0 0] 56)) w1.heap.size (fun k => k < (w1.alloc (.cells #[.slice none 0 0, .slice none 0 0, .slice none 0 0, .slice none 0 0, .slice none 0 0, .slice none 0 0, .slice none 0 0, .slice none 0 0, .slice none 0 0, .slice none 0 0, .slice none 0 0, .slice none 0 0, .slice none 0 0, .slice none 0 0, .slice none 0 0, .slice none 0 0, .slice none 0 0, .slice none 0 0, .slice none 0 0, .slice none 0 0, .slice none 0 0, .slice none 0 0, .slice none 0 0, .slice none 0 0, .slice none 0 0, .slice none 0 0, .slice none 0 0, .slice none 0 0] 56)).heap.size)) := ⟨BkX.new HB.out _⟩
  obtain ⟨gk, hgk⟩ : ∃ gk, gk = w1.heap.size := ⟨_, rfl⟩
  rw [← hgk] at HP ⊢
  clear hgk HB
  go_loopw [10] (fun v10 w' => ∃ k : Nat, v10 = .int .i64 k ∧ k ≤ 2 ∧ Aside0 (BkX w w' gk (fun k => k < w'.heap.size))) (fun v10 _ => 2 - (intOf v10).toNat)
  case atStart => exact ⟨0, rfl, by omega, HP⟩
  case round =>
   clear HP
   obtain ⟨k, rfl, hk, HP⟩ := hrel
   by_cases hlt : k < 2
   ·have q0 : (k : Int) < 2 := by omega
    have t0 : decide ((k : Int) < 2) = true := decide_eq_true q0
    have HLT := a_k hlt
    have HB := a_k HP.out.bel
    have HBr := a_k (Below.refl wr.heap.size wr)
    have HBS := a_k HB.out.size
    go_wp2_with (first | (go_at_call 32; refine (lentE (Kd.C_below HR0.out HB.out) HC0.out (by omega)).mono ?_; rintro e w2 ⟨Am, cm, rfl, hm, hb⟩; have m0_ := a_k (HP.out.below hb); clear HP; have HP := m0_; clear m0_; have n0_ := a_k (below_step HB.out hb); clear HB; have HB := n0_; clear n0_; have nb_ := a_k (below_step HBr.out hb); clear HBr; have HBr := nb_; clear nb_; have HM := a_k hm; clear hm; clear hb) | (go_at_call 75; refine (putE HM.out (by omega) HU.out px pr HPP.out).mono ?_; rintro e w3 ⟨rfl, hb⟩; have m0_ := a_k (HP.out.below hb); have m1_ := a_k (HM.out.below hb); clear HP HM; have HP := m0_; have HM := m1_; clear m0_ m1_; have n0_ := a_k (below_step HB.out hb); clear HB; have HB := n0_; clear n0_; have nb_ := a_k (below_step HBr.out hb); clear HBr; have HBr := nb_; clear nb_; clear hb) | (go_at_call 76; refine (rputE (Kd.C_below HR0.out HB.out) HC0.out (by omega) HU.out HKZ.out px pr HPP.out).mono ?_; rintro e w4 ⟨rfl, hb⟩; have m0_ := a_k (HP.out.below hb); have m1_ := a_k (HM.out.below hb); clear HP HM; have HP := m0_; have HM := m1_; clear m0_ m1_; have n0_ := a_k (below_step HB.out hb); clear HB; have HB := n0_; clear n0_; have nb_ := a_k (below_step HBr.out hb); clear HBr; have HBr := nb_; clear nb_; clear hb) | (go_at_call 77; have hzr := HBr.out.size; refine (getE _ bb HBZ.out xs er HGB.out).mono ?_; rintro e w5 ⟨Ax, nx, cx, rfl, hn, hx, ho, hb⟩; have m0_ := a_k (HP.out.below hb); have m1_ := a_k (HM.out.below hb); clear HP HM; have HP := m0_; have HM := m1_; clear m0_ m1_; have n0_ := a_k (below_step HB.out hb); clear HB; have HB := n0_; clear n0_; have nb_ := a_k (below_step HBr.out hb); clear HBr; have HBr := nb_; clear nb_; have HX := a_k hx; have HXN := a_k hn; have HXO : Aside0 (∀ k, (Value.slice Ax nx cx).ownBlock = some k → wr.heap.size ≤ k) := ⟨fun k hk => Nat.le_trans hzr (ho k hk)⟩; clear hx hn ho hzr; clear hb) | (go_at_call 78; refine (rgetE _ bb HBZ.out xs er HGB.out).mono ?_; rintro e w6 ⟨Ay, ny, cy, rfl, hn, hy, hb⟩; have m0_ := a_k (HP.out.below hb); have m1_ := a_k (HM.out.below hb); have m2_ := a_k (HX.out.below hb); clear HP HM HX; have HP := m0_; have HM := m1_; have HX := m2_; clear m0_ m1_ m2_; have n0_ := a_k (below_step HB.out hb); clear HB; have HB := n0_; clear n0_; have nb_ := a_k (below_step HBr.out hb); clear HBr; have HBr := nb_; clear nb_; have HY := a_k hy; have HYN := a_k hn; clear hy hn; clear hb) | (go_at_call 79; have hxl := HX.out.lt; have hzr := HBr.out.size; refine (seekE _ bb key HBZ.out xs er HGB.out).mono ?_; rintro e w7 ⟨Au, nu, cu, rfl, hn, hu, ho, hb⟩; have m0_ := a_k (HP.out.below hb); have m1_ := a_k (HM.out.below hb); have m2_ := a_k (HX.out.below hb); have m3_ := a_k (HY.out.below hb); clear HP HM HX HY; have HP := m0_; have HM := m1_; have HX := m2_; have HY := m3_; clear m0_ m1_ m2_ m3_; have n0_ := a_k (below_step HB.out hb); clear HB; have HB := n0_; clear n0_; have nb_ := a_k (below_step HBr.out hb); clear HBr; have HBr := nb_; clear nb_; have HUU := a_k hu; have HUN : Aside0 (nu = us.length) := ⟨by rw [HUS.out]; exact hn⟩; have HUO : Aside0 (∀ k, (Value.slice Au nu cu).ownBlock = some k → wr.heap.size ≤ k ∧ ¬ (Value.slice Ax nx cx).ownBlock = some k) := ⟨fun k hk => ⟨Nat.le_trans hzr (ho k hk), fun h2 => by have h3 := hxl k h2; have h4 := ho k hk; omega⟩⟩; rw [← HUS.out] at HUU; clear hu hn ho hzr hxl; have TKA := a_k True.intro; clear hb) | (go_at_call 18; have tk_ := TKA; refine (keepE (P' := fun k => k < wr.heap.size ∨ (Value.slice Ax nx cx).ownBlock = some k) HP.out HXN.out HX.out (fun k hk => ⟨by have := HXO.out k hk; omega, Or.inr hk, Nat.le_trans HBS.out (HXO.out k hk)⟩) (fun k hk => Or.inl hk) HLX.out).mono ?_; rintro e w8 ⟨rfl, hbk, hst, hsz, hb0⟩; clear HP HB; have HP := a_k hbk; have HB := a_k hb0; have HZR := a_k (Nat.le_trans HBr.out.size hsz); have m0_ := a_k (HM.out.still hst (by decide)); have m1_ := a_k (hst.rw_ HX.out (by decide)); have m2_ := a_k (hst.rw_ HY.out (by decide)); have m3_ := a_k (hst.rw_ HUU.out (by decide)); clear HM HX HY HUU; have HM := m0_; have HX := m1_; have HY := m2_; have HUU := m3_; clear m0_ m1_ m2_ m3_; clear hbk hst hsz hb0 tk_ TKA; have TKB := a_k True.intro) | (go_at_call 18; have tk_ := TKB; refine (keepE (P' := fun k => (k < wr.heap.size ∨ (Value.slice Ax nx cx).ownBlock = some k) ∨ (Value.slice Au nu cu).ownBlock = some k) HP.out HUN.out HUU.out (fun k hk => ⟨fun h => h.elim (fun h => by have := (HUO.out k hk).1; omega) (fun h => (HUO.out k hk).2 h), Or.inr hk, Nat.le_trans HBS.out (HUO.out k hk).1⟩) (fun k hk => Or.inl hk) HLU.out).mono ?_; rintro e w9 ⟨rfl, hbk, hst, hsz, hb0⟩; clear HP HB; have HP := a_k hbk; have HB := a_k hb0; have nb_ := a_k (Nat.le_trans HZR.out hsz); clear HZR; have HZR := nb_; clear nb_; have m0_ := a_k (HM.out.still hst (by decide)); have m1_ := a_k (hst.rw_ HX.out (by decide)); have m2_ := a_k (hst.rw_ HY.out (by decide)); have m3_ := a_k (hst.rw_ HUU.out (by decide)); clear HM HX HY HUU; have HM := m0_; have HX := m1_; have HY := m2_; have HUU := m3_; clear m0_ m1_ m2_ m3_; clear hbk hst hsz hb0 tk_ TKB; have TKC := a_k True.intro) | (go_at_call 19; have tk_ := TKC; refine (sameE HXN.out HYN.out HX.out HY.out (by have := HLX.out; omega)).mono ?_; rintro e wa ⟨rfl, hb⟩; have m0_ := a_k (HP.out.below hb); have m1_ := a_k (HM.out.below hb); have m2_ := a_k (HX.out.below hb); have m3_ := a_k (HY.out.below hb); have m4_ := a_k (HUU.out.below hb); clear HP HM HX HY HUU; have HP := m0_; have HM := m1_; have HX := m2_; have HY := m3_; have HUU := m4_; clear m0_ m1_ m2_ m3_ m4_; have n0_ := a_k (below_step HB.out hb); clear HB; have HB := n0_; clear n0_; have nb_ := a_k (Nat.le_trans HZR.out hb.size); clear HZR; have HZR := nb_; clear nb_; clear tk_ TKC; have TKD := a_k True.intro; clear hb) | (go_at_call 20; refine (rangeE key HYN.out HY.out (by have := HLX.out; omega) HKX.out (by omega) HSX.out us HUS.out).mono ?_; rintro e wb ⟨Av, nv, cv, rfl, hn, hv, hb⟩; have m0_ := a_k (HP.out.below hb); have m1_ := a_k (HM.out.below hb); have m2_ := a_k (HX.out.below hb); have m3_ := a_k (HY.out.below hb); have m4_ := a_k (HUU.out.below hb); clear HP HM HX HY HUU; have HP := m0_; have HM := m1_; have HX := m2_; have HY := m3_; have HUU := m4_; clear m0_ m1_ m2_ m3_ m4_; have n0_ := a_k (below_step HB.out hb); clear HB; have HB := n0_; clear n0_; have nb_ := a_k (Nat.le_trans HZR.out hb.size); clear HZR; have HZR := nb_; clear nb_; have HV := a_k hv; have HVN := a_k hn; clear hn hv; clear hb) | (go_at_call 19; have tk_ := TKD; refine (sameE HUN.out HVN.out HUU.out HV.out (by have := HLU.out; omega)).mono ?_; rintro e wc ⟨rfl, hb⟩; have m0_ := a_k (HP.out.below hb); have m1_ := a_k (HM.out.below hb); have m2_ := a_k (HX.out.below hb); have m3_ := a_k (HUU.out.below hb); clear HP HM HX HUU; have HP := m0_; have HM := m1_; have HX := m2_; have HUU := m3_; clear m0_ m1_ m2_ m3_; have n0_ := a_k (below_step HB.out hb); clear HB; have HB := n0_; clear n0_; have nb_ := a_k (Nat.le_trans HZR.out hb.size); clear HZR; have HZR := nb_; clear nb_; clear tk_ TKD; clear hb) | (go_at_call 41; refine (staysE HM.out (Kd.C_below HR0.out HB.out) HC0.out (by omega)).mono ?_; rintro e wd ⟨rfl, hb⟩; have m0_ := a_k (HP.out.below hb); have m1_ := a_k (HX.out.below hb); have m2_ := a_k (HUU.out.below hb); clear HP HX HUU; have HP := m0_; have HX := m1_; have HUU := m2_; clear m0_ m1_ m2_; have n0_ := a_k (below_step HB.out hb); clear HB; have HB := n0_; clear n0_; have nb_ := a_k (Nat.le_trans HZR.out hb.size); clear HZR; have HZR := nb_; clear nb_; clear hb))
    go_roundw
    case rel => exact ⟨k + 1, by go_num, by have := HLT.out; omega, ⟨HP.out.mono (fun j hj => by rcases hj with (hj | hj) | hj; exact Nat.lt_of_lt_of_le hj HZR.out; exact HX.out.lt j hj; exact HUU.out.lt j hj)⟩⟩
    case measure => simp [intOf]; have := HLT.out; omega
   ·obtain rfl : k = 2 := by omega
    have HB := a_k HP.out.bel
    clear hlt hk
    go_wp2_with (first | (go_at_call 73; refine (alive_w _).mono ?_; rintro e wg ⟨rfl, hb⟩; have m0_ := a_k (HP.out.below hb); clear HP; have HP := m0_; clear m0_; have n0_ := a_k (below_step HB.out hb); clear HB; have HB := n0_; clear n0_; clear hb) | (go_at_call 80; refine (shared_c _ bb key _ (by omega) rfl).mono ?_; rintro e we ⟨rfl, hb⟩; have m0_ := a_k (HP.out.below hb); clear HP; have HP := m0_; clear m0_; have n0_ := a_k (below_step HB.out hb); clear HB; have HB := n0_; clear n0_; clear hb) | (go_at_call 81; refine (rshared_c _ bb key _ (by omega) rfl).mono ?_; rintro e wf ⟨rfl, hb⟩; have m0_ := a_k (HP.out.below hb); clear HP; have HP := m0_; clear m0_; have n0_ := a_k (below_step HB.out hb); clear HB; have HB := n0_; clear n0_; clear hb) | (go_at_call 29; refine HP.out.apart.mono ?_; rintro e wh ⟨rfl, hb⟩; clear HB; have HB := a_k hb; clear hb))
    go_ret
    exact ⟨rfl, HB.out⟩
 | true =>
  have HBB : Aside0 (bb = b ++ strOfNums (be 4 (crc (bytesOf b)))) := ⟨hbb⟩
  clear hbb
  go_enter Tryz.func7, Tryz.ntmps7
  go_wp2_with (first | (go_at_call 9; refine (small_c (Kd.C_below HR0.out HB.out) HC0.out true HB1.out).mono ?_; rintro e w1 ⟨rfl, hb⟩; have n0_ := a_k (below_step HB.out hb); clear HB; have HB := n0_; clear n0_; clear hb) | (go_at_call 74; refine (seal_c _ b (by omega) bb HBB.out).mono ?_; rintro e w1s ⟨rfl, hb⟩; have n0_ := a_k (below_step HB.out hb); clear HB; have HB := n0_; clear n0_; clear hb))
  have HP : Aside0 (BkX w (w1s.alloc (.cells #[.slice none 0 0, .slice none 0 0, .slice none 0 0, .slice none 0 0, .slice none 0 0, .slice none 0 0, .slice none 0 0, .slice none 0 0, .slice none 0 0, .slice none 0 0, .slice none 0 0, .slice none 0 0, .slice none 0 0, .slice none 0 0, .slice none 0 0, .slice none 0 0, .slice none 0 0, .slice none 0 0, .slice none 0 0, .slice none 0 0, .slice none 0 0, .slice none 0 0, .slice none 0 0, .slice none 0 0, .slice none 0 0, .slice none 0 0, .slice none 0 0, .slice none 0 0] 56)) w1s.heap.size (fun k => k < (w1s.alloc (.cells #[.slice none 0 0, .slice none 0 0, .slice none 0 0, .slice none 0 0, .slice none 0 0, .slice none 0 0, .slice none 0 0, .slice none 0 0, .slice none 0 0, .slice none 0 0, .slice none 0 0, .slice none 0 0, .slice none 0 0, .slice none 0 0, .slice none 0 0, .slice none 0 0, .slice none 0 0, .slice none 0 0, .slice none 0 0, .slice none 0 0, .slice none 0 0, .slice none 0 0, .slice none 0 0, .slice none 0 0, .slice none 0 0, .slice none 0 0, .slice none 0 0, .slice none 0 0] 56)).heap.size)) := ⟨BkX.new HB.out _⟩
  obtain ⟨gk, hgk⟩ : ∃ gk, gk = w1s.heap.size := ⟨_, rfl⟩
  rw [← hgk] at HP ⊢
  clear hgk HB
  go_loopw [10] (fun v10 w' => ∃ k : Nat, v10 = .int .i64 k ∧ k ≤ 2 ∧ Aside0 (BkX w w' gk (fun k => k < w'.heap.size))) (fun v10 _ => 2 - (intOf v10).toNat)
  case atStart => exact ⟨0, rfl, by omega, HP⟩
  case round =>
   clear HP
   obtain ⟨k, rfl, hk, HP⟩ := hrel
   by_cases hlt : k < 2
   ·have q0 : (k : Int) < 2 := by omega
    have t0 : decide ((k : Int) < 2) = true := decide_eq_true q0
    have HLT := a_k hlt
    have HB := a_k HP.out.bel
    have HBr := a_k (Below.refl wr.heap.size wr)
    have HBS := a_k HB.out.size
    go_wp2_with (first | (go_at_call 32; refine (lentE (Kd.C_below HR0.out HB.out) HC0.out (by omega)).mono ?_; rintro e w2 ⟨Am, cm, rfl, hm, hb⟩; have m0_ := a_k (HP.out.below hb); clear HP; have HP := m0_; clear m0_; have n0_ := a_k (below_step HB.out hb); clear HB; have HB := n0_; clear n0_; have nb_ := a_k (below_step HBr.out hb); clear HBr; have HBr := nb_; clear nb_; have HM := a_k hm; clear hm; clear hb) | (go_at_call 75; refine (putE HM.out (by omega) HU.out px pr HPP.out).mono ?_; rintro e w3 ⟨rfl, hb⟩; have m0_ := a_k (HP.out.below hb); have m1_ := a_k (HM.out.below hb); clear HP HM; have HP := m0_; have HM := m1_; clear m0_ m1_; have n0_ := a_k (below_step HB.out hb); clear HB; have HB := n0_; clear n0_; have nb_ := a_k (below_step HBr.out hb); clear HBr; have HBr := nb_; clear nb_; clear hb) | (go_at_call 76; refine (rputE (Kd.C_below HR0.out HB.out) HC0.out (by omega) HU.out HKZ.out px pr HPP.out).mono ?_; rintro e w4 ⟨rfl, hb⟩; have m0_ := a_k (HP.out.below hb); have m1_ := a_k (HM.out.below hb); clear HP HM; have HP := m0_; have HM := m1_; clear m0_ m1_; have n0_ := a_k (below_step HB.out hb); clear HB; have HB := n0_; clear n0_; have nb_ := a_k (below_step HBr.out hb); clear HBr; have HBr := nb_; clear nb_; clear hb) | (go_at_call 77; have hzr := HBr.out.size; refine (getE _ bb HBZ.out xs er HGB.out).mono ?_; rintro e w5 ⟨Ax, nx, cx, rfl, hn, hx, ho, hb⟩; have m0_ := a_k (HP.out.below hb); have m1_ := a_k (HM.out.below hb); clear HP HM; have HP := m0_; have HM := m1_; clear m0_ m1_; have n0_ := a_k (below_step HB.out hb); clear HB; have HB := n0_; clear n0_; have nb_ := a_k (below_step HBr.out hb); clear HBr; have HBr := nb_; clear nb_; have HX := a_k hx; have HXN := a_k hn; have HXO : Aside0 (∀ k, (Value.slice Ax nx cx).ownBlock = some k → wr.heap.size ≤ k) := ⟨fun k hk => Nat.le_trans hzr (ho k hk)⟩; clear hx hn ho hzr; clear hb) | (go_at_call 78; refine (rgetE _ bb HBZ.out xs er HGB.out).mono ?_; rintro e w6 ⟨Ay, ny, cy, rfl, hn, hy, hb⟩; have m0_ := a_k (HP.out.below hb); have m1_ := a_k (HM.out.below hb); have m2_ := a_k (HX.out.below hb); clear HP HM HX; have HP := m0_; have HM := m1_; have HX := m2_; clear m0_ m1_ m2_; have n0_ := a_k (below_step HB.out hb); clear HB; have HB := n0_; clear n0_; have nb_ := a_k (below_step HBr.out hb); clear HBr; have HBr := nb_; clear nb_; have HY := a_k hy; have HYN := a_k hn; clear hy hn; clear hb) | (go_at_call 79; have hxl := HX.out.lt; have hzr := HBr.out.size; refine (seekE _ bb key HBZ.out xs er HGB.out).mono ?_; rintro e w7 ⟨Au, nu, cu, rfl, hn, hu, ho, hb⟩; have m0_ := a_k (HP.out.below hb); have m1_ := a_k (HM.out.below hb); have m2_ := a_k (HX.out.below hb); have m3_ := a_k (HY.out.below hb); clear HP HM HX HY; have HP := m0_; have HM := m1_; have HX := m2_; have HY := m3_; clear m0_ m1_ m2_ m3_; have n0_ := a_k (below_step HB.out hb); clear HB; have HB := n0_; clear n0_; have nb_ := a_k (below_step HBr.out hb); clear HBr; have HBr := nb_; clear nb_; have HUU := a_k hu; have HUN : Aside0 (nu = us.length) := ⟨by rw [HUS.out]; exact hn⟩; have HUO : Aside0 (∀ k, (Value.slice Au nu cu).ownBlock = some k → wr.heap.size ≤ k ∧ ¬ (Value.slice Ax nx cx).ownBlock = some k) := ⟨fun k hk => ⟨Nat.le_trans hzr (ho k hk), fun h2 => by have h3 := hxl k h2; have h4 := ho k hk; omega⟩⟩; rw [← HUS.out] at HUU; clear hu hn ho hzr hxl; have TKA := a_k True.intro; clear hb) | (go_at_call 18; have tk_ := TKA; refine (keepE (P' := fun k => k < wr.heap.size ∨ (Value.slice Ax nx cx).ownBlock = some k) HP.out HXN.out HX.out (fun k hk => ⟨by have := HXO.out k hk; omega, Or.inr hk, Nat.le_trans HBS.out (HXO.out k hk)⟩) (fun k hk => Or.inl hk) HLX.out).mono ?_; rintro e w8 ⟨rfl, hbk, hst, hsz, hb0⟩; clear HP HB; have HP := a_k hbk; have HB := a_k hb0; have HZR := a_k (Nat.le_trans HBr.out.size hsz); have m0_ := a_k (HM.out.still hst (by decide)); have m1_ := a_k (hst.rw_ HX.out (by decide)); have m2_ := a_k (hst.rw_ HY.out (by decide)); have m3_ := a_k (hst.rw_ HUU.out (by decide)); clear HM HX HY HUU; have HM := m0_; have HX := m1_; have HY := m2_; have HUU := m3_; clear m0_ m1_ m2_ m3_; clear hbk hst hsz hb0 tk_ TKA; have TKB := a_k True.intro) | (go_at_call 18; have tk_ := TKB; refine (keepE (P' := fun k => (k < wr.heap.size ∨ (Value.slice Ax nx cx).ownBlock = some k) ∨ (Value.slice Au nu cu).ownBlock = some k) HP.out HUN.out HUU.out (fun k hk => ⟨fun h => h.elim (fun h => by have := (HUO.out k hk).1; omega) (fun h => (HUO.out k hk).2 h), Or.inr hk, Nat.le_trans HBS.out (HUO.out k hk).1⟩) (fun k hk => Or.inl hk) HLU.out).mono ?_; rintro e w9 ⟨rfl, hbk, hst, hsz, hb0⟩; clear HP HB; have HP := a_k hbk; have HB := a_k hb0; have nb_ := a_k (Nat.le_trans HZR.out hsz); clear HZR; have HZR := nb_; clear nb_; have m0_ := a_k (HM.out.still hst (by decide)); have m1_ := a_k (hst.rw_ HX.out (by decide)); have m2_ := a_k (hst.rw_ HY.out (by decide)); have m3_ := a_k (hst.rw_ HUU.out (by decide)); clear HM HX HY HUU; have HM := m0_; have HX := m1_; have HY := m2_; have HUU := m3_; clear m0_ m1_ m2_ m3_; clear hbk hst hsz hb0 tk_ TKB; have TKC := a_k True.intro) | (go_at_call 19; have tk_ := TKC; refine (sameE HXN.out HYN.out HX.out HY.out (by have := HLX.out; omega)).mono ?_; rintro e wa ⟨rfl, hb⟩; have m0_ := a_k (HP.out.below hb); have m1_ := a_k (HM.out.below hb); have m2_ := a_k (HX.out.below hb); have m3_ := a_k (HY.out.below hb); have m4_ := a_k (HUU.out.below hb); clear HP HM HX HY HUU; have HP := m0_; have HM := m1_; have HX := m2_; have HY := m3_; have HUU := m4_; clear m0_ m1_ m2_ m3_ m4_; have n0_ := a_k (below_step HB.out hb); clear HB; have HB := n0_; clear n0_; have nb_ := a_k (Nat.le_trans HZR.out hb.size); clear HZR; have HZR := nb_; clear nb_; clear tk_ TKC; have TKD := a_k True.intro; clear hb) | (go_at_call 20; refine (rangeE key HYN.out HY.out (by have := HLX.out; omega) HKX.out (by omega) HSX.out us HUS.out).mono ?_; rintro e wb ⟨Av, nv, cv, rfl, hn, hv, hb⟩; have m0_ := a_k (HP.out.below hb); have m1_ := a_k (HM.out.below hb); have m2_ := a_k (HX.out.below hb); have m3_ := a_k (HY.out.below hb); have m4_ := a_k (HUU.out.below hb); clear HP HM HX HY HUU; have HP := m0_; have HM := m1_; have HX := m2_; have HY := m3_; have HUU := m4_; clear m0_ m1_ m2_ m3_ m4_; have n0_ := a_k (below_step HB.out hb); clear HB; have HB := n0_; clear n0_; have nb_ := a_k (Nat.le_trans HZR.out hb.size); clear HZR; have HZR := nb_; clear nb_; have HV := a_k hv; have HVN := a_k hn; clear hn hv; clear hb) | (go_at_call 19; have tk_ := TKD; refine (sameE HUN.out HVN.out HUU.out HV.out (by have := HLU.out; omega)).mono ?_; rintro e wc ⟨rfl, hb⟩; have m0_ := a_k (HP.out.below hb); have m1_ := a_k (HM.out.below hb); have m2_ := a_k (HX.out.below hb); have m3_ := a_k (HUU.out.below hb); clear HP HM HX HUU; have HP := m0_; have HM := m1_; have HX := m2_; have HUU := m3_; clear m0_ m1_ m2_ m3_; have n0_ := a_k (below_step HB.out hb); clear HB; have HB := n0_; clear n0_; have nb_ := a_k (Nat.le_trans HZR.out hb.size); clear HZR; have HZR := nb_; clear nb_; clear tk_ TKD; clear hb) | (go_at_call 41; refine (staysE HM.out (Kd.C_below HR0.out HB.out) HC0.out (by omega)).mono ?_; rintro e wd ⟨rfl, hb⟩; have m0_ := a_k (HP.out.below hb); have m1_ := a_k (HX.out.below hb); have m2_ := a_k (HUU.out.below hb); clear HP HX HUU; have HP := m0_; have HX := m1_; have HUU := m2_; clear m0_ m1_ m2_; have n0_ := a_k (below_step HB.out hb); clear HB; have HB := n0_; clear n0_; have nb_ := a_k (Nat.le_trans HZR.out hb.size); clear HZR; have HZR := nb_; clear nb_; clear hb))
    go_roundw
    case rel => exact ⟨k + 1, by go_num, by have := HLT.out; omega, ⟨HP.out.mono (fun j hj => by rcases hj with (hj | hj) | hj; exact Nat.lt_of_lt_of_le hj HZR.out; exact HX.out.lt j hj; exact HUU.out.lt j hj)⟩⟩
    case measure => simp [intOf]; have := HLT.out; omega
   ·obtain rfl : k = 2 := by omega
    have HB := a_k HP.out.bel
    clear hlt hk
    go_wp2_with (first | (go_at_call 73; refine (alive_w _).mono ?_; rintro e wg ⟨rfl, hb⟩; have m0_ := a_k (HP.out.below hb); clear HP; have HP := m0_; clear m0_; have n0_ := a_k (below_step HB.out hb); clear HB; have HB := n0_; clear n0_; clear hb) | (go_at_call 80; refine (shared_c _ bb key _ (by omega) rfl).mono ?_; rintro e we ⟨rfl, hb⟩; have m0_ := a_k (HP.out.below hb); clear HP; have HP := m0_; clear m0_; have n0_ := a_k (below_step HB.out hb); clear HB; have HB := n0_; clear n0_; clear hb) | (go_at_call 81; refine (rshared_c _ bb key _ (by omega) rfl).mono ?_; rintro e wf ⟨rfl, hb⟩; have m0_ := a_k (HP.out.below hb); clear HP; have HP := m0_; clear m0_; have n0_ := a_k (below_step HB.out hb); clear HB; have HB := n0_; clear n0_; clear hb) | (go_at_call 29; refine HP.out.apart.mono ?_; rintro e wh ⟨rfl, hb⟩; clear HB; have HB := a_k hb; clear hb))
    go_ret
    exact ⟨rfl, HB.out⟩
end Go.Proofs.YtchgpcgolgcfdaaGreat.Bt
end
section
namespace Go.Proofs.YtchgpcgolgcfdaaGreat.PNum
open Go.RowKit Go.Proofs.YtchgpcgolgcfdaaGreatW.PrintWords Go.Proofs.YtchgpcgolgcfdaaGreatW.PrintLast Go.Proofs.YtchgpcgolgcfdaaGreatW.PrintMore
attribute [local go_sem] max2_int min2_int max_two min_two max_three min_three max_four min_four
set_option linter.unusedVariables false
set_option linter.unusedSimpArgs false
def cornucopialaw10_BlockTells.wf (l : List S32) : Bool := l.all fun e => decide (e.f0.size ≤ 140737488351232 ∧ e.f3.size ≤ 140737488351232) && (Lit.int .u64 e.f1).wf
theorem cornucopialaw10_BlockTells.wf_iff (l : List S32) : cornucopialaw10_BlockTells.wf l = true ↔ ∀ e ∈ l, Go.Proofs.YtchgpcgolgcfdaaGreat.Bt.wfE e := by
 unfold cornucopialaw10_BlockTells.wf
 rw [List.all_eq_true]
 refine forall_congr' fun e => forall_congr' fun he => ?_
 simp only [Bool.and_eq_true, decide_eq_true_eq, and_assoc]
 rfl
def cornucopialaw10_BlockTells.f (l0 : List S32) (a1 a2 : ByteArray) (a3 : Bool) : Option Bool := if (cornucopialaw10_BlockTells.wf l0 && (decide (a1.size ≤ 140737488351232) && decide (a2.size ≤ 140737488351232))) = true then some true else none
theorem cornucopialaw10_BlockTells.calls (A0 : Option Addr) (c0 : Nat) (l0 : List S32) (a1 a2 : ByteArray) (a3 : Bool) (r : Bool) (w : World)
  (hr0 : Kd.C k32 w A0 l0.length l0) (hc0 : l0.length ≤ c0) (h : cornucopialaw10_BlockTells.f l0 a1 a2 a3 = some r) :
  Calls Tryz.prog 7 #[.slice A0 l0.length c0, .string a1, .string a2, .bool a3] w fun e w' => e = .returned (.bool r) ∧ Below w.heap.size w w' := by
 unfold cornucopialaw10_BlockTells.f at h
 split at h
 case isFalse => cases h
 case isTrue hg =>
 obtain rfl : true = r := Option.some.inj h
 rw [Bool.and_eq_true, Bool.and_eq_true, cornucopialaw10_BlockTells.wf_iff, decide_eq_true_eq, decide_eq_true_eq] at hg
 exact Go.Proofs.YtchgpcgolgcfdaaGreat.Bt.bt_calls A0 c0 l0 a1 a2 a3 w hr0 hc0 hg.1 hg.2.1 hg.2.2
def cornucopialaw10_BlockTells.Pure : Prop := ∀ (l0 : List (S32)) (a1 : ByteArray) (a2 : ByteArray) (a3 : Bool), l0.length * 48 ≤ 140737488351232 → (∀ x_ ∈ l0, wfS32 x_) → a1.size ≤ 140737488351232 → a2.size ≤ 140737488351232 → cornucopialaw10_BlockTells.f l0 a1 a2 a3 = some true
theorem cornucopialaw10_BlockTells.walk (P : cornucopialaw10_BlockTells.Pure) (A0 : Option Addr) (c0 : Nat) (l0 : List (S32)) (a1 : ByteArray) (a2 : ByteArray) (a3 : Bool) (w : World) (hr0 : Kd.C k32 w A0 l0.length l0) (hc0 : l0.length ≤ c0) (w0_0 : l0.length * 48 ≤ 140737488351232) (w0_1 : (∀ x_ ∈ l0, wfS32 x_)) (w1_0 : a1.size ≤ 140737488351232) (w2_0 : a2.size ≤ 140737488351232) :
  Calls Tryz.prog 7 #[.slice A0 l0.length c0, .string a1, .string a2, .bool a3] w fun e w' => e = .returned (.bool true) ∧ Below w.heap.size w w' := by
 have h := P l0 a1 a2 a3 w0_0 w0_1 w1_0 w2_0
 refine (cornucopialaw10_BlockTells.calls _ _ l0 a1 a2 a3 true w hr0 hc0 h).mono ?_
 rintro e w' ⟨rfl, hd⟩
 exact ⟨rfl, hd⟩
end Go.Proofs.YtchgpcgolgcfdaaGreat.PNum
end
section
namespace Go.Proofs.YtchgpcgolgcfdaaGreat.Pure
open Go Go.RowKit Go.Proofs.YtchgpcgolgcfdaaGreat.PNum
theorem BlockTells : cornucopialaw10_BlockTells.Pure := by
 intro l0 a1 a2 a3 _ h0 h1 h2
 unfold cornucopialaw10_BlockTells.f
 refine if_pos (Bool.and_eq_true_iff.2 ⟨(cornucopialaw10_BlockTells.wf_iff l0).2 fun e he => ⟨(h0 e he).1, (h0 e he).2.2.2, (h0 e he).2.1⟩, Bool.and_eq_true_iff.2 ⟨decide_eq_true h1, decide_eq_true h2⟩⟩)
end Go.Proofs.YtchgpcgolgcfdaaGreat.Pure
end
