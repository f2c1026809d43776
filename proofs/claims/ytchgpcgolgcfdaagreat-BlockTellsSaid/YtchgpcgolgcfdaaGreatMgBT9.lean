/- Texts of this claim, put together and cut down to what is used (BT9). -/
import Derived.Deep.RegionHeld3
import Derived.BigRegion
import Derived.Test.YtchgpcgolgcfdaaGreatMgBT8
import Derived.Test.YtchgpcgolgcfdaaGreatMgBT4
import Derived.Test.YtchgpcgolgcfdaaGreatMgBT5
import Derived.Test.YtchgpcgolgcfdaaGreatMgBT1
import Derived.Test.YtchgpcgolgcfdaaGreatMgBT7
section
namespace Go.Proofs.YtchgpcgolgcfdaaGreat.BkW
open Go Go.RowKit Go.Proofs.YtchgpcgolgcfdaaGreatW.PrintWords Go.Proofs.YtchgpcgolgcfdaaGreatW.PrintLast Go.Proofs.YtchgpcgolgcfdaaGreatW.PrintMore
theorem NewOr.mono {w w1 : World} {p p1 : Value} (h : NewOr w1 p p1) (hz : w.heap.size ≤ w1.heap.size) : NewOr w p p1 := fun k hk => (h k hk).imp id (fun h2 => Nat.le_trans hz h2)
end Go.Proofs.YtchgpcgolgcfdaaGreat.BkW
end
section
namespace Go.Proofs.YtchgpcgolgcfdaaGreat.Pb
open Go Go.RowKit Go.Proofs.YtchgpcgolgcfdaaGreat.PNum Go.Proofs.YtchgpcgolgcfdaaGreat.PuVt Go.Proofs.YtchgpcgolgcfdaaGreat.PuVr Go.Proofs.YtchgpcgolgcfdaaGreat.PuCrc Go.Proofs.YtchgpcgolgcfdaaGreat.PuBk Go.Proofs.YtchgpcgolgcfdaaGreat.PuBq Go.Proofs.YtchgpcgolgcfdaaGreatW.PrintWords Go.Proofs.YtchgpcgolgcfdaaGreatW.PrintLast Go.Proofs.YtchgpcgolgcfdaaGreatW.PrintMore Go.Proofs.YtchgpcgolgcfdaaGreatW.Pu
set_option linter.unusedVariables false
set_option linter.unusedSimpArgs false
set_option maxRecDepth 100000
set_option maxHeartbeats 16000000
def pb15.T : Bool × List (List Nat × List Nat) := (true, [([], []), ([], []), ([1], [1]), ([2], [2]), ([], []), ([], []), ([4, 5], [4, 5]), ([6], [6]), ([7], [7]), ([], []), ([8, 9], [8, 9]), ([10, 3], [10]), ([3, 11], [3, 11]), ([], []), ([], []), ([13, 14], [13, 14]), ([15], [15]), ([16], [16]), ([], []), ([], []), ([18, 19], [18, 19]), ([20], [20]), ([21], [21]), ([22], [22]), ([17, 23], [17, 23]), ([24, 11], [24]), ([12, 25], [12, 25]), ([], []), ([], []), ([27, 28], [27, 28]), ([29], [29]), ([30], [30]), ([31, 25], [31]), ([26, 32], [26, 32]), ([0, 33, 32], [0, 33]), ([34, 34, 0, 1, 2, 3, 4, 5, 6, 7, 8, 9, 10, 11, 12, 13, 14, 15, 16, 17, 18, 19, 20, 21, 22, 23, 24, 25, 26, 27, 28, 29, 30, 31, 32, 33, 34], [0, 34])])
def pb15.B : List Nat := [0, 0, 2, 6, 0, 0, 48, 112, 240, 0, 1008, 2046, 4094, 0, 0, 24576, 57344, 122880, 0, 0, 786432, 1835008, 3932160, 8126464, 16769024, 33550334, 67108862, 0, 0, 402653184, 939524096, 2013265920, 4227854334, 8589934590, 17179869183, 34359738367]
theorem pb15.tab : rtab .any (opsOf Tryz.f76 15) = pb15.T := by kernel_rfl
theorem pb15.bits : waitsOk pb15.T.2 pb15.B = true := by kernel_rfl
theorem ycells {w : World} {A1 : Option Addr} {l1 : List E} (hC : Kd.C k32 w A1 l1.length l1) {i : Nat} (hi : i < l1.length) : ∃ ad, A1 = some ad ∧ ∀ V, Below w.heap.size w V → V.cell? (ad.add (i * 4)) = some (.string l1[i].f0) ∧ V.cell? ⟨(ad.add (i * 4)).block, (ad.add (i * 4)).off + 1, none⟩ = some (.int .u64 l1[i].f1) ∧ V.cell? ⟨(ad.add (i * 4)).block, (ad.add (i * 4)).off + 2, none⟩ = some (.int .i64 l1[i].f2) ∧ V.cell? ⟨(ad.add (i * 4)).block, (ad.add (i * 4)).off + 3, none⟩ = some (.string l1[i].f3) := by
 obtain ⟨ad, e0, y0, y1, y2, y3⟩ := at_T32 hC (i : Int) (Int.natCast_nonneg _) (Int.ofNat_lt.mpr hi)
 have hx : rd_T32 l1 (i : Int) = l1[i] := by simp [rd_T32, hi]
 rw [hx] at y0 y1 y2 y3
 simp only [Int.toNat_natCast] at y0 y1 y2 y3
 exact ⟨ad, e0, fun V hb => ⟨pw_cell_below hb y0, pw_cell_below hb y1, pw_cell_below hb y2, pw_cell_below hb y3⟩⟩
theorem putblock_calls (A0 : Option Addr) (c0 : Nat) (l : List E) (w : World) (hr0 : Kd.C k32 w A0 l.length l) (hc0 : l.length ≤ c0) (h4 : l.length ≤ 10000) (hu : u64s_ l) (hs : ∀ e ∈ l, e.f0.size ≤ 140737488351232) :
  Calls Tryz.prog 76 #[.slice A0 l.length c0] w fun e w' => e = .returned (.tuple #[.string (putB l).1, .int .i64 (putB l).2]) ∧ Below w.heap.size w w' := by
 have HR0 := a_k hr0
 have HC0 := a_k hc0
 have HS0 := a_k hs
 have HB := a_k (Below.refl w.heap.size w)
 clear hr0 hc0 hs
 cases hr : rightB l with
 | false =>
  have hpb : putB l = (⟨#[]⟩, 1) := by unfold putB; rw [if_neg (by rw [hr]; exact Bool.false_ne_true)]
  rw [hpb]
  have HRB := a_k hr
  clear hpb hr
  go_enter Tryz.func76, Tryz.ntmps76
  go_wp2_with (first | (go_at_call 190; refine (ordered_c (Kd.C_below HR0.out HB.out) HC0.out h4 HS0.out _ HRB.out).mono ?_; rintro e w1 ⟨rfl, hb⟩; have n0_ := a_k (below_step HB.out hb); clear HB; have HB := n0_; clear n0_ hb))
  go_ret2
  exact ⟨rfl, HB.out⟩
 | true =>
  have HOK := a_k (right_ok hr hu)
  have hpb : putB l = (strOfNums (blk l ++ be 4 (crc (blk l))), 0) := by unfold putB; rw [if_pos hr]
  rw [hpb]
  have HRB := a_k hr
  have HU := a_k hu
  clear hpb hr hu
  go_enter Tryz.func76, Tryz.ntmps76
  go_wp2_with (first | (go_at_call 190; refine (ordered_c (Kd.C_below HR0.out HB.out) HC0.out h4 HS0.out _ HRB.out).mono ?_; rintro e w1 ⟨rfl, hb⟩; have n0_ := a_k (below_step HB.out hb); clear HB; have HB := n0_; clear n0_ hb))
  have HB3 := HB
  clear HB
  go_loopw [4, 5, 6, 7] (fun v4 v5 v6 v7 w' => ∃ (i : Nat) (p : ByteArray) (xs tl : List Int), v5 = .string (strOfNums tl) ∧ v6 = .int .i64 (((i + 3) / 4 : Nat) : Int) ∧ v7 = .int .i64 i ∧ i ≤ l.length ∧ Aside0 (Rs l i p xs tl) ∧ Aside0 (Kd.R (Kd.int .u8) 5 w' w.heap.size (fun _ => True) v4 (xs)) ∧ Aside0 (Below w.heap.size w w')) (fun _ _ _ v7 _ => l.length - (intOf v7).toNat)
  case atStart => exact ⟨0, ⟨#[]⟩, [], [], rfl, rfl, rfl, Nat.zero_le _, ⟨Rs.start l⟩, ⟨Kd.R_nil _ _ _ _ _⟩, HB3⟩
  case round =>
   obtain ⟨i, p, xs, tl, rfl, rfl, rfl, hi, HRS, HO, HB⟩ := hrel
   clear HB3
   obtain ⟨A4, c4, e4⟩ := Kd.R_slice HO.out
   subst e4
   have hxl := HRS.out.xl
   have htn := HRS.out.tn
   have hps := HRS.out.ps
   by_cases hlt : i < l.length
   ·have p0 : (0 : Int) ≤ (i : Int) := Int.natCast_nonneg _
    have q0 : (i : Int) < (l.length : Int) := Int.ofNat_lt.mpr hlt
    have s0 : decide ((i : Int) < (l.length : Int)) = true := decide_eq_true q0
    have hok := HOK.out _ (List.getElem_mem hlt)
    obtain ⟨hn1, hn2⟩ := hd_le i p l[i]
    have HN := HRS.out.step hlt hok
    obtain ⟨m, hm⟩ : ∃ m, m = hd i p l[i] := ⟨_, rfl⟩
    rw [← hm] at hn1 hn2 HN
    obtain ⟨ad, e0, hce⟩ := ycells HR0.out hlt
    have HCE := a_k hce
    have HLI : Aside0 (l[i] = l[i]) := ⟨rfl⟩
    have HPV := HRS.out.pp
    obtain ⟨e, he⟩ : ∃ e, e = l[i] := ⟨_, rfl⟩
    rw [← he] at hn2 HN hok hce hm
    have HEI := a_k he
    clear he
    have HHD := a_k hm
    have HNX := a_k HN
    have HCE2 := a_k hce
    have HKY := hok.key
    have HSQ := a_k hok.seq
    have HVL := hok.val
    have HKD := a_k hok.kind
    clear HN hm hce
    rw [show l[i] = e from HEI.out.symm] at HCE
    clear HCE
    have HCE := HCE2
    clear HCE2
    cases e0
    have HM0 : Aside0 ((0 : Int) ≤ (m : Int)) := ⟨Int.natCast_nonneg _⟩
    have HM1 : Aside0 (m ≤ 18446744073709551615) := ⟨by omega⟩
    have HM2 : Aside0 ((m : Int) ≤ (e.f0.size : Int)) := ⟨by omega⟩
    obtain ⟨kr, hkr⟩ : ∃ kr, e.f0.extract (m : Int).toNat e.f0.size = kr := ⟨_, rfl⟩
    have hkz : kr.size ≤ 300 := by rw [← hkr, ByteArray.size_extract]; omega
    have HKR := a_k hkr
    have HK1 : Aside0 (kr.size ≤ 100000) := ⟨by omega⟩
    have HK4 : Aside0 (e.f3.size ≤ 100000) := ⟨by omega⟩
    have HK2 : Aside0 (IntKind.u64.wrap e.f2 = e.f2) := ⟨by rcases HKD.out with h | h <;> rw [h] <;> decide⟩
    have HK3 : Aside0 (0 ≤ e.f2 ∧ e.f2 ≤ 18446744073709551615) := ⟨by rcases HKD.out with h | h <;> rw [h] <;> decide⟩
    have n1 := vb_len10 (n := m) (by omega)
    have n2 := vb_len10 (n := kr.size) (by omega)
    have n3 := vb_len10 (n := e.f1.toNat) (by have := HSQ.out; omega)
    have n4 := vb_len10 (n := e.f2.toNat) (by have := HK3.out; omega)
    have n5 := vb_len10 (n := e.f3.size) (by omega)
    have n6 : (bytesOf kr).length = kr.size := bytesOf_length _
    have n7 : (bytesOf e.f3).length = e.f3.size := bytesOf_length _
    obtain ⟨y1, hy1⟩ : ∃ y1, y1 = strOfNums (vb m) := ⟨_, rfl⟩
    obtain ⟨y2, hy2⟩ : ∃ y2, y2 = strOfNums (vb kr.size ++ bytesOf kr) := ⟨_, rfl⟩
    obtain ⟨y3, hy3⟩ : ∃ y3, y3 = strOfNums (vb e.f1.toNat ++ vb e.f2.toNat) := ⟨_, rfl⟩
    obtain ⟨y4, hy4⟩ : ∃ y4, y4 = strOfNums (vb e.f3.size ++ bytesOf e.f3) := ⟨_, rfl⟩
    have z1 : y1.size ≤ 10 := by rw [hy1, S_size]; omega
    have z2 : y2.size ≤ 310 := by rw [hy2, S_size, List.length_append]; omega
    have z3 : y3.size ≤ 20 := by rw [hy3, S_size, List.length_append]; omega
    have z4 : y4.size ≤ 60010 := by rw [hy4, S_size, List.length_append]; omega
    have HSZ : Aside0 ((y1.size + y2.size + y3.size + y4.size ≤ 100000) ∧ xs.length ≤ 604000000) := ⟨by omega, by omega⟩
    have HPB := a_k (bytes_pc e m hn2 kr hkr y1 y2 y3 y4 hy1 hy2 hy3 hy4)
    have HY1 := a_k hy1
    have HY2 := a_k hy2
    have HY3 := a_k hy3
    have HY4 := a_k hy4
    clear hy1 hy2 hy3 hy4 hkr n1 n2 n3 n4 n5 n6 n7 z1 z2 z3 z4 hkz
    by_cases h40 : i % 4 = 0
    ·have t4 : (((i : Int) % 4) == 0) = true := by rw [beq_iff_eq]; omega
     have t4' : ((i : Int) % 4 != 0) = false := by rw [bne, t4]; rfl
     obtain rfl : m = 0 := by rw [HHD.out]; unfold hd; rw [if_pos h40]
     obtain ⟨yb, hyb⟩ : ∃ yb, yb = strOfNums (be 4 xs.length) := ⟨_, rfl⟩
     obtain ⟨ts, hts⟩ : ∃ ts, strOfNums tl = ts := ⟨_, rfl⟩
     have hz1 : yb.size = 4 := by rw [hyb, S_size, be_len]
     have hz2 : ts.size = tl.length := by rw [← hts, S_size]
     have f1 := eq_true (show ts.size + yb.size ≤ 9223372036854775807 by omega)
     have f2 : (9223372036854775807 < ts.size + yb.size) = False := eq_false (by omega)
     have HYB := a_k hyb
     have HTS : Aside0 (ts ++ yb = strOfNums (tl ++ be 4 xs.length)) := ⟨by rw [← hts, hyb, S_append]⟩
     rw [hts]
     clear hz1 hz2 hyb hts
     go_wp2_with (first | (go_at_call 191; refine (rfix_y _ xs.length (by omega) yb HYB.out).mono ?_; rintro e w2 ⟨rfl, hb⟩; have m0_ := a_k (Kd.R_below HO.out hb); clear HO; have HO := m0_; clear m0_; have n0_ := a_k (below_step HB.out hb); clear HB; have HB := n0_; clear n0_ hb))
     have HBX := a_k (below_drew HB.out)
     have HOX := a_k (Kd.R_drew HO.out)
     clear HO HB f1 f2
     refine start_ (n := 36) (S := fun w' => True) (ds := []) #[Z,Z,Z,Z,Z,Z,Z,Z,Z,Z,Z,Z,Z,Z,Z,Z,Z,Z,Z,Z,Z,Z,Z,Z,Z,Z,Z,Z,Z,Z,Z,Z,Z,Z,Z,Z] (by kernel_rfl) rfl rfl trivial (fun hHeld => ?_); refine with_tabW pb15.tab pb15.bits (fun HT_ HW_ => ?_)
     generalize w2.drew = wS at *
     refine pure_ (i := 0) (N := some 49) (v := ?_) (a' := ?_) #[J,Z,Z,Z,Z,Z,Z,Z,Z,Z,Z,Z,Z,Z,Z,Z,Z,Z,Z,Z,Z,Z,Z,Z,Z,Z,Z,Z,Z,Z,Z,Z,Z,Z,Z,Z] rfl rfl (any_of HT_.out (by kernel_rfl)) (fun _ _ _ h => h) (Or.inl ⟨by rfl, ?_⟩) ?_ ?_
     rotate_left
     ·intro w'
      go_simp
      with_reducible rfl
     rotate_left
     ·simp only [Act.put, l_s, l_0, l_1, i64_w, i32_w]
      rfl
     refine pure_ (i := 1) (N := some 50) (v := ?_) (a' := ?_) #[J,J,Z,Z,Z,Z,Z,Z,Z,Z,Z,Z,Z,Z,Z,Z,Z,Z,Z,Z,Z,Z,Z,Z,Z,Z,Z,Z,Z,Z,Z,Z,Z,Z,Z,Z] rfl rfl (any_of HT_.out (by kernel_rfl)) (fun _ _ _ h => h) (Or.inl ⟨by rfl, ?_⟩) ?_ ?_
     rotate_left
     ·intro w'
      go_simp
      with_reducible rfl
     rotate_left
     ·simp only [Act.put, l_s, l_0, l_1, i64_w, i32_w]
      rfl
     refine pure_ (i := 2) (N := some 51) (v := ?_) (a' := ?_) #[J,J,J,Z,Z,Z,Z,Z,Z,Z,Z,Z,Z,Z,Z,Z,Z,Z,Z,Z,Z,Z,Z,Z,Z,Z,Z,Z,Z,Z,Z,Z,Z,Z,Z,Z] rfl rfl (any_of HT_.out (by kernel_rfl)) (fun _ _ _ h => h) (Or.inl ⟨by rfl, ?_⟩) ?_ ?_
     rotate_left
     ·intro w'
      go_simp
      with_reducible rfl
     rotate_left
     ·simp only [Act.put, l_s, l_0, l_1, i64_w, i32_w]
      rfl
     refine pure_ (i := 4) (N := some 53) (v := ?_) (a' := ?_) #[J,J,J,Z,J,Z,Z,Z,Z,Z,Z,Z,Z,Z,Z,Z,Z,Z,Z,Z,Z,Z,Z,Z,Z,Z,Z,Z,Z,Z,Z,Z,Z,Z,Z,Z] rfl rfl (any_of HT_.out (by kernel_rfl)) (fun _ _ _ h => h) (Or.inl ⟨by rfl, ?_⟩) ?_ ?_
     rotate_left
     ·intro w'
      go_simp
      with_reducible rfl
     rotate_left
     ·simp only [Act.put, l_s, l_0, l_1, i64_w, i32_w]
      rfl
     refine pure_ (i := 5) (N := some 54) (v := ?_) (a' := ?_) #[J,J,J,Z,J,J,Z,Z,Z,Z,Z,Z,Z,Z,Z,Z,Z,Z,Z,Z,Z,Z,Z,Z,Z,Z,Z,Z,Z,Z,Z,Z,Z,Z,Z,Z] rfl rfl (any_of HT_.out (by kernel_rfl)) (fun _ _ _ h => h) (Or.inl ⟨by rfl, ?_⟩) ?_ ?_
     rotate_left
     ·intro w'
      go_simp
      with_reducible rfl
     rotate_left
     ·simp only [Act.put, l_s, l_0, l_1, i64_w, i32_w]
      rfl
     refine pure_ (i := 6) (N := some 55) (v := ?_) (a' := ?_) #[J,J,J,Z,J,J,J,Z,Z,Z,Z,Z,Z,Z,Z,Z,Z,Z,Z,Z,Z,Z,Z,Z,Z,Z,Z,Z,Z,Z,Z,Z,Z,Z,Z,Z] rfl rfl (any_of HT_.out (by kernel_rfl)) (fun _ _ _ h => h) (Or.inl ⟨by rfl, ?_⟩) ?_ ?_
     rotate_left
     ·intro w'
      go_simp
      with_reducible rfl
     rotate_left
     ·simp only [Act.put, l_s, l_0, l_1, i64_w, i32_w]
      rfl
     refine pure_ (i := 7) (N := some 56) (v := ?_) (a' := ?_) #[J,J,J,Z,J,J,J,J,Z,Z,Z,Z,Z,Z,Z,Z,Z,Z,Z,Z,Z,Z,Z,Z,Z,Z,Z,Z,Z,Z,Z,Z,Z,Z,Z,Z] rfl rfl (any_of HT_.out (by kernel_rfl)) (fun _ _ _ h => h) (Or.inl ⟨by rfl, ?_⟩) ?_ ?_
     rotate_left
     ·intro w'
      go_simp
      with_reducible rfl
     rotate_left
     ·simp only [Act.put, l_s, l_0, l_1, i64_w, i32_w]
      rfl
     refine pure_ (i := 9) (N := some 58) (v := ?_) (a' := ?_) #[J,J,J,Z,J,J,J,J,Z,J,Z,Z,Z,Z,Z,Z,Z,Z,Z,Z,Z,Z,Z,Z,Z,Z,Z,Z,Z,Z,Z,Z,Z,Z,Z,Z] rfl rfl (any_of HT_.out (by kernel_rfl)) (fun _ _ _ h => h) (Or.inl ⟨by rfl, ?_⟩) ?_ ?_
     rotate_left
     ·intro w'
      go_simp
      with_reducible rfl
     rotate_left
     ·simp only [Act.put, l_s, l_0, l_1, i64_w, i32_w]
      rfl
     refine pure_ (i := 13) (N := some 62) (v := ?_) (a' := ?_) #[J,J,J,Z,J,J,J,J,Z,J,Z,Z,Z,J,Z,Z,Z,Z,Z,Z,Z,Z,Z,Z,Z,Z,Z,Z,Z,Z,Z,Z,Z,Z,Z,Z] rfl rfl (any_of HT_.out (by kernel_rfl)) (fun _ _ _ h => h) (Or.inl ⟨by rfl, ?_⟩) ?_ ?_
     rotate_left
     ·intro w'
      go_simp
      with_reducible rfl
     rotate_left
     ·simp only [Act.put, l_s, l_0, l_1, i64_w, i32_w]
      rfl
     refine pure_ (i := 14) (N := some 63) (v := ?_) (a' := ?_) #[J,J,J,Z,J,J,J,J,Z,J,Z,Z,Z,J,J,Z,Z,Z,Z,Z,Z,Z,Z,Z,Z,Z,Z,Z,Z,Z,Z,Z,Z,Z,Z,Z] rfl rfl (any_of HT_.out (by kernel_rfl)) (fun _ _ _ h => h) (Or.inl ⟨by rfl, ?_⟩) ?_ ?_
     rotate_left
     ·intro w'
      go_simp
      with_reducible rfl
     rotate_left
     ·simp only [Act.put, l_s, l_0, l_1, i64_w, i32_w]
      rfl
     refine pure_ (i := 15) (N := some 64) (v := ?_) (a' := ?_) #[J,J,J,Z,J,J,J,J,Z,J,Z,Z,Z,J,J,J,Z,Z,Z,Z,Z,Z,Z,Z,Z,Z,Z,Z,Z,Z,Z,Z,Z,Z,Z,Z] rfl rfl (any_of HT_.out (by kernel_rfl)) (fun _ _ _ h => h) (Or.inl ⟨by rfl, ?_⟩) ?_ ?_
     rotate_left
     ·intro w'
      go_simp
      with_reducible rfl
     rotate_left
     ·simp only [Act.put, l_s, l_0, l_1, i64_w, i32_w]
      rfl
     refine pure_ (i := 16) (N := some 65) (v := ?_) (a' := ?_) #[J,J,J,Z,J,J,J,J,Z,J,Z,Z,Z,J,J,J,J,Z,Z,Z,Z,Z,Z,Z,Z,Z,Z,Z,Z,Z,Z,Z,Z,Z,Z,Z] rfl rfl (any_of HT_.out (by kernel_rfl)) (fun _ _ _ h => h) (Or.inl ⟨by rfl, ?_⟩) ?_ ?_
     rotate_left
     ·intro w'
      go_simp
      with_reducible rfl
     rotate_left
     ·simp only [Act.put, l_s, l_0, l_1, i64_w, i32_w]
      rfl
     refine pure_ (i := 18) (N := some 67) (v := ?_) (a' := ?_) #[J,J,J,Z,J,J,J,J,Z,J,Z,Z,Z,J,J,J,J,Z,J,Z,Z,Z,Z,Z,Z,Z,Z,Z,Z,Z,Z,Z,Z,Z,Z,Z] rfl rfl (any_of HT_.out (by kernel_rfl)) (fun _ _ _ h => h) (Or.inl ⟨by rfl, ?_⟩) ?_ ?_
     rotate_left
     ·intro w'
      go_simp
      with_reducible rfl
     rotate_left
     ·simp only [Act.put, l_s, l_0, l_1, i64_w, i32_w]
      rfl
     refine pure_ (i := 19) (N := some 68) (v := ?_) (a' := ?_) #[J,J,J,Z,J,J,J,J,Z,J,Z,Z,Z,J,J,J,J,Z,J,J,Z,Z,Z,Z,Z,Z,Z,Z,Z,Z,Z,Z,Z,Z,Z,Z] rfl rfl (any_of HT_.out (by kernel_rfl)) (fun _ _ _ h => h) (Or.inl ⟨by rfl, ?_⟩) ?_ ?_
     rotate_left
     ·intro w'
      go_simp
      with_reducible rfl
     rotate_left
     ·simp only [Act.put, l_s, l_0, l_1, i64_w, i32_w]
      rfl
     refine pure_ (i := 20) (N := some 69) (v := ?_) (a' := ?_) #[J,J,J,Z,J,J,J,J,Z,J,Z,Z,Z,J,J,J,J,Z,J,J,J,Z,Z,Z,Z,Z,Z,Z,Z,Z,Z,Z,Z,Z,Z,Z] rfl rfl (any_of HT_.out (by kernel_rfl)) (fun _ _ _ h => h) (Or.inl ⟨by rfl, ?_⟩) ?_ ?_
     rotate_left
     ·intro w'
      go_simp
      with_reducible rfl
     rotate_left
     ·simp only [Act.put, l_s, l_0, l_1, i64_w, i32_w]
      rfl
     refine pure_ (i := 21) (N := some 70) (v := ?_) (a' := ?_) #[J,J,J,Z,J,J,J,J,Z,J,Z,Z,Z,J,J,J,J,Z,J,J,J,J,Z,Z,Z,Z,Z,Z,Z,Z,Z,Z,Z,Z,Z,Z] rfl rfl (any_of HT_.out (by kernel_rfl)) (fun _ _ _ h => h) (Or.inl ⟨by rfl, ?_⟩) ?_ ?_
     rotate_left
     ·intro w'
      go_simp
      with_reducible rfl
     rotate_left
     ·simp only [Act.put, l_s, l_0, l_1, i64_w, i32_w]
      rfl
     refine pure_ (i := 27) (N := some 76) (v := ?_) (a' := ?_) #[J,J,J,Z,J,J,J,J,Z,J,Z,Z,Z,J,J,J,J,Z,J,J,J,J,Z,Z,Z,Z,Z,J,Z,Z,Z,Z,Z,Z,Z,Z] rfl rfl (any_of HT_.out (by kernel_rfl)) (fun _ _ _ h => h) (Or.inl ⟨by rfl, ?_⟩) ?_ ?_
     rotate_left
     ·intro w'
      go_simp
      with_reducible rfl
     rotate_left
     ·simp only [Act.put, l_s, l_0, l_1, i64_w, i32_w]
      rfl
     refine pure_ (i := 28) (N := some 77) (v := ?_) (a' := ?_) #[J,J,J,Z,J,J,J,J,Z,J,Z,Z,Z,J,J,J,J,Z,J,J,J,J,Z,Z,Z,Z,Z,J,J,Z,Z,Z,Z,Z,Z,Z] rfl rfl (any_of HT_.out (by kernel_rfl)) (fun _ _ _ h => h) (Or.inl ⟨by rfl, ?_⟩) ?_ ?_
     rotate_left
     ·intro w'
      go_simp
      with_reducible rfl
     rotate_left
     ·simp only [Act.put, l_s, l_0, l_1, i64_w, i32_w]
      rfl
     refine pure_ (i := 29) (N := some 78) (v := ?_) (a' := ?_) #[J,J,J,Z,J,J,J,J,Z,J,Z,Z,Z,J,J,J,J,Z,J,J,J,J,Z,Z,Z,Z,Z,J,J,J,Z,Z,Z,Z,Z,Z] rfl rfl (any_of HT_.out (by kernel_rfl)) (fun _ _ _ h => h) (Or.inl ⟨by rfl, ?_⟩) ?_ ?_
     rotate_left
     ·intro w'
      go_simp
      with_reducible rfl
     rotate_left
     ·simp only [Act.put, l_s, l_0, l_1, i64_w, i32_w]
      rfl
     refine pure_ (i := 30) (N := some 79) (v := ?_) (a' := ?_) #[J,J,J,Z,J,J,J,J,Z,J,Z,Z,Z,J,J,J,J,Z,J,J,J,J,Z,Z,Z,Z,Z,J,J,J,J,Z,Z,Z,Z,Z] rfl rfl (any_of HT_.out (by kernel_rfl)) (fun _ _ _ h => h) (Or.inl ⟨by rfl, ?_⟩) ?_ ?_
     rotate_left
     ·intro w'
      go_simp
      with_reducible rfl
     rotate_left
     ·simp only [Act.put, l_s, l_0, l_1, i64_w, i32_w]
      rfl
     refine inv_at [3, 8, 10, 11, 12, 17, 22, 23, 24, 25, 26, 31, 32, 33, 34, 35] (fun a0_ b a w' => ∃ (v73 : Value), ∃ (v83 : Value), ∃ (v4x : Value), a = putSel a0_ b [(3, 52, .string y1), (8, 57, .string e.f0), (10, 59, .string kr), (11, 60, .string y2), (12, 61, .string (y1 ++ y2)), (17, 66, .int .u64 e.f1), (22, 71, .int .i64 e.f2), (23, 72, .int .u64 e.f2), (24, 73, v73), (25, 74, .string y3), (26, 75, .string ((y1 ++ y2) ++ y3)), (31, 80, .string e.f3), (32, 81, .string y4), (33, 82, .string (((y1 ++ y2) ++ y3) ++ y4)), (34, 83, v83), (35, 4, v4x)] ∧ (Below w.heap.size w w') ∧ (b 34 = false → Kd.R (Kd.int .u8) 5 w' w.heap.size (fun _ => True) (.slice A4 xs.length c4) (xs)) ∧ (b 34 = true → Kd.R (Kd.int .u8) 5 w' w.heap.size (fun _ => True) v83 (xs ++ bytesOf (((y1 ++ y2) ++ y3) ++ y4))) ∧ (b 24 = true → b 34 = false → Kd.R (Kd.int .u64) 25 w' w.heap.size (fun _ => True) v73 ([e.f1, e.f2] : List Int)) ∧ (b 35 = true → v4x = v83)) HT_.out HW_.out (by kernel_rfl) (by kernel_rfl) ?_ ?_ ?_
     ·exact ⟨.bool false, .bool false, .bool false, by simp only [putSel, Bool.false_eq_true, if_false], HBX.out, fun _ => HOX.out, fun h_ => absurd h_ (by decide), fun h_ => absurd h_ (by decide), fun h_ => absurd h_ (by decide)⟩
     ·skip
      refine steps_cons ?_ ?_
      ·rintro b a w' ⟨v73, v83, v4x, ha, Q_BEL, Q_ROW, Q_POST, Q_LIT, Q_EQ4⟩ hb_ hon hoff
       refine ⟨_, rfl, fun K hK => ?_⟩
       have e51 : a.tmps[51]? = some (.int .u64 0) := by rw [ha]; exact (putSel_off rfl).trans rfl
       replace ha := a_k ha
       refine goes_ Tryz.func192 (by kernel_rfl) rfl #[.int .u64 0] (by rfl) rfl rfl (by first | (simp only [m_a, m_c, m_n, Act.eval, Array.getD_eq_getD_getElem?, Option.getD_some, e51]; done) | (simp only [m_a, m_c, m_n, Act.eval, Array.getD_eq_getD_getElem?, Option.getD_some, e51]; rfl)) ?_
       refine (rvar_y _ 0 HM1.out y1 HY1.out).mono ?_
       rintro e w1 ⟨rfl, hb1⟩
       refine ⟨_, rfl, ?_⟩
       refine hK.out _ _ ⟨v73, v83, v4x, by rw [ha.out]; exact putSel_upk 0 hb_ rfl rfl rfl, below_step Q_BEL hb1, fun h_ => Kd.R_below (Q_ROW h_) hb1, fun h_ => absurd ((hoff 34 (by kernel_rfl)).symm.trans h_) (by decide), fun h_ k_ => Kd.R_below (Q_LIT h_ k_) hb1, Q_EQ4⟩
      refine steps_cons ?_ ?_
      ·rintro b a w' ⟨v73, v83, v4x, ha, Q_BEL, Q_ROW, Q_POST, Q_LIT, Q_EQ4⟩ hb_ hon hoff
       refine ⟨_, rfl, fun K hK => ?_⟩
       have e56 : a.tmps[56]? = some (.pointer (some (ad.add (i * 4)))) := by rw [ha]; exact (putSel_off rfl).trans rfl
       replace ha := a_k ha
       obtain ⟨y0, y1, y2, y3⟩ := HCE.out _ Q_BEL
       refine value_ (w1 := w') (v := .string e.f0) (by rfl) rfl ?_ ?_
       ·go_simp
        (try simp only [i64_w])
        try rfl
       refine hK.out _ _ ⟨v73, v83, v4x, by rw [ha.out]; exact putSel_upk 1 hb_ rfl rfl rfl, Q_BEL, Q_ROW, Q_POST, Q_LIT, Q_EQ4⟩
      refine steps_cons ?_ ?_
      ·rintro b a w' ⟨v73, v83, v4x, ha, Q_BEL, Q_ROW, Q_POST, Q_LIT, Q_EQ4⟩ hb_ hon hoff
       refine ⟨_, rfl, fun K hK => ?_⟩
       have e57 : a.tmps[57]? = some (.string e.f0) := by rw [ha]; exact putSel_on (e := (8, 57, .string e.f0)) 1 rfl rfl (hon 8 (by kernel_rfl)) rfl
       have e58 : a.tmps[58]? = some (.int .i64 0) := by rw [ha]; exact (putSel_off rfl).trans rfl
       replace ha := a_k ha
       have hm0 := HM0.out
       have hm1 := HM2.out
       have hkr := HKR.out
       refine value_ (w1 := w') (v := .string kr) (by rfl) rfl ?_ ?_
       ·(go_simp; (try simp only [i64_w]); first | done | rfl | exact hkr | (rw [← hkr]; simp))
       refine hK.out _ _ ⟨v73, v83, v4x, by rw [ha.out]; exact putSel_upk 2 hb_ rfl rfl rfl, Q_BEL, Q_ROW, Q_POST, Q_LIT, Q_EQ4⟩
      refine steps_cons ?_ ?_
      ·rintro b a w' ⟨v73, v83, v4x, ha, Q_BEL, Q_ROW, Q_POST, Q_LIT, Q_EQ4⟩ hb_ hon hoff
       refine ⟨_, rfl, fun K hK => ?_⟩
       have e59 : a.tmps[59]? = some (.string kr) := by rw [ha]; exact putSel_on (e := (10, 59, .string kr)) 2 rfl rfl (hon 10 (by kernel_rfl)) rfl
       replace ha := a_k ha
       refine goes_ Tryz.func166 (by kernel_rfl) rfl #[.string kr] (by rfl) rfl rfl (by first | (simp only [m_a, m_c, m_n, Act.eval, Array.getD_eq_getD_getElem?, Option.getD_some, e59]; done) | (simp only [m_a, m_c, m_n, Act.eval, Array.getD_eq_getD_getElem?, Option.getD_some, e59]; rfl)) ?_
       refine (rtext_y _ kr HK1.out y2 HY2.out).mono ?_
       rintro e w1 ⟨rfl, hb1⟩
       refine ⟨_, rfl, ?_⟩
       refine hK.out _ _ ⟨v73, v83, v4x, by rw [ha.out]; exact putSel_upk 3 hb_ rfl rfl rfl, below_step Q_BEL hb1, fun h_ => Kd.R_below (Q_ROW h_) hb1, fun h_ => absurd ((hoff 34 (by kernel_rfl)).symm.trans h_) (by decide), fun h_ k_ => Kd.R_below (Q_LIT h_ k_) hb1, Q_EQ4⟩
      refine steps_cons ?_ ?_
      ·rintro b a w' ⟨v73, v83, v4x, ha, Q_BEL, Q_ROW, Q_POST, Q_LIT, Q_EQ4⟩ hb_ hon hoff
       refine ⟨_, rfl, fun K hK => ?_⟩
       have e52 : a.tmps[52]? = some (.string y1) := by rw [ha]; exact putSel_on (e := (3, 52, .string y1)) 0 rfl rfl (hon 3 (by kernel_rfl)) rfl
       have e60 : a.tmps[60]? = some (.string y2) := by rw [ha]; exact putSel_on (e := (11, 60, .string y2)) 3 rfl rfl (hon 11 (by kernel_rfl)) rfl
       replace ha := a_k ha
       have hz_ := HSZ.out
       have f1 := eq_true (show (y1).size + (y2).size ≤ 9223372036854775807 by (try simp only [ByteArray.size_append]); omega)
       have f2 : (9223372036854775807 < (y1).size + (y2).size) = False := eq_false (by (try simp only [ByteArray.size_append]); omega)
       try simp only [ByteArray.size_append] at f1 f2
       refine value_ (w1 := w') (v := .string (y1 ++ y2)) (by rfl) rfl ?_ ?_
       ·go_simp
        (try simp only [i64_w])
        try rfl
       refine hK.out _ _ ⟨v73, v83, v4x, by rw [ha.out]; exact putSel_upk 4 hb_ rfl rfl rfl, Q_BEL, Q_ROW, Q_POST, Q_LIT, Q_EQ4⟩
      refine steps_cons ?_ ?_
      ·rintro b a w' ⟨v73, v83, v4x, ha, Q_BEL, Q_ROW, Q_POST, Q_LIT, Q_EQ4⟩ hb_ hon hoff
       refine ⟨_, rfl, fun K hK => ?_⟩
       have e65 : a.tmps[65]? = some (.pointer (some ⟨(ad.add (i * 4)).block, (ad.add (i * 4)).off + 1, none⟩)) := by rw [ha]; exact (putSel_off rfl).trans rfl
       replace ha := a_k ha
       obtain ⟨y0, y1, y2, y3⟩ := HCE.out _ Q_BEL
       refine value_ (w1 := w') (v := .int .u64 e.f1) (by rfl) rfl ?_ ?_
       ·go_simp
        (try simp only [i64_w])
        try rfl
       refine hK.out _ _ ⟨v73, v83, v4x, by rw [ha.out]; exact putSel_upk 5 hb_ rfl rfl rfl, Q_BEL, Q_ROW, Q_POST, Q_LIT, Q_EQ4⟩
      refine steps_cons ?_ ?_
      ·rintro b a w' ⟨v73, v83, v4x, ha, Q_BEL, Q_ROW, Q_POST, Q_LIT, Q_EQ4⟩ hb_ hon hoff
       refine ⟨_, rfl, fun K hK => ?_⟩
       have e70 : a.tmps[70]? = some (.pointer (some ⟨(ad.add (i * 4)).block, (ad.add (i * 4)).off + 2, none⟩)) := by rw [ha]; exact (putSel_off rfl).trans rfl
       replace ha := a_k ha
       obtain ⟨y0, y1, y2, y3⟩ := HCE.out _ Q_BEL
       refine value_ (w1 := w') (v := .int .i64 e.f2) (by rfl) rfl ?_ ?_
       ·go_simp
        (try simp only [i64_w])
        try rfl
       refine hK.out _ _ ⟨v73, v83, v4x, by rw [ha.out]; exact putSel_upk 6 hb_ rfl rfl rfl, Q_BEL, Q_ROW, Q_POST, Q_LIT, Q_EQ4⟩
      refine steps_cons ?_ ?_
      ·rintro b a w' ⟨v73, v83, v4x, ha, Q_BEL, Q_ROW, Q_POST, Q_LIT, Q_EQ4⟩ hb_ hon hoff
       refine ⟨_, rfl, fun K hK => ?_⟩
       have e71 : a.tmps[71]? = some (.int .i64 e.f2) := by rw [ha]; exact putSel_on (e := (22, 71, .int .i64 e.f2)) 6 rfl rfl (hon 22 (by kernel_rfl)) rfl
       replace ha := a_k ha
       have hk2 := HK2.out
       refine value_ (w1 := w') (v := .int .u64 e.f2) (by rfl) rfl ?_ ?_
       ·go_simp
        (try simp only [i64_w])
        try rfl
       refine hK.out _ _ ⟨v73, v83, v4x, by rw [ha.out]; exact putSel_upk 7 hb_ rfl rfl rfl, Q_BEL, Q_ROW, Q_POST, Q_LIT, Q_EQ4⟩
      refine steps_cons ?_ ?_
      ·rintro b a w' ⟨v73, v83, v4x, ha, Q_BEL, Q_ROW, Q_POST, Q_LIT, Q_EQ4⟩ hb_ hon hoff
       refine ⟨_, rfl, fun K hK => ?_⟩
       have e66 : a.tmps[66]? = some (.int .u64 e.f1) := by rw [ha]; exact putSel_on (e := (17, 66, .int .u64 e.f1)) 5 rfl rfl (hon 17 (by kernel_rfl)) rfl
       have e72 : a.tmps[72]? = some (.int .u64 e.f2) := by rw [ha]; exact putSel_on (e := (23, 72, .int .u64 e.f2)) 7 rfl rfl (hon 23 (by kernel_rfl)) rfl
       replace ha := a_k ha
       refine Kd.R_lit_step (Kd.int .u64) _ 25 ?hg (N := 73) ?hd (xs := ([e.f1, e.f2] : List Int)) (inner := [.int .u64 e.f1, .int .u64 e.f2]) (ok := fun _ => True) (okp := fun _ => True) ?hr ?hp (fun _ hk => hk) trivial (Below.refl _ _) (Nat.le_refl _) (by simp) ?_; (case hd => rfl); (case hg => rfl); (case hr => first | (go_simp; done) | (go_simp; rfl)); (case hp => exact (Reps.one (show Kd.M (Kd.int .u64) _ _ _ e.f1 [.int .u64 e.f1] from rfl) (Reps.one (show Kd.M (Kd.int .u64) _ _ _ e.f2 [.int .u64 e.f2] from rfl) (Reps.none _ _))))
       intro v73n w1 ho1 hb1 hg_ hnew_
       clear hg_ hnew_
       refine hK.out _ _ ⟨v73n, v83, v4x, by rw [ha.out]; exact putSel_upk 8 hb_ rfl rfl rfl, below_step Q_BEL hb1, fun h_ => Kd.R_below (Q_ROW h_) hb1, fun h_ => absurd ((hoff 34 (by kernel_rfl)).symm.trans h_) (by decide), fun _ _ => Kd.R_lower ho1 Q_BEL.size, Q_EQ4⟩
      refine steps_cons ?_ ?_
      ·rintro b a w' ⟨v73, v83, v4x, ha, Q_BEL, Q_ROW, Q_POST, Q_LIT, Q_EQ4⟩ hb_ hon hoff
       refine ⟨_, rfl, fun K hK => ?_⟩
       have e73 : a.tmps[73]? = some (v73) := by rw [ha]; exact putSel_on (e := (24, 73, v73)) 8 rfl rfl (hon 24 (by kernel_rfl)) rfl
       replace ha := a_k ha
       have hS := Q_LIT (hon 24 (by kernel_rfl)) (hoff 34 (by kernel_rfl))
       obtain ⟨As, cs, es⟩ := Kd.R_slice hS
       subst es
       replace hS : Kd.R (Kd.int .u64) 25 _ w.heap.size (fun _ => True) (.slice As 2 cs) ([e.f1, e.f2] : List Int) := hS
       refine goes_ Tryz.func167 (by kernel_rfl) rfl #[.slice As 2 cs] (by rfl) rfl rfl (by first | (simp only [m_a, m_c, m_n, Act.eval, Array.getD_eq_getD_getElem?, Option.getD_some, e73]; done) | (simp only [m_a, m_c, m_n, Act.eval, Array.getD_eq_getD_getElem?, Option.getD_some, e73]; rfl)) ?_
       refine (rvars_y (Kd.R_reads' hS).2.2 (Kd.R_reads' hS).2.1 HSQ.out HK3.out y3 HY3.out).mono ?_
       rintro e w1 ⟨rfl, hb1⟩
       refine ⟨_, rfl, ?_⟩
       refine hK.out _ _ ⟨.slice As 2 cs, v83, v4x, by rw [ha.out]; exact putSel_upk 9 hb_ rfl rfl rfl, below_step Q_BEL hb1, fun h_ => Kd.R_below (Q_ROW h_) hb1, fun h_ => absurd ((hoff 34 (by kernel_rfl)).symm.trans h_) (by decide), fun h_ k_ => Kd.R_below (Q_LIT h_ k_) hb1, Q_EQ4⟩
      refine steps_cons ?_ ?_
      ·rintro b a w' ⟨v73, v83, v4x, ha, Q_BEL, Q_ROW, Q_POST, Q_LIT, Q_EQ4⟩ hb_ hon hoff
       refine ⟨_, rfl, fun K hK => ?_⟩
       have e61 : a.tmps[61]? = some (.string (y1 ++ y2)) := by rw [ha]; exact putSel_on (e := (12, 61, .string (y1 ++ y2))) 4 rfl rfl (hon 12 (by kernel_rfl)) rfl
       have e74 : a.tmps[74]? = some (.string y3) := by rw [ha]; exact putSel_on (e := (25, 74, .string y3)) 9 rfl rfl (hon 25 (by kernel_rfl)) rfl
       replace ha := a_k ha
       have hz_ := HSZ.out
       have f1 := eq_true (show ((y1 ++ y2)).size + (y3).size ≤ 9223372036854775807 by (try simp only [ByteArray.size_append]); omega)
       have f2 : (9223372036854775807 < ((y1 ++ y2)).size + (y3).size) = False := eq_false (by (try simp only [ByteArray.size_append]); omega)
       try simp only [ByteArray.size_append] at f1 f2
       refine value_ (w1 := w') (v := .string ((y1 ++ y2) ++ y3)) (by rfl) rfl ?_ ?_
       ·go_simp
        (try simp only [i64_w])
        try rfl
       refine hK.out _ _ ⟨v73, v83, v4x, by rw [ha.out]; exact putSel_upk 10 hb_ rfl rfl rfl, Q_BEL, Q_ROW, Q_POST, Q_LIT, Q_EQ4⟩
      refine steps_cons ?_ ?_
      ·rintro b a w' ⟨v73, v83, v4x, ha, Q_BEL, Q_ROW, Q_POST, Q_LIT, Q_EQ4⟩ hb_ hon hoff
       refine ⟨_, rfl, fun K hK => ?_⟩
       have e79 : a.tmps[79]? = some (.pointer (some ⟨(ad.add (i * 4)).block, (ad.add (i * 4)).off + 3, none⟩)) := by rw [ha]; exact (putSel_off rfl).trans rfl
       replace ha := a_k ha
       obtain ⟨y0, y1, y2, y3⟩ := HCE.out _ Q_BEL
       refine value_ (w1 := w') (v := .string e.f3) (by rfl) rfl ?_ ?_
       ·go_simp
        (try simp only [i64_w])
        try rfl
       refine hK.out _ _ ⟨v73, v83, v4x, by rw [ha.out]; exact putSel_upk 11 hb_ rfl rfl rfl, Q_BEL, Q_ROW, Q_POST, Q_LIT, Q_EQ4⟩
      refine steps_cons ?_ ?_
      ·rintro b a w' ⟨v73, v83, v4x, ha, Q_BEL, Q_ROW, Q_POST, Q_LIT, Q_EQ4⟩ hb_ hon hoff
       refine ⟨_, rfl, fun K hK => ?_⟩
       have e80 : a.tmps[80]? = some (.string e.f3) := by rw [ha]; exact putSel_on (e := (31, 80, .string e.f3)) 11 rfl rfl (hon 31 (by kernel_rfl)) rfl
       replace ha := a_k ha
       refine goes_ Tryz.func166 (by kernel_rfl) rfl #[.string e.f3] (by rfl) rfl rfl (by first | (simp only [m_a, m_c, m_n, Act.eval, Array.getD_eq_getD_getElem?, Option.getD_some, e80]; done) | (simp only [m_a, m_c, m_n, Act.eval, Array.getD_eq_getD_getElem?, Option.getD_some, e80]; rfl)) ?_
       refine (rtext_y _ e.f3 HK4.out y4 HY4.out).mono ?_
       rintro e w1 ⟨rfl, hb1⟩
       refine ⟨_, rfl, ?_⟩
       refine hK.out _ _ ⟨v73, v83, v4x, by rw [ha.out]; exact putSel_upk 12 hb_ rfl rfl rfl, below_step Q_BEL hb1, fun h_ => Kd.R_below (Q_ROW h_) hb1, fun h_ => absurd ((hoff 34 (by kernel_rfl)).symm.trans h_) (by decide), fun h_ k_ => Kd.R_below (Q_LIT h_ k_) hb1, Q_EQ4⟩
      refine steps_cons ?_ ?_
      ·rintro b a w' ⟨v73, v83, v4x, ha, Q_BEL, Q_ROW, Q_POST, Q_LIT, Q_EQ4⟩ hb_ hon hoff
       refine ⟨_, rfl, fun K hK => ?_⟩
       have e75 : a.tmps[75]? = some (.string ((y1 ++ y2) ++ y3)) := by rw [ha]; exact putSel_on (e := (26, 75, .string ((y1 ++ y2) ++ y3))) 10 rfl rfl (hon 26 (by kernel_rfl)) rfl
       have e81 : a.tmps[81]? = some (.string y4) := by rw [ha]; exact putSel_on (e := (32, 81, .string y4)) 12 rfl rfl (hon 32 (by kernel_rfl)) rfl
       replace ha := a_k ha
       have hz_ := HSZ.out
       have f1 := eq_true (show (((y1 ++ y2) ++ y3)).size + (y4).size ≤ 9223372036854775807 by (try simp only [ByteArray.size_append]); omega)
       have f2 : (9223372036854775807 < (((y1 ++ y2) ++ y3)).size + (y4).size) = False := eq_false (by (try simp only [ByteArray.size_append]); omega)
       try simp only [ByteArray.size_append] at f1 f2
       refine value_ (w1 := w') (v := .string (((y1 ++ y2) ++ y3) ++ y4)) (by rfl) rfl ?_ ?_
       ·go_simp
        (try simp only [i64_w])
        try rfl
       refine hK.out _ _ ⟨v73, v83, v4x, by rw [ha.out]; exact putSel_upk 13 hb_ rfl rfl rfl, Q_BEL, Q_ROW, Q_POST, Q_LIT, Q_EQ4⟩
      refine steps_cons ?_ ?_
      ·rintro b a w' ⟨v73, v83, v4x, ha, Q_BEL, Q_ROW, Q_POST, Q_LIT, Q_EQ4⟩ hb_ hon hoff
       refine ⟨_, rfl, fun K hK => ?_⟩
       have e49 : a.tmps[49]? = some (.slice A4 xs.length c4) := by rw [ha]; exact (putSel_off rfl).trans rfl
       have e82 : a.tmps[82]? = some (.string (((y1 ++ y2) ++ y3) ++ y4)) := by rw [ha]; exact putSel_on (e := (33, 82, .string (((y1 ++ y2) ++ y3) ++ y4))) 13 rfl rfl (hon 33 (by kernel_rfl)) rfl
       replace ha := a_k ha
       refine appstr_step (P := Tryz.prog) w.heap.size (by rfl) (.tmp 49) (.tmp 82) 219 9 5 rfl Tryz.underlying219 Tryz.underlying9 info5 (.slice A4 xs.length c4) xs (((y1 ++ y2) ++ y3) ++ y4) (by simp [Act.eval, e49]) (by simp [Act.eval, e82]) (Q_ROW hb_) Q_BEL.size (by have hz_ := HSZ.out; simp only [ByteArray.size_append]; omega) ?_
       intro v83n w1 ho1 hb1
       refine hK.out _ _ ⟨v73, v83n, v4x, by rw [ha.out]; exact putSel_upk 14 hb_ rfl rfl rfl, (Q_BEL.trans hb1), fun h_ => absurd h_ (by simp [Go.Proofs.YtchgpcgolgcfdaaGreatW.PrintLast.up]), fun _ => ho1, fun _ h_ => absurd h_ (by simp [Go.Proofs.YtchgpcgolgcfdaaGreatW.PrintLast.up]), fun h_ => absurd ((hoff 35 (by kernel_rfl)).symm.trans h_) (by decide)⟩
      refine steps_cons ?_ ?_
      ·rintro b a w' ⟨v73, v83, v4x, ha, Q_BEL, Q_ROW, Q_POST, Q_LIT, Q_EQ4⟩ hb_ hon hoff
       refine ⟨_, rfl, fun K hK => ?_⟩
       have e83 : a.tmps[83]? = some (v83) := by rw [ha]; exact putSel_on (e := (34, 83, v83)) 14 rfl rfl (hon 34 (by kernel_rfl)) rfl
       replace ha := a_k ha
       refine value_ (w1 := w') (v := v83) (by rfl) rfl ?_ ?_
       ·go_simp
        (try simp only [i64_w])
        try rfl
       refine hK.out _ _ ⟨v73, v83, v83, by rw [ha.out]; exact putSel_upk 15 hb_ rfl rfl rfl, Q_BEL, Q_ROW, Q_POST, Q_LIT, fun _ => rfl⟩
      exact steps_nil
     rintro b a w25 hall ⟨v73, v83, v4x, ha, Q_BEL, Q_ROW, Q_POST, Q_LIT, Q_EQ4⟩
     have hb3_ := hall 3 (by kernel_rfl)
     have hb8_ := hall 8 (by kernel_rfl)
     have hb10_ := hall 10 (by kernel_rfl)
     have hb11_ := hall 11 (by kernel_rfl)
     have hb12_ := hall 12 (by kernel_rfl)
     have hb17_ := hall 17 (by kernel_rfl)
     have hb22_ := hall 22 (by kernel_rfl)
     have hb23_ := hall 23 (by kernel_rfl)
     have hb24_ := hall 24 (by kernel_rfl)
     have hb25_ := hall 25 (by kernel_rfl)
     have hb26_ := hall 26 (by kernel_rfl)
     have hb31_ := hall 31 (by kernel_rfl)
     have hb32_ := hall 32 (by kernel_rfl)
     have hb33_ := hall 33 (by kernel_rfl)
     have hb34_ := hall 34 (by kernel_rfl)
     have hb35_ := hall 35 (by kernel_rfl)
     subst ha
     simp only [putSel, hb3_, hb8_, hb10_, hb11_, hb12_, hb17_, hb22_, hb23_, hb24_, hb25_, hb26_, hb31_, hb32_, hb33_, hb34_, hb35_, if_true, Act.put, List.setIfInBounds_toArray, List.set_cons_zero, List.set_cons_succ]
     have BEL := a_k (Q_BEL)
     have POST := a_k (Q_POST hb34_)
     have LIT := a_k (Q_LIT hb24_)
     have EQ4 := a_k (Q_EQ4 hb35_)
     clear hall hb3_ hb8_ hb10_ hb11_ hb12_ hb17_ hb22_ hb23_ hb24_ hb25_ hb26_ hb31_ hb32_ hb33_ hb34_ hb35_ Q_BEL Q_ROW Q_POST Q_LIT Q_EQ4
     go_wp2_with (fail)
     go_roundw
     case rel => exact ⟨i + 1, e.f0, xs ++ pc e 0, tl ++ be 4 xs.length, by rw [HTS.out], by go_num, by go_num, by omega, ⟨by have h_ := HNX.out; rw [if_pos h40] at h_; exact h_⟩, ⟨by have h_ := POST.out; rw [HPB.out] at h_; rw [EQ4.out]; exact h_⟩, BEL⟩
     case measure => simp [intOf]; omega
    ·have t4 : (((i : Int) % 4) == 0) = false := by rw [beq_eq_false_iff_ne]; omega
     have t4' : ((i : Int) % 4 != 0) = true := by rw [bne, t4]; rfl
     obtain ⟨hj, hpe⟩ := HPV (by omega)
     obtain ⟨ad1, e1, hz⟩ := ycells HR0.out hj
     cases e1
     obtain ⟨z0, _, _, _⟩ := hz _ HB.out
     obtain ⟨y0, _, _, _⟩ := HCE.out _ HB.out
     rw [← hpe] at z0
     have HMM : Aside0 ((m : Int) = ((sh (bytesOf p) (bytesOf e.f0) : Nat) : Int)) := ⟨by rw [HHD.out]; unfold hd; rw [if_neg h40]⟩
     obtain ⟨j, hj2⟩ : ∃ j, j = i - 1 := ⟨_, rfl⟩
     rw [← hj2] at z0 hj
     have hjw : IntKind.i64.wrap ((i : Int) - 1) = (j : Int) := by rw [IntKind.wrap_i64]; omega
     have p1 : (0 : Int) ≤ (j : Int) := Int.natCast_nonneg _
     have q1 : (j : Int) < (l.length : Int) := by omega
     have HJ2 := a_k hj2
     clear hj2 hpe hz
     go_wp2_with (fail)
     go_quiet ((go_at_call 81; exact shared_q _ _ _ _ (m : Int) (by omega) HMM.out))
     go_wp2_with (fail)
     have hwm : IntKind.u64.wrap (m : Int) = (m : Int) := by rw [IntKind.wrap_u64]; omega
     have HBX := a_k (below_drew (pw_below_drewN HB.out nq))
     have HOX := a_k (Kd.R_drew (Kd.R_drewN HO.out nq))
     clear HO HB y0 z0
     refine start_ (n := 36) (S := fun w' => True) (ds := []) #[Z,Z,Z,Z,Z,Z,Z,Z,Z,Z,Z,Z,Z,Z,Z,Z,Z,Z,Z,Z,Z,Z,Z,Z,Z,Z,Z,Z,Z,Z,Z,Z,Z,Z,Z,Z] (by kernel_rfl) rfl rfl trivial (fun hHeld => ?_); refine with_tabW pb15.tab pb15.bits (fun HT_ HW_ => ?_)
     generalize (wr.drewN nq).drew = wS at *
     refine pure_ (i := 0) (N := some 49) (v := ?_) (a' := ?_) #[J,Z,Z,Z,Z,Z,Z,Z,Z,Z,Z,Z,Z,Z,Z,Z,Z,Z,Z,Z,Z,Z,Z,Z,Z,Z,Z,Z,Z,Z,Z,Z,Z,Z,Z,Z] rfl rfl (any_of HT_.out (by kernel_rfl)) (fun _ _ _ h => h) (Or.inl ⟨by rfl, ?_⟩) ?_ ?_
     rotate_left
     ·intro w'
      go_simp
      with_reducible rfl
     rotate_left
     ·simp only [Act.put, l_s, l_0, l_1, i64_w, i32_w]
      rfl
     refine pure_ (i := 1) (N := some 50) (v := ?_) (a' := ?_) #[J,J,Z,Z,Z,Z,Z,Z,Z,Z,Z,Z,Z,Z,Z,Z,Z,Z,Z,Z,Z,Z,Z,Z,Z,Z,Z,Z,Z,Z,Z,Z,Z,Z,Z,Z] rfl rfl (any_of HT_.out (by kernel_rfl)) (fun _ _ _ h => h) (Or.inl ⟨by rfl, ?_⟩) ?_ ?_
     rotate_left
     ·intro w'
      go_simp
      with_reducible rfl
     rotate_left
     ·simp only [Act.put, l_s, l_0, l_1, i64_w, i32_w]
      rfl
     refine pure_ (i := 2) (N := some 51) (v := ?_) (a' := ?_) #[J,J,J,Z,Z,Z,Z,Z,Z,Z,Z,Z,Z,Z,Z,Z,Z,Z,Z,Z,Z,Z,Z,Z,Z,Z,Z,Z,Z,Z,Z,Z,Z,Z,Z,Z] rfl rfl (any_of HT_.out (by kernel_rfl)) (fun _ _ _ h => h) (Or.inl ⟨by rfl, ?_⟩) ?_ ?_
     rotate_left
     ·intro w'
      go_simp
      with_reducible rfl
     rotate_left
     ·simp only [Act.put, l_s, l_0, l_1, i64_w, i32_w]
      rfl
     refine pure_ (i := 4) (N := some 53) (v := ?_) (a' := ?_) #[J,J,J,Z,J,Z,Z,Z,Z,Z,Z,Z,Z,Z,Z,Z,Z,Z,Z,Z,Z,Z,Z,Z,Z,Z,Z,Z,Z,Z,Z,Z,Z,Z,Z,Z] rfl rfl (any_of HT_.out (by kernel_rfl)) (fun _ _ _ h => h) (Or.inl ⟨by rfl, ?_⟩) ?_ ?_
     rotate_left
     ·intro w'
      go_simp
      with_reducible rfl
     rotate_left
     ·simp only [Act.put, l_s, l_0, l_1, i64_w, i32_w]
      rfl
     refine pure_ (i := 5) (N := some 54) (v := ?_) (a' := ?_) #[J,J,J,Z,J,J,Z,Z,Z,Z,Z,Z,Z,Z,Z,Z,Z,Z,Z,Z,Z,Z,Z,Z,Z,Z,Z,Z,Z,Z,Z,Z,Z,Z,Z,Z] rfl rfl (any_of HT_.out (by kernel_rfl)) (fun _ _ _ h => h) (Or.inl ⟨by rfl, ?_⟩) ?_ ?_
     rotate_left
     ·intro w'
      go_simp
      with_reducible rfl
     rotate_left
     ·simp only [Act.put, l_s, l_0, l_1, i64_w, i32_w]
      rfl
     refine pure_ (i := 6) (N := some 55) (v := ?_) (a' := ?_) #[J,J,J,Z,J,J,J,Z,Z,Z,Z,Z,Z,Z,Z,Z,Z,Z,Z,Z,Z,Z,Z,Z,Z,Z,Z,Z,Z,Z,Z,Z,Z,Z,Z,Z] rfl rfl (any_of HT_.out (by kernel_rfl)) (fun _ _ _ h => h) (Or.inl ⟨by rfl, ?_⟩) ?_ ?_
     rotate_left
     ·intro w'
      go_simp
      with_reducible rfl
     rotate_left
     ·simp only [Act.put, l_s, l_0, l_1, i64_w, i32_w]
      rfl
     refine pure_ (i := 7) (N := some 56) (v := ?_) (a' := ?_) #[J,J,J,Z,J,J,J,J,Z,Z,Z,Z,Z,Z,Z,Z,Z,Z,Z,Z,Z,Z,Z,Z,Z,Z,Z,Z,Z,Z,Z,Z,Z,Z,Z,Z] rfl rfl (any_of HT_.out (by kernel_rfl)) (fun _ _ _ h => h) (Or.inl ⟨by rfl, ?_⟩) ?_ ?_
     rotate_left
     ·intro w'
      go_simp
      with_reducible rfl
     rotate_left
     ·simp only [Act.put, l_s, l_0, l_1, i64_w, i32_w]
      rfl
     refine pure_ (i := 9) (N := some 58) (v := ?_) (a' := ?_) #[J,J,J,Z,J,J,J,J,Z,J,Z,Z,Z,Z,Z,Z,Z,Z,Z,Z,Z,Z,Z,Z,Z,Z,Z,Z,Z,Z,Z,Z,Z,Z,Z,Z] rfl rfl (any_of HT_.out (by kernel_rfl)) (fun _ _ _ h => h) (Or.inl ⟨by rfl, ?_⟩) ?_ ?_
     rotate_left
     ·intro w'
      go_simp
      with_reducible rfl
     rotate_left
     ·simp only [Act.put, l_s, l_0, l_1, i64_w, i32_w]
      rfl
     refine pure_ (i := 13) (N := some 62) (v := ?_) (a' := ?_) #[J,J,J,Z,J,J,J,J,Z,J,Z,Z,Z,J,Z,Z,Z,Z,Z,Z,Z,Z,Z,Z,Z,Z,Z,Z,Z,Z,Z,Z,Z,Z,Z,Z] rfl rfl (any_of HT_.out (by kernel_rfl)) (fun _ _ _ h => h) (Or.inl ⟨by rfl, ?_⟩) ?_ ?_
     rotate_left
     ·intro w'
      go_simp
      with_reducible rfl
     rotate_left
     ·simp only [Act.put, l_s, l_0, l_1, i64_w, i32_w]
      rfl
     refine pure_ (i := 14) (N := some 63) (v := ?_) (a' := ?_) #[J,J,J,Z,J,J,J,J,Z,J,Z,Z,Z,J,J,Z,Z,Z,Z,Z,Z,Z,Z,Z,Z,Z,Z,Z,Z,Z,Z,Z,Z,Z,Z,Z] rfl rfl (any_of HT_.out (by kernel_rfl)) (fun _ _ _ h => h) (Or.inl ⟨by rfl, ?_⟩) ?_ ?_
     rotate_left
     ·intro w'
      go_simp
      with_reducible rfl
     rotate_left
     ·simp only [Act.put, l_s, l_0, l_1, i64_w, i32_w]
      rfl
     refine pure_ (i := 15) (N := some 64) (v := ?_) (a' := ?_) #[J,J,J,Z,J,J,J,J,Z,J,Z,Z,Z,J,J,J,Z,Z,Z,Z,Z,Z,Z,Z,Z,Z,Z,Z,Z,Z,Z,Z,Z,Z,Z,Z] rfl rfl (any_of HT_.out (by kernel_rfl)) (fun _ _ _ h => h) (Or.inl ⟨by rfl, ?_⟩) ?_ ?_
     rotate_left
     ·intro w'
      go_simp
      with_reducible rfl
     rotate_left
     ·simp only [Act.put, l_s, l_0, l_1, i64_w, i32_w]
      rfl
     refine pure_ (i := 16) (N := some 65) (v := ?_) (a' := ?_) #[J,J,J,Z,J,J,J,J,Z,J,Z,Z,Z,J,J,J,J,Z,Z,Z,Z,Z,Z,Z,Z,Z,Z,Z,Z,Z,Z,Z,Z,Z,Z,Z] rfl rfl (any_of HT_.out (by kernel_rfl)) (fun _ _ _ h => h) (Or.inl ⟨by rfl, ?_⟩) ?_ ?_
     rotate_left
     ·intro w'
      go_simp
      with_reducible rfl
     rotate_left
     ·simp only [Act.put, l_s, l_0, l_1, i64_w, i32_w]
      rfl
     refine pure_ (i := 18) (N := some 67) (v := ?_) (a' := ?_) #[J,J,J,Z,J,J,J,J,Z,J,Z,Z,Z,J,J,J,J,Z,J,Z,Z,Z,Z,Z,Z,Z,Z,Z,Z,Z,Z,Z,Z,Z,Z,Z] rfl rfl (any_of HT_.out (by kernel_rfl)) (fun _ _ _ h => h) (Or.inl ⟨by rfl, ?_⟩) ?_ ?_
     rotate_left
     ·intro w'
      go_simp
      with_reducible rfl
     rotate_left
     ·simp only [Act.put, l_s, l_0, l_1, i64_w, i32_w]
      rfl
     refine pure_ (i := 19) (N := some 68) (v := ?_) (a' := ?_) #[J,J,J,Z,J,J,J,J,Z,J,Z,Z,Z,J,J,J,J,Z,J,J,Z,Z,Z,Z,Z,Z,Z,Z,Z,Z,Z,Z,Z,Z,Z,Z] rfl rfl (any_of HT_.out (by kernel_rfl)) (fun _ _ _ h => h) (Or.inl ⟨by rfl, ?_⟩) ?_ ?_
     rotate_left
     ·intro w'
      go_simp
      with_reducible rfl
     rotate_left
     ·simp only [Act.put, l_s, l_0, l_1, i64_w, i32_w]
      rfl
     refine pure_ (i := 20) (N := some 69) (v := ?_) (a' := ?_) #[J,J,J,Z,J,J,J,J,Z,J,Z,Z,Z,J,J,J,J,Z,J,J,J,Z,Z,Z,Z,Z,Z,Z,Z,Z,Z,Z,Z,Z,Z,Z] rfl rfl (any_of HT_.out (by kernel_rfl)) (fun _ _ _ h => h) (Or.inl ⟨by rfl, ?_⟩) ?_ ?_
     rotate_left
     ·intro w'
      go_simp
      with_reducible rfl
     rotate_left
     ·simp only [Act.put, l_s, l_0, l_1, i64_w, i32_w]
      rfl
     refine pure_ (i := 21) (N := some 70) (v := ?_) (a' := ?_) #[J,J,J,Z,J,J,J,J,Z,J,Z,Z,Z,J,J,J,J,Z,J,J,J,J,Z,Z,Z,Z,Z,Z,Z,Z,Z,Z,Z,Z,Z,Z] rfl rfl (any_of HT_.out (by kernel_rfl)) (fun _ _ _ h => h) (Or.inl ⟨by rfl, ?_⟩) ?_ ?_
     rotate_left
     ·intro w'
      go_simp
      with_reducible rfl
     rotate_left
     ·simp only [Act.put, l_s, l_0, l_1, i64_w, i32_w]
      rfl
     refine pure_ (i := 27) (N := some 76) (v := ?_) (a' := ?_) #[J,J,J,Z,J,J,J,J,Z,J,Z,Z,Z,J,J,J,J,Z,J,J,J,J,Z,Z,Z,Z,Z,J,Z,Z,Z,Z,Z,Z,Z,Z] rfl rfl (any_of HT_.out (by kernel_rfl)) (fun _ _ _ h => h) (Or.inl ⟨by rfl, ?_⟩) ?_ ?_
     rotate_left
     ·intro w'
      go_simp
      with_reducible rfl
     rotate_left
     ·simp only [Act.put, l_s, l_0, l_1, i64_w, i32_w]
      rfl
     refine pure_ (i := 28) (N := some 77) (v := ?_) (a' := ?_) #[J,J,J,Z,J,J,J,J,Z,J,Z,Z,Z,J,J,J,J,Z,J,J,J,J,Z,Z,Z,Z,Z,J,J,Z,Z,Z,Z,Z,Z,Z] rfl rfl (any_of HT_.out (by kernel_rfl)) (fun _ _ _ h => h) (Or.inl ⟨by rfl, ?_⟩) ?_ ?_
     rotate_left
     ·intro w'
      go_simp
      with_reducible rfl
     rotate_left
     ·simp only [Act.put, l_s, l_0, l_1, i64_w, i32_w]
      rfl
     refine pure_ (i := 29) (N := some 78) (v := ?_) (a' := ?_) #[J,J,J,Z,J,J,J,J,Z,J,Z,Z,Z,J,J,J,J,Z,J,J,J,J,Z,Z,Z,Z,Z,J,J,J,Z,Z,Z,Z,Z,Z] rfl rfl (any_of HT_.out (by kernel_rfl)) (fun _ _ _ h => h) (Or.inl ⟨by rfl, ?_⟩) ?_ ?_
     rotate_left
     ·intro w'
      go_simp
      with_reducible rfl
     rotate_left
     ·simp only [Act.put, l_s, l_0, l_1, i64_w, i32_w]
      rfl
     refine pure_ (i := 30) (N := some 79) (v := ?_) (a' := ?_) #[J,J,J,Z,J,J,J,J,Z,J,Z,Z,Z,J,J,J,J,Z,J,J,J,J,Z,Z,Z,Z,Z,J,J,J,J,Z,Z,Z,Z,Z] rfl rfl (any_of HT_.out (by kernel_rfl)) (fun _ _ _ h => h) (Or.inl ⟨by rfl, ?_⟩) ?_ ?_
     rotate_left
     ·intro w'
      go_simp
      with_reducible rfl
     rotate_left
     ·simp only [Act.put, l_s, l_0, l_1, i64_w, i32_w]
      rfl
     refine inv_at [3, 8, 10, 11, 12, 17, 22, 23, 24, 25, 26, 31, 32, 33, 34, 35] (fun a0_ b a w' => ∃ (v73 : Value), ∃ (v83 : Value), ∃ (v4x : Value), a = putSel a0_ b [(3, 52, .string y1), (8, 57, .string e.f0), (10, 59, .string kr), (11, 60, .string y2), (12, 61, .string (y1 ++ y2)), (17, 66, .int .u64 e.f1), (22, 71, .int .i64 e.f2), (23, 72, .int .u64 e.f2), (24, 73, v73), (25, 74, .string y3), (26, 75, .string ((y1 ++ y2) ++ y3)), (31, 80, .string e.f3), (32, 81, .string y4), (33, 82, .string (((y1 ++ y2) ++ y3) ++ y4)), (34, 83, v83), (35, 4, v4x)] ∧ (Below w.heap.size w w') ∧ (b 34 = false → Kd.R (Kd.int .u8) 5 w' w.heap.size (fun _ => True) (.slice A4 xs.length c4) (xs)) ∧ (b 34 = true → Kd.R (Kd.int .u8) 5 w' w.heap.size (fun _ => True) v83 (xs ++ bytesOf (((y1 ++ y2) ++ y3) ++ y4))) ∧ (b 24 = true → b 34 = false → Kd.R (Kd.int .u64) 25 w' w.heap.size (fun _ => True) v73 ([e.f1, e.f2] : List Int)) ∧ (b 35 = true → v4x = v83)) HT_.out HW_.out (by kernel_rfl) (by kernel_rfl) ?_ ?_ ?_
     ·exact ⟨.bool false, .bool false, .bool false, by simp only [putSel, Bool.false_eq_true, if_false], HBX.out, fun _ => HOX.out, fun h_ => absurd h_ (by decide), fun h_ => absurd h_ (by decide), fun h_ => absurd h_ (by decide)⟩
     ·skip
      refine steps_cons ?_ ?_
      ·rintro b a w' ⟨v73, v83, v4x, ha, Q_BEL, Q_ROW, Q_POST, Q_LIT, Q_EQ4⟩ hb_ hon hoff
       refine ⟨_, rfl, fun K hK => ?_⟩
       have e51 : a.tmps[51]? = some (.int .u64 (m : Int)) := by rw [ha]; exact (putSel_off rfl).trans rfl
       replace ha := a_k ha
       refine goes_ Tryz.func192 (by kernel_rfl) rfl #[.int .u64 (m : Int)] (by rfl) rfl rfl (by first | (simp only [m_a, m_c, m_n, Act.eval, Array.getD_eq_getD_getElem?, Option.getD_some, e51]; done) | (simp only [m_a, m_c, m_n, Act.eval, Array.getD_eq_getD_getElem?, Option.getD_some, e51]; rfl)) ?_
       refine (rvar_y _ m HM1.out y1 HY1.out).mono ?_
       rintro e w1 ⟨rfl, hb1⟩
       refine ⟨_, rfl, ?_⟩
       refine hK.out _ _ ⟨v73, v83, v4x, by rw [ha.out]; exact putSel_upk 0 hb_ rfl rfl rfl, below_step Q_BEL hb1, fun h_ => Kd.R_below (Q_ROW h_) hb1, fun h_ => absurd ((hoff 34 (by kernel_rfl)).symm.trans h_) (by decide), fun h_ k_ => Kd.R_below (Q_LIT h_ k_) hb1, Q_EQ4⟩
      refine steps_cons ?_ ?_
      ·rintro b a w' ⟨v73, v83, v4x, ha, Q_BEL, Q_ROW, Q_POST, Q_LIT, Q_EQ4⟩ hb_ hon hoff
       refine ⟨_, rfl, fun K hK => ?_⟩
       have e56 : a.tmps[56]? = some (.pointer (some (ad.add (i * 4)))) := by rw [ha]; exact (putSel_off rfl).trans rfl
       replace ha := a_k ha
       obtain ⟨y0, y1, y2, y3⟩ := HCE.out _ Q_BEL
       refine value_ (w1 := w') (v := .string e.f0) (by rfl) rfl ?_ ?_
       ·go_simp
        (try simp only [i64_w])
        try rfl
       refine hK.out _ _ ⟨v73, v83, v4x, by rw [ha.out]; exact putSel_upk 1 hb_ rfl rfl rfl, Q_BEL, Q_ROW, Q_POST, Q_LIT, Q_EQ4⟩
      refine steps_cons ?_ ?_
      ·rintro b a w' ⟨v73, v83, v4x, ha, Q_BEL, Q_ROW, Q_POST, Q_LIT, Q_EQ4⟩ hb_ hon hoff
       refine ⟨_, rfl, fun K hK => ?_⟩
       have e57 : a.tmps[57]? = some (.string e.f0) := by rw [ha]; exact putSel_on (e := (8, 57, .string e.f0)) 1 rfl rfl (hon 8 (by kernel_rfl)) rfl
       have e58 : a.tmps[58]? = some (.int .i64 (m : Int)) := by rw [ha]; exact (putSel_off rfl).trans rfl
       replace ha := a_k ha
       have hm0 := HM0.out
       have hm1 := HM2.out
       have hkr := HKR.out
       refine value_ (w1 := w') (v := .string kr) (by rfl) rfl ?_ ?_
       ·(go_simp; (try simp only [i64_w]); first | done | rfl | exact hkr | (rw [← hkr]; simp))
       refine hK.out _ _ ⟨v73, v83, v4x, by rw [ha.out]; exact putSel_upk 2 hb_ rfl rfl rfl, Q_BEL, Q_ROW, Q_POST, Q_LIT, Q_EQ4⟩
      refine steps_cons ?_ ?_
      ·rintro b a w' ⟨v73, v83, v4x, ha, Q_BEL, Q_ROW, Q_POST, Q_LIT, Q_EQ4⟩ hb_ hon hoff
       refine ⟨_, rfl, fun K hK => ?_⟩
       have e59 : a.tmps[59]? = some (.string kr) := by rw [ha]; exact putSel_on (e := (10, 59, .string kr)) 2 rfl rfl (hon 10 (by kernel_rfl)) rfl
       replace ha := a_k ha
       refine goes_ Tryz.func166 (by kernel_rfl) rfl #[.string kr] (by rfl) rfl rfl (by first | (simp only [m_a, m_c, m_n, Act.eval, Array.getD_eq_getD_getElem?, Option.getD_some, e59]; done) | (simp only [m_a, m_c, m_n, Act.eval, Array.getD_eq_getD_getElem?, Option.getD_some, e59]; rfl)) ?_
       refine (rtext_y _ kr HK1.out y2 HY2.out).mono ?_
       rintro e w1 ⟨rfl, hb1⟩
       refine ⟨_, rfl, ?_⟩
       refine hK.out _ _ ⟨v73, v83, v4x, by rw [ha.out]; exact putSel_upk 3 hb_ rfl rfl rfl, below_step Q_BEL hb1, fun h_ => Kd.R_below (Q_ROW h_) hb1, fun h_ => absurd ((hoff 34 (by kernel_rfl)).symm.trans h_) (by decide), fun h_ k_ => Kd.R_below (Q_LIT h_ k_) hb1, Q_EQ4⟩
      refine steps_cons ?_ ?_
      ·rintro b a w' ⟨v73, v83, v4x, ha, Q_BEL, Q_ROW, Q_POST, Q_LIT, Q_EQ4⟩ hb_ hon hoff
       refine ⟨_, rfl, fun K hK => ?_⟩
       have e52 : a.tmps[52]? = some (.string y1) := by rw [ha]; exact putSel_on (e := (3, 52, .string y1)) 0 rfl rfl (hon 3 (by kernel_rfl)) rfl
       have e60 : a.tmps[60]? = some (.string y2) := by rw [ha]; exact putSel_on (e := (11, 60, .string y2)) 3 rfl rfl (hon 11 (by kernel_rfl)) rfl
       replace ha := a_k ha
       have hz_ := HSZ.out
       have f1 := eq_true (show (y1).size + (y2).size ≤ 9223372036854775807 by (try simp only [ByteArray.size_append]); omega)
       have f2 : (9223372036854775807 < (y1).size + (y2).size) = False := eq_false (by (try simp only [ByteArray.size_append]); omega)
       try simp only [ByteArray.size_append] at f1 f2
       refine value_ (w1 := w') (v := .string (y1 ++ y2)) (by rfl) rfl ?_ ?_
       ·go_simp
        (try simp only [i64_w])
        try rfl
       refine hK.out _ _ ⟨v73, v83, v4x, by rw [ha.out]; exact putSel_upk 4 hb_ rfl rfl rfl, Q_BEL, Q_ROW, Q_POST, Q_LIT, Q_EQ4⟩
      refine steps_cons ?_ ?_
      ·rintro b a w' ⟨v73, v83, v4x, ha, Q_BEL, Q_ROW, Q_POST, Q_LIT, Q_EQ4⟩ hb_ hon hoff
       refine ⟨_, rfl, fun K hK => ?_⟩
       have e65 : a.tmps[65]? = some (.pointer (some ⟨(ad.add (i * 4)).block, (ad.add (i * 4)).off + 1, none⟩)) := by rw [ha]; exact (putSel_off rfl).trans rfl
       replace ha := a_k ha
       obtain ⟨y0, y1, y2, y3⟩ := HCE.out _ Q_BEL
       refine value_ (w1 := w') (v := .int .u64 e.f1) (by rfl) rfl ?_ ?_
       ·go_simp
        (try simp only [i64_w])
        try rfl
       refine hK.out _ _ ⟨v73, v83, v4x, by rw [ha.out]; exact putSel_upk 5 hb_ rfl rfl rfl, Q_BEL, Q_ROW, Q_POST, Q_LIT, Q_EQ4⟩
      refine steps_cons ?_ ?_
      ·rintro b a w' ⟨v73, v83, v4x, ha, Q_BEL, Q_ROW, Q_POST, Q_LIT, Q_EQ4⟩ hb_ hon hoff
       refine ⟨_, rfl, fun K hK => ?_⟩
       have e70 : a.tmps[70]? = some (.pointer (some ⟨(ad.add (i * 4)).block, (ad.add (i * 4)).off + 2, none⟩)) := by rw [ha]; exact (putSel_off rfl).trans rfl
       replace ha := a_k ha
       obtain ⟨y0, y1, y2, y3⟩ := HCE.out _ Q_BEL
       refine value_ (w1 := w') (v := .int .i64 e.f2) (by rfl) rfl ?_ ?_
       ·go_simp
        (try simp only [i64_w])
        try rfl
       refine hK.out _ _ ⟨v73, v83, v4x, by rw [ha.out]; exact putSel_upk 6 hb_ rfl rfl rfl, Q_BEL, Q_ROW, Q_POST, Q_LIT, Q_EQ4⟩
      refine steps_cons ?_ ?_
      ·rintro b a w' ⟨v73, v83, v4x, ha, Q_BEL, Q_ROW, Q_POST, Q_LIT, Q_EQ4⟩ hb_ hon hoff
       refine ⟨_, rfl, fun K hK => ?_⟩
       have e71 : a.tmps[71]? = some (.int .i64 e.f2) := by rw [ha]; exact putSel_on (e := (22, 71, .int .i64 e.f2)) 6 rfl rfl (hon 22 (by kernel_rfl)) rfl
       replace ha := a_k ha
       have hk2 := HK2.out
       refine value_ (w1 := w') (v := .int .u64 e.f2) (by rfl) rfl ?_ ?_
       ·go_simp
        (try simp only [i64_w])
        try rfl
       refine hK.out _ _ ⟨v73, v83, v4x, by rw [ha.out]; exact putSel_upk 7 hb_ rfl rfl rfl, Q_BEL, Q_ROW, Q_POST, Q_LIT, Q_EQ4⟩
      refine steps_cons ?_ ?_
      ·rintro b a w' ⟨v73, v83, v4x, ha, Q_BEL, Q_ROW, Q_POST, Q_LIT, Q_EQ4⟩ hb_ hon hoff
       refine ⟨_, rfl, fun K hK => ?_⟩
       have e66 : a.tmps[66]? = some (.int .u64 e.f1) := by rw [ha]; exact putSel_on (e := (17, 66, .int .u64 e.f1)) 5 rfl rfl (hon 17 (by kernel_rfl)) rfl
       have e72 : a.tmps[72]? = some (.int .u64 e.f2) := by rw [ha]; exact putSel_on (e := (23, 72, .int .u64 e.f2)) 7 rfl rfl (hon 23 (by kernel_rfl)) rfl
       replace ha := a_k ha
       refine Kd.R_lit_step (Kd.int .u64) _ 25 ?hg (N := 73) ?hd (xs := ([e.f1, e.f2] : List Int)) (inner := [.int .u64 e.f1, .int .u64 e.f2]) (ok := fun _ => True) (okp := fun _ => True) ?hr ?hp (fun _ hk => hk) trivial (Below.refl _ _) (Nat.le_refl _) (by simp) ?_; (case hd => rfl); (case hg => rfl); (case hr => first | (go_simp; done) | (go_simp; rfl)); (case hp => exact (Reps.one (show Kd.M (Kd.int .u64) _ _ _ e.f1 [.int .u64 e.f1] from rfl) (Reps.one (show Kd.M (Kd.int .u64) _ _ _ e.f2 [.int .u64 e.f2] from rfl) (Reps.none _ _))))
       intro v73n w1 ho1 hb1 hg_ hnew_
       clear hg_ hnew_
       refine hK.out _ _ ⟨v73n, v83, v4x, by rw [ha.out]; exact putSel_upk 8 hb_ rfl rfl rfl, below_step Q_BEL hb1, fun h_ => Kd.R_below (Q_ROW h_) hb1, fun h_ => absurd ((hoff 34 (by kernel_rfl)).symm.trans h_) (by decide), fun _ _ => Kd.R_lower ho1 Q_BEL.size, Q_EQ4⟩
      refine steps_cons ?_ ?_
      ·rintro b a w' ⟨v73, v83, v4x, ha, Q_BEL, Q_ROW, Q_POST, Q_LIT, Q_EQ4⟩ hb_ hon hoff
       refine ⟨_, rfl, fun K hK => ?_⟩
       have e73 : a.tmps[73]? = some (v73) := by rw [ha]; exact putSel_on (e := (24, 73, v73)) 8 rfl rfl (hon 24 (by kernel_rfl)) rfl
       replace ha := a_k ha
       have hS := Q_LIT (hon 24 (by kernel_rfl)) (hoff 34 (by kernel_rfl))
       obtain ⟨As, cs, es⟩ := Kd.R_slice hS
       subst es
       replace hS : Kd.R (Kd.int .u64) 25 _ w.heap.size (fun _ => True) (.slice As 2 cs) ([e.f1, e.f2] : List Int) := hS
       refine goes_ Tryz.func167 (by kernel_rfl) rfl #[.slice As 2 cs] (by rfl) rfl rfl (by first | (simp only [m_a, m_c, m_n, Act.eval, Array.getD_eq_getD_getElem?, Option.getD_some, e73]; done) | (simp only [m_a, m_c, m_n, Act.eval, Array.getD_eq_getD_getElem?, Option.getD_some, e73]; rfl)) ?_
       refine (rvars_y (Kd.R_reads' hS).2.2 (Kd.R_reads' hS).2.1 HSQ.out HK3.out y3 HY3.out).mono ?_
       rintro e w1 ⟨rfl, hb1⟩
       refine ⟨_, rfl, ?_⟩
       refine hK.out _ _ ⟨.slice As 2 cs, v83, v4x, by rw [ha.out]; exact putSel_upk 9 hb_ rfl rfl rfl, below_step Q_BEL hb1, fun h_ => Kd.R_below (Q_ROW h_) hb1, fun h_ => absurd ((hoff 34 (by kernel_rfl)).symm.trans h_) (by decide), fun h_ k_ => Kd.R_below (Q_LIT h_ k_) hb1, Q_EQ4⟩
      refine steps_cons ?_ ?_
      ·rintro b a w' ⟨v73, v83, v4x, ha, Q_BEL, Q_ROW, Q_POST, Q_LIT, Q_EQ4⟩ hb_ hon hoff
       refine ⟨_, rfl, fun K hK => ?_⟩
       have e61 : a.tmps[61]? = some (.string (y1 ++ y2)) := by rw [ha]; exact putSel_on (e := (12, 61, .string (y1 ++ y2))) 4 rfl rfl (hon 12 (by kernel_rfl)) rfl
       have e74 : a.tmps[74]? = some (.string y3) := by rw [ha]; exact putSel_on (e := (25, 74, .string y3)) 9 rfl rfl (hon 25 (by kernel_rfl)) rfl
       replace ha := a_k ha
       have hz_ := HSZ.out
       have f1 := eq_true (show ((y1 ++ y2)).size + (y3).size ≤ 9223372036854775807 by (try simp only [ByteArray.size_append]); omega)
       have f2 : (9223372036854775807 < ((y1 ++ y2)).size + (y3).size) = False := eq_false (by (try simp only [ByteArray.size_append]); omega)
       try simp only [ByteArray.size_append] at f1 f2
       refine value_ (w1 := w') (v := .string ((y1 ++ y2) ++ y3)) (by rfl) rfl ?_ ?_
       ·go_simp
        (try simp only [i64_w])
        try rfl
       refine hK.out _ _ ⟨v73, v83, v4x, by rw [ha.out]; exact putSel_upk 10 hb_ rfl rfl rfl, Q_BEL, Q_ROW, Q_POST, Q_LIT, Q_EQ4⟩
      refine steps_cons ?_ ?_
      ·rintro b a w' ⟨v73, v83, v4x, ha, Q_BEL, Q_ROW, Q_POST, Q_LIT, Q_EQ4⟩ hb_ hon hoff
       refine ⟨_, rfl, fun K hK => ?_⟩
       have e79 : a.tmps[79]? = some (.pointer (some ⟨(ad.add (i * 4)).block, (ad.add (i * 4)).off + 3, none⟩)) := by rw [ha]; exact (putSel_off rfl).trans rfl
       replace ha := a_k ha
       obtain ⟨y0, y1, y2, y3⟩ := HCE.out _ Q_BEL
       refine value_ (w1 := w') (v := .string e.f3) (by rfl) rfl ?_ ?_
       ·go_simp
        (try simp only [i64_w])
        try rfl
       refine hK.out _ _ ⟨v73, v83, v4x, by rw [ha.out]; exact putSel_upk 11 hb_ rfl rfl rfl, Q_BEL, Q_ROW, Q_POST, Q_LIT, Q_EQ4⟩
      refine steps_cons ?_ ?_
      ·rintro b a w' ⟨v73, v83, v4x, ha, Q_BEL, Q_ROW, Q_POST, Q_LIT, Q_EQ4⟩ hb_ hon hoff
       refine ⟨_, rfl, fun K hK => ?_⟩
       have e80 : a.tmps[80]? = some (.string e.f3) := by rw [ha]; exact putSel_on (e := (31, 80, .string e.f3)) 11 rfl rfl (hon 31 (by kernel_rfl)) rfl
       replace ha := a_k ha
       refine goes_ Tryz.func166 (by kernel_rfl) rfl #[.string e.f3] (by rfl) rfl rfl (by first | (simp only [m_a, m_c, m_n, Act.eval, Array.getD_eq_getD_getElem?, Option.getD_some, e80]; done) | (simp only [m_a, m_c, m_n, Act.eval, Array.getD_eq_getD_getElem?, Option.getD_some, e80]; rfl)) ?_
       refine (rtext_y _ e.f3 HK4.out y4 HY4.out).mono ?_
       rintro e w1 ⟨rfl, hb1⟩
       refine ⟨_, rfl, ?_⟩
       refine hK.out _ _ ⟨v73, v83, v4x, by rw [ha.out]; exact putSel_upk 12 hb_ rfl rfl rfl, below_step Q_BEL hb1, fun h_ => Kd.R_below (Q_ROW h_) hb1, fun h_ => absurd ((hoff 34 (by kernel_rfl)).symm.trans h_) (by decide), fun h_ k_ => Kd.R_below (Q_LIT h_ k_) hb1, Q_EQ4⟩
      refine steps_cons ?_ ?_
      ·rintro b a w' ⟨v73, v83, v4x, ha, Q_BEL, Q_ROW, Q_POST, Q_LIT, Q_EQ4⟩ hb_ hon hoff
       refine ⟨_, rfl, fun K hK => ?_⟩
       have e75 : a.tmps[75]? = some (.string ((y1 ++ y2) ++ y3)) := by rw [ha]; exact putSel_on (e := (26, 75, .string ((y1 ++ y2) ++ y3))) 10 rfl rfl (hon 26 (by kernel_rfl)) rfl
       have e81 : a.tmps[81]? = some (.string y4) := by rw [ha]; exact putSel_on (e := (32, 81, .string y4)) 12 rfl rfl (hon 32 (by kernel_rfl)) rfl
       replace ha := a_k ha
       have hz_ := HSZ.out
       have f1 := eq_true (show (((y1 ++ y2) ++ y3)).size + (y4).size ≤ 9223372036854775807 by (try simp only [ByteArray.size_append]); omega)
       have f2 : (9223372036854775807 < (((y1 ++ y2) ++ y3)).size + (y4).size) = False := eq_false (by (try simp only [ByteArray.size_append]); omega)
       try simp only [ByteArray.size_append] at f1 f2
       refine value_ (w1 := w') (v := .string (((y1 ++ y2) ++ y3) ++ y4)) (by rfl) rfl ?_ ?_
       ·go_simp
        (try simp only [i64_w])
        try rfl
       refine hK.out _ _ ⟨v73, v83, v4x, by rw [ha.out]; exact putSel_upk 13 hb_ rfl rfl rfl, Q_BEL, Q_ROW, Q_POST, Q_LIT, Q_EQ4⟩
      refine steps_cons ?_ ?_
      ·rintro b a w' ⟨v73, v83, v4x, ha, Q_BEL, Q_ROW, Q_POST, Q_LIT, Q_EQ4⟩ hb_ hon hoff
       refine ⟨_, rfl, fun K hK => ?_⟩
       have e49 : a.tmps[49]? = some (.slice A4 xs.length c4) := by rw [ha]; exact (putSel_off rfl).trans rfl
       have e82 : a.tmps[82]? = some (.string (((y1 ++ y2) ++ y3) ++ y4)) := by rw [ha]; exact putSel_on (e := (33, 82, .string (((y1 ++ y2) ++ y3) ++ y4))) 13 rfl rfl (hon 33 (by kernel_rfl)) rfl
       replace ha := a_k ha
       refine appstr_step (P := Tryz.prog) w.heap.size (by rfl) (.tmp 49) (.tmp 82) 219 9 5 rfl Tryz.underlying219 Tryz.underlying9 info5 (.slice A4 xs.length c4) xs (((y1 ++ y2) ++ y3) ++ y4) (by simp [Act.eval, e49]) (by simp [Act.eval, e82]) (Q_ROW hb_) Q_BEL.size (by have hz_ := HSZ.out; simp only [ByteArray.size_append]; omega) ?_
       intro v83n w1 ho1 hb1
       refine hK.out _ _ ⟨v73, v83n, v4x, by rw [ha.out]; exact putSel_upk 14 hb_ rfl rfl rfl, (Q_BEL.trans hb1), fun h_ => absurd h_ (by simp [Go.Proofs.YtchgpcgolgcfdaaGreatW.PrintLast.up]), fun _ => ho1, fun _ h_ => absurd h_ (by simp [Go.Proofs.YtchgpcgolgcfdaaGreatW.PrintLast.up]), fun h_ => absurd ((hoff 35 (by kernel_rfl)).symm.trans h_) (by decide)⟩
      refine steps_cons ?_ ?_
      ·rintro b a w' ⟨v73, v83, v4x, ha, Q_BEL, Q_ROW, Q_POST, Q_LIT, Q_EQ4⟩ hb_ hon hoff
       refine ⟨_, rfl, fun K hK => ?_⟩
       have e83 : a.tmps[83]? = some (v83) := by rw [ha]; exact putSel_on (e := (34, 83, v83)) 14 rfl rfl (hon 34 (by kernel_rfl)) rfl
       replace ha := a_k ha
       refine value_ (w1 := w') (v := v83) (by rfl) rfl ?_ ?_
       ·go_simp
        (try simp only [i64_w])
        try rfl
       refine hK.out _ _ ⟨v73, v83, v83, by rw [ha.out]; exact putSel_upk 15 hb_ rfl rfl rfl, Q_BEL, Q_ROW, Q_POST, Q_LIT, fun _ => rfl⟩
      exact steps_nil
     rintro b a w25 hall ⟨v73, v83, v4x, ha, Q_BEL, Q_ROW, Q_POST, Q_LIT, Q_EQ4⟩
     have hb3_ := hall 3 (by kernel_rfl)
     have hb8_ := hall 8 (by kernel_rfl)
     have hb10_ := hall 10 (by kernel_rfl)
     have hb11_ := hall 11 (by kernel_rfl)
     have hb12_ := hall 12 (by kernel_rfl)
     have hb17_ := hall 17 (by kernel_rfl)
     have hb22_ := hall 22 (by kernel_rfl)
     have hb23_ := hall 23 (by kernel_rfl)
     have hb24_ := hall 24 (by kernel_rfl)
     have hb25_ := hall 25 (by kernel_rfl)
     have hb26_ := hall 26 (by kernel_rfl)
     have hb31_ := hall 31 (by kernel_rfl)
     have hb32_ := hall 32 (by kernel_rfl)
     have hb33_ := hall 33 (by kernel_rfl)
     have hb34_ := hall 34 (by kernel_rfl)
     have hb35_ := hall 35 (by kernel_rfl)
     subst ha
     simp only [putSel, hb3_, hb8_, hb10_, hb11_, hb12_, hb17_, hb22_, hb23_, hb24_, hb25_, hb26_, hb31_, hb32_, hb33_, hb34_, hb35_, if_true, Act.put, List.setIfInBounds_toArray, List.set_cons_zero, List.set_cons_succ]
     have BEL := a_k (Q_BEL)
     have POST := a_k (Q_POST hb34_)
     have LIT := a_k (Q_LIT hb24_)
     have EQ4 := a_k (Q_EQ4 hb35_)
     clear hall hb3_ hb8_ hb10_ hb11_ hb12_ hb17_ hb22_ hb23_ hb24_ hb25_ hb26_ hb31_ hb32_ hb33_ hb34_ hb35_ Q_BEL Q_ROW Q_POST Q_LIT Q_EQ4
     go_wp2_with (fail)
     go_roundw
     case rel => exact ⟨i + 1, e.f0, xs ++ pc e m, tl, rfl, by go_num, by go_num, by omega, ⟨by have h_ := HNX.out; rw [if_neg h40, List.append_nil] at h_; exact h_⟩, ⟨by have h_ := POST.out; rw [HPB.out] at h_; rw [EQ4.out]; exact h_⟩, BEL⟩
     case measure => simp [intOf]; omega
   ·obtain rfl : i = l.length := by omega
    have s0 : decide ((l.length : Int) < (l.length : Int)) = false := decide_eq_false (by omega)
    obtain ⟨hx1, hx2⟩ := HRS.out.fin
    have HBL : Aside0 ((blk l).length ≤ 140737488355328) := ⟨blk_len HOK.out h4⟩
    have hq1 : (l.length + 3) / 4 ≤ 10000 := by omega
    have hb0 : strOfNums (blk l) = (strOfNums xs ++ strOfNums tl) ++ strOfNums (be 4 ((l.length + 3) / 4)) := by rw [S_append, S_append, hx1, hx2, List.append_assoc]; rfl
    clear hi hlt HRS hx1 hx2
    generalize (l.length + 3) / 4 = q at *
    obtain ⟨yb, hyb⟩ : ∃ yb, yb = strOfNums (be 4 q) := ⟨_, rfl⟩
    obtain ⟨ts, hts⟩ : ∃ ts, strOfNums tl = ts := ⟨_, rfl⟩
    obtain ⟨ss, hss⟩ : ∃ ss, strOfNums xs = ss := ⟨_, rfl⟩
    rw [← hyb, hts, hss] at hb0
    have hz1 : yb.size = 4 := by rw [hyb, S_size, be_len]
    have hz2 : ts.size = tl.length := by rw [← hts, S_size]
    have hz3 : ss.size = xs.length := by rw [← hss, S_size]
    have f1 := eq_true (show ss.size + ts.size ≤ 9223372036854775807 by omega)
    have f2 : (9223372036854775807 < ss.size + ts.size) = False := eq_false (by omega)
    have f3 := eq_true (show ss.size + ts.size + yb.size ≤ 9223372036854775807 by omega)
    have f4 : (9223372036854775807 < ss.size + ts.size + yb.size) = False := eq_false (by omega)
    have HYB := a_k hyb
    have HSS := a_k hss
    have HB0 := a_k hb0.symm
    rw [hts]
    clear hz1 hz2 hz3 hyb hts hss hb0 hxl htn hps
    go_wp2_with (first | (go_at_call 191; refine (rfix_y _ q (by omega) yb HYB.out).mono ?_; rintro e w2 ⟨rfl, hb⟩; have m0_ := a_k (Kd.R_below HO.out hb); clear HO; have HO := m0_; clear m0_; have hcv := own_string (P := Tryz.prog) Tryz.underlying219 Tryz.underlying5 Tryz.underlying9 (Kd.own_of_R HO.out); rw [HSS.out] at hcv; have n0_ := a_k (below_step HB.out hb); clear HB; have HB := n0_; clear n0_ hb) | (go_at_call 74; refine (rseal_y _ _ (blk l) HB0.out (blk_ok l) HBL.out).mono ?_; rintro e w3 ⟨rfl, hb⟩; have n0_ := a_k (below_step HB.out hb); clear HB; have HB := n0_; clear n0_ hb))
    go_ret2
    exact ⟨rfl, HB.out⟩
end Go.Proofs.YtchgpcgolgcfdaaGreat.Pb
end
section
namespace Go.Proofs.YtchgpcgolgcfdaaGreat.PNum
open Go.RowKit Go.Proofs.YtchgpcgolgcfdaaGreatW.PrintWords Go.Proofs.YtchgpcgolgcfdaaGreatW.PrintLast Go.Proofs.YtchgpcgolgcfdaaGreatW.PrintMore
attribute [local go_sem] max2_int min2_int max_two min_two max_three min_three max_four min_four
set_option linter.unusedVariables false
set_option linter.unusedSimpArgs false
set_option maxRecDepth 100000
set_option maxHeartbeats 16000000
def cornucopiabook_name.f (a0 : Int) (a1 : Int) : Option (ByteArray) := some (strOfNums (([109, (wrap64 (65 + (Int.tmod a0 26))) % 256, (wrap64 (65 + (Int.tmod (wrap64 (Int.tdiv a0 26)) 26))) % 256, (wrap64 (48 + (Int.tmod a1 10))) % 256, (wrap64 (48 + (Int.tmod (wrap64 (Int.tdiv a1 10)) 10))) % 256, (wrap64 (48 + (Int.tmod (wrap64 (Int.tdiv a1 100)) 10))) % 256] : List Int)))
theorem cornucopiabook_name.calls (a0 : Int) (a1 : Int) (r : ByteArray) (w : World) (h : cornucopiabook_name.f a0 a1 = some r) :
  Calls Tryz.prog 249 #[.int .i64 a0, .int .i64 a1] w fun e w' => e = .returned (.string r) ∧ Below w.heap.size w w' := by
 have HB := a_k (Below.refl w.heap.size w)
 have H : (some (strOfNums (([109, (wrap64 (65 + (Int.tmod a0 26))) % 256, (wrap64 (65 + (Int.tmod (wrap64 (Int.tdiv a0 26)) 26))) % 256, (wrap64 (48 + (Int.tmod a1 10))) % 256, (wrap64 (48 + (Int.tmod (wrap64 (Int.tdiv a1 10)) 10))) % 256, (wrap64 (48 + (Int.tmod (wrap64 (Int.tdiv a1 100)) 10))) % 256] : List Int)))) = some r := h
 clear h
 obtain ⟨y159, hy159⟩ : ∃ y_ : List Int, y_ = (([109, (wrap64 (65 + (Int.tmod a0 26))) % 256, (wrap64 (65 + (Int.tmod (wrap64 (Int.tdiv a0 26)) 26))) % 256, (wrap64 (48 + (Int.tmod a1 10))) % 256, (wrap64 (48 + (Int.tmod (wrap64 (Int.tdiv a1 10)) 10))) % 256, (wrap64 (48 + (Int.tmod (wrap64 (Int.tdiv a1 100)) 10))) % 256] : List Int)) := ⟨_, rfl⟩
 replace H : (some (strOfNums y159)) = some r := by first | (rw [hy159]; with_reducible exact H) | (have H2_ := (Option.bind_some _ _).symm.trans H; rw [hy159]; with_reducible exact H2_) | (have H2_ := (Option.bind_some _ _).symm.trans H; with_reducible exact H2_) | with_reducible exact H | (rw [hy159]; exact H) | exact H
 have Ny159 := a_k hy159
 clear hy159
 obtain rfl := Option.some.inj H
 go_enter Tryz.func249, Tryz.ntmps249
 go_wp2_with (first | ((with_reducible refine gate_dst (N := 28) rfl ?_); refine Kd.R_lit (Kd.int .u8) _ 5 ?hg (N := 28) ?hd (xs := ([109, (wrap64 (65 + (Int.tmod a0 26))) % 256, (wrap64 (65 + (Int.tmod (wrap64 (Int.tdiv a0 26)) 26))) % 256, (wrap64 (48 + (Int.tmod a1 10))) % 256, (wrap64 (48 + (Int.tmod (wrap64 (Int.tdiv a1 10)) 10))) % 256, (wrap64 (48 + (Int.tmod (wrap64 (Int.tdiv a1 100)) 10))) % 256] : List Int)) (inner := [.int .u8 109, .int .u8 ((wrap64 (65 + (Int.tmod a0 26))) % 256), .int .u8 ((wrap64 (65 + (Int.tmod (wrap64 (Int.tdiv a0 26)) 26))) % 256), .int .u8 ((wrap64 (48 + (Int.tmod a1 10))) % 256), .int .u8 ((wrap64 (48 + (Int.tmod (wrap64 (Int.tdiv a1 10)) 10))) % 256), .int .u8 ((wrap64 (48 + (Int.tmod (wrap64 (Int.tdiv a1 100)) 10))) % 256)]) (ok := fun _ => True) (okp := fun _ => True) ?hr ?hp (fun _ hk => hk) trivial (Below.refl _ _) (Nat.le_refl _) (by simp) ?_; (case hd => rfl); (case hg => rfl); (case hr => first | (go_simp; done) | (go_simp; rfl)); (case hp => exact (Reps.one (show Kd.M (Kd.int .u8) _ _ _ 109 [.int .u8 109] from rfl) (Reps.one (show Kd.M (Kd.int .u8) _ _ _ ((wrap64 (65 + (Int.tmod a0 26))) % 256) [.int .u8 ((wrap64 (65 + (Int.tmod a0 26))) % 256)] from rfl) (Reps.one (show Kd.M (Kd.int .u8) _ _ _ ((wrap64 (65 + (Int.tmod (wrap64 (Int.tdiv a0 26)) 26))) % 256) [.int .u8 ((wrap64 (65 + (Int.tmod (wrap64 (Int.tdiv a0 26)) 26))) % 256)] from rfl) (Reps.one (show Kd.M (Kd.int .u8) _ _ _ ((wrap64 (48 + (Int.tmod a1 10))) % 256) [.int .u8 ((wrap64 (48 + (Int.tmod a1 10))) % 256)] from rfl) (Reps.one (show Kd.M (Kd.int .u8) _ _ _ ((wrap64 (48 + (Int.tmod (wrap64 (Int.tdiv a1 10)) 10))) % 256) [.int .u8 ((wrap64 (48 + (Int.tmod (wrap64 (Int.tdiv a1 10)) 10))) % 256)] from rfl) (Reps.one (show Kd.M (Kd.int .u8) _ _ _ ((wrap64 (48 + (Int.tmod (wrap64 (Int.tdiv a1 100)) 10))) % 256) [.int .u8 ((wrap64 (48 + (Int.tmod (wrap64 (Int.tdiv a1 100)) 10))) % 256)] from rfl) (Reps.none _ _)))))))); intro v160 w3 ho4 hb hg_ hnew_; clear hg_ hnew_; (first | rw [← Ny159.out] at ho4 | (simp only [Int.reduceToNat] at ho4; rw [← Ny159.out] at ho4)); have n0_ := a_k (Kd.R_lower ho4 (below_size (by repeat (first | exact HB.out | apply b_a | apply b_n | apply b_d)))); have n1_ := a_k (below_step (by repeat (first | exact HB.out | apply b_a | apply b_n | apply b_d)) hb); clear HB; have HO161 := n0_; have HB := n1_; clear n0_ n1_; clear hb ho4; have hcv5 := own_string (P := Tryz.prog) Tryz.underlying219 Tryz.underlying5 Tryz.underlying9 (Kd.own_of_R HO161.out)))
 go_ret
 exact ⟨by first | rfl | (simp [*, errW_none, errW_some] <;> rfl), by repeat (first | exact HB.out | apply b_a | apply b_n | apply b_d)⟩
def cornucopiabook_markEntries.l0 : Nat → Int → Int → Int → List (S32) → Int → Option ((List (S32)))
 | 0, _, _, _, _, _ => none
 | k + 1, x0, x1, x2, x7, x8 => if x8 < (wrap64 (x1 + x2)) then ((cornucopiabook_name.f x0 x8).bind fun t176 => (if x7.length < 2932031007402 then (cornucopiabook_markEntries.l0 k x0 x1 x2 (x7 ++ [(⟨t176, 0, 0, (⟨#[]⟩ : ByteArray)⟩ : S32)]) (wrap64 (x8 + 1))) else (none))) else (some x7)
def cornucopiabook_markEntries.f (k : Nat) (a0 : Int) (a1 : Int) (a2 : Int) : Option ((List (S32))) := cornucopiabook_markEntries.l0 k a0 a1 a2 ([] : List (S32)) a1
theorem cornucopiabook_markEntries.calls (k : Nat) (a0 : Int) (a1 : Int) (a2 : Int) (r : List (S32)) (w : World) (h : cornucopiabook_markEntries.f k a0 a1 a2 = some r) :
  Calls Tryz.prog 219 #[.int .i64 a0, .int .i64 a1, .int .i64 a2] w fun e w' => ∃ v0_ : Value, e = .returned (v0_) ∧ Kd.R k32 32 w' w.heap.size (fun _ => True) v0_ r ∧ Below w.heap.size w w' := by
 have hu32 := Tryz.underlying32
 have HB := a_k (Below.refl w.heap.size w)
 have H : (cornucopiabook_markEntries.l0 k a0 a1 a2 ([] : List (S32)) a1) = some r := h
 clear h
 have H' := a_k H
 clear H
 go_enter Tryz.func219, Tryz.ntmps219
 go_wp2
 go_loopg [7, 8] k (fun kq v7 v8 w' => ∃ (x7_1 : List (S32)) (x8_1 : Int), v8 = .int .i64 x8_1 ∧ Aside0 (cornucopiabook_markEntries.l0 kq a0 a1 a2 x7_1 x8_1 = some r) ∧ Aside0 (kq ≤ k) ∧ Aside0 (Kd.R k32 32 w' w.heap.size (fun _ => True) v7 x7_1) ∧ Aside0 (Below w.heap.size w w'))
 case atStart => exact ⟨(([] : List (S32))), (a1), (by first | rfl | (simp; done) | (simp [*]; done)), H', ⟨Nat.le_refl _⟩, ⟨by first | exact Kd.R_nil _ _ _ _ _ | exact Kd.N_nil _ _ _ _ _ | exact Kd.V_nil _ _ _ _ _ | exact Kd.Q_nil _ _ _ _ _ | exact Kd.S_nil _ _ _ _ _⟩, ⟨by repeat (first | exact HB.out | apply b_a | apply b_n | apply b_d)⟩⟩
 case round =>
  clear H'
  try clear c2
  try clear p2
  obtain ⟨x7_1, x8_1, rfl, HA, HK1, HO_7, HB⟩ := hrel
  cases gk with
  | zero => exact absurd HA.out (by simp [cornucopiabook_markEntries.l0])
  | succ k1 =>
   have H := HA.out
   clear HA
   simp only [cornucopiabook_markEntries.l0] at H
   by_cases c4 : x8_1 < (wrap64 (a1 + a2))
   ·rw [if_pos c4] at H
    have c4b0 : decide (x8_1 < (wrap64 (a1 + a2))) = true := decide_eq_true c4
    clear c4
    replace H := Option.bind_eq_some_iff.mp H
    obtain ⟨t176, A50, H⟩ := H
    replace H : (if x7_1.length < 2932031007402 then (cornucopiabook_markEntries.l0 k1 a0 a1 a2 (x7_1 ++ [(⟨t176, 0, 0, (⟨#[]⟩ : ByteArray)⟩ : S32)]) (wrap64 (x8_1 + 1))) else (none)) = some r := H
    have A5 := a_k A50
    clear A50
    by_cases c6 : x7_1.length < 2932031007402
    ·rw [if_pos c6] at H
     have LMc6 := a_k c6
     clear c6
     obtain ⟨y177, hy177⟩ : ∃ y_ : List (S32), y_ = (x7_1 ++ [(⟨t176, 0, 0, (⟨#[]⟩ : ByteArray)⟩ : S32)]) := ⟨_, rfl⟩
     replace H : (cornucopiabook_markEntries.l0 k1 a0 a1 a2 y177 (wrap64 (x8_1 + 1))) = some r := by first | (rw [hy177]; with_reducible exact H) | (have H2_ := (Option.bind_some _ _).symm.trans H; rw [hy177]; with_reducible exact H2_) | (have H2_ := (Option.bind_some _ _).symm.trans H; with_reducible exact H2_) | with_reducible exact H | (rw [hy177]; exact H) | exact H
     have Ny177 := a_k hy177
     clear hy177
     have H' := a_k H
     clear H
     go_wp2_with (first | ((with_reducible refine gate_callee (f := 249) rfl ?_); refine goesL_ (some 20) rfl rfl Tryz.func249 (by kernel_rfl) rfl #[.int .i64 a0, .int .i64 x8_1] rfl (by (try simp only [m_a, m_c, m_n]); first | done | rfl) ?_; (with_reducible refine (cornucopiabook_name.calls a0 x8_1 t176 _ A5.out).mono ?_); rintro e w7 ⟨rfl, hb⟩; refine ⟨_, rfl, ?_⟩; have n0_ := a_k (Kd.R_below (by (with_reducible repeat (first | apply Kd.R_alloc | apply Kd.R_drewN | apply Kd.R_drew)); exact HO_7.out) hb); have n1_ := a_k (below_step (by repeat (first | exact HB.out | apply b_a | apply b_n | apply b_d)) hb); clear HO_7; clear HB; have HO_7 := n0_; have HB := n1_; clear n0_ n1_; (try clear hb); (try clear hb2); (try clear hk); (try clear hi)) | ((with_reducible refine gate_builtin (b := .append) (xs := #[.tmp 17, .tmp 22]) rfl ?_); at_builtin; refine Kd.R_append k32 (w0 := w) w.heap.size rfl (.tmp 17) (.tmp 22) 22 32 (.agg #[(.string ⟨#[]⟩), (.int .u64 0), (.int .i64 0), (.string ⟨#[]⟩)]) 48 rfl Tryz.underlying22 info32 rfl (by decide) (by omega) u7 x7_1 (⟨t176, 0, 0, (⟨#[]⟩ : ByteArray)⟩ : S32) [.string t176, .int .u64 0, .int .i64 0, .string (⟨#[]⟩ : ByteArray)] (fun _ => True) (fun _ => False) rfl rfl ?aP (fun _ hk => hk.elim) ?aF ?aO ?aB ?aS ?aL ?_; (case aP => exact k32_mkM _ _ _ (⟨t176, 0, 0, (⟨#[]⟩ : ByteArray)⟩ : S32)); (case aB => exact (by repeat (first | exact HB.out | apply b_a | apply b_n | apply b_d))); (case aF => exact (fun _ _ => trivial)); (case aO => exact (by (with_reducible repeat (first | apply Kd.R_alloc | apply Kd.R_drewN | apply Kd.R_drew)); exact HO_7.out)); (case aS => exact (below_size (by repeat (first | exact HB.out | apply b_a | apply b_n | apply b_d)))); (case aL => have := LMc6.out; omega); intro v178 w8 ho hb hg hat; rw [← Ny177.out] at ho; have n0_ := a_k (hb); have n1_ := a_k (ho); clear HB; clear HO_7; have HB := n0_; have HO179 := n1_; clear n0_ n1_; clear ho hb hg hat))
     go_roundg k1
     case measure => have := HK1.out; omega
     case rel => exact ⟨(y177), (wrap64 (x8_1 + 1)), (by first | rfl | (simp; done) | (simp [*]; done)), H', ⟨by have := HK1.out; omega⟩, ⟨by (with_reducible repeat (first | apply Kd.R_alloc | apply Kd.R_drewN | apply Kd.R_drew)); exact HO179.out⟩, ⟨by repeat (first | exact HB.out | apply b_a | apply b_n | apply b_d)⟩⟩
    ·rw [if_neg c6] at H
     exact absurd H (by simp)
   ·rw [if_neg c4] at H
    have c4b0 : decide (x8_1 < (wrap64 (a1 + a2))) = false := decide_eq_false c4
    clear c4
    obtain rfl := Option.some.inj H
    go_wp2
    go_ret
    exact ⟨_, by first | rfl | (simp [*, errW_none, errW_some] <;> rfl), by (with_reducible repeat (first | apply Kd.R_alloc | apply Kd.R_drewN | apply Kd.R_drew)); exact HO_7.out, by repeat (first | exact HB.out | apply b_a | apply b_n | apply b_d)⟩
def cornucopiabook_markedEntries.l0 : Nat → List (List (S32)) → Int → Option (Bool)
 | 0, _, _ => none
 | k + 1, x0, x3 => if x3 < (x0.length : Int) then (if 0 ≤ x3 then ((cornucopiabook_markEntries.f k x3 0 ((rd_L17 x0 x3).length : Int)).bind fun t218 => ((cornucopiabook_SameEntries.f k (rd_L17 x0 x3) t218).bind fun t221 => (if t221 = true then (cornucopiabook_markedEntries.l0 k x0 (wrap64 (x3 + 1))) else (some false)))) else (none)) else (some true)
def cornucopiabook_markedEntries.f (k : Nat) (l0 : List (List (S32))) : Option (Bool) := cornucopiabook_markedEntries.l0 k l0 0
def cornucopiabook_markedEntries.T4 : Bool × List (List Nat × List Nat) := (true, [([], []), ([], []), ([0, 1], [0, 1]), ([2], [2]), ([], []), ([], []), ([], []), ([5, 6], [5, 6]), ([7], [7]), ([8], [8]), ([4, 9], [4, 9]), ([3, 10, 10], [3, 10]), ([11], [11])])
def cornucopiabook_markedEntries.B4 : List Nat := [0, 0, 3, 7, 0, 0, 0, 96, 224, 480, 1008, 2047, 4095]
theorem cornucopiabook_markedEntries.tab4 : rtab .any (opsOf Tryz.f149 4) = cornucopiabook_markedEntries.T4 := by kernel_rfl
theorem cornucopiabook_markedEntries.bits4 : waitsOk cornucopiabook_markedEntries.T4.2 cornucopiabook_markedEntries.B4 = true := by kernel_rfl
theorem cornucopiabook_markedEntries.calls (k : Nat) (A0 : Option Addr) (c0 : Nat) (l0 : List (List (S32))) (r : Bool) (w : World) (hr0 : Kd.C (Kd.slice 32 k32) w A0 l0.length l0) (hc0 : l0.length ≤ c0) (h : cornucopiabook_markedEntries.f k l0 = some r) :
  Calls Tryz.prog 149 #[.slice A0 l0.length c0] w fun e w' => e = .returned (.bool r) ∧ Below w.heap.size w w' := by
 have HR0 := a_k hr0
 have HC0 := a_k hc0
 clear hr0 hc0
 have HB := a_k (Below.refl w.heap.size w)
 have H : (cornucopiabook_markedEntries.l0 k l0 0) = some r := h
 clear h
 have H' := a_k H
 clear H
 go_enter Tryz.func149, Tryz.ntmps149
 go_wp2
 go_loopg [3] k (fun kq v3 w' => ∃ (x3_1 : Int), v3 = .int .i64 x3_1 ∧ Aside0 (cornucopiabook_markedEntries.l0 kq l0 x3_1 = some r) ∧ Aside0 (kq ≤ k) ∧ Aside0 (Below w.heap.size w w'))
 case atStart => exact ⟨(0), (by first | rfl | (simp; done) | (simp [*]; done)), H', ⟨Nat.le_refl _⟩, ⟨by repeat (first | exact HB.out | apply b_a | apply b_n | apply b_d)⟩⟩
 case round =>
  clear H'
  try clear c1
  obtain ⟨x3_1, rfl, HA, HK1, HB⟩ := hrel
  cases gk with
  | zero => exact absurd HA.out (by simp [cornucopiabook_markedEntries.l0])
  | succ k1 =>
   have H := HA.out
   clear HA
   simp only [cornucopiabook_markedEntries.l0] at H
   by_cases c2 : x3_1 < (l0.length : Int)
   ·rw [if_pos c2] at H
    have c2b0 : decide (x3_1 < (l0.length : Int)) = true := decide_eq_true c2
    clear c2
    by_cases c3 : 0 ≤ x3_1
    ·rw [if_pos c3] at H
     have c3b0 : decide (0 ≤ x3_1) = true := decide_eq_true c3
     clear c3
     replace H := Option.bind_eq_some_iff.mp H
     obtain ⟨t218, A40, H⟩ := H
     replace H : ((cornucopiabook_SameEntries.f k1 (rd_L17 l0 x3_1) t218).bind fun t221 => (if t221 = true then (cornucopiabook_markedEntries.l0 k1 l0 (wrap64 (x3_1 + 1))) else (some false))) = some r := H
     have A4 := a_k A40
     clear A40
     replace H := Option.bind_eq_some_iff.mp H
     obtain ⟨t221, A50, H⟩ := H
     replace H : (if t221 = true then (cornucopiabook_markedEntries.l0 k1 l0 (wrap64 (x3_1 + 1))) else (some false)) = some r := H
     have A5 := a_k A50
     clear A50
     by_cases c6 : t221 = true
     ·subst c6
      have H1 : (cornucopiabook_markedEntries.l0 k1 l0 (wrap64 (x3_1 + 1))) = some r := by rw [if_pos rfl] at H; exact H
      clear H
      have H := H1
      clear H1
      have H' := a_k H
      clear H
      try go_wp2
      have n0_ := a_k (below_drew1 HB.out)
      clear HB
      have HB := n0_
      clear n0_
      have p216 : 0 ≤ (x3_1 : Int) := of_decide_eq_true (by assumption)
      have q216 : x3_1 < (l0.length : Int) := of_decide_eq_true (by assumption)
      obtain ⟨ad216, A216_0, c216_0, e216, hx216_0, hl216_0, hi216_0⟩ := at_L17 HR0.out x3_1 p216 q216
      have hw216_0 := hx216_0
      cases e216
      replace hx216_0 := c_b HB.out hx216_0
      have HR216_0 := a_k hi216_0
      have HC216_0 := a_k hl216_0
      clear hi216_0 hl216_0
      replace p216 := eq_true p216
      replace q216 := eq_true q216
      have p217 : 0 ≤ (x3_1 : Int) := of_decide_eq_true (by assumption)
      have q217 : x3_1 < (l0.length : Int) := of_decide_eq_true (by assumption)
      obtain ⟨ad217, A217_0, c217_0, e217, hx217_0, hl217_0, hi217_0⟩ := at_L17 HR0.out x3_1 p217 q217
      have hw217_0 := hx217_0
      obtain rfl : ad216 = ad217 := (by injection e217)
      replace hx217_0 := c_b HB.out hx217_0
      have HR217_0 := a_k hi217_0
      have HC217_0 := a_k hl217_0
      clear hi217_0 hl217_0
      replace p217 := eq_true p217
      replace q217 := eq_true q217
      have ea_ := Option.some.inj (hx216_0.symm.trans hx217_0)
      injection ea_ with ea_ en_ ec_
      subst ea_
      subst ec_
      clear en_
      refine start_ (n := 13) (S := fun w' => w'.cell? (ad216.add (x3_1).toNat) = some (.slice A216_0 (rd_L17 l0 x3_1).length c216_0) ∧ w'.cell? (ad216.add (x3_1).toNat) = some (.slice A216_0 (rd_L17 l0 x3_1).length c216_0)) (ds := []) #[Z,Z,Z,Z,Z,Z,Z,Z,Z,Z,Z,Z,Z] (by kernel_rfl) rfl rfl ⟨(c_b HB.out hw216_0:), (c_b HB.out hw217_0:)⟩ (fun hHeld => ?_); refine with_tabW cornucopiabook_markedEntries.tab4 cornucopiabook_markedEntries.bits4 (fun HT_ HW_ => ?_)
      generalize wr.drew = w7 at HB HR216_0 HR217_0 hx216_0 hx217_0 hHeld ⊢
      refine pure_ (i := 0) (N := some 10) (v := ?_) (a' := ?_) #[J,Z,Z,Z,Z,Z,Z,Z,Z,Z,Z,Z,Z] rfl rfl (any_of HT_.out (by kernel_rfl)) (fun _ _ _ h => h) (Or.inl ⟨by rfl, ?_⟩) ?_ ?_
      rotate_left
      ·intro w'
       go_simp
       with_reducible rfl
      rotate_left
      ·simp only [Act.put, l_s, l_0, l_1, i64_w, i32_w]
       rfl
      refine pure_ (i := 1) (N := some 11) (v := ?_) (a' := ?_) #[J,J,Z,Z,Z,Z,Z,Z,Z,Z,Z,Z,Z] rfl rfl (any_of HT_.out (by kernel_rfl)) (fun _ _ _ h => h) (Or.inl ⟨by rfl, ?_⟩) ?_ ?_
      rotate_left
      ·intro w'
       go_simp
       with_reducible rfl
      rotate_left
      ·simp only [Act.put, l_s, l_0, l_1, i64_w, i32_w]
       rfl
      refine pure_ (i := 2) (N := some 12) (v := ?_) (a' := ?_) #[J,J,J,Z,Z,Z,Z,Z,Z,Z,Z,Z,Z] rfl rfl (any_of HT_.out (by kernel_rfl)) (fun _ _ _ h => h) (Or.inl ⟨by rfl, ?_⟩) ?_ ?_
      rotate_left
      ·intro w'
       go_simp
       with_reducible rfl
      rotate_left
      ·simp only [Act.put, l_s, l_0, l_1, i64_w, i32_w]
       rfl
      refine pure_ (i := 4) (N := some 14) (v := ?_) (a' := ?_) #[J,J,J,Z,J,Z,Z,Z,Z,Z,Z,Z,Z] rfl rfl (any_of HT_.out (by kernel_rfl)) (fun _ _ _ h => h) (Or.inl ⟨by rfl, ?_⟩) ?_ ?_
      rotate_left
      ·intro w'
       go_simp
       with_reducible rfl
      rotate_left
      ·simp only [Act.put, l_s, l_0, l_1, i64_w, i32_w]
       rfl
      refine pure_ (i := 5) (N := some 15) (v := ?_) (a' := ?_) #[J,J,J,Z,J,J,Z,Z,Z,Z,Z,Z,Z] rfl rfl (any_of HT_.out (by kernel_rfl)) (fun _ _ _ h => h) (Or.inl ⟨by rfl, ?_⟩) ?_ ?_
      rotate_left
      ·intro w'
       go_simp
       with_reducible rfl
      rotate_left
      ·simp only [Act.put, l_s, l_0, l_1, i64_w, i32_w]
       rfl
      refine pure_ (i := 6) (N := some 16) (v := ?_) (a' := ?_) #[J,J,J,Z,J,J,J,Z,Z,Z,Z,Z,Z] rfl rfl (any_of HT_.out (by kernel_rfl)) (fun _ _ _ h => h) (Or.inl ⟨by rfl, ?_⟩) ?_ ?_
      rotate_left
      ·intro w'
       go_simp
       with_reducible rfl
      rotate_left
      ·simp only [Act.put, l_s, l_0, l_1, i64_w, i32_w]
       rfl
      refine pure_ (i := 7) (N := some 17) (v := ?_) (a' := ?_) #[J,J,J,Z,J,J,J,J,Z,Z,Z,Z,Z] rfl rfl (any_of HT_.out (by kernel_rfl)) (fun _ _ _ h => h) (Or.inl ⟨by rfl, ?_⟩) ?_ ?_
      rotate_left
      ·intro w'
       go_simp
       with_reducible rfl
      rotate_left
      ·simp only [Act.put, l_s, l_0, l_1, i64_w, i32_w]
       rfl
      refine take_ (i := 3) (N := some 13) (v := ?_) (a' := ?_) #[J,J,J,J,J,J,J,J,Z,Z,Z,Z,Z] rfl rfl (take_ofW HT_.out HW_.out (by kernel_rfl)) (fun _ _ _ h => h) (Or.inl ⟨by rfl, ?_⟩) hHeld ?_ ?_
      rotate_left
      ·rintro w' ⟨s0, s1⟩
       go_simp
       with_reducible rfl
      rotate_left
      ·simp only [Act.put, l_s, l_0, l_1, i64_w, i32_w]
       rfl
      refine take_ (i := 8) (N := some 18) (v := ?_) (a' := ?_) #[J,J,J,J,J,J,J,J,J,Z,Z,Z,Z] rfl rfl (take_ofW HT_.out HW_.out (by kernel_rfl)) (fun _ _ _ h => h) (Or.inl ⟨by rfl, ?_⟩) hHeld ?_ ?_
      rotate_left
      ·rintro w' ⟨s0, s1⟩
       go_simp
       with_reducible rfl
      rotate_left
      ·simp only [Act.put, l_s, l_0, l_1, i64_w, i32_w]
       rfl
      refine pure_ (i := 9) (N := some 19) (v := ?_) (a' := ?_) #[J,J,J,J,J,J,J,J,J,J,Z,Z,Z] rfl rfl (any_of HT_.out (by kernel_rfl)) (fun _ _ _ h => h) (Or.inl ⟨by rfl, ?_⟩) ?_ ?_
      rotate_left
      ·intro w'
       go_simp
       with_reducible rfl
      rotate_left
      ·simp only [Act.put, l_s, l_0, l_1, i64_w, i32_w]
       rfl
      refine one_ (i := 10) (N := some 20) #[J,J,J,J,J,J,J,J,J,J,J,Z,Z] rfl rfl (one_of HT_.out (by kernel_rfl)) (by decide) (fun K hK => ?_)
      refine goes_ Tryz.func219 (by kernel_rfl) rfl #[.int .i64 x3_1, .int .i64 0, .int .i64 ((rd_L17 l0 x3_1).length : Int)] (by rfl) rfl rfl (by (try simp only [m_a, m_c, m_n]); first | done | rfl) ?_
      with_reducible refine (cornucopiabook_markEntries.calls k1 x3_1 0 ((rd_L17 l0 x3_1).length : Int) t218 _ A4.out).mono ?_
      rintro e w8 ⟨v219, rfl, ho0, hb⟩
      refine ⟨_, rfl, ?_⟩
      have n0_ := a_k (Kd.R_lower ho0 (below_size (by repeat (first | exact HB.out | apply b_a | apply b_n | apply b_d))))
      have n1_ := a_k (below_step (by repeat (first | exact HB.out | apply b_a | apply b_n | apply b_d)) hb)
      clear HB
      have HO220 := n0_
      have HB := n1_
      clear n0_ n1_
      (try clear hb)
      (try clear hb2)
      (try clear hk)
      (try clear hi)
      (try clear ho0)
      obtain ⟨Ao9, co9, eo9⟩ := Kd.R_slice HO220.out
      (first | subst eo9 | (injection eo9 with f1_ f2_ f3_; have f4_ := f1_.symm; have f5_ := f3_.symm; clear f1_ f2_ f3_; subst f4_; subst f5_))
      refine hK.out _ _ ⟨(c_b HB.out hw216_0:), (c_b HB.out hw217_0:)⟩ (fun hHeld => ?_)
      clear hK K
      refine norm_ (a' := ?_) ?_ ?_
      rotate_left
      ·show Act.put _ (some 20) _ = _
       simp only [Act.put, l_s, l_0, l_1, i64_w, i32_w]
       rfl
      refine one_ (i := 11) (N := some 21) #[J,J,J,J,J,J,J,J,J,J,J,J,Z] rfl rfl (one_of HT_.out (by kernel_rfl)) (by decide) (fun K hK => ?_)
      refine goes_ Tryz.func19 (by kernel_rfl) rfl #[.slice A216_0 (rd_L17 l0 x3_1).length c216_0, .slice Ao9 t218.length co9] (by rfl) rfl rfl (by (try simp only [m_a, m_c, m_n]); first | done | rfl) ?_
      with_reducible refine (cornucopiabook_SameEntries.calls k1 _ _ (rd_L17 l0 x3_1) _ _ t218 true _ ?side1 ?side2 ?side3 ?side4 A5.out).mono ?_
      (case side1 => repeat (first | exact (Kd.C_below HR216_0.out HB.out) | (with_reducible refine Kd.C_alloc ?_ _) | (with_reducible refine Kd.C_drewN ?_ _) | (with_reducible refine Kd.C_drew ?_)))
      (case side2 => exact HC216_0.out)
      (case side3 => repeat (first | exact (Kd.R_reads' HO220.out).2.2 | (with_reducible refine Kd.C_alloc ?_ _) | (with_reducible refine Kd.C_drewN ?_ _) | (with_reducible refine Kd.C_drew ?_)))
      (case side4 => exact (Kd.R_reads' HO220.out).2.1)
      rintro e w' ⟨rfl, ⟨nd, rfl⟩⟩
      refine ⟨_, rfl, ?_⟩
      refine hK.out _ _ ⟨(c_b HB.out hw216_0:), (c_b HB.out hw217_0:)⟩ (fun hHeld => ?_)
      clear hK K
      refine norm_ (a' := ?_) ?_ ?_
      rotate_left
      ·show Act.put _ (some 21) _ = _
       simp only [Act.put, l_s, l_0, l_1, i64_w, i32_w]
       rfl
      refine pure_ (i := 12) (N := some 22) (v := ?_) (a' := ?_) #[J,J,J,J,J,J,J,J,J,J,J,J,J] rfl rfl (any_of HT_.out (by kernel_rfl)) (fun _ _ _ h => h) (Or.inl ⟨by rfl, ?_⟩) ?_ ?_
      rotate_left
      ·intro w'
       go_simp
       with_reducible rfl
      rotate_left
      ·simp only [Act.put, l_s, l_0, l_1, i64_w, i32_w]
       rfl
      refine done_ (done_of HT_.out (by kernel_rfl)) ?_
      try go_wp2
      go_roundg k1
      case measure => have := HK1.out; omega
      case rel => exact ⟨(wrap64 (x3_1 + 1)), (by first | rfl | (simp; done) | (simp [*]; done)), H', ⟨by have := HK1.out; omega⟩, ⟨by repeat (first | exact HB.out | apply b_a | apply b_n | apply b_d)⟩⟩
     ·replace c6 := Bool.eq_false_iff.mpr c6
      subst c6
      have H1 : (some false) = some r := by rw [if_neg (show ¬ (false = true) by decide)] at H; exact H
      clear H
      have H := H1
      clear H1
      obtain rfl := Option.some.inj H
      try go_wp2
      have n0_ := a_k (below_drew1 HB.out)
      clear HB
      have HB := n0_
      clear n0_
      have p216 : 0 ≤ (x3_1 : Int) := of_decide_eq_true (by assumption)
      have q216 : x3_1 < (l0.length : Int) := of_decide_eq_true (by assumption)
      obtain ⟨ad216, A216_0, c216_0, e216, hx216_0, hl216_0, hi216_0⟩ := at_L17 HR0.out x3_1 p216 q216
      have hw216_0 := hx216_0
      cases e216
      replace hx216_0 := c_b HB.out hx216_0
      have HR216_0 := a_k hi216_0
      have HC216_0 := a_k hl216_0
      clear hi216_0 hl216_0
      replace p216 := eq_true p216
      replace q216 := eq_true q216
      have p217 : 0 ≤ (x3_1 : Int) := of_decide_eq_true (by assumption)
      have q217 : x3_1 < (l0.length : Int) := of_decide_eq_true (by assumption)
      obtain ⟨ad217, A217_0, c217_0, e217, hx217_0, hl217_0, hi217_0⟩ := at_L17 HR0.out x3_1 p217 q217
      have hw217_0 := hx217_0
      obtain rfl : ad216 = ad217 := (by injection e217)
      replace hx217_0 := c_b HB.out hx217_0
      have HR217_0 := a_k hi217_0
      have HC217_0 := a_k hl217_0
      clear hi217_0 hl217_0
      replace p217 := eq_true p217
      replace q217 := eq_true q217
      have ea_ := Option.some.inj (hx216_0.symm.trans hx217_0)
      injection ea_ with ea_ en_ ec_
      subst ea_
      subst ec_
      clear en_
      refine start_ (n := 13) (S := fun w' => w'.cell? (ad216.add (x3_1).toNat) = some (.slice A216_0 (rd_L17 l0 x3_1).length c216_0) ∧ w'.cell? (ad216.add (x3_1).toNat) = some (.slice A216_0 (rd_L17 l0 x3_1).length c216_0)) (ds := []) #[Z,Z,Z,Z,Z,Z,Z,Z,Z,Z,Z,Z,Z] (by kernel_rfl) rfl rfl ⟨(c_b HB.out hw216_0:), (c_b HB.out hw217_0:)⟩ (fun hHeld => ?_); refine with_tabW cornucopiabook_markedEntries.tab4 cornucopiabook_markedEntries.bits4 (fun HT_ HW_ => ?_)
      generalize wr.drew = w10 at HB HR216_0 HR217_0 hx216_0 hx217_0 hHeld ⊢
      refine pure_ (i := 0) (N := some 10) (v := ?_) (a' := ?_) #[J,Z,Z,Z,Z,Z,Z,Z,Z,Z,Z,Z,Z] rfl rfl (any_of HT_.out (by kernel_rfl)) (fun _ _ _ h => h) (Or.inl ⟨by rfl, ?_⟩) ?_ ?_
      rotate_left
      ·intro w'
       go_simp
       with_reducible rfl
      rotate_left
      ·simp only [Act.put, l_s, l_0, l_1, i64_w, i32_w]
       rfl
      refine pure_ (i := 1) (N := some 11) (v := ?_) (a' := ?_) #[J,J,Z,Z,Z,Z,Z,Z,Z,Z,Z,Z,Z] rfl rfl (any_of HT_.out (by kernel_rfl)) (fun _ _ _ h => h) (Or.inl ⟨by rfl, ?_⟩) ?_ ?_
      rotate_left
      ·intro w'
       go_simp
       with_reducible rfl
      rotate_left
      ·simp only [Act.put, l_s, l_0, l_1, i64_w, i32_w]
       rfl
      refine pure_ (i := 2) (N := some 12) (v := ?_) (a' := ?_) #[J,J,J,Z,Z,Z,Z,Z,Z,Z,Z,Z,Z] rfl rfl (any_of HT_.out (by kernel_rfl)) (fun _ _ _ h => h) (Or.inl ⟨by rfl, ?_⟩) ?_ ?_
      rotate_left
      ·intro w'
       go_simp
       with_reducible rfl
      rotate_left
      ·simp only [Act.put, l_s, l_0, l_1, i64_w, i32_w]
       rfl
      refine pure_ (i := 4) (N := some 14) (v := ?_) (a' := ?_) #[J,J,J,Z,J,Z,Z,Z,Z,Z,Z,Z,Z] rfl rfl (any_of HT_.out (by kernel_rfl)) (fun _ _ _ h => h) (Or.inl ⟨by rfl, ?_⟩) ?_ ?_
      rotate_left
      ·intro w'
       go_simp
       with_reducible rfl
      rotate_left
      ·simp only [Act.put, l_s, l_0, l_1, i64_w, i32_w]
       rfl
      refine pure_ (i := 5) (N := some 15) (v := ?_) (a' := ?_) #[J,J,J,Z,J,J,Z,Z,Z,Z,Z,Z,Z] rfl rfl (any_of HT_.out (by kernel_rfl)) (fun _ _ _ h => h) (Or.inl ⟨by rfl, ?_⟩) ?_ ?_
      rotate_left
      ·intro w'
       go_simp
       with_reducible rfl
      rotate_left
      ·simp only [Act.put, l_s, l_0, l_1, i64_w, i32_w]
       rfl
      refine pure_ (i := 6) (N := some 16) (v := ?_) (a' := ?_) #[J,J,J,Z,J,J,J,Z,Z,Z,Z,Z,Z] rfl rfl (any_of HT_.out (by kernel_rfl)) (fun _ _ _ h => h) (Or.inl ⟨by rfl, ?_⟩) ?_ ?_
      rotate_left
      ·intro w'
       go_simp
       with_reducible rfl
      rotate_left
      ·simp only [Act.put, l_s, l_0, l_1, i64_w, i32_w]
       rfl
      refine pure_ (i := 7) (N := some 17) (v := ?_) (a' := ?_) #[J,J,J,Z,J,J,J,J,Z,Z,Z,Z,Z] rfl rfl (any_of HT_.out (by kernel_rfl)) (fun _ _ _ h => h) (Or.inl ⟨by rfl, ?_⟩) ?_ ?_
      rotate_left
      ·intro w'
       go_simp
       with_reducible rfl
      rotate_left
      ·simp only [Act.put, l_s, l_0, l_1, i64_w, i32_w]
       rfl
      refine take_ (i := 3) (N := some 13) (v := ?_) (a' := ?_) #[J,J,J,J,J,J,J,J,Z,Z,Z,Z,Z] rfl rfl (take_ofW HT_.out HW_.out (by kernel_rfl)) (fun _ _ _ h => h) (Or.inl ⟨by rfl, ?_⟩) hHeld ?_ ?_
      rotate_left
      ·rintro w' ⟨s0, s1⟩
       go_simp
       with_reducible rfl
      rotate_left
      ·simp only [Act.put, l_s, l_0, l_1, i64_w, i32_w]
       rfl
      refine take_ (i := 8) (N := some 18) (v := ?_) (a' := ?_) #[J,J,J,J,J,J,J,J,J,Z,Z,Z,Z] rfl rfl (take_ofW HT_.out HW_.out (by kernel_rfl)) (fun _ _ _ h => h) (Or.inl ⟨by rfl, ?_⟩) hHeld ?_ ?_
      rotate_left
      ·rintro w' ⟨s0, s1⟩
       go_simp
       with_reducible rfl
      rotate_left
      ·simp only [Act.put, l_s, l_0, l_1, i64_w, i32_w]
       rfl
      refine pure_ (i := 9) (N := some 19) (v := ?_) (a' := ?_) #[J,J,J,J,J,J,J,J,J,J,Z,Z,Z] rfl rfl (any_of HT_.out (by kernel_rfl)) (fun _ _ _ h => h) (Or.inl ⟨by rfl, ?_⟩) ?_ ?_
      rotate_left
      ·intro w'
       go_simp
       with_reducible rfl
      rotate_left
      ·simp only [Act.put, l_s, l_0, l_1, i64_w, i32_w]
       rfl
      refine one_ (i := 10) (N := some 20) #[J,J,J,J,J,J,J,J,J,J,J,Z,Z] rfl rfl (one_of HT_.out (by kernel_rfl)) (by decide) (fun K hK => ?_)
      refine goes_ Tryz.func219 (by kernel_rfl) rfl #[.int .i64 x3_1, .int .i64 0, .int .i64 ((rd_L17 l0 x3_1).length : Int)] (by rfl) rfl rfl (by (try simp only [m_a, m_c, m_n]); first | done | rfl) ?_
      with_reducible refine (cornucopiabook_markEntries.calls k1 x3_1 0 ((rd_L17 l0 x3_1).length : Int) t218 _ A4.out).mono ?_
      rintro e w11 ⟨v219, rfl, ho0, hb⟩
      refine ⟨_, rfl, ?_⟩
      have n0_ := a_k (Kd.R_lower ho0 (below_size (by repeat (first | exact HB.out | apply b_a | apply b_n | apply b_d))))
      have n1_ := a_k (below_step (by repeat (first | exact HB.out | apply b_a | apply b_n | apply b_d)) hb)
      clear HB
      have HO220 := n0_
      have HB := n1_
      clear n0_ n1_
      (try clear hb)
      (try clear hb2)
      (try clear hk)
      (try clear hi)
      (try clear ho0)
      obtain ⟨Ao12, co12, eo12⟩ := Kd.R_slice HO220.out
      (first | subst eo12 | (injection eo12 with f1_ f2_ f3_; have f4_ := f1_.symm; have f5_ := f3_.symm; clear f1_ f2_ f3_; subst f4_; subst f5_))
      refine hK.out _ _ ⟨(c_b HB.out hw216_0:), (c_b HB.out hw217_0:)⟩ (fun hHeld => ?_)
      clear hK K
      refine norm_ (a' := ?_) ?_ ?_
      rotate_left
      ·show Act.put _ (some 20) _ = _
       simp only [Act.put, l_s, l_0, l_1, i64_w, i32_w]
       rfl
      refine one_ (i := 11) (N := some 21) #[J,J,J,J,J,J,J,J,J,J,J,J,Z] rfl rfl (one_of HT_.out (by kernel_rfl)) (by decide) (fun K hK => ?_)
      refine goes_ Tryz.func19 (by kernel_rfl) rfl #[.slice A216_0 (rd_L17 l0 x3_1).length c216_0, .slice Ao12 t218.length co12] (by rfl) rfl rfl (by (try simp only [m_a, m_c, m_n]); first | done | rfl) ?_
      with_reducible refine (cornucopiabook_SameEntries.calls k1 _ _ (rd_L17 l0 x3_1) _ _ t218 false _ ?side1 ?side2 ?side3 ?side4 A5.out).mono ?_
      (case side1 => repeat (first | exact (Kd.C_below HR216_0.out HB.out) | (with_reducible refine Kd.C_alloc ?_ _) | (with_reducible refine Kd.C_drewN ?_ _) | (with_reducible refine Kd.C_drew ?_)))
      (case side2 => exact HC216_0.out)
      (case side3 => repeat (first | exact (Kd.R_reads' HO220.out).2.2 | (with_reducible refine Kd.C_alloc ?_ _) | (with_reducible refine Kd.C_drewN ?_ _) | (with_reducible refine Kd.C_drew ?_)))
      (case side4 => exact (Kd.R_reads' HO220.out).2.1)
      rintro e w' ⟨rfl, ⟨nd, rfl⟩⟩
      refine ⟨_, rfl, ?_⟩
      refine hK.out _ _ ⟨(c_b HB.out hw216_0:), (c_b HB.out hw217_0:)⟩ (fun hHeld => ?_)
      clear hK K
      refine norm_ (a' := ?_) ?_ ?_
      rotate_left
      ·show Act.put _ (some 21) _ = _
       simp only [Act.put, l_s, l_0, l_1, i64_w, i32_w]
       rfl
      refine pure_ (i := 12) (N := some 22) (v := ?_) (a' := ?_) #[J,J,J,J,J,J,J,J,J,J,J,J,J] rfl rfl (any_of HT_.out (by kernel_rfl)) (fun _ _ _ h => h) (Or.inl ⟨by rfl, ?_⟩) ?_ ?_
      rotate_left
      ·intro w'
       go_simp
       with_reducible rfl
      rotate_left
      ·simp only [Act.put, l_s, l_0, l_1, i64_w, i32_w]
       rfl
      refine done_ (done_of HT_.out (by kernel_rfl)) ?_
      try go_wp2
      go_ret
      exact ⟨by first | rfl | (simp [*, errW_none, errW_some] <;> rfl), by repeat (first | exact HB.out | apply b_a | apply b_n | apply b_d)⟩
    ·rw [if_neg c3] at H
     exact absurd H (by simp)
   ·rw [if_neg c2] at H
    have c2b0 : decide (x3_1 < (l0.length : Int)) = false := decide_eq_false c2
    clear c2
    obtain rfl := Option.some.inj H
    go_wp2
    go_ret
    exact ⟨by first | rfl | (simp [*, errW_none, errW_some] <;> rfl), by repeat (first | exact HB.out | apply b_a | apply b_n | apply b_d)⟩
def cornucopialaw5_Small.l0 : Nat → List (S32) → Int → Int → Option (Bool)
 | 0, _, _, _ => none
 | k + 1, x0, x3, x4 => if x4 < (x0.length : Int) then (if x4 < 400 then (if x3 ≥ 0 then (if 0 ≤ x4 then ((cornucopiabook_Room.f k x3 (([(((rd_T32 x0 x4).f0).size : Int), (((rd_T32 x0 x4).f3).size : Int)] : List Int))).bind fun t108 => (cornucopialaw5_Small.l0 k x0 t108 (wrap64 (x4 + 1)))) else (none)) else (if (x0.length : Int) ≤ 150 then (some (decide (x3 ≥ 0))) else (some false))) else (if (x0.length : Int) ≤ 150 then (some (decide (x3 ≥ 0))) else (some false))) else (if (x0.length : Int) ≤ 150 then (some (decide (x3 ≥ 0))) else (some false))
def cornucopialaw5_Small.f (k : Nat) (l0 : List (S32)) : Option (Bool) := cornucopialaw5_Small.l0 k l0 20000 0
def cornucopialaw5_Small.T5 : Bool × List (List Nat × List Nat) := (true, [([], []), ([], []), ([], []), ([1, 2], [1, 2]), ([3], [3]), ([4], [4]), ([5], [5]), ([], []), ([], []), ([7, 8], [7, 8]), ([9], [9]), ([10], [10]), ([11], [11]), ([6, 12], [6, 12]), ([0, 13], [0, 13]), ([14, 14, 0, 1, 2, 3, 4, 5, 6, 7, 8, 9, 10, 11, 12, 13, 14], [0, 14])])
def cornucopialaw5_Small.B5 : List Nat := [0, 0, 0, 6, 14, 30, 62, 0, 0, 384, 896, 1920, 3968, 8190, 16383, 32767]
theorem cornucopialaw5_Small.tab5 : rtab .any (opsOf Tryz.f9 5) = cornucopialaw5_Small.T5 := by kernel_rfl
theorem cornucopialaw5_Small.bits5 : waitsOk cornucopialaw5_Small.T5.2 cornucopialaw5_Small.B5 = true := by kernel_rfl
theorem cornucopialaw5_Small.calls (k : Nat) (A0 : Option Addr) (c0 : Nat) (l0 : List (S32)) (r : Bool) (w : World) (hr0 : Kd.C k32 w A0 l0.length l0) (hc0 : l0.length ≤ c0) (h : cornucopialaw5_Small.f k l0 = some r) :
  Calls Tryz.prog 9 #[.slice A0 l0.length c0] w fun e w' => e = .returned (.bool r) ∧ Below w.heap.size w w' := by
 have HR0 := a_k hr0
 have HC0 := a_k hc0
 clear hr0 hc0
 have HB := a_k (Below.refl w.heap.size w)
 have H : (cornucopialaw5_Small.l0 k l0 20000 0) = some r := h
 clear h
 have H' := a_k H
 clear H
 go_enter Tryz.func9, Tryz.ntmps9
 go_wp2
 go_loopg [3, 4] k (fun kq v3 v4 w' => ∃ (x3_1 : Int) (x4_1 : Int), v3 = .int .i64 x3_1 ∧ v4 = .int .i64 x4_1 ∧ Aside0 (cornucopialaw5_Small.l0 kq l0 x3_1 x4_1 = some r) ∧ Aside0 (kq ≤ k) ∧ Aside0 (Below w.heap.size w w'))
 case atStart => exact ⟨(20000), (0), (by first | rfl | (simp; done) | (simp [*]; done)), (by first | rfl | (simp; done) | (simp [*]; done)), H', ⟨Nat.le_refl _⟩, ⟨by repeat (first | exact HB.out | apply b_a | apply b_n | apply b_d)⟩⟩
 case round =>
  clear H'
  obtain ⟨x3_1, x4_1, rfl, rfl, HA, HK1, HB⟩ := hrel
  cases gk with
  | zero => exact absurd HA.out (by simp [cornucopialaw5_Small.l0])
  | succ k1 =>
   have H := HA.out
   clear HA
   simp only [cornucopialaw5_Small.l0] at H
   by_cases c2 : x4_1 < (l0.length : Int)
   ·rw [if_pos c2] at H
    have c2b0 : decide (x4_1 < (l0.length : Int)) = true := decide_eq_true c2
    clear c2
    by_cases c3 : x4_1 < 400
    ·rw [if_pos c3] at H
     have c3b0 : decide (x4_1 < 400) = true := decide_eq_true c3
     clear c3
     by_cases c4 : x3_1 ≥ 0
     ·rw [if_pos c4] at H
      have c4b0 : decide (0 ≤ x3_1) = true := decide_eq_true c4
      clear c4
      by_cases c5 : 0 ≤ x4_1
      ·rw [if_pos c5] at H
       have c5b0 : decide (0 ≤ x4_1) = true := decide_eq_true c5
       clear c5
       obtain ⟨y105, hy105⟩ : ∃ y_ : List Int, y_ = (([(((rd_T32 l0 x4_1).f0).size : Int), (((rd_T32 l0 x4_1).f3).size : Int)] : List Int)) := ⟨_, rfl⟩
       replace H : ((cornucopiabook_Room.f k1 x3_1 y105).bind fun t108 => (cornucopialaw5_Small.l0 k1 l0 t108 (wrap64 (x4_1 + 1)))) = some r := by first | (rw [hy105]; with_reducible exact H) | (have H2_ := (Option.bind_some _ _).symm.trans H; rw [hy105]; with_reducible exact H2_) | (have H2_ := (Option.bind_some _ _).symm.trans H; with_reducible exact H2_) | with_reducible exact H | (rw [hy105]; exact H) | exact H
       have Ny105 := a_k hy105
       clear hy105
       replace H := Option.bind_eq_some_iff.mp H
       obtain ⟨t108, A60, H⟩ := H
       replace H : (cornucopialaw5_Small.l0 k1 l0 t108 (wrap64 (x4_1 + 1))) = some r := H
       have A6 := a_k A60
       clear A60
       have H' := a_k H
       clear H
       try go_wp2
       have n0_ := a_k (below_drew1 HB.out)
       clear HB
       have HB := n0_
       clear n0_
       have p103 : 0 ≤ (x4_1 : Int) := of_decide_eq_true (by assumption)
       have q103 : x4_1 < (l0.length : Int) := of_decide_eq_true (by assumption)
       obtain ⟨ad103, e103, hx103_0, hx103_1, hx103_2, hx103_3⟩ := at_T32 HR0.out x4_1 p103 q103
       have hw103_3 := hx103_3
       have hw103_2 := hx103_2
       have hw103_1 := hx103_1
       have hw103_0 := hx103_0
       cases e103
       replace hx103_0 := c_b HB.out hx103_0
       replace hx103_1 := c_b HB.out hx103_1
       replace hx103_2 := c_b HB.out hx103_2
       replace hx103_3 := c_b HB.out hx103_3
       replace p103 := eq_true p103
       replace q103 := eq_true q103
       have p104 : 0 ≤ (x4_1 : Int) := of_decide_eq_true (by assumption)
       have q104 : x4_1 < (l0.length : Int) := of_decide_eq_true (by assumption)
       obtain ⟨ad104, e104, hx104_0, hx104_1, hx104_2, hx104_3⟩ := at_T32 HR0.out x4_1 p104 q104
       have hw104_3 := hx104_3
       have hw104_2 := hx104_2
       have hw104_1 := hx104_1
       have hw104_0 := hx104_0
       obtain rfl : ad103 = ad104 := (by injection e104)
       replace hx104_0 := c_b HB.out hx104_0
       replace hx104_1 := c_b HB.out hx104_1
       replace hx104_2 := c_b HB.out hx104_2
       replace hx104_3 := c_b HB.out hx104_3
       replace p104 := eq_true p104
       replace q104 := eq_true q104
       refine start_ (n := 16) (S := fun w' => w'.cell? (ad103.add ((x4_1).toNat * 4)) = some (.string ((rd_T32 l0 x4_1).f0)) ∧ w'.cell? ⟨(ad103.add ((x4_1).toNat * 4)).block, (ad103.add ((x4_1).toNat * 4)).off + 1, none⟩ = some (.int .u64 ((rd_T32 l0 x4_1).f1)) ∧ w'.cell? ⟨(ad103.add ((x4_1).toNat * 4)).block, (ad103.add ((x4_1).toNat * 4)).off + 2, none⟩ = some (.int .i64 ((rd_T32 l0 x4_1).f2)) ∧ w'.cell? ⟨(ad103.add ((x4_1).toNat * 4)).block, (ad103.add ((x4_1).toNat * 4)).off + 3, none⟩ = some (.string ((rd_T32 l0 x4_1).f3)) ∧ w'.cell? (ad103.add ((x4_1).toNat * 4)) = some (.string ((rd_T32 l0 x4_1).f0)) ∧ w'.cell? ⟨(ad103.add ((x4_1).toNat * 4)).block, (ad103.add ((x4_1).toNat * 4)).off + 1, none⟩ = some (.int .u64 ((rd_T32 l0 x4_1).f1)) ∧ w'.cell? ⟨(ad103.add ((x4_1).toNat * 4)).block, (ad103.add ((x4_1).toNat * 4)).off + 2, none⟩ = some (.int .i64 ((rd_T32 l0 x4_1).f2)) ∧ w'.cell? ⟨(ad103.add ((x4_1).toNat * 4)).block, (ad103.add ((x4_1).toNat * 4)).off + 3, none⟩ = some (.string ((rd_T32 l0 x4_1).f3))) (ds := []) #[Z,Z,Z,Z,Z,Z,Z,Z,Z,Z,Z,Z,Z,Z,Z,Z] (by kernel_rfl) rfl rfl ⟨(c_b HB.out hw103_0:), (c_b HB.out hw103_1:), (c_b HB.out hw103_2:), (c_b HB.out hw103_3:), (c_b HB.out hw104_0:), (c_b HB.out hw104_1:), (c_b HB.out hw104_2:), (c_b HB.out hw104_3:)⟩ (fun hHeld => ?_); refine with_tabW cornucopialaw5_Small.tab5 cornucopialaw5_Small.bits5 (fun HT_ HW_ => ?_)
       generalize wr.drew = w7 at HB hx103_0 hx103_1 hx103_2 hx103_3 hx104_0 hx104_1 hx104_2 hx104_3 hHeld ⊢
       refine pure_ (i := 0) (N := some 19) (v := ?_) (a' := ?_) #[J,Z,Z,Z,Z,Z,Z,Z,Z,Z,Z,Z,Z,Z,Z,Z] rfl rfl (any_of HT_.out (by kernel_rfl)) (fun _ _ _ h => h) (Or.inl ⟨by rfl, ?_⟩) ?_ ?_
       rotate_left
       ·intro w'
        go_simp
        with_reducible rfl
       rotate_left
       ·simp only [Act.put, l_s, l_0, l_1, i64_w, i32_w]
        rfl
       refine pure_ (i := 1) (N := some 20) (v := ?_) (a' := ?_) #[J,J,Z,Z,Z,Z,Z,Z,Z,Z,Z,Z,Z,Z,Z,Z] rfl rfl (any_of HT_.out (by kernel_rfl)) (fun _ _ _ h => h) (Or.inl ⟨by rfl, ?_⟩) ?_ ?_
       rotate_left
       ·intro w'
        go_simp
        with_reducible rfl
       rotate_left
       ·simp only [Act.put, l_s, l_0, l_1, i64_w, i32_w]
        rfl
       refine pure_ (i := 2) (N := some 21) (v := ?_) (a' := ?_) #[J,J,J,Z,Z,Z,Z,Z,Z,Z,Z,Z,Z,Z,Z,Z] rfl rfl (any_of HT_.out (by kernel_rfl)) (fun _ _ _ h => h) (Or.inl ⟨by rfl, ?_⟩) ?_ ?_
       rotate_left
       ·intro w'
        go_simp
        with_reducible rfl
       rotate_left
       ·simp only [Act.put, l_s, l_0, l_1, i64_w, i32_w]
        rfl
       refine pure_ (i := 3) (N := some 22) (v := ?_) (a' := ?_) #[J,J,J,J,Z,Z,Z,Z,Z,Z,Z,Z,Z,Z,Z,Z] rfl rfl (any_of HT_.out (by kernel_rfl)) (fun _ _ _ h => h) (Or.inl ⟨by rfl, ?_⟩) ?_ ?_
       rotate_left
       ·intro w'
        go_simp
        with_reducible rfl
       rotate_left
       ·simp only [Act.put, l_s, l_0, l_1, i64_w, i32_w]
        rfl
       refine pure_ (i := 4) (N := some 23) (v := ?_) (a' := ?_) #[J,J,J,J,J,Z,Z,Z,Z,Z,Z,Z,Z,Z,Z,Z] rfl rfl (any_of HT_.out (by kernel_rfl)) (fun _ _ _ h => h) (Or.inl ⟨by rfl, ?_⟩) ?_ ?_
       rotate_left
       ·intro w'
        go_simp
        with_reducible rfl
       rotate_left
       ·simp only [Act.put, l_s, l_0, l_1, i64_w, i32_w]
        rfl
       refine pure_ (i := 7) (N := some 26) (v := ?_) (a' := ?_) #[J,J,J,J,J,Z,Z,J,Z,Z,Z,Z,Z,Z,Z,Z] rfl rfl (any_of HT_.out (by kernel_rfl)) (fun _ _ _ h => h) (Or.inl ⟨by rfl, ?_⟩) ?_ ?_
       rotate_left
       ·intro w'
        go_simp
        with_reducible rfl
       rotate_left
       ·simp only [Act.put, l_s, l_0, l_1, i64_w, i32_w]
        rfl
       refine pure_ (i := 8) (N := some 27) (v := ?_) (a' := ?_) #[J,J,J,J,J,Z,Z,J,J,Z,Z,Z,Z,Z,Z,Z] rfl rfl (any_of HT_.out (by kernel_rfl)) (fun _ _ _ h => h) (Or.inl ⟨by rfl, ?_⟩) ?_ ?_
       rotate_left
       ·intro w'
        go_simp
        with_reducible rfl
       rotate_left
       ·simp only [Act.put, l_s, l_0, l_1, i64_w, i32_w]
        rfl
       refine pure_ (i := 9) (N := some 28) (v := ?_) (a' := ?_) #[J,J,J,J,J,Z,Z,J,J,J,Z,Z,Z,Z,Z,Z] rfl rfl (any_of HT_.out (by kernel_rfl)) (fun _ _ _ h => h) (Or.inl ⟨by rfl, ?_⟩) ?_ ?_
       rotate_left
       ·intro w'
        go_simp
        with_reducible rfl
       rotate_left
       ·simp only [Act.put, l_s, l_0, l_1, i64_w, i32_w]
        rfl
       refine pure_ (i := 10) (N := some 29) (v := ?_) (a' := ?_) #[J,J,J,J,J,Z,Z,J,J,J,J,Z,Z,Z,Z,Z] rfl rfl (any_of HT_.out (by kernel_rfl)) (fun _ _ _ h => h) (Or.inl ⟨by rfl, ?_⟩) ?_ ?_
       rotate_left
       ·intro w'
        go_simp
        with_reducible rfl
       rotate_left
       ·simp only [Act.put, l_s, l_0, l_1, i64_w, i32_w]
        rfl
       refine take_ (i := 5) (N := some 24) (v := ?_) (a' := ?_) #[J,J,J,J,J,J,Z,J,J,J,J,Z,Z,Z,Z,Z] rfl rfl (take_ofW HT_.out HW_.out (by kernel_rfl)) (fun _ _ _ h => h) (Or.inl ⟨by rfl, ?_⟩) hHeld ?_ ?_
       rotate_left
       ·rintro w' ⟨s0, s1, s2, s3, s4, s5, s6, s7⟩
        go_simp
        with_reducible rfl
       rotate_left
       ·simp only [Act.put, l_s, l_0, l_1, i64_w, i32_w]
        rfl
       refine pure_ (i := 6) (N := some 25) (v := ?_) (a' := ?_) #[J,J,J,J,J,J,J,J,J,J,J,Z,Z,Z,Z,Z] rfl rfl (any_of HT_.out (by kernel_rfl)) (fun _ _ _ h => h) (Or.inl ⟨by rfl, ?_⟩) ?_ ?_
       rotate_left
       ·intro w'
        go_simp
        with_reducible rfl
       rotate_left
       ·simp only [Act.put, l_s, l_0, l_1, i64_w, i32_w]
        rfl
       refine take_ (i := 11) (N := some 30) (v := ?_) (a' := ?_) #[J,J,J,J,J,J,J,J,J,J,J,J,Z,Z,Z,Z] rfl rfl (take_ofW HT_.out HW_.out (by kernel_rfl)) (fun _ _ _ h => h) (Or.inl ⟨by rfl, ?_⟩) hHeld ?_ ?_
       rotate_left
       ·rintro w' ⟨s0, s1, s2, s3, s4, s5, s6, s7⟩
        go_simp
        with_reducible rfl
       rotate_left
       ·simp only [Act.put, l_s, l_0, l_1, i64_w, i32_w]
        rfl
       refine pure_ (i := 12) (N := some 31) (v := ?_) (a' := ?_) #[J,J,J,J,J,J,J,J,J,J,J,J,J,Z,Z,Z] rfl rfl (any_of HT_.out (by kernel_rfl)) (fun _ _ _ h => h) (Or.inl ⟨by rfl, ?_⟩) ?_ ?_
       rotate_left
       ·intro w'
        go_simp
        with_reducible rfl
       rotate_left
       ·simp only [Act.put, l_s, l_0, l_1, i64_w, i32_w]
        rfl
       refine one_ (i := 13) (N := some 32) #[J,J,J,J,J,J,J,J,J,J,J,J,J,J,Z,Z] rfl rfl (one_of HT_.out (by kernel_rfl)) (by decide) (fun K hK => ?_)
       refine Kd.R_lit_step (Kd.int .i64) _ 3 ?hg (N := 32) ?hd (xs := ([(((rd_T32 l0 x4_1).f0).size : Int), (((rd_T32 l0 x4_1).f3).size : Int)] : List Int)) (inner := [.int .i64 (((rd_T32 l0 x4_1).f0).size : Int), .int .i64 (((rd_T32 l0 x4_1).f3).size : Int)]) (ok := fun _ => True) (okp := fun _ => True) ?hr ?hp (fun _ hk => hk) trivial (Below.refl _ _) (Nat.le_refl _) (by simp) ?_; (case hd => rfl); (case hg => rfl); (case hr => first | (go_simp; done) | (go_simp; rfl)); (case hp => exact (Reps.one (show Kd.M (Kd.int .i64) _ _ _ (((rd_T32 l0 x4_1).f0).size : Int) [.int .i64 (((rd_T32 l0 x4_1).f0).size : Int)] from rfl) (Reps.one (show Kd.M (Kd.int .i64) _ _ _ (((rd_T32 l0 x4_1).f3).size : Int) [.int .i64 (((rd_T32 l0 x4_1).f3).size : Int)] from rfl) (Reps.none _ _))))
       intro v106 w8 ho9 hb hg_ hnew_
       clear hg_ hnew_
       (first | rw [← Ny105.out] at ho9 | (simp only [Int.reduceToNat] at ho9; rw [← Ny105.out] at ho9))
       have n0_ := a_k (Kd.R_lower ho9 (below_size (by repeat (first | exact HB.out | apply b_a | apply b_n | apply b_d))))
       have n1_ := a_k (below_step (by repeat (first | exact HB.out | apply b_a | apply b_n | apply b_d)) hb)
       clear HB
       have HO107 := n0_
       have HB := n1_
       clear n0_ n1_
       clear hb ho9
       obtain ⟨Ao10, co10, eo10⟩ := Kd.R_slice HO107.out
       (first | subst eo10 | (injection eo10 with f1_ f2_ f3_; have f4_ := f1_.symm; have f5_ := f3_.symm; clear f1_ f2_ f3_; subst f4_; subst f5_))
       refine hK.out _ _ ⟨(c_b HB.out hw103_0:), (c_b HB.out hw103_1:), (c_b HB.out hw103_2:), (c_b HB.out hw103_3:), (c_b HB.out hw104_0:), (c_b HB.out hw104_1:), (c_b HB.out hw104_2:), (c_b HB.out hw104_3:)⟩ (fun hHeld => ?_)
       clear hK K
       refine norm_ (a' := ?_) ?_ ?_
       rotate_left
       ·show Act.put _ (some 32) _ = _
        simp only [Act.put, l_s, l_0, l_1, i64_w, i32_w]
        rfl
       refine one_ (i := 14) (N := some 33) #[J,J,J,J,J,J,J,J,J,J,J,J,J,J,J,Z] rfl rfl (one_of HT_.out (by kernel_rfl)) (by decide) (fun K hK => ?_)
       refine goes_ Tryz.func96 (by kernel_rfl) rfl #[.int .i64 x3_1, .slice Ao10 y105.length co10] (by rfl) rfl rfl (by (try simp only [m_a, m_c, m_n]); first | done | rfl) ?_
       with_reducible refine (cornucopiabook_Room.calls k1 x3_1 _ _ y105 t108 _ ?side1 ?side2 A6.out).mono ?_
       (case side1 => repeat (first | exact (Kd.R_reads' HO107.out).2.2 | (with_reducible refine Kd.C_alloc ?_ _) | (with_reducible refine Kd.C_drewN ?_ _) | (with_reducible refine Kd.C_drew ?_)))
       (case side2 => exact (Kd.R_reads' HO107.out).2.1)
       rintro e w' ⟨rfl, ⟨nd, rfl⟩⟩
       refine ⟨_, rfl, ?_⟩
       refine hK.out _ _ ⟨(c_b HB.out hw103_0:), (c_b HB.out hw103_1:), (c_b HB.out hw103_2:), (c_b HB.out hw103_3:), (c_b HB.out hw104_0:), (c_b HB.out hw104_1:), (c_b HB.out hw104_2:), (c_b HB.out hw104_3:)⟩ (fun hHeld => ?_)
       clear hK K
       refine norm_ (a' := ?_) ?_ ?_
       rotate_left
       ·show Act.put _ (some 33) _ = _
        simp only [Act.put, l_s, l_0, l_1, i64_w, i32_w]
        rfl
       refine pure_ (i := 15) (N := some 3) (v := ?_) (a' := ?_) #[J,J,J,J,J,J,J,J,J,J,J,J,J,J,J,J] rfl rfl (any_of HT_.out (by kernel_rfl)) (fun _ _ _ h => h) (Or.inl ⟨by rfl, ?_⟩) ?_ ?_
       rotate_left
       ·intro w'
        go_simp
        with_reducible rfl
       rotate_left
       ·simp only [Act.put, l_s, l_0, l_1, i64_w, i32_w]
        rfl
       refine done_ (done_of HT_.out (by kernel_rfl)) ?_
       try go_wp2
       go_roundg k1
       case measure => have := HK1.out; omega
       case rel => exact ⟨(t108), (wrap64 (x4_1 + 1)), (by first | rfl | (simp; done) | (simp [*]; done)), (by first | rfl | (simp; done) | (simp [*]; done)), H', ⟨by have := HK1.out; omega⟩, ⟨by repeat (first | exact HB.out | apply b_a | apply b_n | apply b_d)⟩⟩
      ·rw [if_neg c5] at H
       exact absurd H (by simp)
     ·rw [if_neg c4] at H
      have c4b0 : decide (0 ≤ x3_1) = false := decide_eq_false c4
      clear c4
      by_cases c11 : (l0.length : Int) ≤ 150
      ·rw [if_pos c11] at H
       have c11b0 : decide ((l0.length : Int) ≤ 150) = true := decide_eq_true c11
       have c11b1 : decide (l0.length ≤ 150) = true := decide_eq_true (by omega)
       clear c11
       obtain rfl := Option.some.inj H
       go_wp2
       go_ret
       exact ⟨by first | rfl | (simp [*, errW_none, errW_some] <;> rfl), by repeat (first | exact HB.out | apply b_a | apply b_n | apply b_d)⟩
      ·rw [if_neg c11] at H
       have c11b0 : decide ((l0.length : Int) ≤ 150) = false := decide_eq_false c11
       have c11b1 : decide (l0.length ≤ 150) = false := decide_eq_false (by omega)
       clear c11
       obtain rfl := Option.some.inj H
       go_wp2
       go_ret
       exact ⟨by first | rfl | (simp [*, errW_none, errW_some] <;> rfl), by repeat (first | exact HB.out | apply b_a | apply b_n | apply b_d)⟩
    ·rw [if_neg c3] at H
     have c3b0 : decide (x4_1 < 400) = false := decide_eq_false c3
     clear c3
     by_cases c12 : (l0.length : Int) ≤ 150
     ·rw [if_pos c12] at H
      have c12b0 : decide ((l0.length : Int) ≤ 150) = true := decide_eq_true c12
      have c12b1 : decide (l0.length ≤ 150) = true := decide_eq_true (by omega)
      clear c12
      obtain rfl := Option.some.inj H
      go_wp2
      go_ret
      exact ⟨by first | rfl | (simp [*, errW_none, errW_some] <;> rfl), by repeat (first | exact HB.out | apply b_a | apply b_n | apply b_d)⟩
     ·rw [if_neg c12] at H
      have c12b0 : decide ((l0.length : Int) ≤ 150) = false := decide_eq_false c12
      have c12b1 : decide (l0.length ≤ 150) = false := decide_eq_false (by omega)
      clear c12
      obtain rfl := Option.some.inj H
      go_wp2
      go_ret
      exact ⟨by first | rfl | (simp [*, errW_none, errW_some] <;> rfl), by repeat (first | exact HB.out | apply b_a | apply b_n | apply b_d)⟩
   ·rw [if_neg c2] at H
    have c2b0 : decide (x4_1 < (l0.length : Int)) = false := decide_eq_false c2
    clear c2
    by_cases c13 : (l0.length : Int) ≤ 150
    ·rw [if_pos c13] at H
     have c13b0 : decide ((l0.length : Int) ≤ 150) = true := decide_eq_true c13
     have c13b1 : decide (l0.length ≤ 150) = true := decide_eq_true (by omega)
     clear c13
     obtain rfl := Option.some.inj H
     go_wp2
     go_ret
     exact ⟨by first | rfl | (simp [*, errW_none, errW_some] <;> rfl), by repeat (first | exact HB.out | apply b_a | apply b_n | apply b_d)⟩
    ·rw [if_neg c13] at H
     have c13b0 : decide ((l0.length : Int) ≤ 150) = false := decide_eq_false c13
     have c13b1 : decide (l0.length ≤ 150) = false := decide_eq_false (by omega)
     clear c13
     obtain rfl := Option.some.inj H
     go_wp2
     go_ret
     exact ⟨by first | rfl | (simp [*, errW_none, errW_some] <;> rfl), by repeat (first | exact HB.out | apply b_a | apply b_n | apply b_d)⟩
def cornucopiabook_copyEntries.f (l0 : List (S32)) : Option ((List (S32))) := if ([] : List (S32)).length + l0.length < 2932031007402 then (some (([] : List (S32)) ++ l0)) else (none)
theorem cornucopiabook_copyEntries.calls (A0 : Option Addr) (c0 : Nat) (l0 : List (S32)) (r : List (S32)) (w : World) (hr0 : Kd.C k32 w A0 l0.length l0) (hc0 : l0.length ≤ c0) (h : cornucopiabook_copyEntries.f l0 = some r) :
  Calls Tryz.prog 101 #[.slice A0 l0.length c0] w fun e w' => ∃ v0_ : Value, e = .returned (v0_) ∧ Kd.R k32 32 w' w.heap.size (fun _ => True) v0_ r ∧ Below w.heap.size w w' := by
 have HR0 := a_k hr0
 have HC0 := a_k hc0
 clear hr0 hc0
 have HB := a_k (Below.refl w.heap.size w)
 have H : (if ([] : List (S32)).length + l0.length < 2932031007402 then (some (([] : List (S32)) ++ l0)) else (none)) = some r := h
 clear h
 by_cases c2 : ([] : List (S32)).length + l0.length < 2932031007402
 ·rw [if_pos c2] at H
  have LMc2 := a_k c2
  clear c2
  obtain ⟨y109, hy109⟩ : ∃ y_ : List (S32), y_ = (([] : List (S32)) ++ l0) := ⟨_, rfl⟩
  replace H : (some y109) = some r := by first | (rw [hy109]; with_reducible exact H) | (have H2_ := (Option.bind_some _ _).symm.trans H; rw [hy109]; with_reducible exact H2_) | (have H2_ := (Option.bind_some _ _).symm.trans H; with_reducible exact H2_) | with_reducible exact H | (rw [hy109]; exact H) | exact H
  have Ny109 := a_k hy109
  clear hy109
  obtain rfl := Option.some.inj H
  go_enter Tryz.func101, Tryz.ntmps101
  go_wp2_with (first | ((with_reducible refine gate_builtin (b := .append) (xs := #[.const (.slice none 0 0), .tmp 3]) rfl ?_); at_builtin; refine Kd.R_append_rows k32 (w0 := w) w.heap.size rfl (.const (.slice none 0 0)) (.tmp 3) 22 32 (.agg #[(.string ⟨#[]⟩), (.int .u64 0), (.int .i64 0), (.string ⟨#[]⟩)]) 48 rfl Tryz.underlying22 info32 rfl (by decide) (by omega) (.slice none 0 0) ([] : List (S32)) l0 _ _ _ (fun _ => True) (fun _ => False) rfl rfl ?aO ?aR (fun _ _ h => h) (fun _ h => h.elim) ?aF ?aB ?aS ?aL ?_; (case aR => (try (change Kd.C k32 _ _ _ _)); repeat (first | exact HR0.out | (with_reducible refine Kd.C_alloc ?_ _) | (with_reducible refine Kd.C_drewN ?_ _) | (with_reducible refine Kd.C_drew ?_))); (case aB => exact (by repeat (first | exact HB.out | apply b_a | apply b_n | apply b_d))); (case aF => exact (fun _ _ => trivial)); (case aO => exact ((Kd.R_nil _ _ _ _ (fun _ => True)))); (case aS => exact (below_size (by repeat (first | exact HB.out | apply b_a | apply b_n | apply b_d)))); (case aL => have := LMc2.out; omega); intro v110 w3 ho hb hg hat; rw [← Ny109.out] at ho; have n0_ := a_k (hb); have n1_ := a_k (ho); clear HB; have HB := n0_; have HO111 := n1_; clear n0_ n1_; clear ho hb hg hat))
  go_ret
  exact ⟨_, by first | rfl | (simp [*, errW_none, errW_some] <;> rfl), by (with_reducible repeat (first | apply Kd.R_alloc | apply Kd.R_drewN | apply Kd.R_drew)); exact HO111.out, by repeat (first | exact HB.out | apply b_a | apply b_n | apply b_d)⟩
 ·rw [if_neg c2] at H
  exact absurd H (by simp)
end Go.Proofs.YtchgpcgolgcfdaaGreat.PNum
end
section
namespace Go.Proofs.YtchgpcgolgcfdaaGreat.BkEntries
open Go Go.RowKit Go.Proofs.YtchgpcgolgcfdaaGreat.PNum Go.Proofs.YtchgpcgolgcfdaaGreat.BkW Go.Proofs.YtchgpcgolgcfdaaGreatW.PrintWords Go.Proofs.YtchgpcgolgcfdaaGreatW.PrintLast Go.Proofs.YtchgpcgolgcfdaaGreatW.PrintMore Go.Proofs.YtchgpcgolgcfdaaGreatW.Pu
set_option linter.unusedVariables false
set_option linter.unusedSimpArgs false
abbrev S := S32
def enc (x : S) : List Value := [.string x.f0, .int .u64 x.f1, .int .i64 x.f2, .string x.f3]
theorem flat : Flat k32 enc := ⟨fun _ => rfl, fun h => k32_openM h, fun w x => k32_mk w x, fun h => k32_open h⟩
def nm (i k : Int) : ByteArray := (cornucopiabook_name.f i k).getD ⟨#[]⟩
theorem nm_ev (i k : Int) : cornucopiabook_name.f i k = some (nm i k) := by unfold nm cornucopiabook_name.f; rfl
def mk (i k : Int) : S := ⟨nm i k, 0, 0, ⟨#[]⟩⟩
def marks (i f : Int) (n : Nat) : List S := (List.range' 0 n).map fun j : Nat => mk i (f + (j : Int))
theorem marks_len (i f : Int) (n : Nat) : (marks i f n).length = n := by simp [marks]
theorem marks_at {i f : Int} {n j : Nat} (h : j < n) : (marks i f n)[j]? = some (mk i (f + (j : Int))) := by simp [marks, h]
theorem marks_add (i : Int) (n m : Nat) : marks i 0 n ++ marks i (n : Int) m = marks i 0 (n + m) := by
 apply List.ext_getElem?
 intro j
 by_cases h1 : j < n
 ·rw [List.getElem?_append_left (by rw [marks_len]; exact h1), marks_at h1, marks_at (by omega)]
 ·rw [List.getElem?_append_right (by rw [marks_len]; omega), marks_len]
  by_cases h2 : j < n + m
  ·rw [marks_at (by omega), marks_at h2]
   congr 2
   omega
  ·rw [List.getElem?_eq_none (by rw [marks_len]; omega), List.getElem?_eq_none (by rw [marks_len]; omega)]
theorem mark_l (i f : Int) (n : Nat) (hf : 0 ≤ f ∧ f + n ≤ 1000000000) : ∀ (d j : Nat) (acc : List S), j + d = n → acc.length = j → ∀ k, d < k → cornucopiabook_markEntries.l0 k i f n acc (f + (j : Int)) = some (acc ++ (List.range' j d).map fun q : Nat => mk i (f + (q : Int)))
 | 0, j, acc, hj, ha, k, hk => by
  obtain ⟨k, rfl⟩ : ∃ m, k = m + 1 := ⟨k - 1, by omega⟩
  rw [cornucopiabook_markEntries.l0, if_neg (by rw [wrap64_id (by omega)]; omega)]
  simp
 | d + 1, j, acc, hj, ha, k, hk => by
  obtain ⟨k, rfl⟩ : ∃ m, k = m + 1 := ⟨k - 1, by omega⟩
  rw [cornucopiabook_markEntries.l0, if_pos (by rw [wrap64_id (by omega)]; omega)]
  rw [nm_ev]; simp only [Option.bind_some]; rw [if_pos (by omega), wrap64_id (x := f + (j : Int) + 1) (by omega)]
  have ih := mark_l i f n hf d (j + 1) (acc ++ [mk i (f + (j : Int))]) (by omega) (by simp [ha]) k (by omega)
  rw [show f + (j : Int) + 1 = f + ((j + 1 : Nat) : Int) from by omega]
  refine Eq.trans ih ?_
  rw [List.append_assoc, List.range'_succ]
  rfl
theorem mark_ev (i f : Int) (n : Nat) (hf : 0 ≤ f ∧ f + n ≤ 1000000000) {k : Nat} (hk : n < k) : cornucopiabook_markEntries.f k i f n = some (marks i f n) := by
 have h := mark_l i f n hf n 0 [] (by omega) rfl k hk
 rw [show f + ((0 : Nat) : Int) = f from by omega, List.nil_append] at h
 exact h
theorem same_l (l : List S) (hl : l.length ≤ 1000000) : ∀ (d i : Nat), i + d = l.length → ∀ k, d < k → cornucopiabook_SameEntries.l0 k l l (i : Int) = some true
 | 0, i, hi, k, hk => by
  obtain ⟨k, rfl⟩ : ∃ m, k = m + 1 := ⟨k - 1, by omega⟩
  rw [cornucopiabook_SameEntries.l0, if_neg (by omega)]
 | d + 1, i, hi, k, hk => by
  obtain ⟨k, rfl⟩ : ∃ m, k = m + 1 := ⟨k - 1, by omega⟩
  rw [cornucopiabook_SameEntries.l0, if_pos (by omega), if_pos (by omega), if_pos (by omega), if_pos (by simp), wrap64_id (by omega)]
  exact same_l l hl d (i + 1) (by omega) k (by omega)
theorem same_ev (l : List S) (hl : l.length ≤ 1000000) {k : Nat} (hk : l.length < k) : cornucopiabook_SameEntries.f k l l = some true := by
 rw [cornucopiabook_SameEntries.f, if_pos rfl]
 exact same_l l hl l.length 0 (by omega) k hk
theorem copy_ev (l : List S) (hl : l.length ≤ 1000000) : cornucopiabook_copyEntries.f l = some l := by
 unfold cornucopiabook_copyEntries.f
 rw [if_pos (by simp; omega)]
 simp
theorem marked_l (ls : List (List S)) (N : Nat) (hl : ls.length ≤ 1000000) (hm : ∀ (j : Nat) (l : List S), ls[j]? = some l → l.length ≤ N ∧ l = marks j 0 l.length) (hN : N ≤ 1000000) : ∀ (d i : Nat), i + d = ls.length → ∀ k, N + d < k → cornucopiabook_markedEntries.l0 k ls (i : Int) = some true
 | 0, i, hi, k, hk => by
  obtain ⟨k, rfl⟩ : ∃ m, k = m + 1 := ⟨k - 1, by omega⟩
  rw [cornucopiabook_markedEntries.l0, if_neg (by omega)]
 | d + 1, i, hi, k, hk => by
  obtain ⟨k, rfl⟩ : ∃ m, k = m + 1 := ⟨k - 1, by omega⟩
  have hi2 : i < ls.length := by omega
  have e : rd_L17 ls (i : Int) = ls[i] := by
   unfold rd_L17
   simp [hi2]
  obtain ⟨h1, h2⟩ := hm i _ (List.getElem?_eq_getElem hi2)
  rw [cornucopiabook_markedEntries.l0, if_pos (by omega), if_pos (by omega), e, mark_ev (i : Int) 0 ls[i].length (by omega) (by omega)]
  simp only [Option.bind_some]
  rw [← h2, same_ev _ (by omega) (by omega)]
  simp only [Option.bind_some]
  rw [if_pos trivial, wrap64_id (by omega)]
  exact marked_l ls N hl hm hN d (i + 1) (by omega) k (by omega)
theorem marked_ev (ls : List (List S)) (N : Nat) (hl : ls.length ≤ 1000000) (hm : ∀ (j : Nat) (l : List S), ls[j]? = some l → l.length ≤ N ∧ l = marks j 0 l.length) (hN : N ≤ 1000000) : cornucopiabook_markedEntries.f (N + ls.length + 1) ls = some true := marked_l ls N hl hm hN ls.length 0 (by omega) _ (by omega)
theorem one_slice (A : Option Addr) (n c : Nat) : ∀ u ∈ [Value.slice A n c], u.oneCell' = true := by simp [Value.oneCell']
theorem infoS : (Tryz.prog.info? 22).map (fun i => (i.zero, i.size, i.bytes)) = some (some (.slice none 0 0), 1, 24) := by kernel_rfl
theorem infoE : (Tryz.prog.info? 32).map (fun i => (i.zero, i.size, i.bytes)) = some (some (.agg #[.string ⟨#[]⟩, .int .u64 0, .int .i64 0, .string ⟨#[]⟩]), 4, 48) := by kernel_rfl
theorem neSE : (22 : TypeId) ≠ 32 := by decide
theorem neBS : (56 : TypeId) ≠ 22 := by decide
theorem neBE : (56 : TypeId) ≠ 32 := by decide
theorem ne_of {w : World} {g : Nat} {cs : Array Value} {t e : TypeId} {v : Value} {base n sz : Nat} {ys : List Value} (hg : w.heap[g]? = some (.cells cs t (0, 0))) (h : w.ownsRow base e sz v n ys) (hne : t ≠ e) : some g ≠ v.ownBlock := own_ne h hg (fun z => hne z.symm)
set_option maxHeartbeats 8000000 in
set_option maxRecDepth 100000 in
theorem keep_calls (w0 w : World) (g : Nat) (cs : Array Value) (p q : Value) (es : List (Ent S)) (A : Option Addr) (c : Nat) (xs : List S)
  (hg : w.heap[g]? = some (.cells cs 56 (0, 0))) (hp : cs[6]? = some p) (hq : cs[7]? = some q) (hK : Kept enc 4 22 32 w w0.heap.size p q es) (hB : Below w0.heap.size w0 w) (hgb : w0.heap.size ≤ g)
  (hv : Rw w 32 4 (.slice A xs.length c) xs.length (encL enc xs)) (hvb : ∀ k, (Value.slice A xs.length c).ownBlock = some k → w0.heap.size ≤ k) (hva : ∀ x ∈ es, ap x.v (.slice A xs.length c)) (hx : xs.length ≤ 1000000) (hn : es.length < 250) :
  Calls Tryz.prog 18 #[.pointer (some ⟨g, 0, none⟩), .slice A xs.length c] w fun e w' => e = .returned (.tuple #[]) ∧ ∃ p' q' u, w'.heap[g]? = some (.cells ((cs.setIfInBounds 6 p').setIfInBounds 7 q') 56 (0, 0)) ∧ Kept enc 4 22 32 w' w0.heap.size p' q' (es ++ [⟨.slice A xs.length c, u, xs⟩]) ∧ Below w0.heap.size w0 w' ∧ Still [56, 22] w w' ∧ w.heap.size ≤ w'.heap.size ∧ Frm w w' g p q ∧ NewOr w p p' ∧ NewOr w q q' := by
 obtain ⟨Ap, cp, rfl⟩ := own_slice hK.rp
 obtain ⟨Aq, cq, rfl⟩ := own_slice hK.rq
 have HG := a_k hg
 have HQ := a_k hq
 have HK := a_k hK
 have HB := a_k hB
 have HGB := a_k hgb
 have HV := a_k hv
 have HVB := a_k hvb
 have HVA := a_k hva
 have HX := a_k hx
 have hlt : g < w.heap.size := blk_lt hg
 have c6 : w.cell? ⟨g, 6, none⟩ = some (.slice Ap es.length cp) := (blk_cell hg 6).trans hp
 have f6 : w.frozen? ⟨g, 6, none⟩ = false := blk_frozen hg 6
 have t0 : decide ((es.length : Int) < 250) = true := decide_eq_true (by omega)
 have HN := a_k hn
 have HNb : Aside0 ((es.length + 1) * 24 ≤ 140737488355328) := ⟨by omega⟩
 have HP := a_k hp
 clear hg hq hK hB hgb hv hvb hva hx hn hp
 go_enter Tryz.func18, Tryz.ntmps18
 go_wp2_with (first
  | ((with_reducible refine gate_builtin (b := .append) (xs := #[.tmp 14, .tmp 16]) rfl ?_); at_builtin; refine print_append_cells (w0 := w0) w0.heap.size rfl (.tmp 14) (.tmp 16) 44 22 (.slice none 0 0) 1 24 rfl Tryz.underlying44 infoS rfl ?a1 ?a2 (.slice Ap es.length cp) es.length (es.map (·.v)) [.slice A xs.length c] rfl rfl rfl ?a3 HK.out.rp HB.out HB.out.size ?aL ?_; (case a1 => decide); (case a2 => decide); (case a3 => exact one_slice _ _ _); (case aL => have := HN.out; omega); intro p1 w1 ho1 hb1 hg1 hat1; obtain ⟨A1, c1, rfl⟩ := own_slice ho1; have hblk1 := (hg1.block g hlt (ne_of HG.out HK.out.rp neBS)).trans HG.out; have HBL1 := a_k hblk1; have c6' : w1.cell? ⟨g, 6, none⟩ = some (.slice Ap es.length cp) := (blk_cell hblk1 6).trans HP.out; have f6' : w1.frozen? ⟨g, 6, none⟩ = false := blk_frozen hblk1 6; have HH1 := a_k (HK.out.step1 neSE HV.out HVB.out HVA.out ho1 hg1 hat1); have HB1 := a_k hb1; have HS1 : Aside0 (Still [56, 22] w w1) := ⟨Still.of_grown hg1 (fun k hk => by obtain ⟨cur, hc⟩ := own_typed HK.out.rp k hk; exact ⟨cur, 22, by simp, hc⟩)⟩; have HZ1 := a_k hg1.size; have HF1 : Aside0 (Frm w w1 g (.slice Ap es.length cp) (.slice Aq es.length cq)) := ⟨Frm.start hg1⟩; have HN1 : Aside0 (NewOr w (.slice Ap es.length cp) (.slice A1 (es.length + 1) c1)) := ⟨NewOr.of hat1⟩; clear ho1 hb1 hg1 hat1 hblk1 c6 f6))
 have HBL2 : Aside0 ((w1.setCell ⟨g, 6, none⟩ (.slice A1 (es.length + 1) c1)).heap[g]? = some (.cells (cs.setIfInBounds 6 (.slice A1 (es.length + 1) c1)) 56 (0, 0))) := ⟨blk_set HBL1.out _ _⟩
 have HH2 : Aside0 (Half enc 4 22 32 (w1.setCell ⟨g, 6, none⟩ (.slice A1 (es.length + 1) c1)) w0.heap.size (.slice A1 (es.length + 1) c1) (.slice Aq es.length cq) es (.slice A xs.length c) xs) := ⟨HH1.out.still (T := [56]) (Still.of_far (g := g) (fun k hk => Below.heap_setCell _ _ _ k hk) ⟨_, _, by simp, HBL1.out⟩) (by simp [neBS.symm]) (by simp [neBE.symm])⟩
 have HB2 : Aside0 (Below w0.heap.size w0 (w1.setCell ⟨g, 6, none⟩ (.slice A1 (es.length + 1) c1))) := ⟨HB1.out.setCell HGB.out _⟩
 have HS2 : Aside0 (Still [56, 22] w (w1.setCell ⟨g, 6, none⟩ (.slice A1 (es.length + 1) c1))) := ⟨HS1.out.trans HZ1.out (Still.of_far (g := g) (fun k hk => Below.heap_setCell _ _ _ k hk) ⟨_, 56, by simp, HBL1.out⟩)⟩
 have HZ2 : Aside0 (w.heap.size ≤ (w1.setCell ⟨g, 6, none⟩ (.slice A1 (es.length + 1) c1)).heap.size) := ⟨by rw [World.size_setCell]; exact HZ1.out⟩
 have HQ2 : Aside0 ((cs.setIfInBounds 6 (.slice A1 (es.length + 1) c1))[7]? = some (.slice Aq es.length cq)) := ⟨by rw [Array.getElem?_setIfInBounds_ne (by decide)]; exact HQ.out⟩
 have HF2 : Aside0 (Frm w (w1.setCell ⟨g, 6, none⟩ (.slice A1 (es.length + 1) c1)) g (.slice Ap es.length cp) (.slice Aq es.length cq)) := ⟨HF1.out.far (fun k hk => Below.heap_setCell _ _ _ k hk)⟩
 clear HF1 HH1 HB1 HS1 HZ1 HBL1 c6' f6'
 generalize w1.setCell ⟨g, 6, none⟩ (.slice A1 (es.length + 1) c1) = w2 at *
 have hC2 : Aside0 (Kd.C k32 w2.drew A xs.length xs) := ⟨flat.to_C (HH2.out.below (below_drew (Below.refl _ w2))).ev.1 rfl⟩
 have hcc : Aside0 (xs.length ≤ c) := ⟨by obtain ⟨A', c', e, h⟩ := HV.out.slice; injection e with _ _ e; omega⟩
 have c7 : w2.cell? ⟨g, 7, none⟩ = some (.slice Aq es.length cq) := (blk_cell HBL2.out 7).trans HQ2.out
 have f7 : w2.frozen? ⟨g, 7, none⟩ = false := blk_frozen HBL2.out 7
 go_region_law (first
  | (refine goes_ Tryz.func101 (by kernel_rfl) rfl #[.slice A xs.length c] (by rfl) rfl rfl ?_ ?_; (next => first | rfl | (simp [Act.eval, Act.put]; done)); refine (cornucopiabook_copyEntries.calls A c xs xs _ hC2.out hcc.out (copy_ev xs HX.out)).mono ?_; rintro e w3 ⟨u, rfl, hr, hb⟩; refine ⟨_, rfl, ?_⟩; obtain ⟨Au, cu, rfl⟩ := Kd.R_slice hr; have HBL3 := a_k (blk_below (blk_drew HBL2.out) hb); have HU3 := a_k (flat.of_R hr); have HH3 := a_k ((HH2.out.below (below_drew (Below.refl _ w2))).below hb); have HB3 := a_k (below_step (below_drew HB2.out) hb); have HS3 := a_k ((HS2.out.below HZ2.out (below_drew (Below.refl _ w2))).below HZ2.out hb); have HZ3 := a_k hb.size; have HF3 := a_k ((HF2.out.below HZ2.out (below_drew (Below.refl _ w2))).below HZ2.out hb); have hlt3 : g < w3.heap.size := blk_lt HBL3.out; have c73 : w3.cell? ⟨g, 7, none⟩ = some (.slice Aq es.length cq) := (blk_cell HBL3.out 7).trans HQ2.out; have f73 : w3.frozen? ⟨g, 7, none⟩ = false := blk_frozen HBL3.out 7; clear hr hb)
  | (refine step_append_cells (w0 := w0) w0.heap.size (by rfl) (.tmp 24) (.tmp 27) 44 22 (.slice none 0 0) 1 24 (by rfl) Tryz.underlying44 infoS rfl (by decide) (by decide) (.slice Aq es.length cq) es.length (es.map (·.u)) [.slice Au xs.length cu] ?_ ?_ rfl (one_slice _ _ _) HH3.out.rq HB3.out HB3.out.size HNb.out ?_; (next => first | rfl | (simp [Act.eval, Act.put]; done)); (next => first | rfl | (simp [Act.eval, Act.put]; done)); intro q1 w4 ho4 hb4 hg4 hat4; obtain ⟨A4, c4, rfl⟩ := own_slice ho4; have HBL4 := a_k ((hg4.block g (blk_lt HBL3.out) (ne_of HBL3.out HH3.out.rq neBS)).trans HBL3.out); have c74 : w4.cell? ⟨g, 7, none⟩ = some (.slice Aq es.length cq) := (blk_cell HBL4.out 7).trans HQ2.out; have f74 : w4.frozen? ⟨g, 7, none⟩ = false := blk_frozen HBL4.out 7; have HK4 := a_k (HH3.out.step2 neSE HU3.out ho4 hg4 hat4); have HB4 := a_k hb4; have HS4 : Aside0 (Still [56, 22] w w4) := ⟨HS3.out.trans (Nat.le_trans HZ2.out HZ3.out) (Still.of_grown hg4 (fun k hk => by obtain ⟨cur, hc⟩ := own_typed HH3.out.rq k hk; exact ⟨cur, 22, by simp, hc⟩))⟩; have HZ4 : Aside0 (w.heap.size ≤ w4.heap.size) := ⟨Nat.le_trans (Nat.le_trans HZ2.out HZ3.out) hg4.size⟩; have HF4 : Aside0 (Frm w w4 g (.slice Ap es.length cp) (.slice Aq es.length cq)) := ⟨HF3.out.grown (Nat.le_trans HZ2.out HZ3.out) hg4⟩; have HN4 : Aside0 (NewOr w (.slice Aq es.length cq) (.slice A4 (es.length + 1) c4)) := ⟨(NewOr.of hat4).mono (Nat.le_trans HZ2.out HZ3.out)⟩; clear ho4 hg4 hb4 hat4))
 all_goals
  go_end0
  exact ⟨rfl, _, _, _, blk_set HBL4.out _ _, HK4.out.still (T := [56]) (Still.of_far (g := g) (fun k hk => Below.heap_setCell _ _ _ k hk) ⟨_, _, by simp, HBL4.out⟩) (by simp [neBS.symm]) (by simp [neBE.symm]), HB4.out.setCell HGB.out _, HS4.out.trans HZ4.out (Still.of_far (g := g) (fun k hk => Below.heap_setCell _ _ _ k hk) ⟨_, 56, by simp, HBL4.out⟩), by rw [World.size_setCell]; exact HZ4.out, HF4.out.far (fun k hk => Below.heap_setCell _ _ _ k hk), HN1.out, HN4.out⟩
set_option maxHeartbeats 8000000 in
set_option maxRecDepth 100000 in
theorem keep_full (w : World) (g : Nat) (cs : Array Value) (v : Value) (Ap : Option Addr) (n cp : Nat) (hg : w.heap[g]? = some (.cells cs 56 (0, 0))) (hp : cs[6]? = some (.slice Ap n cp)) (hn : ¬ n < 250) :
  Calls Tryz.prog 18 #[.pointer (some ⟨g, 0, none⟩), v] w fun e w' => e = .returned (.tuple #[]) ∧ w' = w := by
 have hlt : g < w.heap.size := blk_lt hg
 have c6 : w.cell? ⟨g, 6, none⟩ = some (.slice Ap n cp) := (blk_cell hg 6).trans hp
 have t0 : decide ((n : Int) < 250) = false := decide_eq_false (by omega)
 have t1 : decide (n < 250) = false := decide_eq_false hn
 clear hg hp hn
 go_enter Tryz.func18, Tryz.ntmps18
 go_wp2_with (fail)
 go_end0
 exact ⟨rfl, rfl⟩
theorem row_at {w : World} {base n j : Nat} {v : Value} {xs : List Value} (h : w.ownsRow base 22 1 v n xs) (hj : j < n) : ∃ gp c, v = .slice (some ⟨gp, 0, none⟩) n c ∧ (∃ cur, w.heap[gp]? = some (.cells cur 22 (0, 0))) ∧ ∀ u, xs[j]? = some u → w.cell? ⟨gp, j, none⟩ = some u := by
 rcases h.2 with ⟨_, h0⟩ | ⟨gp, c, cur, hv, _, hh, _, _, _, ht⟩
 ·omega
 ·refine ⟨gp, c, hv, ⟨cur, hh⟩, fun u hu => ?_⟩
  rw [blk_cell hh, ← Array.getElem?_toList]
  rw [← ht, List.getElem?_take] at hu
  split at hu
  ·exact hu
  ·cases hu
theorem same_quiet (V : World) (n : Nat) (A : Option Addr) (c : Nat) (xs : List S) (A' : Option Addr) (c' : Nat) (h1 : Kd.C k32 (V.drewN n) A xs.length xs) (hc1 : xs.length ≤ c) (h2 : Kd.C k32 (V.drewN n) A' xs.length xs) (hc2 : xs.length ≤ c') (hx : xs.length ≤ 1000000) :
  Calls Tryz.prog 19 #[.slice A xs.length c, .slice A' xs.length c'] (V.drewN n) fun e w'' => e = .returned (.bool true) ∧ ∃ m, w'' = V.drewN m :=
 Calls.quiet_of ((cornucopiabook_SameEntries.calls (xs.length + 1) A c xs A' c' xs true _ h1 hc1 h2 hc2 (same_ev xs hx (Nat.lt_succ_self _))).mono (fun e w' hh => ⟨hh.1, by obtain ⟨_, nd, h3⟩ := hh; exact ⟨nd, h3⟩⟩))
set_option maxHeartbeats 8000000 in
set_option maxRecDepth 100000 in
theorem still_calls (w : World) (base g : Nat) (cs : Array Value) (p q : Value) (es : List (Ent S)) (hg : w.heap[g]? = some (.cells cs 56 (0, 0))) (hp : cs[6]? = some p) (hq : cs[7]? = some q)
  (hK : Kept enc 4 22 32 w base p q es) (hx : ∀ x ∈ es, x.xs.length ≤ 1000000) (hn : es.length ≤ 1000000) :
  Calls Tryz.prog 107 #[.pointer (some ⟨g, 0, none⟩)] w fun e w' => e = .returned (.bool true) ∧ Drawn0 w w' := by
 obtain ⟨Ap, cp, rfl⟩ := own_slice hK.rp
 obtain ⟨Aq, cq, rfl⟩ := own_slice hK.rq
 have HG := a_k hg
 have HP := a_k hp
 have HQ := a_k hq
 have HK := a_k hK
 have HX := a_k hx
 clear hg hp hq hK hx
 go_enter Tryz.func107, Tryz.ntmps107
 go_wp2_with (fail)
 go_loopw [3] (fun v3 w' => ∃ j : Nat, v3 = .int .i64 j ∧ j ≤ es.length ∧ Aside0 (Drawn0 w w')) (fun v3 _ => es.length - (intOf v3).toNat)
 case atStart => exact ⟨0, rfl, Nat.zero_le _, ⟨Drawn0.refl w⟩⟩
 case round =>
  obtain ⟨j, rfl, hj, HD⟩ := hrel
  have HGR : Aside0 (wr.heap[g]? = some (.cells cs 56 (0, 0))) := ⟨blk_below HG.out HD.out.below⟩
  have HKR : Aside0 (Kept enc 4 22 32 wr base (.slice Ap es.length cp) (.slice Aq es.length cq) es) := ⟨HK.out.below HD.out.below⟩
  have c6 : wr.cell? ⟨g, 6, none⟩ = some (.slice Ap es.length cp) := (blk_cell HGR.out 6).trans HP.out
  have c7 : wr.cell? ⟨g, 7, none⟩ = some (.slice Aq es.length cq) := (blk_cell HGR.out 7).trans HQ.out
  by_cases hlt : j < es.length
  ·have p0 : (0 : Int) ≤ (j : Int) := Int.natCast_nonneg _
   have q0 : (j : Int) < (es.length : Int) := Int.ofNat_lt.mpr hlt
   have t0 : decide ((j : Int) < (es.length : Int)) = true := decide_eq_true q0
   obtain ⟨gp, cp', e1, _, hp1⟩ := row_at HKR.out.rp hlt
   obtain ⟨gq, cq', e2, _, hq1⟩ := row_at HKR.out.rq hlt
   injection e1 with e1 _ _
   injection e2 with e2 _ _
   subst e1; subst e2
   have hem := List.getElem_mem hlt
   obtain ⟨A1, c1, ev, hc1⟩ := (HKR.out.el _ hem).1.slice
   obtain ⟨A2, c2, eu, hc2⟩ := (HKR.out.el _ hem).2.1.slice
   have y1 : wr.cell? ⟨gp, j, none⟩ = some (.slice A1 es[j].xs.length c1) := by rw [← ev]; exact hp1 _ (by rw [List.getElem?_map, List.getElem?_eq_getElem hlt]; rfl)
   have y2 : wr.cell? ⟨gq, j, none⟩ = some (.slice A2 es[j].xs.length c2) := by rw [← eu]; exact hq1 _ (by rw [List.getElem?_map, List.getElem?_eq_getElem hlt]; rfl)
   have HC1 : Aside0 (Kd.C k32 wr A1 es[j].xs.length es[j].xs) := ⟨flat.to_C (by rw [← ev]; exact (HKR.out.el _ hem).1) rfl⟩
   have HC2 : Aside0 (Kd.C k32 wr A2 es[j].xs.length es[j].xs) := ⟨flat.to_C (by rw [← eu]; exact (HKR.out.el _ hem).2.1) rfl⟩
   have HL1 := a_k hc1
   have HL2 := a_k hc2
   have HLX := a_k (HX.out _ hem)
   clear hp1 hq1 hem ev eu hc1 hc2
   generalize es[j].xs = xs at *
   go_wp2_with (fail)
   go_quiet ((go_at_call 19; exact same_quiet wr _ _ _ _ _ _ (Kd.C_drewN HC1.out _) HL1.out (Kd.C_drewN HC2.out _) HL2.out HLX.out))
   go_wp2_with (fail)
   go_roundw
   case rel => exact ⟨j + 1, by go_num, by omega, ⟨HD.out.step _⟩⟩
   case measure => simp [intOf]; omega
  ·obtain rfl : j = es.length := by omega
   have t0 : decide ((es.length : Int) < (es.length : Int)) = false := decide_eq_false (by omega)
   go_wp2_with (fail)
   go_ret
   exact ⟨rfl, HD.out⟩
def stg (X : Nat → List S) (j : Nat) : Nat → List S := fun i => if i < j then marks i 0 (X i).length else X i
theorem stg_len (X : Nat → List S) (j i : Nat) : (stg X j i).length = (X i).length := by
 unfold stg
 split
 ·rw [marks_len]
 ·rfl
def amid (X : Nat → List S) (j m : Nat) : Nat → List S := fun i => if i = j then (marks j 0 (X j).length).take m ++ (X j).drop m else stg X j i
theorem amid_zero (X : Nat → List S) (j i : Nat) : amid X j 0 i = stg X j i := by
 unfold amid
 split
 ·rename_i h
  subst h
  simp [stg]
 ·rfl
theorem amid_full (X : Nat → List S) (j i : Nat) : amid X j (X j).length i = stg X (j + 1) i := by
 unfold amid
 by_cases h : i = j
 ·subst h
  rw [if_pos rfl, List.take_of_length_le (by rw [marks_len]; exact Nat.le_refl _), List.drop_length]
  simp [stg]
 ·rw [if_neg h]
  unfold stg
  by_cases h2 : i < j
  ·rw [if_pos h2, if_pos (by omega)]
  ·rw [if_neg h2, if_neg (by omega)]
theorem amid_len (X : Nat → List S) (j m i : Nat) (hm : m ≤ (X j).length) : (amid X j m i).length = (X i).length := by
 unfold amid
 split
 ·rename_i h
  subst h
  rw [List.length_append, List.length_take, marks_len, List.length_drop]
  omega
 ·exact stg_len X j i
theorem amid_step (X : Nat → List S) (j m i : Nat) (hm : m < (X j).length) : (if i = j then (amid X j m j).set m (mk (j : Int) (m : Int)) else amid X j m i) = amid X j (m + 1) i := by
 by_cases h : i = j
 ·subst h
  rw [if_pos rfl]
  unfold amid
  rw [if_pos rfl, if_pos rfl]
  have hl : ((marks i 0 (X i).length).take m).length = m := by rw [List.length_take, marks_len]; omega
  rw [List.set_append_right _ _ (by omega), hl, Nat.sub_self, List.drop_eq_getElem_cons hm, List.set_cons_zero]
  have h2 := marks_at (i := (i : Int)) (f := 0) hm
  obtain ⟨h3, h4⟩ := List.getElem?_eq_some_iff.1 h2
  rw [List.take_succ_eq_append_getElem h3, h4, List.append_assoc]
  simp
 ·rw [if_neg h]
  unfold amid
  rw [if_neg h, if_neg h]
set_option maxHeartbeats 8000000 in
set_option maxRecDepth 100000 in
theorem put_calls (w0 w : World) (g : Nat) (cs : Array Value) (p : Value) (vs : List Value) (X : Nat → List S) (hg : w.heap[g]? = some (.cells cs 56 (0, 0))) (hp : cs[6]? = some p)
  (hH : Held enc 4 22 32 w w0.heap.size p vs X) (hB : Below w0.heap.size w0 w) (hx : ∀ i, i < vs.length → (X i).length ≤ 1000000) (hn : vs.length ≤ 1000000) :
  Calls Tryz.prog 123 #[.pointer (some ⟨g, 0, none⟩)] w fun e w' => e = .returned (.tuple #[]) ∧ Held enc 4 22 32 w' w0.heap.size p vs (fun i => marks i 0 (X i).length) ∧ Below w0.heap.size w0 w' ∧ Still [32] w w' ∧ w.heap.size ≤ w'.heap.size := by
 obtain ⟨Ap, cp, rfl⟩ := own_slice hH.rp
 have HG := a_k hg
 have HP := a_k hp
 have HX := a_k hx
 have HH : Aside0 (Held enc 4 22 32 w w0.heap.size (.slice Ap vs.length cp) vs (stg X 0)) := ⟨hH.congr (fun i _ => by simp [stg])⟩
 have HB := a_k hB
 have HS : Aside0 (Still [32] w w) := ⟨Still.refl _ _⟩
 have HZ : Aside0 (w.heap.size ≤ w.heap.size) := ⟨Nat.le_refl _⟩
 clear hg hp hx hH hB
 go_enter Tryz.func123, Tryz.ntmps123
 go_wp2_with (fail)
 go_loopw [2] (fun v2 w' => ∃ j : Nat, v2 = .int .i64 j ∧ j ≤ vs.length ∧ Aside0 (Held enc 4 22 32 w' w0.heap.size (.slice Ap vs.length cp) vs (stg X j)) ∧ Aside0 (Below w0.heap.size w0 w') ∧ Aside0 (Still [32] w w') ∧ Aside0 (w.heap.size ≤ w'.heap.size)) (fun v2 _ => vs.length - (intOf v2).toNat)
 case atStart => exact ⟨0, rfl, Nat.zero_le _, HH, HB, HS, HZ⟩
 case round =>
  clear HH HB HS HZ
  obtain ⟨j, rfl, hj, HH, HB, HS, HZ⟩ := hrel
  have HGR : Aside0 (wr.heap[g]? = some (.cells cs 56 (0, 0))) := ⟨HS.out.blk HG.out (by simp [neBE])⟩
  have c6 : wr.cell? ⟨g, 6, none⟩ = some (.slice Ap vs.length cp) := (blk_cell HGR.out 6).trans HP.out
  by_cases hlt : j < vs.length
  ·have p0 : (0 : Int) ≤ (j : Int) := Int.natCast_nonneg _
   have q0 : (j : Int) < (vs.length : Int) := Int.ofNat_lt.mpr hlt
   have t0 : decide ((j : Int) < (vs.length : Int)) = true := decide_eq_true q0
   obtain ⟨gp, cp_, e1, _, hp1⟩ := row_at HH.out.rp hlt
   injection e1 with e1 _ e3
   subst e1; subst e3
   have hvj := List.getElem?_eq_getElem hlt
   have hrj := (HH.out.el _ _ hvj).1
   rw [stg_len] at hrj
   obtain ⟨A1, c1, ev, hc1⟩ := hrj.slice
   have y1 : wr.cell? ⟨gp, j, none⟩ = some (.slice A1 (X j).length c1) := by rw [← ev]; exact hp1 _ hvj
   rw [ev] at hvj
   have HVJ := a_k hvj
   have HLX := a_k (HX.out j hlt)
   have HLT := a_k hlt
   have hpn : (X j).length ≤ 9223372036854775807 := by have := HLX.out; omega
   clear hp1 hrj ev hc1 hvj
   go_wp2_with (first
    | (go_at_call 219; refine (cornucopiabook_markEntries.calls ((X j).length + 1) (j : Int) 0 ((X j).length : Int) _ _ (mark_ev (j : Int) 0 (X j).length (by have := HLX.out; omega) (Nat.lt_succ_self _))).mono ?_; rintro e w1 ⟨m, rfl, hr, hb⟩; obtain ⟨Am, cm, em⟩ := Kd.R_slice hr; rw [marks_len] at em; subst em; have hrw := flat.of_R hr; rw [marks_len] at hrw; have HM1 := a_k hrw; clear hrw; have HMB : Aside0 (ap (Value.slice Am (X j).length cm) (.slice A1 (X j).length c1)) := ⟨fun k hk1 hk2 => by have h1 := Kd.R_base hr k hk1; have h2 := (HH.out.el _ _ HVJ.out).1.lt k hk2; omega⟩; have n0_ := a_k (HH.out.below hb); have n1_ := a_k (below_step HB.out hb); have n2_ := a_k (HS.out.below HZ.out hb); have n3_ := a_k (Nat.le_trans HZ.out hb.size); clear hr hb HH HB HS HZ; have HH := n0_; have HB := n1_; have HS := n2_; have HZ := n3_; clear n0_ n1_ n2_ n3_))
   have HH1 : Aside0 (Held enc 4 22 32 w1 w0.heap.size (.slice (some ⟨gp, 0, none⟩) vs.length cp) vs (amid X j 0)) := ⟨HH.out.congr (fun i _ => (amid_zero X j i).symm)⟩
   clear HH c6 y1
   go_loopw [4] (fun v4 w' => ∃ q : Nat, v4 = .int .i64 q ∧ q ≤ (X j).length ∧ Aside0 (Held enc 4 22 32 w' w0.heap.size (.slice (some ⟨gp, 0, none⟩) vs.length cp) vs (amid X j q)) ∧ Aside0 (Rw w' 32 4 (.slice Am (X j).length cm) (X j).length (encL enc (marks (j : Int) 0 (X j).length))) ∧ Aside0 (Below w0.heap.size w0 w') ∧ Aside0 (Still [32] w w') ∧ Aside0 (w.heap.size ≤ w'.heap.size)) (fun v4 _ => (X j).length - (intOf v4).toNat)
   case atStart => exact ⟨0, rfl, Nat.zero_le _, HH1, HM1, HB, HS, HZ⟩
   case round =>
    clear HH1 HM1 HB HS HZ HGR
    obtain ⟨q, rfl, hq, HH, HM, HB, HS, HZ⟩ := hrel
    have HGR : Aside0 (wr.heap[g]? = some (.cells cs 56 (0, 0))) := ⟨HS.out.blk HG.out (by simp [neBE])⟩
    have c6 : wr.cell? ⟨g, 6, none⟩ = some (.slice (some ⟨gp, 0, none⟩) vs.length cp) := (blk_cell HGR.out 6).trans HP.out
    by_cases hql : q < (X j).length
    ·have pq : (0 : Int) ≤ (q : Int) := Int.natCast_nonneg _
     have qq : (q : Int) < ((X j).length : Int) := Int.ofNat_lt.mpr hql
     have t1 : decide ((q : Int) < ((X j).length : Int)) = true := decide_eq_true qq
     obtain ⟨gp2, cp2, e2, _, hp2⟩ := row_at HH.out.rp hlt
     injection e2 with e2 _ e4
     injection e2 with e2
     injection e2 with e2
     subst e2; subst e4
     have y1 : wr.cell? ⟨gp, j, none⟩ = some (.slice A1 (X j).length c1) := hp2 _ HVJ.out
     have hrv := (HH.out.el _ _ HVJ.out).1
     have hal := amid_len X j q j hq
     rw [hal] at hrv
     obtain ⟨gv, ov, cv, ev, hcv, hfv, hcells⟩ := hrv.form (by omega)
     injection ev with ev _ ev2
     subst ev; subst ev2
     obtain ⟨gm, om, cm2, em, hcm, hfm, hmcells⟩ := HM.out.form (by omega)
     injection em with em _ em2
     subst em; subst em2
     have hx0 : (amid X j q j)[q]? = some ((amid X j q j)[q]'(by omega)) := List.getElem?_eq_getElem (by omega)
     have hm0 := marks_at (i := (j : Int)) (f := 0) hql
     rw [Int.zero_add] at hm0
     generalize (amid X j q j)[q]'(by omega) = x0 at hx0
     have zv0 : wr.cell? ⟨gv, ov + q * 4, none⟩ = some (.string x0.f0) := by have h := hcells (q * 4 + 0) _ (flat.cell hx0 (i := 0) rfl); simpa [Nat.add_assoc] using h
     have zf0 : wr.frozen? ⟨gv, ov + q * 4, none⟩ = false := hfv _
     have zm0 : wr.cell? ⟨gm, om + q * 4, none⟩ = some (.string (mk (j : Int) (q : Int)).f0) := by have h := hmcells (q * 4 + 0) _ (flat.cell hm0 (i := 0) rfl); simpa [Nat.add_assoc] using h
     have zv1 : wr.cell? ⟨gv, ov + q * 4 + 1, none⟩ = some (.int .u64 x0.f1) := by have h := hcells (q * 4 + 1) _ (flat.cell hx0 (i := 1) rfl); simpa [Nat.add_assoc] using h
     have zf1 : wr.frozen? ⟨gv, ov + q * 4 + 1, none⟩ = false := hfv _
     have zm1 : wr.cell? ⟨gm, om + q * 4 + 1, none⟩ = some (.int .u64 (mk (j : Int) (q : Int)).f1) := by have h := hmcells (q * 4 + 1) _ (flat.cell hm0 (i := 1) rfl); simpa [Nat.add_assoc] using h
     have zv2 : wr.cell? ⟨gv, ov + q * 4 + 2, none⟩ = some (.int .i64 x0.f2) := by have h := hcells (q * 4 + 2) _ (flat.cell hx0 (i := 2) rfl); simpa [Nat.add_assoc] using h
     have zf2 : wr.frozen? ⟨gv, ov + q * 4 + 2, none⟩ = false := hfv _
     have zm2 : wr.cell? ⟨gm, om + q * 4 + 2, none⟩ = some (.int .i64 (mk (j : Int) (q : Int)).f2) := by have h := hmcells (q * 4 + 2) _ (flat.cell hm0 (i := 2) rfl); simpa [Nat.add_assoc] using h
     have zv3 : wr.cell? ⟨gv, ov + q * 4 + 3, none⟩ = some (.string x0.f3) := by have h := hcells (q * 4 + 3) _ (flat.cell hx0 (i := 3) rfl); simpa [Nat.add_assoc] using h
     have zf3 : wr.frozen? ⟨gv, ov + q * 4 + 3, none⟩ = false := hfv _
     have zm3 : wr.cell? ⟨gm, om + q * 4 + 3, none⟩ = some (.string (mk (j : Int) (q : Int)).f3) := by have h := hmcells (q * 4 + 3) _ (flat.cell hm0 (i := 3) rfl); simpa [Nat.add_assoc] using h
     clear hcells hmcells hx0 hm0 hp2 hrv hal
     have HQL := a_k hql
     go_wp2_with (fail)
     go_region
     have hW : ((((wr).setCell ⟨gv, ov + q * 4, none⟩ (.string (mk (j : Int) (q : Int)).f0)).setCell ⟨gv, ov + q * 4 + 1, none⟩ (.int .u64 (mk (j : Int) (q : Int)).f1)).setCell ⟨gv, ov + q * 4 + 2, none⟩ (.int .i64 (mk (j : Int) (q : Int)).f2)).setCell ⟨gv, ov + q * 4 + 3, none⟩ (.string (mk (j : Int) (q : Int)).f3) = wr.setCells gv (ov + q * 4) (enc (mk (j : Int) (q : Int))) := rfl
     rw [hW]
     clear hW zv0 zf0 zm0 zv1 zf1 zm1 zv2 zf2 zm2 zv3 zf3 zm3 c6 y1
     have HBV : Aside0 (w0.heap.size ≤ gv) := ⟨(HH.out.el _ _ HVJ.out).2 gv rfl⟩
     have HTV : Aside0 (∃ cur, wr.heap[gv]? = some (.cells cur 32 (0, 0))) := ⟨(HH.out.el _ _ HVJ.out).1.typed gv rfl⟩
     have n0_ : Aside0 (Held enc 4 22 32 (wr.setCells gv (ov + q * 4) (enc (mk (j : Int) (q : Int)))) w0.heap.size (.slice (some ⟨gp, 0, none⟩) vs.length cp) vs (amid X j (q + 1))) := ⟨(HH.out.put flat neSE HVJ.out (by rw [amid_len X j q j (Nat.le_of_lt HQL.out)]; exact HQL.out) (mk (j : Int) (q : Int))).congr (fun i _ => amid_step X j q i HQL.out)⟩
     have n1_ : Aside0 (Rw (wr.setCells gv (ov + q * 4) (enc (mk (j : Int) (q : Int)))) 32 4 (.slice (some ⟨gm, om, none⟩) (X j).length cm) (X j).length (encL enc (marks (j : Int) 0 (X j).length))) := ⟨HM.out.move (fun k hk => setCells_far _ _ k (fun e => HMB.out k hk (by rw [e]; rfl)))⟩
     have n2_ := a_k (below_setCells (o := ov + q * 4) (vs := enc (mk (j : Int) (q : Int))) HB.out HBV.out)
     have n3_ : Aside0 (Still [32] w (wr.setCells gv (ov + q * 4) (enc (mk (j : Int) (q : Int))))) := ⟨by obtain ⟨cur, hc⟩ := HTV.out; exact HS.out.trans HZ.out (still_setCells hc (by simp))⟩
     have n4_ : Aside0 (w.heap.size ≤ (wr.setCells gv (ov + q * 4) (enc (mk (j : Int) (q : Int)))).heap.size) := ⟨by rw [size_setCells]; exact HZ.out⟩
     clear HH HM HB HS HZ HBV HTV HGR
     generalize wr.setCells gv (ov + q * 4) (enc (mk (j : Int) (q : Int))) = w5 at *
     go_wp2_with (fail)
     go_roundw
     case rel => exact ⟨q + 1, by go_num, by omega, ⟨n0_.out.below (below_drew (Below.refl _ w5))⟩, ⟨n1_.out.below (below_drew (Below.refl _ w5))⟩, ⟨below_drew n2_.out⟩, ⟨n3_.out.below n4_.out (below_drew (Below.refl _ w5))⟩, n4_⟩
     case measure => simp [intOf]; omega
    ·obtain rfl : q = (X j).length := by omega
     have t1 : decide (((X j).length : Int) < ((X j).length : Int)) = false := decide_eq_false (by omega)
     go_wp2_with (fail)
     go_roundw
     case rel => exact ⟨j + 1, by go_num, by omega, ⟨by have h := HH.out.congr (fun i _ => amid_full X j i); exact h⟩, HB, HS, HZ⟩
     case measure => simp [intOf]; omega
  ·obtain rfl : j = vs.length := by omega
   have t0 : decide ((vs.length : Int) < (vs.length : Int)) = false := decide_eq_false (by omega)
   go_wp2_with (fail)
   go_end0
   exact ⟨rfl, HH.out.congr (fun i hi => by unfold stg; rw [if_pos hi]), HB.out, HS.out, HZ.out⟩
abbrev grown (X : Nat → List S) (i : Nat) : List S := marks i 0 ((X i).length + 72)
structure GrO (w : World) (base b0 : Nat) (p : Value) (vs : List Value) (X : Nat → List S) (out : Value) (ws : List Value) : Prop where
 H : Held enc 4 22 32 w base p vs X
 o : w.ownsRow b0 22 1 out ws.length ws
 W : ∀ (i : Nat) (u : Value), ws[i]? = some u → Rw w 32 4 u (grown X i).length (encL enc (grown X i)) ∧ ∀ k, u.ownBlock = some k → base ≤ k
 wv : ∀ (i : Nat) (u : Value) (m : Nat) (v : Value), ws[i]? = some u → vs[m]? = some v → ws.length ≤ m → ap u v
 op : ∀ k, p.ownBlock = some k → k < b0
structure Grw (w : World) (base b0 : Nat) (p : Value) (vs : List Value) (X : Nat → List S) (out : Value) (ws : List Value) (l : Value) (n : Nat) : Prop where
 H : Held enc 4 22 32 w base p vs X
 o : w.ownsRow b0 22 1 out ws.length ws
 W : ∀ (i : Nat) (u : Value), ws[i]? = some u → Rw w 32 4 u (grown X i).length (encL enc (grown X i)) ∧ ∀ k, u.ownBlock = some k → base ≤ k
 L : Rw w 32 4 l (marks ws.length 0 n).length (encL enc (marks ws.length 0 n)) ∧ ∀ k, l.ownBlock = some k → base ≤ k
 ln : (X ws.length).length ≤ n
 lv : ∀ v, vs[ws.length]? = some v → ap l v ∨ ∃ A c, v = .slice A (X ws.length).length c ∧ l = .slice A n c
 lo : ∀ (m : Nat) (v : Value), m ≠ ws.length → vs[m]? = some v → ap v l
 lw : ∀ (i : Nat) (u : Value), ws[i]? = some u → ap u l
 wv : ∀ (i : Nat) (u : Value) (m : Nat) (v : Value), ws[i]? = some u → vs[m]? = some v → ws.length < m → ap u v
 op : ∀ k, p.ownBlock = some k → k < b0
section
variable {w w1 : World} {base b0 n : Nat} {p out l l1 : Value} {vs ws : List Value} {X : Nat → List S}
theorem GrO.still (h : GrO w base b0 p vs X out ws) {T : List TypeId} (hs : Still T w w1) (h1 : 22 ∉ T) (h2 : 32 ∉ T) : GrO w1 base b0 p vs X out ws :=
 ⟨h.H.still hs h1 h2, hs.own h.o h1, fun i u hu => ⟨hs.rw_ (h.W i u hu).1 h2, (h.W i u hu).2⟩, h.wv, h.op⟩
theorem GrO.below (h : GrO w base b0 p vs X out ws) (hb : Below w.heap.size w w1) : GrO w1 base b0 p vs X out ws := h.still (T := []) (Still.of_below hb) (by simp) (by simp)
theorem Grw.below (h : Grw w base b0 p vs X out ws l n) (hb : Below w.heap.size w w1) : Grw w1 base b0 p vs X out ws l n :=
 ⟨h.H.below hb, pw_own_below h.o hb, fun i u hu => ⟨(h.W i u hu).1.below hb, (h.W i u hu).2⟩, ⟨h.L.1.below hb, h.L.2⟩, h.ln, h.lv, h.lo, h.lw, h.wv, h.op⟩
theorem GrO.start (h : GrO w base b0 p vs X out ws) (hX : ∀ i, i < vs.length → X i = marks i 0 (X i).length) {v : Value} (hv : vs[ws.length]? = some v) : Grw w base b0 p vs X out ws v (X ws.length).length := by
 have hlt := (List.getElem?_eq_some_iff.1 hv).1
 have hx := hX _ hlt
 obtain ⟨hr, hb⟩ := h.H.el _ _ hv
 obtain ⟨A, c, e, _⟩ := hr.slice
 refine ⟨h.H, h.o, h.W, ⟨?_, hb⟩, Nat.le_refl _, fun v' hv' => ?_, fun m v' hm hv' => ap_of h.H.dv hv' hv hm, fun i u hu => h.wv i u _ v hu hv (Nat.le_refl _), fun i u m v' hu hv' hm => h.wv i u m v' hu hv' (Nat.le_of_lt hm), h.op⟩
 ·rw [← hx]
  exact hr
 ·rw [hv] at hv'
  injection hv' with hv'
  subst hv'
  exact .inr ⟨A, c, e, e⟩
theorem ap_fresh {v : Value} {m : Nat} {cs : List Value} (h : Rw w 32 4 v m cs) (hat : ∃ b, l1.ownBlock = some b ∧ w.heap.size ≤ b) : ap v l1 := fun k hk hk2 => by
 obtain ⟨b, hb, hle⟩ := hat
 have := h.lt k hk
 rw [hb] at hk2
 injection hk2 with hk2
 omega
theorem Grw.step (h : Grw w base b0 p vs X out ws l n) {m : Nat} (hbase : base ≤ w.heap.size) (h1 : Rw w1 32 4 l1 (marks ws.length 0 n ++ marks ws.length (n : Int) m).length (encL enc (marks ws.length 0 n ++ marks ws.length (n : Int) m)))
  (h2 : Rw w1 32 4 l (marks ws.length 0 n).length (encL enc (marks ws.length 0 n))) (hg : w.grownBy w1 l.ownBlock) (hat : (∃ A c, l = .slice A (marks ws.length 0 n).length c ∧ l1 = .slice A ((marks ws.length 0 n).length + m) c) ∨ ∃ b, l1.ownBlock = some b ∧ w.heap.size ≤ b)
  (hX : ∀ i, i < vs.length → X i = marks i 0 (X i).length) : Grw w1 base b0 p vs X out ws l1 (n + m) := by
 rw [marks_add] at h1
 rw [marks_len] at hat
 have apl : ∀ {v : Value} {q : Nat} {cs : List Value}, Rw w 32 4 v q cs → ap v l → ap v l1 := by
  intro v q cs hv ha
  rcases hat with ⟨A, c, e1, e2⟩ | hat
  ·subst e1; subst e2
   exact fun k hk hk2 => ha k hk ((own_sl A n c (n + m) c).trans hk2)
  ·exact ap_fresh hv hat
 have rp' : ∀ {b q : Nat} {v : Value} {ys : List Value}, w.ownsRow b 22 1 v q ys → w1.ownsRow b 22 1 v q ys := by
  intro b q v ys hv
  refine own_other hv hg ?_
  cases e : v.ownBlock with
  | none => exact .inl rfl
  | some k =>
   right
   intro e2
   obtain ⟨c1, hc1⟩ := own_typed hv k e
   obtain ⟨c2, hc2⟩ := h.L.1.typed k e2.symm
   rw [hc1] at hc2
   injection hc2 with hc2
   injection hc2 with _ hc2
   exact neSE hc2
 refine ⟨⟨rp' h.H.rp, fun i v hv => ⟨?_, (h.H.el i v hv).2⟩, h.H.dv⟩, rp' h.o, fun i u hu => ⟨(h.W i u hu).1.grown hg (h.lw i u hu).ne, (h.W i u hu).2⟩, ⟨h1, fun k hk => ?_⟩, Nat.le_trans h.ln (Nat.le_add_right _ _), fun v hv => ?_, fun q v hq hv => apl (h.H.el q v hv).1 (h.lo q v hq hv), fun i u hu => apl (h.W i u hu).1 (h.lw i u hu), h.wv, h.op⟩
 ·by_cases hi : i = ws.length
  ·subst hi
   rcases h.lv v hv with ha | ⟨A, c, e1, e2⟩
   ·exact (h.H.el _ v hv).1.grown hg ha.symm.ne
   ·subst e1
    rw [e2] at h2
    rw [marks_len] at h2
    have h3 := h2.take h.ln
    have h4 : (encL enc (marks ws.length 0 n)).take ((X ws.length).length * 4) = encL enc (X ws.length) := by
     have h5 := marks_add ws.length (X ws.length).length (n - (X ws.length).length)
     rw [show (X ws.length).length + (n - (X ws.length).length) = n from by have := h.ln; omega] at h5
     rw [← h5, encL_append, ← hX _ (List.getElem?_eq_some_iff.1 hv).1]
     exact List.take_left' (flat.lenL _)
    rw [h4] at h3
    exact h3
  ·exact (h.H.el i v hv).1.grown hg (h.lo i v hi hv).ne
 ·rcases hat with ⟨A, c, e1, e2⟩ | ⟨b, hb, hle⟩
  ·subst e1; subst e2
   exact h.L.2 k ((own_sl A n c (n + m) c).trans hk)
  ·rw [hb] at hk
   injection hk with hk
   omega
 ·rcases hat with ⟨A, c, e1, e2⟩ | hat
  ·subst e2
   rcases h.lv v hv with ha | ⟨A', c', e3, e4⟩
   ·subst e1
    exact .inl (fun k hk hk2 => ha k ((own_sl A n c (n + m) c).trans hk) hk2)
   ·right
    rw [e4] at e1
    injection e1 with e5 _ e6
    subst e5; subst e6
    exact ⟨A', c', e3, rfl⟩
  ·exact .inl (ap_fresh (h.H.el _ v hv).1 hat).symm
theorem Grw.fin (h : Grw w base b0 p vs X out ws l ((X ws.length).length + 72)) {out1 : Value} (ho : w1.ownsRow b0 22 1 out1 (ws.length + 1) (ws ++ [l])) (hg : w.grownBy w1 out.ownBlock) : GrO w1 base b0 p vs X out1 (ws ++ [l]) := by
 have hne : p.ownBlock = none ∨ p.ownBlock ≠ out.ownBlock := by
  cases e : p.ownBlock with
  | none => exact .inl rfl
  | some k =>
   right
   intro e2
   have h1 := h.op k e
   have h2 := own_base h.o k e2.symm
   omega
 refine ⟨⟨own_other h.H.rp hg hne, fun i v hv => ⟨rw_over (h.H.el i v hv).1 h.o hg neSE, (h.H.el i v hv).2⟩, h.H.dv⟩, by simpa using ho, fun i u hu => ?_, fun i u m v hu hv hm => ?_, h.op⟩
 ·by_cases hi : i < ws.length
  ·rw [List.getElem?_append_left hi] at hu
   exact ⟨rw_over (h.W i u hu).1 h.o hg neSE, (h.W i u hu).2⟩
  ·have hi2 : i = ws.length := by
    have := (List.getElem?_eq_some_iff.1 hu).1
    simp at this
    omega
   subst hi2
   have hu2 : l = u := by simpa using hu
   subst hu2
   exact ⟨rw_over h.L.1 h.o hg neSE, h.L.2⟩
 ·rw [List.length_append, List.length_singleton] at hm
  by_cases hi : i < ws.length
  ·rw [List.getElem?_append_left hi] at hu
   exact h.wv i u m v hu hv (by omega)
  ·have hi2 : i = ws.length := by
    have := (List.getElem?_eq_some_iff.1 hu).1
    simp at this
    omega
   subst hi2
   have hu2 : l = u := by simpa using hu
   subst hu2
   exact (h.lo m v (by omega) hv).symm
end
set_option maxHeartbeats 8000000 in
set_option maxRecDepth 100000 in
theorem grow_calls (w0 w : World) (g : Nat) (cs : Array Value) (p : Value) (vs : List Value) (X : Nat → List S) (hg : w.heap[g]? = some (.cells cs 56 (0, 0))) (hp : cs[6]? = some p)
  (hH : Held enc 4 22 32 w w0.heap.size p vs X) (hX : ∀ i, i < vs.length → X i = marks i 0 (X i).length) (hB : Below w0.heap.size w0 w) (hx : ∀ i, i < vs.length → (X i).length ≤ 1000000) (hn : vs.length ≤ 1000000) :
  Calls Tryz.prog 135 #[.pointer (some ⟨g, 0, none⟩)] w fun e w' => ∃ out ws, e = .returned out ∧ ws.length = vs.length ∧ GrO w' w0.heap.size w.heap.size p vs X out ws ∧ Below w0.heap.size w0 w' ∧ Still [32] w w' ∧ w.heap.size ≤ w'.heap.size := by
 obtain ⟨Ap, cp, rfl⟩ := own_slice hH.rp
 have HG := Aside0.mk hg
 have HP := Aside0.mk hp
 have HX := Aside0.mk hx
 have HXM := Aside0.mk hX
 have HO : Aside0 (GrO w w0.heap.size w.heap.size (.slice Ap vs.length cp) vs X (.slice none 0 0) []) := ⟨⟨hH, own_nil _ _ _ _, fun i u hu => by simp at hu, fun i u m v hu => by simp at hu, fun k hk => own_lt hH.rp k hk⟩⟩
 have HB := Aside0.mk hB
 have HB00 := Aside0.mk hB
 have HS : Aside0 (Still [32] w w) := ⟨Still.refl _ _⟩
 have HZ : Aside0 (w.heap.size ≤ w.heap.size) := ⟨Nat.le_refl _⟩
 clear hg hp hx hH hB hX
 go_enter Tryz.func135, Tryz.ntmps135
 go_wp2_with (fail)
 go_loopw [3, 4] (fun v3 v4 w' => ∃ (j : Nat) (ws : List Value) (Ao : Option Addr) (co : Nat), v3 = .slice Ao j co ∧ v4 = .int .i64 j ∧ Aside0 (ws.length = j) ∧ j ≤ vs.length ∧ Aside0 (GrO w' w0.heap.size w.heap.size (.slice Ap vs.length cp) vs X (.slice Ao j co) ws) ∧ Aside0 (Below w0.heap.size w0 w') ∧ Aside0 (Still [32] w w') ∧ Aside0 (w.heap.size ≤ w'.heap.size)) (fun _ v4 _ => vs.length - (intOf v4).toNat)
 case atStart => exact ⟨0, [], none, 0, rfl, rfl, ⟨rfl⟩, Nat.zero_le _, HO, HB, HS, HZ⟩
 case round =>
  clear HO HB HS HZ
  obtain ⟨j, ws, Ao, co, rfl, rfl, HWL, hj, HO, HB, HS, HZ⟩ := hrel
  have HGR : Aside0 (wr.heap[g]? = some (.cells cs 56 (0, 0))) := ⟨HS.out.blk HG.out (by simp [neBE])⟩
  have c6 : wr.cell? ⟨g, 6, none⟩ = some (.slice Ap vs.length cp) := (blk_cell HGR.out 6).trans HP.out
  by_cases hlt : j < vs.length
  ·have p0 : (0 : Int) ≤ (j : Int) := Int.natCast_nonneg _
   have q0 : (j : Int) < (vs.length : Int) := Int.ofNat_lt.mpr hlt
   have t0 : decide ((j : Int) < (vs.length : Int)) = true := decide_eq_true q0
   obtain ⟨gp, cp_, e1, _, hp1⟩ := row_at HO.out.H.rp hlt
   injection e1 with e1 _ e3
   subst e1; subst e3
   have hvj := List.getElem?_eq_getElem hlt
   obtain ⟨A1, c1, ev, hc1⟩ := (HO.out.H.el _ _ hvj).1.slice
   have y1 : wr.cell? ⟨gp, j, none⟩ = some (.slice A1 (X j).length c1) := by rw [← ev]; exact hp1 _ hvj
   rw [ev] at hvj
   obtain ⟨nj, hnj⟩ : ∃ nj, nj = (X j).length := ⟨_, rfl⟩
   have HNJ := Aside0.mk hnj
   have HLT := Aside0.mk hlt
   have HNV := Aside0.mk hn
   have HLX : Aside0 (nj ≤ 1000000) := ⟨by rw [hnj]; exact HX.out j hlt⟩
   have HGW : Aside0 (Grw wr w0.heap.size w.heap.size (.slice (some ⟨gp, 0, none⟩) vs.length cp) vs X (.slice Ao j co) ws (.slice A1 nj c1) nj) := ⟨by have h := HO.out.start HXM.out (v := .slice A1 (X j).length c1) (by rw [HWL.out]; exact hvj); rw [HWL.out, ← hnj] at h; exact h⟩
   rw [← hnj] at y1
   clear hp1 ev hc1 hvj hnj HO
   go_wp2_with (fail)
   go_loopw [5, 6] (fun v5 v6 w' => ∃ (t n : Nat) (Al : Option Addr) (cl : Nat), v5 = .slice Al n cl ∧ v6 = .int .i64 t ∧ t ≤ 12 ∧ Aside0 (n = nj + t) ∧ Aside0 (Grw w' w0.heap.size w.heap.size (.slice (some ⟨gp, 0, none⟩) vs.length cp) vs X (.slice Ao j co) ws (.slice Al n cl) n) ∧ Aside0 (Below w0.heap.size w0 w') ∧ Aside0 (Still [32] w w') ∧ Aside0 (w.heap.size ≤ w'.heap.size)) (fun _ v6 _ => 12 - (intOf v6).toNat)
   case atStart => exact ⟨0, nj, A1, c1, rfl, rfl, Nat.zero_le _, ⟨rfl⟩, HGW, HB, HS, HZ⟩
   case round =>
    clear HGW HB HS HZ HGR c6 y1
    obtain ⟨t, n, Al, cl, rfl, rfl, ht, HN, HGW, HB, HS, HZ⟩ := hrel
    by_cases ht2 : t < 12
    ·have t1 : decide ((t : Int) < 12) = true := decide_eq_true (by omega)
     have HT := Aside0.mk ht2
     have hn2 : n ≤ 9223372036854775807 := by have := HN.out; have := HLX.out; omega
     clear ht2
     go_wp2_with (first
      | (go_at_call 219; refine (cornucopiabook_markEntries.calls 2 (j : Int) (n : Int) 1 _ _ (mark_ev (j : Int) (n : Int) 1 (by have := HN.out; have := HLX.out; have := HT.out; omega) (by omega))).mono ?_; rintro e w1 ⟨m, rfl, hr, hb⟩; obtain ⟨Am, cm, em⟩ := Kd.R_slice hr; rw [marks_len] at em; subst em; have HM1 := Aside0.mk (Kd.R_reads' hr).2.2; have n0_ := Aside0.mk (HGW.out.below hb); have n1_ := Aside0.mk (below_step HB.out hb); have n2_ := Aside0.mk (HS.out.below HZ.out hb); have n3_ := Aside0.mk (Nat.le_trans HZ.out hb.size); clear hr hb HGW HB HS HZ; have HGW := n0_; have HB := n1_; have HS := n2_; have HZ := n3_; clear n0_ n1_ n2_ n3_)
      | ((with_reducible refine gate_builtin (b := .append) (xs := #[.tmp 27, .tmp 31]) rfl ?_); at_builtin; refine wp_append_rw flat rfl (.tmp 27) (.tmp 31) 22 32 (.agg #[.string ⟨#[]⟩, .int .u64 0, .int .i64 0, .string ⟨#[]⟩]) 48 rfl Tryz.underlying22 infoE ?a1 ?a2 (.slice Al n cl) (marks ws.length 0 n) (marks (j : Int) (n : Int) 1) Am 1 cm rfl rfl ?a3 ?a4 ?a5 ?a6 ?a7 ?_; (case a1 => rfl); (case a2 => decide); (case a3 => exact HGW.out.L.1); (case a4 => have h := HM1.out; rw [marks_len] at h; exact h); (case a5 => decide); (case a6 => rw [marks_len]; have := HN.out; have := HLX.out; have := HT.out; omega); (case a7 => rw [marks_len]; unfold maxLen; have := HN.out; have := HLX.out; have := HT.out; omega); intro l1 w2 hl1 hl0 hgr hat; have g0 := HGW.out.step (m := 1) (l1 := l1) (w1 := w2) HB.out.size (by have h := hl1; rw [show (j : Int) = (ws.length : Int) from by rw [HWL.out]] at h; exact h) hl0 hgr hat HXM.out; obtain ⟨Al2, cl2, el, _⟩ := g0.L.1.slice; rw [marks_len] at el; subst el; have n0_ := Aside0.mk g0; have n1_ := Aside0.mk (HB.out.grown hgr HB.out.size (fun k hk => HGW.out.L.2 k hk)); have n2_ : Aside0 (Still [32] w w2) := ⟨HS.out.trans HZ.out (Still.of_grown hgr (fun k hk => by obtain ⟨cur, hc⟩ := HGW.out.L.1.typed k hk; exact ⟨cur, 32, by simp, hc⟩))⟩; have n3_ := Aside0.mk (Nat.le_trans HZ.out hgr.size); clear hl1 hl0 hgr hat g0 HGW HB HS HZ HM1; have HGW := n0_; have HB := n1_; have HS := n2_; have HZ := n3_; clear n0_ n1_ n2_ n3_))
     go_roundw
     case rel => exact ⟨t + 1, n + 1, Al2, cl2, rfl, by go_num, by have := HT.out; omega, ⟨by have := HN.out; omega⟩, HGW, HB, HS, HZ⟩
     case measure => simp [intOf]; have := HT.out; omega
    ·obtain rfl : t = 12 := by omega
     have t1 : decide ((12 : Int) < 12) = false := by decide
     have t1' : decide (((12 : Nat) : Int) < 12) = false := by decide
     have HT := Aside0.mk ht
     have hn2 : n ≤ 9223372036854775807 := by have := HN.out; have := HLX.out; omega
     have HTI := Aside0.mk q0
     clear ht2 ht
     go_wp2_with (first
      | (go_at_call 219; refine (cornucopiabook_markEntries.calls 61 (j : Int) (n : Int) 60 _ _ (mark_ev (j : Int) (n : Int) 60 (by have := HN.out; have := HLX.out; have := HT.out; omega) (by omega))).mono ?_; rintro e w1 ⟨m, rfl, hr, hb⟩; obtain ⟨Am, cm, em⟩ := Kd.R_slice hr; rw [marks_len] at em; subst em; have HM1 := Aside0.mk (Kd.R_reads' hr).2.2; have n0_ := Aside0.mk (HGW.out.below hb); have n1_ := Aside0.mk (below_step HB.out hb); have n2_ := Aside0.mk (HS.out.below HZ.out hb); have n3_ := Aside0.mk (Nat.le_trans HZ.out hb.size); clear hr hb HGW HB HS HZ; have HGW := n0_; have HB := n1_; have HS := n2_; have HZ := n3_; clear n0_ n1_ n2_ n3_)
      | ((with_reducible refine gate_builtin (b := .append) (xs := #[.tmp 34, .tmp 38]) rfl ?_); at_builtin; refine wp_append_rw flat rfl (.tmp 34) (.tmp 38) 22 32 (.agg #[.string ⟨#[]⟩, .int .u64 0, .int .i64 0, .string ⟨#[]⟩]) 48 rfl Tryz.underlying22 infoE ?a1 ?a2 (.slice Al n cl) (marks ws.length 0 n) (marks (j : Int) (n : Int) 60) Am 60 cm rfl rfl ?a3 ?a4 ?a5 ?a6 ?a7 ?_; (case a1 => rfl); (case a2 => decide); (case a3 => exact HGW.out.L.1); (case a4 => have h := HM1.out; rw [marks_len] at h; exact h); (case a5 => decide); (case a6 => rw [marks_len]; have := HN.out; have := HLX.out; have := HT.out; omega); (case a7 => rw [marks_len]; unfold maxLen; have := HN.out; have := HLX.out; have := HT.out; omega); intro l1 w2 hl1 hl0 hgr hat; have g0 := HGW.out.step (m := 60) (l1 := l1) (w1 := w2) HB.out.size (by have h := hl1; rw [show (j : Int) = (ws.length : Int) from by rw [HWL.out]] at h; exact h) hl0 hgr hat HXM.out; obtain ⟨Al2, cl2, el, _⟩ := g0.L.1.slice; rw [marks_len] at el; subst el; have n0_ := Aside0.mk g0; have n1_ := Aside0.mk (HB.out.grown hgr HB.out.size (fun k hk => HGW.out.L.2 k hk)); have n2_ : Aside0 (Still [32] w w2) := ⟨HS.out.trans HZ.out (Still.of_grown hgr (fun k hk => by obtain ⟨cur, hc⟩ := HGW.out.L.1.typed k hk; exact ⟨cur, 32, by simp, hc⟩))⟩; have n3_ := Aside0.mk (Nat.le_trans HZ.out hgr.size); clear hl1 hl0 hgr hat g0 HGW HB HS HZ HM1; have HGW := n0_; have HB := n1_; have HS := n2_; have HZ := n3_; clear n0_ n1_ n2_ n3_)
      | ((with_reducible refine gate_builtin (b := .append) (xs := #[.tmp 33, .tmp 40]) rfl ?_); at_builtin; refine print_append_cells w.heap.size rfl (.tmp 33) (.tmp 40) 44 22 (.slice none 0 0) 1 24 rfl Tryz.underlying44 infoS rfl ?b1 ?b2 (.slice Ao j co) ws.length ws [.slice Al2 (n + 60) cl2] rfl rfl rfl ?b3 HGW.out.o (Below.refl _ _) HZ.out ?bL ?_; (case b1 => decide); (case b2 => decide); (case b3 => exact one_slice _ _ _); (case bL => rw [HWL.out]; have := HLT.out; have := HNV.out; omega); intro out1 w3 ho1 hb1 hg1 hat1; have ho2 := ho1; rw [HWL.out] at ho2; obtain ⟨A3, c3, rfl⟩ := own_slice ho2; have h1 := HN.out; have h2 := HNJ.out; have e72 : n + 60 = (X ws.length).length + 72 := (by rw [HWL.out]; omega); clear h1 h2; have h9 := HGW.out; rw [e72] at h9 ho1; have n0_ := Aside0.mk (h9.fin ho1 hg1); have n1_ := Aside0.mk (HB.out.grown hg1 HB.out.size (fun k hk => Nat.le_trans HB00.out.size (own_base h9.o k hk))); have n2_ := Aside0.mk (HS.out.grown_new HZ.out hg1 (fun k hk => own_base h9.o k hk)); have n3_ := Aside0.mk (Nat.le_trans HZ.out hg1.size); clear ho1 ho2 hb1 hg1 hat1 e72 h9 HGW HB HS HZ; have HGW := n0_; have HB := n1_; have HS := n2_; have HZ := n3_; clear n0_ n1_ n2_ n3_))
     go_roundw
     case rel => exact ⟨j + 1, _, A3, c3, rfl, by go_num, ⟨by rw [List.length_append, HWL.out]; rfl⟩, by have := HLT.out; omega, HGW, HB, HS, HZ⟩
     case measure => simp [intOf]; have := HLT.out; omega
  ·obtain rfl : j = vs.length := by omega
   have t0 : decide ((vs.length : Int) < (vs.length : Int)) = false := decide_eq_false (by omega)
   go_wp2_with (fail)
   go_ret
   exact ⟨_, ws, rfl, HWL.out, HO.out, HB.out, HS.out, HZ.out⟩
end Go.Proofs.YtchgpcgolgcfdaaGreat.BkEntries
end
section
namespace Go.Proofs.YtchgpcgolgcfdaaGreat.Gb
open Go Go.RowKit Go.Proofs.YtchgpcgolgcfdaaGreat.PNum Go.Proofs.YtchgpcgolgcfdaaGreat.PuVt Go.Proofs.YtchgpcgolgcfdaaGreat.PuVr Go.Proofs.YtchgpcgolgcfdaaGreat.PuXr Go.Proofs.YtchgpcgolgcfdaaGreat.PuCrc Go.Proofs.YtchgpcgolgcfdaaGreat.PuBk Go.Proofs.YtchgpcgolgcfdaaGreat.PuBq Go.Proofs.YtchgpcgolgcfdaaGreat.Pb Go.Proofs.YtchgpcgolgcfdaaGreatW.PrintWords Go.Proofs.YtchgpcgolgcfdaaGreatW.PrintLast Go.Proofs.YtchgpcgolgcfdaaGreatW.PrintMore Go.Proofs.YtchgpcgolgcfdaaGreatW.Pu
set_option linter.unusedVariables false
set_option linter.unusedSimpArgs false
structure Gs (w W : World) (g : Nat) (v : Value) (bs : List Int) (er : Int) (acc : List E) : Prop where
 st : IsS97 w W g (strOfNums bs) er
 row : Kd.R k32 32 W w.heap.size (fun _ => True) v acc
 bel : Below w.heap.size w W
section
variable {w W W1 : World} {g : Nat} {v : Value} {bs bs1 : List Int} {er er1 : Int} {acc : List E}
theorem Gs.below (h : Gs w W g v bs er acc) (hb : Below W.heap.size W W1) : Gs w W1 g v bs er acc := ⟨h.st.below hb, Kd.R_below h.row hb, below_step h.bel hb⟩
theorem Gs.keep (h : Gs w W g v bs er acc) (hi : IsS97 w W1 g (strOfNums bs1) er1) (hb : Below w.heap.size w W1) (hk : KeepBut W W1 g none) : Gs w W1 g v bs1 er1 acc :=
 ⟨hi, Kd.R_mono (Kd.R_keep (h.st.apart h.row (by decide)) hk (fun _ h => h.2)) (fun _ h => trivial), hb⟩
theorem Gs.cells (h : Gs w W g v bs er acc) : W.cell? ⟨g, 0, none⟩ = some (.string (strOfNums bs)) ∧ W.cell? ⟨g, 1, none⟩ = some (.int .i64 er) := ⟨(blk_cell h.st.1 0).trans rfl, (blk_cell h.st.1 1).trans rfl⟩
theorem gcount (h : Gs w W g v bs er acc) (hok : ok8 bs) (c : Int × List Int × Int) (hc : rCount bs er 300 = c) :
  Calls Tryz.prog 198 #[.pointer (some ⟨g, 0, none⟩), .int .i64 300] W fun e W1 => e = .returned (.int .i64 c.1) ∧ Gs w W1 g v c.2.1 c.2.2 acc ∧ KeepBut W W1 g none := by
 subst hc
 obtain ⟨k, hk⟩ := Ev.rounds (XCount_ev hok er 300 (by omega))
 refine (cornucopiaref1_Reader_Count.calls k g _ er 300 _ _ _ w W h.st h.bel hk).mono ?_
 rintro e W1 ⟨rfl, hi, hb, hkp⟩
 exact ⟨rfl, h.keep hi hb hkp, hkp⟩
theorem gtext (h : Gs w W g v bs er acc) (hok : ok8 bs) (most : Int) (hm : 0 ≤ most ∧ most ≤ 1000000) (t : List Int × List Int × Int) (ht : rText bs er most = t) :
  Calls Tryz.prog 174 #[.pointer (some ⟨g, 0, none⟩), .int .i64 most] W fun e W1 => e = .returned (.string (strOfNums t.1)) ∧ Gs w W1 g v t.2.1 t.2.2 acc ∧ KeepBut W W1 g none := by
 subst ht
 obtain ⟨k, hk⟩ := Ev.rounds (XText_ev hok er most (by omega))
 refine (cornucopiaref1_Reader_Text.calls k g _ er most _ _ _ w W h.st h.bel hk).mono ?_
 rintro e W1 ⟨rfl, hi, hb, hkp⟩
 exact ⟨rfl, h.keep hi hb hkp, hkp⟩
theorem gvar (h : Gs w W g v bs er acc) (hok : ok8 bs) (s : Int × List Int × Int) (hs : rVar bs er = s) :
  Calls Tryz.prog 175 #[.pointer (some ⟨g, 0, none⟩)] W fun e W1 => e = .returned (.int .u64 s.1) ∧ Gs w W1 g v s.2.1 s.2.2 acc ∧ KeepBut W W1 g none := by
 subst hs
 obtain ⟨k, hk⟩ := Ev.rounds (XVar_ev hok er)
 refine (cornucopiaref1_Reader_Var.calls k g _ er _ _ _ w W h.st h.bel hk).mono ?_
 rintro e W1 ⟨rfl, hi, hb, hkp⟩
 exact ⟨rfl, h.keep hi hb hkp, hkp⟩
end
structure Gx (w W : World) (g gb : Nat) (v : Value) (bs : List Int) (er : Int) (acc : List E) (x : E) : Prop where
 gs : Gs w W g v bs er acc
 bk : W.heap[gb]? = some (.cells #[.string x.f0, .int .u64 x.f1, .int .i64 x.f2, .string x.f3] 32 (0, 0))
 ne : ∀ k, v.ownBlock = some k → k ≠ gb
 ge : w.heap.size ≤ gb
section
variable {w W W1 : World} {g gb : Nat} {v : Value} {bs bs1 : List Int} {er er1 : Int} {acc : List E} {x : E}
theorem Gx.new (h : Gs w W g v bs er acc) : Gx w (W.alloc (.cells #[.string ⟨#[]⟩, .int .u64 0, .int .i64 0, .string ⟨#[]⟩] 32)) g W.heap.size v bs er acc ⟨⟨#[]⟩, 0, 0, ⟨#[]⟩⟩ :=
 ⟨h.below (below_alloc (Below.refl _ _) _), blk_new W _, fun k hk => by
  obtain ⟨_, ho⟩ := Kd.R_own h.row
  have := own_lt ho k hk
  omega, h.bel.size⟩
theorem Gx.neg (h : Gx w W g gb v bs er acc x) : g ≠ gb := h.gs.st.ne_blk h.bk (by decide)
theorem Gx.call (h : Gx w W g gb v bs er acc x) (hg : Gs w W1 g v bs1 er1 acc) (hk : KeepBut W W1 g none) : Gx w W1 g gb v bs1 er1 acc x :=
 ⟨hg, hk.blk h.bk (fun e => h.neg e.symm) (by simp), h.ne, h.ge⟩
theorem Gx.drew (h : Gx w W g gb v bs er acc x) : Gx w W.drew g gb v bs er acc x :=
 ⟨h.gs.below (below_drew (Below.refl _ _)), blk_drew h.bk, h.ne, h.ge⟩
theorem Gx.set (h : Gx w W g gb v bs er acc x) (j : Nat) (u : Value) (y : E) (hy : (#[.string x.f0, .int .u64 x.f1, .int .i64 x.f2, .string x.f3] : Array Value).setIfInBounds j u = #[.string y.f0, .int .u64 y.f1, .int .i64 y.f2, .string y.f3]) : Gx w (W.setCell ⟨gb, j, none⟩ u) g gb v bs er acc y := by
 have hfar : ∀ k, k ≠ gb → (W.setCell ⟨gb, j, none⟩ u).heap[k]? = W.heap[k]? := fun k hk => Below.heap_setCell W ⟨gb, j, none⟩ u k hk
 refine ⟨⟨h.gs.st.far h.neg u, ?_, ⟨h.gs.bel.os, h.gs.bel.tape, h.gs.bel.output, by simpa [World.setCell] using h.gs.bel.size, fun k hk => (hfar k (by have := h.ge; omega)).trans (h.gs.bel.block k hk)⟩⟩, blk_put h.bk j u hy, h.ne, h.ge⟩
 exact Kd.R_mono (Kd.R_far (p := ⟨gb, j, none⟩) (ok := fun k => k ≠ gb) (Kd.R_reok rfl h.gs.row h.ne) (fun k hk => hk) u) (fun _ _ => trivial)
theorem Gx.cells (h : Gx w W g gb v bs er acc x) : (W.cell? ⟨gb, 0, none⟩ = some (.string x.f0) ∧ W.cell? ⟨gb, 1, none⟩ = some (.int .u64 x.f1) ∧ W.cell? ⟨gb, 2, none⟩ = some (.int .i64 x.f2) ∧ W.cell? ⟨gb, 3, none⟩ = some (.string x.f3)) ∧ ∀ j, W.frozen? ⟨gb, j, none⟩ = false :=
 ⟨⟨(blk_cell h.bk 0).trans rfl, (blk_cell h.bk 1).trans rfl, (blk_cell h.bk 2).trans rfl, (blk_cell h.bk 3).trans rfl⟩, fun j => blk_frozen h.bk j⟩
end
theorem open_c (w : World) (b : ByteArray) (hb : b.size ≤ 140737488355328) : Calls Tryz.prog 196 #[.string b] w fun e w' => e = .returned (.tuple #[.string (opn b).1, .int .i64 (opn b).2]) ∧ Below w.heap.size w w' := by
 obtain ⟨k, hk⟩ := Ev.rounds (ROpen_ev b hb)
 exact cornucopiaref1_Open.calls k b _ _ w hk
theorem unfix_c (w : World) (s : ByteArray) (a n : Int) (r : Int × Int) (h : Ev (fun k => cornucopiaref1_Unfix.f k s a n) r) : Calls Tryz.prog 197 #[.string s, .int .i64 a, .int .i64 n] w fun e w' => e = .returned (.tuple #[.int .u64 r.1, .int .i64 r.2]) ∧ Below w.heap.size w w' := by
 obtain ⟨k, hk⟩ := Ev.rounds h
 exact (cornucopiaref1_Unfix.calls k s a n _ _ w hk).mono (fun e w' h => ⟨h.1, h.2.below⟩)
end Go.Proofs.YtchgpcgolgcfdaaGreat.Gb
end
