/- Texts of this claim, put together and cut down to what is used (BT10). -/
import Derived.Laws.Cover1
import Derived.Deep.RegionHeld3
import Derived.BigRegion
import Derived.Test.YtchgpcgolgcfdaaGreatMgBT9
import Derived.Test.YtchgpcgolgcfdaaGreatMgBT5
import Derived.Test.YtchgpcgolgcfdaaGreatMgBT8
import Derived.Test.YtchgpcgolgcfdaaGreatMgBT6
import Derived.Test.YtchgpcgolgcfdaaGreatMgBT4
import Derived.Test.YtchgpcgolgcfdaaGreatMgBT2
section
namespace Go.Proofs.YtchgpcgolgcfdaaGreat.Gb
open Go Go.RowKit Go.Proofs.YtchgpcgolgcfdaaGreat.PNum Go.Proofs.YtchgpcgolgcfdaaGreat.PuVt Go.Proofs.YtchgpcgolgcfdaaGreat.PuVr Go.Proofs.YtchgpcgolgcfdaaGreat.PuXr Go.Proofs.YtchgpcgolgcfdaaGreat.PuCrc Go.Proofs.YtchgpcgolgcfdaaGreat.PuBk Go.Proofs.YtchgpcgolgcfdaaGreat.PuBq Go.Proofs.YtchgpcgolgcfdaaGreat.Pb Go.Proofs.YtchgpcgolgcfdaaGreatW.PrintWords Go.Proofs.YtchgpcgolgcfdaaGreatW.PrintLast Go.Proofs.YtchgpcgolgcfdaaGreatW.PrintMore Go.Proofs.YtchgpcgolgcfdaaGreatW.Pu
set_option linter.unusedVariables false
set_option linter.unusedSimpArgs false
def ms (w : World) (g : Nat) : Nat := match w.cell? ⟨g, 1, none⟩, w.cell? ⟨g, 0, none⟩ with
 | some (.int .i64 e), some (.string s) => if e = 0 then s.size + 1 else 0
 | _, _ => 0
theorem ms_is {w W : World} {g : Nat} {v : Value} {bs : List Int} {er : Int} {acc : List E} (h : Gs w W g v bs er acc) : ms W g = if er = 0 then bs.length + 1 else 0 := by
 unfold ms
 rw [h.cells.1, h.cells.2]
 simp only [S_size]
structure Rl (G : Option (List E)) (acc : List E) (last : ByteArray) (bs : List Int) (er : Int) : Prop where
 go : (er = 0 ∧ ∃ n, bs.length < n ∧ gl n acc last bs = G) ∨ (er ≠ 0 ∧ G = none)
 ok : ok8 bs
 sz : er = 0 → last.size + 300 * bs.length ≤ 100000000
 al : er = 0 → acc.length + bs.length ≤ 100000
 ft : Fit acc
theorem Gx.cells2 {W : World} {gb : Nat} {x : E} (h : W.heap[gb]? = some (.cells #[.string x.f0, .int .u64 x.f1, .int .i64 x.f2, .string x.f3] 32 (0, 0))) : (W.cell? ⟨gb, 0, none⟩ = some (.string x.f0) ∧ W.cell? ⟨gb, 1, none⟩ = some (.int .u64 x.f1) ∧ W.cell? ⟨gb, 2, none⟩ = some (.int .i64 x.f2) ∧ W.cell? ⟨gb, 3, none⟩ = some (.string x.f3)) ∧ ∀ j, W.frozen? ⟨gb, j, none⟩ = false :=
 ⟨⟨(blk_cell h 0).trans rfl, (blk_cell h 1).trans rfl, (blk_cell h 2).trans rfl, (blk_cell h 3).trans rfl⟩, fun j => blk_frozen h j⟩
section
variable {w W : World} {g : Nat} {v : Value} {bs : List Int} {er : Int} {acc : List E}
theorem gcount_y (h : Gs w W g v bs er acc) (hok : ok8 bs) (c : Int × List Int × Int) (hc : rCount bs er 300 = c) (cv : Int) (hcv : cv = c.1) :
  Calls Tryz.prog 198 #[.pointer (some ⟨g, 0, none⟩), .int .i64 300] W fun e W1 => e = .returned (.int .i64 cv) ∧ Gs w W1 g v c.2.1 c.2.2 acc ∧ KeepBut W W1 g none := by
 subst hcv
 exact gcount h hok c hc
theorem gtext_y (h : Gs w W g v bs er acc) (hok : ok8 bs) (most : Int) (hm : 0 ≤ most ∧ most ≤ 1000000) (t : List Int × List Int × Int) (ht : rText bs er most = t) (ts : ByteArray) (hts : ts = strOfNums t.1) :
  Calls Tryz.prog 174 #[.pointer (some ⟨g, 0, none⟩), .int .i64 most] W fun e W1 => e = .returned (.string ts) ∧ Gs w W1 g v t.2.1 t.2.2 acc ∧ KeepBut W W1 g none := by
 subst hts
 exact gtext h hok most hm t ht
theorem gvar_y (h : Gs w W g v bs er acc) (hok : ok8 bs) (s : Int × List Int × Int) (hs : rVar bs er = s) (sv : Int) (hsv : sv = s.1) :
  Calls Tryz.prog 175 #[.pointer (some ⟨g, 0, none⟩)] W fun e W1 => e = .returned (.int .u64 sv) ∧ Gs w W1 g v s.2.1 s.2.2 acc ∧ KeepBut W W1 g none := by
 subst hsv
 exact gvar h hok s hs
end
theorem Rl.step {G : Option (List E)} {acc : List E} {last : ByteArray} {bs : List Int} (h : Rl G acc last bs 0) (hne : ¬ bs = []) {c : Int × List Int × Int} {t v : List Int × List Int × Int} {s q : Int × List Int × Int} (hc : rCount bs 0 300 = c) (ht : rText c.2.1 c.2.2 300 = t) (hs : rVar t.2.1 t.2.2 = s) (hq : rVar s.2.1 s.2.2 = q) (hv : rText q.2.1 q.2.2 60000 = v) :
  (0 ≤ c.1 ∧ c.1 ≤ 300) ∧ (ok8 c.2.1 ∧ ok8 t.2.1 ∧ ok8 s.2.1 ∧ ok8 q.2.1) ∧ t.1.length ≤ 300 ∧ (0 ≤ q.1 ∧ q.1 ≤ 18446744073709551615) ∧
  ((last.size : Int) < c.1 → G = none) ∧ (¬ (last.size : Int) < c.1 → ∀ e : E, e = ⟨last.extract 0 c.1.toNat ++ strOfNums t.1, s.1, if q.1 = 1 ∨ q.1 = 2 then q.1 else 0, strOfNums v.1⟩ → Rl G (acc ++ [e]) e.f0 v.2.1 v.2.2 ∧ (if v.2.2 = 0 then v.2.1.length + 1 else 0) < bs.length + 1) := by
 have hE := glE_is (last := last) hc ht hs hq hv
 have hf := glE_fit (last := last) h.ok (by have := h.sz rfl; omega)
 rw [hE] at hf
 obtain ⟨⟨f1, f2, f3⟩, f4, f5, f6, f7⟩ := hf
 have o1 := rCount_ok (e := 0) (most := 300) h.ok
 rw [hc] at o1
 have o2 := (rText_ok (e := c.2.2) (n := 300) o1).1
 have z2 := rText_size c.2.1 c.2.2 300 (by omega)
 rw [ht] at o2 z2
 have o3 := rVar_ok (e := t.2.2) o2
 rw [hs] at o3
 have o4 := rVar_ok (e := s.2.2) o3
 have zq := rVar_top o3 s.2.2
 have yq := rVar_nonneg s.2.1 s.2.2
 rw [hq] at o4 zq yq
 rcases h.go with ⟨_, n, hlt0, hn⟩ | ⟨h0, _⟩
 case inr => exact absurd rfl h0
 have hsz := h.sz rfl
 have hal := h.al rfl
 cases n with
 | zero => omega
 | succ n =>
  rw [gl, if_neg hne, hE] at hn
  simp only at hn
  refine ⟨⟨f6, f7⟩, ⟨o1, o2, o3, o4⟩, by omega, ⟨yq, zq⟩, fun hlt => by rw [if_pos hlt] at hn; exact hn.symm, fun hlt e he => ?_⟩
  rw [if_neg hlt] at hn
  simp only at f1 f2 f3 f4 f5
  have g1 : 0 ≤ e.f1 ∧ e.f1 ≤ 18446744073709551615 := by rw [he]; exact f1
  have g2 : e.f0.size ≤ last.size + 300 := by rw [he]; exact f2
  have g3 : e.f3.size ≤ 60000 := by rw [he]; exact f3
  have hn : (if v.2.2 = 0 then gl n (acc ++ [e]) e.f0 v.2.1 else none) = G := by rw [he]; exact hn
  clear he
  have hfit : Fit (acc ++ [e]) := fun x hx => by
   rcases List.mem_append.1 hx with q | q
   ·exact h.ft x q
   ·rw [List.mem_singleton.1 q]
    exact ⟨g1, by omega, g3⟩
  by_cases hv0 : v.2.2 = 0
  ·have f9 := f5 hv0
   rw [if_pos hv0] at hn
   exact ⟨⟨.inl ⟨hv0, n, by omega, hn⟩, f4, fun _ => by omega, fun _ => by rw [List.length_append, List.length_singleton]; omega, hfit⟩, by rw [if_pos hv0]; omega⟩
  ·rw [if_neg hv0] at hn
   exact ⟨⟨.inr ⟨hv0, hn.symm⟩, f4, fun h => absurd h hv0, fun h => absurd h hv0, hfit⟩, by rw [if_neg hv0]; omega⟩
theorem Rl.start {s : ByteArray} {n m : Nat} (hn : s.size = n + 4) (hb : s.size ≤ 10000) (hm : un ((bytesOf s).drop n) = m) (hmn : ¬ n / 4 < m) : Rl (gR s) [] ⟨#[]⟩ ((bytesOf s).take (n - 4 * m)) 0 := by
 have hl : ((bytesOf s).take (n - 4 * m)).length ≤ 10000 := by rw [List.length_take, bytesOf_length]; omega
 refine ⟨.inl ⟨rfl, s.size + 1, ?_, ?_⟩, fun x hx => ok8_of s x (List.mem_of_mem_take hx), fun _ => ?_, fun _ => ?_, fun e he => by simp at he⟩
 ·rw [List.length_take, bytesOf_length]; omega
 ·unfold gR
  rw [if_neg (by omega), hn, show n + 4 - 4 = n by omega, hm, if_neg hmn]
 ·show 0 + _ ≤ _; omega
 ·simp only [List.length_nil]; omega
theorem gR_short {s : ByteArray} (h : s.size < 4) : gR s = none := by unfold gR; rw [if_pos h]
theorem gR_big {s : ByteArray} {n m : Nat} (hn : s.size = n + 4) (hm : un ((bytesOf s).drop n) = m) (hmn : n / 4 < m) : gR s = none := by
 unfold gR
 rw [if_neg (by omega), hn, show n + 4 - 4 = n by omega, hm, if_pos hmn]
theorem put_c {w : World} {A : Option Addr} {c : Nat} {l : List E} (hr : Kd.C k32 w A l.length l) (hc : l.length ≤ c) (h4 : l.length ≤ 10000) (hf : Fit l) (x : ByteArray) (r : Int) (hp : putB l = (x, r)) :
  Calls Tryz.prog 76 #[.slice A l.length c] w fun e w' => e = .returned (.tuple #[.string x, .int .i64 r]) ∧ Below w.heap.size w w' := by
 have h := putblock_calls A c l w hr hc h4 hf.u64 (fun e he => by have := (hf e he).2.1; omega)
 rw [hp] at h
 exact h
def gb15.T : Bool × List (List Nat × List Nat) := (true, [([], []), ([], []), ([0, 1], [0, 1]), ([], []), ([3], [3]), ([2, 4], [2, 4]), ([0, 1, 2, 3, 4, 5], []), ([6, 5, 4, 0, 1, 2, 3, 4, 5], [5, 6])])
def gb15.B : List Nat := [0, 0, 3, 0, 8, 31, 63, 127]
theorem gb15.tab : rtab .any (opsOf Tryz.f78 15) = gb15.T := by kernel_rfl
theorem gb15.bits : waitsOk gb15.T.2 gb15.B = true := by kernel_rfl
def gb21.T : Bool × List (List Nat × List Nat) := (true, [([], []), ([], []), ([1], [1]), ([0, 2], [0, 2]), ([], []), ([4], [4]), ([3, 3, 0, 1, 2, 3], [0, 3]), ([5, 6, 0, 1, 2, 3, 4, 5, 6], [5])])
def gb21.B : List Nat := [0, 0, 2, 7, 0, 16, 15, 127]
theorem gb21.tab : rtab .any (opsOf Tryz.f78 21) = gb21.T := by kernel_rfl
theorem gb21.bits : waitsOk gb21.T.2 gb21.B = true := by kernel_rfl
set_option maxHeartbeats 16000000 in
set_option maxRecDepth 100000 in
theorem getblock_calls (b : ByteArray) (w : World) (hb : b.size ≤ 10000) :
  Calls Tryz.prog 78 #[.string b] w fun e w' => ∃ A c, e = .returned (.tuple #[.slice A (gB b).1.length c, .int .i64 (gB b).2]) ∧ BkW.Rw w' 32 4 (.slice A (gB b).1.length c) (gB b).1.length (BkW.encL BkEntries.enc (gB b).1) ∧ Below w.heap.size w w' := by
 have HB := Aside0.mk (Below.refl w.heap.size w)
 by_cases h0 : (opn b).2 = 0
 case neg =>
  have hg : gB b = ([], (opn b).2) := by unfold gB; rw [if_neg h0]
  rw [hg]
  obtain ⟨r1, r2, hop⟩ : ∃ r1 r2, opn b = (r1, r2) := ⟨_, _, rfl⟩
  rw [hop] at h0
  have HO := Aside0.mk hop
  rw [hop]
  have t0 : (r2 == 0) = false := beq_eq_false_iff_ne.mpr h0
  have t0' : (r2 != 0) = true := by rw [bne, t0]; rfl
  clear hg hop
  go_enter Tryz.func78, Tryz.ntmps78
  go_wp2_with (first | (go_at_call 196; refine (open_c _ b (by omega)).mono ?_; rintro e w1 ⟨rfl, hb⟩; rw [HO.out]; have n0_ := Aside0.mk (below_step HB.out hb); clear HB; have HB := n0_; clear n0_ hb))
  go_ret2
  exact ⟨none, 0, rfl, BkW.Rw.nil _ _ _, HB.out⟩
 have hsz := opn_size (b := b)
 obtain ⟨s, hs⟩ : ∃ s, (opn b).1 = s := ⟨_, rfl⟩
 have hop : opn b = (s, 0) := by rw [← hs, ← h0]
 have HO := Aside0.mk hop
 have H0 := Aside0.mk h0
 have HS := Aside0.mk hs
 rw [hs] at hsz
 clear hop h0 hs
 by_cases h4 : s.size < 4
 ·have hg := gB_no H0.out (by rw [HS.out]; exact gR_short h4)
  rw [hg]
  have hw : IntKind.i64.wrap ((s.size : Int) - 4) = (s.size : Int) - 4 := by rw [IntKind.wrap_i64]; omega
  have HUF := Aside0.mk (RUnfix_neg s ((s.size : Int) - 4) 4 (by omega) (by omega) (by omega))
  clear hg
  go_enter Tryz.func78, Tryz.ntmps78
  go_wp2_with (first | (go_at_call 196; refine (open_c _ b (by omega)).mono ?_; rintro e w1 ⟨rfl, hb⟩; rw [HO.out]; have n0_ := Aside0.mk (below_step HB.out hb); clear HB; have HB := n0_; clear n0_ hb) | (go_at_call 197; refine (unfix_c _ s _ 4 _ HUF.out).mono ?_; rintro e w2 ⟨rfl, hb⟩; have n0_ := Aside0.mk (below_step HB.out hb); clear HB; have HB := n0_; clear n0_ hb))
  go_ret2
  exact ⟨none, 0, rfl, BkW.Rw.nil _ _ _, HB.out⟩
 obtain ⟨n, hn⟩ : ∃ n, s.size = n + 4 := ⟨s.size - 4, by omega⟩
 obtain ⟨m, hm⟩ : ∃ m, un ((bytesOf s).drop n) = m := ⟨_, rfl⟩
 have hU := RUnfix_at s n 4 (by omega) (by omega) (by omega) (by omega)
 have hl : ((bytesOf s).drop n).length = 4 := by rw [List.length_drop, bytesOf_length]; omega
 rw [List.take_of_length_le (by omega)] at hU
 have hv : un ((bytesOf s).drop n) < 256 ^ 4 := un_lt 4 _ (fun x hx => ok8_of s x (List.mem_of_mem_drop hx)) hl
 rw [hm] at hU hv
 have HUF : Aside0 (Ev (fun k => cornucopiaref1_Unfix.f k s ((s.size : Int) - 4) 4) ((m : Int), 0)) := ⟨by rw [show (s.size : Int) - 4 = (n : Int) by omega]; exact hU⟩
 have hw : IntKind.i64.wrap ((s.size : Int) - 4) = (s.size : Int) - 4 := by rw [IntKind.wrap_i64]; omega
 have hw2 : IntKind.u64.wrap ((s.size : Int) - 4) = (s.size : Int) - 4 := by rw [IntKind.wrap_u64]; omega
 obtain ⟨d, hd⟩ : ∃ d, d = n / 4 := ⟨_, rfl⟩
 have hq : Int.tdiv ((s.size : Int) - 4) 4 = (d : Int) := by rw [show (s.size : Int) - 4 = (n : Int) by omega, Int.tdiv_eq_ediv_of_nonneg (by omega)]; omega
 have HM := Aside0.mk hm
 have HN := Aside0.mk hn
 have HD := Aside0.mk hd
 have hs4 : 4 ≤ s.size := by omega
 have hdz : d ≤ 2500 := by omega
 by_cases hmn : d < m
 ·have hg := gB_no H0.out (by rw [HS.out]; exact gR_big hn hm (by omega))
  rw [hg]
  have t1 : decide ((d : Int) < (m : Int)) = true := decide_eq_true (by omega)
  have t2 : decide (d < m) = true := decide_eq_true hmn
  clear hg hn hm hd hU hl h4
  go_enter Tryz.func78, Tryz.ntmps78
  go_wp2_with (first | (go_at_call 196; refine (open_c _ b (by omega)).mono ?_; rintro e w1 ⟨rfl, hb⟩; rw [HO.out]; have n0_ := Aside0.mk (below_step HB.out hb); clear HB; have HB := n0_; clear n0_ hb) | (go_at_call 197; refine (unfix_c _ s _ 4 _ HUF.out).mono ?_; rintro e w2 ⟨rfl, hb⟩; have n0_ := Aside0.mk (below_step HB.out hb); clear HB; have HB := n0_; clear n0_ hb))
  go_ret2
  exact ⟨none, 0, rfl, BkW.Rw.nil _ _ _, HB.out⟩
 have t1 : decide ((d : Int) < (m : Int)) = false := decide_eq_false (by omega)
 have t2 : decide (d < m) = false := decide_eq_false hmn
 have HR := Aside0.mk (Rl.start hn (by omega) hm (by omega))
 have hp : (0 : Int) ≤ (s.size : Int) - 4 - 4 * (m : Int) := by omega
 have hp2 : (s.size : Int) - 4 - 4 * (m : Int) ≤ (s.size : Int) := by omega
 have hx : s.extract 0 ((s.size : Int) - 4 - 4 * (m : Int)).toNat = strOfNums ((bytesOf s).take (n - 4 * m)) := by
  rw [show ((s.size : Int) - 4 - 4 * (m : Int)).toNat = n - 4 * m by omega, ← S_of (s.extract 0 (n - 4 * m)), bytesOf_extract, List.drop_zero]
 obtain ⟨bs0, hbs⟩ : ∃ bs0, bs0 = (bytesOf s).take (n - 4 * m) := ⟨_, rfl⟩
 rw [← hbs] at hx HR
 have hmz : m ≤ 2500 := by omega
 obtain ⟨⟨x1, x2⟩, hX⟩ : ∃ X, X = gB b := ⟨_, rfl⟩
 rw [← hX]
 have HX0 := Aside0.mk hX
 clear hn hm hd hU hl h4 hbs hX
 go_enter Tryz.func78, Tryz.ntmps78
 go_wp2_with (first | (go_at_call 196; refine (open_c _ b (by omega)).mono ?_; rintro e w1 ⟨rfl, hb⟩; rw [HO.out]; have n0_ := Aside0.mk (below_step HB.out hb); clear HB; have HB := n0_; clear n0_ hb) | (go_at_call 197; refine (unfix_c _ s _ 4 _ HUF.out).mono ?_; rintro e w2 ⟨rfl, hb⟩; have n0_ := Aside0.mk (below_step HB.out hb); clear HB; have HB := n0_; clear n0_ hb))
 have HG0 : Aside0 (Gs w (w2.alloc (.cells #[.string (strOfNums bs0), .int .i64 0] 97)) w2.heap.size (.slice none 0 0) bs0 0 []) := ⟨⟨IsS97.new w w2 (strOfNums bs0) 0 HB.out, Kd.R_nil _ _ _ _ _, below_alloc HB.out _⟩⟩
 clear HB
 generalize w2.alloc _ = w3 at *
 generalize w2.heap.size = g at *
 clear hx hp hp2 hq hw hw2 t1 t2 hdz hv hmn hmz
 go_loopw [8, 9] (fun v8 v9 w' => ∃ (acc : List E) (last : ByteArray) (bs : List Int) (er : Int), v9 = .string last ∧ Aside0 (Gs w w' g v8 bs er acc) ∧ Aside0 (Rl (gR s) acc last bs er)) (fun _ _ w' => ms w' g)
 case atStart => exact ⟨[], ⟨#[]⟩, bs0, 0, rfl, HG0, HR⟩
 case round =>
  clear HG0 HR
  obtain ⟨acc, last, bs, er, rfl, HG, HRL⟩ := hrel
  obtain ⟨A8, c8, e8⟩ := Kd.R_slice HG.out.row
  subst e8
  obtain ⟨y0, y1⟩ := HG.out.cells
  by_cases her : er = 0
  case neg =>
   have t0 : (er == 0) = false := beq_eq_false_iff_ne.mpr her
   have t0' : (er != 0) = true := by rw [bne, t0]; rfl
   have hGn : gR s = none := by
    rcases HRL.out.go with ⟨h, _⟩ | ⟨_, h⟩
    ·exact absurd h her
    ·exact h
   have hg := gB_no H0.out (by rw [HS.out]; exact hGn)
   have HGB := Aside0.mk (HX0.out.trans hg)
   have HB := Aside0.mk HG.out.bel
   clear hg hGn HG
   go_wp2_with (fail)
   go_ret2
   obtain ⟨rfl, rfl⟩ := Prod.mk.inj HGB.out
   exact ⟨none, 0, rfl, BkW.Rw.nil _ _ _, HB.out⟩
  subst her
  obtain ⟨sb, hsb⟩ : ∃ sb, strOfNums bs = sb := ⟨_, rfl⟩
  rw [hsb] at y0
  have hsz2 : sb.size = bs.length := by rw [← hsb, S_size]
  by_cases hbs : bs = []
  ·subst hbs
   have t0 : decide ((0 : Int) < (sb.size : Int)) = false := decide_eq_false (by rw [hsz2]; simp)
   have t0' : decide (0 < sb.size) = false := decide_eq_false (by rw [hsz2]; simp)
   have hGs : gR s = some acc := by
    rcases HRL.out.go with ⟨_, n_, hl_, hn_⟩ | ⟨h, _⟩
    ·cases n_ with
     | zero => simp at hl_
     | succ n_ => rw [gl, if_pos rfl] at hn_; exact hn_.symm
    ·exact absurd rfl h
   have hfit := gR_fit hGs (by omega)
   have hrow := Kd.R_reads' HG.out.row
   have HB := Aside0.mk HG.out.bel
   obtain ⟨px, pr, hpp⟩ : ∃ px pr, putB acc = (px, pr) := ⟨_, _, rfl⟩
   have HPP := Aside0.mk hpp
   have HFT := Aside0.mk hfit
   have HRW := Aside0.mk hrow
   have HRX := Aside0.mk (BkEntries.flat.of_R HG.out.row)
   have hGs2 : gR (opn b).1 = some acc := by rw [HS.out]; exact hGs
   have HNX := Aside0.mk hGs2
   clear hsz2 hsb hGs hfit hrow hpp hGs2 HG
   by_cases hp0 : pr = 0
   ·subst hp0
    by_cases hpe : px = b
    ·have hg := gB_some H0.out HNX.out (by rw [HPP.out, hpe])
     have HGB := Aside0.mk (HX0.out.trans hg)
     have u0 : (px.toList == b.toList) = true := by rw [beq_iff_eq, hpe]
     have u0' : (px.toList != b.toList) = false := by rw [bne, u0]; rfl
     clear hg hpe
     go_wp2_with (first | (go_at_call 76; refine (put_c HRW.out.2.2 HRW.out.2.1 HFT.out.2 HFT.out.1 px _ HPP.out).mono ?_; rintro e w5 ⟨rfl, hb⟩; have HCN := Aside0.mk (HRX.out.below hb); have n0_ := Aside0.mk (below_step HB.out hb); clear HB; have HB := n0_; clear n0_ hb))
     go_ret2
     obtain ⟨rfl, rfl⟩ := Prod.mk.inj HGB.out
     exact ⟨A8, c8, rfl, HCN.out, HB.out⟩
    ·have hg := gB_other H0.out HNX.out (by rw [HPP.out]; intro h; exact hpe (congrArg Prod.fst h))
     have HGB := Aside0.mk (HX0.out.trans hg)
     have u0 : (px.toList == b.toList) = false := beq_eq_false_iff_ne.mpr (fun h => hpe (PuIkC.tl_ext.1 h))
     have u0' : (px.toList != b.toList) = true := by rw [bne, u0]; rfl
     clear hg hpe
     go_wp2_with (first | (go_at_call 76; refine (put_c HRW.out.2.2 HRW.out.2.1 HFT.out.2 HFT.out.1 px _ HPP.out).mono ?_; rintro e w5 ⟨rfl, hb⟩; have HCN := Aside0.mk (HRX.out.below hb); have n0_ := Aside0.mk (below_step HB.out hb); clear HB; have HB := n0_; clear n0_ hb))
     go_ret2
     obtain ⟨rfl, rfl⟩ := Prod.mk.inj HGB.out
     exact ⟨none, 0, rfl, BkW.Rw.nil _ _ _, HB.out⟩
   ·have hg := gB_other H0.out HNX.out (by rw [HPP.out]; intro h; exact hp0 (congrArg Prod.snd h))
    have HGB := Aside0.mk (HX0.out.trans hg)
    have u0 : (pr == 0) = false := beq_eq_false_iff_ne.mpr hp0
    have u0' : (pr != 0) = true := by rw [bne, u0]; rfl
    clear hg
    go_wp2_with (first | (go_at_call 76; refine (put_c HRW.out.2.2 HRW.out.2.1 HFT.out.2 HFT.out.1 px _ HPP.out).mono ?_; rintro e w5 ⟨rfl, hb⟩; have HCN := Aside0.mk (HRX.out.below hb); have n0_ := Aside0.mk (below_step HB.out hb); clear HB; have HB := n0_; clear n0_ hb))
    go_ret2
    obtain ⟨rfl, rfl⟩ := Prod.mk.inj HGB.out
    exact ⟨none, 0, rfl, BkW.Rw.nil _ _ _, HB.out⟩
  have hpos : 0 < bs.length := List.length_pos_iff.2 hbs
  have t0 : decide ((0 : Int) < (sb.size : Int)) = true := decide_eq_true (by omega)
  have t0' : decide (0 < sb.size) = true := decide_eq_true (by omega)
  obtain ⟨c, hc⟩ : ∃ c, rCount bs 0 300 = c := ⟨_, rfl⟩
  obtain ⟨t, ht⟩ : ∃ t, rText c.2.1 c.2.2 300 = t := ⟨_, rfl⟩
  obtain ⟨s_, hs_⟩ : ∃ s_, rVar t.2.1 t.2.2 = s_ := ⟨_, rfl⟩
  obtain ⟨q_, hq_⟩ : ∃ q_, rVar s_.2.1 s_.2.2 = q_ := ⟨_, rfl⟩
  obtain ⟨v, hv_⟩ : ∃ v, rText q_.2.1 q_.2.2 60000 = v := ⟨_, rfl⟩
  obtain ⟨⟨c0, c3⟩, ⟨o1, o2, o3, o4⟩, zt, zq, hno, hst⟩ := HRL.out.step hbs hc ht hs_ hq_ hv_
  obtain ⟨cv, hcv⟩ : ∃ cv, cv = c.1 := ⟨_, rfl⟩
  have HO0 := Aside0.mk HRL.out.ok
  have HO1 := Aside0.mk o1
  have HO2 := Aside0.mk o2
  have HO3 := Aside0.mk o3
  have HO4 := Aside0.mk o4
  have HC := Aside0.mk hc
  have HT := Aside0.mk ht
  have HSS := Aside0.mk hs_
  have HQQ := Aside0.mk hq_
  have HV := Aside0.mk hv_
  have HCV := Aside0.mk hcv
  have HLS := Aside0.mk (HRL.out.sz rfl)
  have HAL : Aside0 ((acc.length + 1) * 48 ≤ 140737488355328) := ⟨by have := HRL.out.al rfl; omega⟩
  rw [← hcv] at c0 c3 hno hst
  have HNO := Aside0.mk hno
  have HSTEP := Aside0.mk hst
  have HGM := Aside0.mk HG.out
  clear hc ht hs_ hq_ hv_ o1 o2 o3 o4 hcv hno hst hpos hsz2 hsb hbs
  by_cases hk : (last.size : Int) < cv
  ·have k0 : decide ((last.size : Int) < cv) = true := decide_eq_true hk
   have hg := gB_no H0.out (by rw [HS.out]; exact HNO.out hk)
   have HGB := Aside0.mk (HX0.out.trans hg)
   clear hg
   go_wp2_with (first | (go_at_call 198; refine (gcount_y HG.out HO0.out c HC.out cv HCV.out).mono ?_; rintro e w4 ⟨rfl, hgs, hkp⟩; clear HG hkp; have HG := Aside0.mk hgs; clear hgs))
   go_ret2
   obtain ⟨rfl, rfl⟩ := Prod.mk.inj HGB.out
   exact ⟨none, 0, rfl, BkW.Rw.nil _ _ _, HG.out.bel⟩
  have k0 : decide ((last.size : Int) < cv) = false := decide_eq_false hk
  replace HSTEP := Aside0.mk (HSTEP.out hk)
  clear HNO
  go_wp2_with (first | (go_at_call 198; refine (gcount_y HG.out HO0.out c HC.out cv HCV.out).mono ?_; rintro e w4 ⟨rfl, hgs, hkp⟩; clear HG hkp; have HG := Aside0.mk hgs; clear hgs))
  have HX := Aside0.mk (Gx.new HG.out)
  clear HG
  generalize w4.alloc _ = wa at *
  generalize w4.heap.size = gb at *
  have HXX := Aside0.mk HX.out.drew
  clear HX
  obtain ⟨la, hla⟩ : ∃ la, last.extract 0 cv.toNat = la := ⟨_, rfl⟩
  obtain ⟨ts, hts⟩ : ∃ ts, ts = strOfNums t.1 := ⟨_, rfl⟩
  obtain ⟨kk, hkk⟩ : ∃ kk, la ++ ts = kk := ⟨_, rfl⟩
  have hz1 : la.size ≤ last.size := by rw [← hla, ByteArray.size_extract]; omega
  have hz2 : ts.size ≤ 300 := by rw [hts, S_size]; omega
  have hls := HLS.out
  have HF1 : Aside0 ((la.size + ts.size ≤ 9223372036854775807) = True) := ⟨eq_true (by omega)⟩
  have HF2 : Aside0 ((9223372036854775807 < la.size + ts.size) = False) := ⟨eq_false (by omega)⟩
  have HKK2 : Aside0 (kk = last.extract 0 cv.toNat ++ strOfNums t.1) := ⟨by rw [← hkk, ← hla, hts]⟩
  have HC0 := Aside0.mk c0
  have HC1 : Aside0 (cv ≤ (last.size : Int)) := ⟨by omega⟩
  have HLA := Aside0.mk hla
  have HTS := Aside0.mk hts
  have HKK := Aside0.mk hkk
  clear hla hts hkk hz1 hz2 hls y0 y1 t0 t0' k0
  refine start_ (n := 8) (S := fun w' => True) (ds := []) #[false, false, false, false, false, false, false, false] (by kernel_rfl) rfl rfl trivial (fun hHeld => ?_); refine with_tabW gb15.tab gb15.bits (fun HT_ HW_ => ?_)
  generalize wa.drew = wS at *
  refine pure_ (i := 0) (N := some 71) (v := ?_) (a' := ?_) #[true, false, false, false, false, false, false, false] rfl rfl (any_of HT_.out (by kernel_rfl)) (fun _ _ _ h => h) (Or.inl ⟨by rfl, ?_⟩) ?_ ?_
  rotate_left
  ·intro w'
   go_simp
   with_reducible rfl
  rotate_left
  ·simp only [Act.put, List.setIfInBounds_toArray, List.set_cons_zero, List.set_cons_succ, i64_w, i32_w]
   rfl
  refine pure_ (i := 1) (N := some 72) (v := ?_) (a' := ?_) #[true, true, false, false, false, false, false, false] rfl rfl (any_of HT_.out (by kernel_rfl)) (fun _ _ _ h => h) (Or.inl ⟨by rfl, ?_⟩) ?_ ?_
  rotate_left
  ·intro w'
   go_simp
   with_reducible rfl
  rotate_left
  ·simp only [Act.put, List.setIfInBounds_toArray, List.set_cons_zero, List.set_cons_succ, i64_w, i32_w]
   rfl
  refine pure_ (i := 3) (N := some 74) (v := ?_) (a' := ?_) #[true, true, false, true, false, false, false, false] rfl rfl (any_of HT_.out (by kernel_rfl)) (fun _ _ _ h => h) (Or.inl ⟨by rfl, ?_⟩) ?_ ?_
  rotate_left
  ·intro w'
   go_simp
   with_reducible rfl
  rotate_left
  ·simp only [Act.put, List.setIfInBounds_toArray, List.set_cons_zero, List.set_cons_succ, i64_w, i32_w]
   rfl
  refine inv_at [2, 4, 5, 6, 7] (fun a0_ b a w' => a = putSel a0_ b [(2, 73, .string la), (4, 75, .string ts), (5, 76, .string kk), (6, 77, .pointer (some ⟨gb, 0, none⟩))] ∧ (b 4 = false → Gx w w' g gb (.slice A8 acc.length c8) c.2.1 c.2.2 acc ⟨⟨#[]⟩, 0, 0, ⟨#[]⟩⟩) ∧ (b 4 = true → b 7 = false → Gx w w' g gb (.slice A8 acc.length c8) t.2.1 t.2.2 acc ⟨⟨#[]⟩, 0, 0, ⟨#[]⟩⟩) ∧ (b 7 = true → Gx w w' g gb (.slice A8 acc.length c8) t.2.1 t.2.2 acc ⟨kk, 0, 0, ⟨#[]⟩⟩)) HT_.out HW_.out (by kernel_rfl) (by kernel_rfl) ?_ ?_ ?_
  ·exact ⟨by simp only [putSel, Bool.false_eq_true, if_false], fun _ => HXX.out, fun h_ => absurd h_ (by decide), fun h_ => absurd h_ (by decide)⟩
  ·skip
   refine steps_cons ?_ ?_
   ·rintro b a w' ⟨ha, Q_G0, Q_G1, Q_G2⟩ hb_ hon hoff
    refine ⟨_, rfl, fun K hK => ?_⟩
    have e71 : a.tmps[71]? = some (.string last) := by rw [ha]; exact (putSel_off rfl).trans rfl
    have e72 : a.tmps[72]? = some (.int .i64 cv) := by rw [ha]; exact (putSel_off rfl).trans rfl
    replace ha := Aside0.mk ha
    have hc0 := HC0.out
    have hc1 := HC1.out
    have hla := HLA.out
    refine value_ (w1 := w') (v := .string la) (by rfl) rfl ?_ ?_
    ·(go_simp; (try simp only [i64_w]); first | done | rfl | exact hla | (rw [← hla]; simp))
    refine hK.out _ _ ⟨by rw [ha.out]; exact putSel_upk 0 hb_ rfl rfl rfl, Q_G0, Q_G1, Q_G2⟩
   refine steps_cons ?_ ?_
   ·rintro b a w' ⟨ha, Q_G0, Q_G1, Q_G2⟩ hb_ hon hoff
    refine ⟨_, rfl, fun K hK => ?_⟩
    have e74 : a.tmps[74]? = some (.pointer (some ⟨g, 0, none⟩)) := by rw [ha]; exact (putSel_off rfl).trans rfl
    replace ha := Aside0.mk ha
    refine goes_ Tryz.func174 (by kernel_rfl) rfl #[.pointer (some ⟨g, 0, none⟩), .int .i64 300] (by rfl) rfl rfl (by first | (simp only [List.map_toArray, List.map_cons, List.map_nil, Act.eval, Array.getD_eq_getD_getElem?, Option.getD_some, e74]; done) | (simp only [List.map_toArray, List.map_cons, List.map_nil, Act.eval, Array.getD_eq_getD_getElem?, Option.getD_some, e74]; rfl)) ?_
    refine (gtext_y (Q_G0 hb_).gs HO1.out 300 (by omega) t HT.out ts HTS.out).mono ?_
    rintro e w1 ⟨rfl, hgs, hkp⟩
    refine ⟨_, rfl, ?_⟩
    refine hK.out _ _ ⟨by rw [ha.out]; exact putSel_upk 1 hb_ rfl rfl rfl, fun h_ => absurd h_ (by simp [Go.Proofs.YtchgpcgolgcfdaaGreatW.PrintLast.up]), fun _ _ => (Q_G0 hb_).call hgs hkp, fun h_ => absurd ((hoff 7 (by kernel_rfl)).symm.trans h_) (by decide)⟩
   refine steps_cons ?_ ?_
   ·rintro b a w' ⟨ha, Q_G0, Q_G1, Q_G2⟩ hb_ hon hoff
    refine ⟨_, rfl, fun K hK => ?_⟩
    have e73 : a.tmps[73]? = some (.string la) := by rw [ha]; exact putSel_on (e := (2, 73, .string la)) 0 rfl rfl (hon 2 (by kernel_rfl)) rfl
    have e75 : a.tmps[75]? = some (.string ts) := by rw [ha]; exact putSel_on (e := (4, 75, .string ts)) 1 rfl rfl (hon 4 (by kernel_rfl)) rfl
    replace ha := Aside0.mk ha
    have f1 := HF1.out
    have f2 := HF2.out
    have hkk := HKK.out
    refine value_ (w1 := w') (v := .string kk) (by rfl) rfl ?_ ?_
    ·(go_simp; (try simp only [i64_w]); first | done | rfl | (rw [hkk]; done) | (simp only [hkk]; done))
    refine hK.out _ _ ⟨by rw [ha.out]; exact putSel_upk 2 hb_ rfl rfl rfl, Q_G0, Q_G1, Q_G2⟩
   refine steps_cons ?_ ?_
   ·rintro b a w' ⟨ha, Q_G0, Q_G1, Q_G2⟩ hb_ hon hoff
    refine ⟨_, rfl, fun K hK => ?_⟩
    have e11 : a.tmps[11]? = some (.pointer (some ⟨gb, 0, none⟩)) := by rw [ha]; exact (putSel_off rfl).trans rfl
    replace ha := Aside0.mk ha
    refine value_ (w1 := w') (v := .pointer (some ⟨gb, 0, none⟩)) (by rfl) rfl ?_ ?_
    ·go_simp
     (try simp only [i64_w])
     try rfl
    refine hK.out _ _ ⟨by rw [ha.out]; exact putSel_upk 3 hb_ rfl rfl rfl, Q_G0, Q_G1, Q_G2⟩
   refine steps_cons ?_ ?_
   ·rintro b a w' ⟨ha, Q_G0, Q_G1, Q_G2⟩ hb_ hon hoff
    refine ⟨_, rfl, fun K hK => ?_⟩
    have e77 : a.tmps[77]? = some (.pointer (some ⟨gb, 0, none⟩)) := by rw [ha]; exact putSel_on (e := (6, 77, .pointer (some ⟨gb, 0, none⟩))) 3 rfl rfl (hon 6 (by kernel_rfl)) rfl
    have e76 : a.tmps[76]? = some (.string kk) := by rw [ha]; exact putSel_on (e := (5, 76, .string kk)) 2 rfl rfl (hon 5 (by kernel_rfl)) rfl
    replace ha := Aside0.mk ha
    have hgx := Q_G1 (hon 4 (by kernel_rfl)) hb_
    obtain ⟨⟨x0, x1, x2, x3⟩, xf⟩ := hgx.cells
    have xf0 := xf 0
    refine skip_ (w1 := w'.setCell ⟨gb, 0, none⟩ (.string kk)) (by rfl) rfl ?_ ?_
    ·go_simp
     try rfl
    refine hK.out _ _ ⟨by rw [ha.out]; exact putSel_none (v := undef) rfl, fun h_ => absurd ((hon 4 (by kernel_rfl)).symm.trans h_) (by decide), fun _ h_ => absurd h_ (by simp [Go.Proofs.YtchgpcgolgcfdaaGreatW.PrintLast.up]), fun _ => hgx.set 0 _ ⟨kk, 0, 0, ⟨#[]⟩⟩ rfl⟩
   exact steps_nil
  rintro b a w5 hall ⟨ha, Q_G0, Q_G1, Q_G2⟩
  have hb2_ := hall 2 (by kernel_rfl)
  have hb4_ := hall 4 (by kernel_rfl)
  have hb5_ := hall 5 (by kernel_rfl)
  have hb6_ := hall 6 (by kernel_rfl)
  have hb7_ := hall 7 (by kernel_rfl)
  subst ha
  simp only [putSel, hb2_, hb4_, hb5_, hb6_, hb7_, if_true, Act.put, List.setIfInBounds_toArray, List.set_cons_zero, List.set_cons_succ]
  have G1 := Aside0.mk (Q_G1 hb4_)
  have G2 := Aside0.mk (Q_G2 hb7_)
  clear hall hb2_ hb4_ hb5_ hb6_ hb7_ Q_G0 Q_G1 Q_G2
  have HX := G2
  clear G2
  obtain ⟨sv, hsv⟩ : ∃ sv, sv = s_.1 := ⟨_, rfl⟩
  obtain ⟨qv, hqv⟩ : ∃ qv, qv = q_.1 := ⟨_, rfl⟩
  obtain ⟨vs, hvs⟩ : ∃ vs, vs = strOfNums v.1 := ⟨_, rfl⟩
  have HSV := Aside0.mk hsv
  have HQV := Aside0.mk hqv
  have HVS := Aside0.mk hvs
  clear hsv hvs
  have TKA := Aside0.mk True.intro
  by_cases hk1 : qv = 1
  ·have HKD : Aside0 ((if q_.1 = 1 ∨ q_.1 = 2 then q_.1 else 0) = 1) := ⟨by rw [← hqv, hk1]; rfl⟩
   have d1 : (qv == 1) = true := beq_iff_eq.mpr hk1
   have hwq : IntKind.i64.wrap qv = 1 := by rw [hk1]; rfl
   clear hqv hk1
   go_wp2_with (first | (go_at_call 175; have tk := TKA; refine (gvar_y HX.out.gs HO2.out s_ HSS.out sv HSV.out).mono ?_; rintro e w6 ⟨rfl, hgs, hkp⟩; have m0_ := Aside0.mk (HX.out.call hgs hkp); clear HX TKA tk hgs hkp; have HX := m0_; clear m0_; have TKB := Aside0.mk True.intro; obtain ⟨⟨x0, x1, x2, x3⟩, xf⟩ := HX.out.cells; have xf1 := xf 1) | (go_at_call 175; have tk := TKB; clear x0 x1 x2 x3 xf xf1; have HX1 := Aside0.mk (HX.out.set 1 (.int .u64 sv) ⟨kk, sv, 0, ⟨#[]⟩⟩ rfl); clear HX; refine (gvar_y HX1.out.gs HO3.out q_ HQQ.out qv HQV.out).mono ?_; rintro e w7 ⟨rfl, hgs, hkp⟩; have HX := Aside0.mk (HX1.out.call hgs hkp); clear HX1 TKB tk hgs hkp; have TKC := Aside0.mk True.intro; obtain ⟨⟨x0, x1, x2, x3⟩, xf⟩ := HX.out.cells; have xf2 := xf 2) | (go_at_call 174; have tk := TKC; clear x0 x1 x2 x3 xf xf2; have HX1 := Aside0.mk (HX.out.set 2 (.int .i64 1) ⟨kk, sv, 1, ⟨#[]⟩⟩ rfl); clear HX; refine (gtext_y HX1.out.gs HO4.out 60000 (by omega) v HV.out vs HVS.out).mono ?_; rintro e w8 ⟨rfl, hgs, hkp⟩; have HX := Aside0.mk (HX1.out.call hgs hkp); clear HX1 TKC tk hgs hkp; obtain ⟨⟨x0, x1, x2, x3⟩, xf⟩ := HX.out.cells; have xf3 := xf 3))
   clear x0 x1 x2 x3 xf xf3
   obtain ⟨e_, he_⟩ : ∃ e_ : E, e_ = ⟨kk, sv, 1, vs⟩ := ⟨_, rfl⟩
   have HY := Aside0.mk (HX.out.set 3 (.string vs) e_ (by rw [he_]; rfl))
   have HE_ := Aside0.mk he_
   clear HX he_
   generalize w8.setCell ⟨gb, 3, none⟩ (.string vs) = w9 at *
   have HST := Aside0.mk HY.out.drew.gs.st
   have HBK := Aside0.mk HY.out.drew.bk
   have HBE := Aside0.mk HY.out.drew.gs.bel
   have HRW := Aside0.mk HY.out.drew.gs.row
   have HNE := Aside0.mk HY.out.ne
   clear HY
   refine start_ (n := 8) (S := fun w' => True) (ds := []) #[false, false, false, false, false, false, false, false] (by kernel_rfl) rfl rfl trivial (fun hHeld => ?_); refine with_tabW gb21.tab gb21.bits (fun HT_ HW_ => ?_)
   generalize w9.drew = wS at *
   refine pure_ (i := 0) (N := some 95) (v := ?_) (a' := ?_) #[true, false, false, false, false, false, false, false] rfl rfl (any_of HT_.out (by kernel_rfl)) (fun _ _ _ h => h) (Or.inl ⟨by rfl, ?_⟩) ?_ ?_
   rotate_left
   ·intro w'
    go_simp
    with_reducible rfl
   rotate_left
   ·simp only [Act.put, List.setIfInBounds_toArray, List.set_cons_zero, List.set_cons_succ, i64_w, i32_w]
    rfl
   refine pure_ (i := 4) (N := some 99) (v := ?_) (a' := ?_) #[true, false, false, false, true, false, false, false] rfl rfl (any_of HT_.out (by kernel_rfl)) (fun _ _ _ h => h) (Or.inl ⟨by rfl, ?_⟩) ?_ ?_
   rotate_left
   ·intro w'
    go_simp
    with_reducible rfl
   rotate_left
   ·simp only [Act.put, List.setIfInBounds_toArray, List.set_cons_zero, List.set_cons_succ, i64_w, i32_w]
    rfl
   refine inv_at [1, 2, 3, 5, 6, 7] (fun a0_ b a w' => ∃ (v97 : Value), ∃ (v98 : Value), ∃ (v8x : Value), a = putSel a0_ b [(1, 96, .agg #[.string e_.f0, .int .u64 e_.f1, .int .i64 e_.f2, .string e_.f3]), (2, 97, v97), (3, 98, v98), (5, 100, .string e_.f0), (6, 8, v8x), (7, 9, .string e_.f0)] ∧ (IsS97 w w' g (strOfNums v.2.1) v.2.2) ∧ (w'.heap[gb]? = some (.cells #[.string e_.f0, .int .u64 e_.f1, .int .i64 e_.f2, .string e_.f3] 32 (0, 0))) ∧ (Below w.heap.size w w') ∧ (b 3 = false → Kd.R k32 32 w' w.heap.size (fun _ => True) (.slice A8 acc.length c8) acc) ∧ (b 3 = true → Kd.R k32 32 w' w.heap.size (fun _ => True) v98 (acc ++ [e_])) ∧ (b 2 = true → b 3 = false → Kd.R k32 32 w' w.heap.size (fun _ => True) v97 ([e_] : List E)) ∧ (b 6 = true → v8x = v98)) HT_.out HW_.out (by kernel_rfl) (by kernel_rfl) ?_ ?_ ?_
   ·exact ⟨.bool false, .bool false, .bool false, by simp only [putSel, Bool.false_eq_true, if_false], HST.out, HBK.out, HBE.out, fun _ => HRW.out, fun h_ => absurd h_ (by decide), fun h_ => absurd h_ (by decide), fun h_ => absurd h_ (by decide)⟩
   ·skip
    refine steps_cons ?_ ?_
    ·rintro b a w' ⟨v97, v98, v8x, ha, Q_ST, Q_BK, Q_BEL, Q_ROW, Q_POST, Q_LIT, Q_EQ8⟩ hb_ hon hoff
     refine ⟨_, rfl, fun K hK => ?_⟩
     have e11 : a.tmps[11]? = some (.pointer (some ⟨gb, 0, none⟩)) := by rw [ha]; exact (putSel_off rfl).trans rfl
     replace ha := Aside0.mk ha
     obtain ⟨⟨x0, x1, x2, x3⟩, xf⟩ := Gx.cells2 Q_BK
     have xf0 := xf 0
     refine value_ (w1 := w') (v := .agg #[.string e_.f0, .int .u64 e_.f1, .int .i64 e_.f2, .string e_.f3]) (by rfl) rfl ?_ ?_
     ·go_simp
      (try simp only [i64_w])
      try rfl
     refine hK.out _ _ ⟨v97, v98, v8x, by rw [ha.out]; exact putSel_upk 0 hb_ rfl rfl rfl, Q_ST, Q_BK, Q_BEL, Q_ROW, Q_POST, Q_LIT, Q_EQ8⟩
    refine steps_cons ?_ ?_
    ·rintro b a w' ⟨v97, v98, v8x, ha, Q_ST, Q_BK, Q_BEL, Q_ROW, Q_POST, Q_LIT, Q_EQ8⟩ hb_ hon hoff
     refine ⟨_, rfl, fun K hK => ?_⟩
     have e96 : a.tmps[96]? = some (.agg #[.string e_.f0, .int .u64 e_.f1, .int .i64 e_.f2, .string e_.f3]) := by rw [ha]; exact putSel_on (e := (1, 96, .agg #[.string e_.f0, .int .u64 e_.f1, .int .i64 e_.f2, .string e_.f3])) 0 rfl rfl (hon 1 (by kernel_rfl)) rfl
     replace ha := Aside0.mk ha
     refine Kd.R_lit_step k32 _ 32 ?hg (N := 97) ?hd (xs := ([e_] : List E)) (inner := [.string e_.f0, .int .u64 e_.f1, .int .i64 e_.f2, .string e_.f3]) (ok := fun _ => True) (okp := fun _ => True) ?hr ?hp (fun _ hk => hk) trivial (Below.refl _ _) (Nat.le_refl _) (by simp) ?_; (case hd => rfl); (case hg => rfl); (case hr => first | (go_simp; done) | (go_simp; rfl)); (case hp => exact (Reps.c4 (show Kd.M k32 _ _ _ e_ [.string e_.f0, .int .u64 e_.f1, .int .i64 e_.f2, .string e_.f3] from k32_mkM _ _ _ e_) (Reps.none _ _)))
     intro v97n w1 ho1 hb1 hg_ hnew_
     clear hg_ hnew_
     refine hK.out _ _ ⟨v97n, v98, v8x, by rw [ha.out]; exact putSel_upk 1 hb_ rfl rfl rfl, Q_ST.below hb1, blk_below Q_BK hb1, below_step Q_BEL hb1, fun h_ => Kd.R_below (Q_ROW h_) hb1, fun h_ => absurd ((hoff 3 (by kernel_rfl)).symm.trans h_) (by decide), fun _ _ => Kd.R_lower ho1 Q_BEL.size, fun h_ => absurd ((hoff 6 (by kernel_rfl)).symm.trans h_) (by decide)⟩
    refine steps_cons ?_ ?_
    ·rintro b a w' ⟨v97, v98, v8x, ha, Q_ST, Q_BK, Q_BEL, Q_ROW, Q_POST, Q_LIT, Q_EQ8⟩ hb_ hon hoff
     refine ⟨_, rfl, fun K hK => ?_⟩
     have e95 : a.tmps[95]? = some (.slice A8 acc.length c8) := by rw [ha]; exact (putSel_off rfl).trans rfl
     have e97 : a.tmps[97]? = some (v97) := by rw [ha]; exact putSel_on (e := (2, 97, v97)) 1 rfl rfl (hon 2 (by kernel_rfl)) rfl
     replace ha := Aside0.mk ha
     have hS := Q_LIT (hon 2 (by kernel_rfl)) hb_
     obtain ⟨As, cs, es⟩ := Kd.R_slice hS
     subst es
     refine Kd.R_append_rows_step k32 (P := Tryz.prog) (w0 := w) w.heap.size (by rfl) (.tmp 95) (.tmp 97) 22 32 (.agg #[.string ⟨#[]⟩, .int .u64 0, .int .i64 0, .string ⟨#[]⟩]) 48 rfl Tryz.underlying22 info32 rfl (by decide) (by omega) (.slice A8 acc.length c8) acc ([e_] : List E) As 1 cs (fun _ => True) (fun _ => False) (by simp [Act.eval, e95]) (by simp [Act.eval, e97]) (Q_ROW hb_) (Kd.R_reads' hS).2.2 (fun _ _ h => h) (fun _ h => h.elim) (fun _ _ => trivial) Q_BEL Q_BEL.size (by have := HAL.out; omega) ?_
     intro v98n w1 ho1 hb1 hg1 hat1
     have hgg : w'.grownBy w1 (Value.slice A8 acc.length c8).ownBlock := hg1
     refine hK.out _ _ ⟨.slice As 1 cs, v98n, v8x, by rw [ha.out]; exact putSel_upk 2 hb_ rfl rfl rfl, Q_ST.grown hgg (Q_ST.own_ne (Q_ROW hb_) (by decide)), blk_grown Q_BK hgg (fun e => HNE.out _ e.symm rfl), hb1, fun h_ => absurd h_ (by simp [Go.Proofs.YtchgpcgolgcfdaaGreatW.PrintLast.up]), fun _ => ho1, fun _ h_ => absurd h_ (by simp [Go.Proofs.YtchgpcgolgcfdaaGreatW.PrintLast.up]), fun h_ => absurd ((hoff 6 (by kernel_rfl)).symm.trans h_) (by decide)⟩
    refine steps_cons ?_ ?_
    ·rintro b a w' ⟨v97, v98, v8x, ha, Q_ST, Q_BK, Q_BEL, Q_ROW, Q_POST, Q_LIT, Q_EQ8⟩ hb_ hon hoff
     refine ⟨_, rfl, fun K hK => ?_⟩
     have e99 : a.tmps[99]? = some (.pointer (some ⟨gb, 0, none⟩)) := by rw [ha]; exact (putSel_off rfl).trans rfl
     replace ha := Aside0.mk ha
     obtain ⟨⟨x0, x1, x2, x3⟩, xf⟩ := Gx.cells2 Q_BK
     have xf0 := xf 0
     refine value_ (w1 := w') (v := .string e_.f0) (by rfl) rfl ?_ ?_
     ·go_simp
      (try simp only [i64_w])
      try rfl
     refine hK.out _ _ ⟨v97, v98, v8x, by rw [ha.out]; exact putSel_upk 3 hb_ rfl rfl rfl, Q_ST, Q_BK, Q_BEL, Q_ROW, Q_POST, Q_LIT, Q_EQ8⟩
    refine steps_cons ?_ ?_
    ·rintro b a w' ⟨v97, v98, v8x, ha, Q_ST, Q_BK, Q_BEL, Q_ROW, Q_POST, Q_LIT, Q_EQ8⟩ hb_ hon hoff
     refine ⟨_, rfl, fun K hK => ?_⟩
     have e98 : a.tmps[98]? = some (v98) := by rw [ha]; exact putSel_on (e := (3, 98, v98)) 2 rfl rfl (hon 3 (by kernel_rfl)) rfl
     replace ha := Aside0.mk ha
     refine value_ (w1 := w') (v := v98) (by rfl) rfl ?_ ?_
     ·go_simp
      (try simp only [i64_w])
      try rfl
     refine hK.out _ _ ⟨v97, v98, v98, by rw [ha.out]; exact putSel_upk 4 hb_ rfl rfl rfl, Q_ST, Q_BK, Q_BEL, Q_ROW, Q_POST, Q_LIT, fun _ => rfl⟩
    refine steps_cons ?_ ?_
    ·rintro b a w' ⟨v97, v98, v8x, ha, Q_ST, Q_BK, Q_BEL, Q_ROW, Q_POST, Q_LIT, Q_EQ8⟩ hb_ hon hoff
     refine ⟨_, rfl, fun K hK => ?_⟩
     have e100 : a.tmps[100]? = some (.string e_.f0) := by rw [ha]; exact putSel_on (e := (5, 100, .string e_.f0)) 3 rfl rfl (hon 5 (by kernel_rfl)) rfl
     replace ha := Aside0.mk ha
     refine value_ (w1 := w') (v := .string e_.f0) (by rfl) rfl ?_ ?_
     ·go_simp
      (try simp only [i64_w])
      try rfl
     refine hK.out _ _ ⟨v97, v98, v8x, by rw [ha.out]; exact putSel_upk 5 hb_ rfl rfl rfl, Q_ST, Q_BK, Q_BEL, Q_ROW, Q_POST, Q_LIT, Q_EQ8⟩
    exact steps_nil
   rintro b a w25 hall ⟨v97, v98, v8x, ha, Q_ST, Q_BK, Q_BEL, Q_ROW, Q_POST, Q_LIT, Q_EQ8⟩
   have hb1_ := hall 1 (by kernel_rfl)
   have hb2_ := hall 2 (by kernel_rfl)
   have hb3_ := hall 3 (by kernel_rfl)
   have hb5_ := hall 5 (by kernel_rfl)
   have hb6_ := hall 6 (by kernel_rfl)
   have hb7_ := hall 7 (by kernel_rfl)
   subst ha
   simp only [putSel, hb1_, hb2_, hb3_, hb5_, hb6_, hb7_, if_true, Act.put, List.setIfInBounds_toArray, List.set_cons_zero, List.set_cons_succ]
   have ST := Aside0.mk (Q_ST)
   have BK := Aside0.mk (Q_BK)
   have BEL := Aside0.mk (Q_BEL)
   have POST := Aside0.mk (Q_POST hb3_)
   have LIT := Aside0.mk (Q_LIT hb2_)
   have EQ8 := Aside0.mk (Q_EQ8 hb6_)
   clear hall hb1_ hb2_ hb3_ hb5_ hb6_ hb7_ Q_ST Q_BK Q_BEL Q_ROW Q_POST Q_LIT Q_EQ8
   go_wp2_with (fail)
   have HRN := Aside0.mk (HSTEP.out e_ (by rw [HE_.out, HKK2.out, HSV.out, HVS.out, HKD.out]))
   have HGN : Aside0 (Gs w w25 g v8x v.2.1 v.2.2 (acc ++ [e_])) := ⟨⟨ST.out, by rw [EQ8.out]; exact POST.out, BEL.out⟩⟩
   go_roundw
   case rel => exact ⟨acc ++ [e_], e_.f0, v.2.1, v.2.2, rfl, HGN, ⟨HRN.out.1⟩⟩
   case measure => rw [ms_is HGN.out, ms_is HGM.out, if_pos rfl]; exact HRN.out.2
  have d1 : (qv == 1) = false := beq_eq_false_iff_ne.mpr hk1
  by_cases hk2 : qv = 2
  ·have HKD : Aside0 ((if q_.1 = 1 ∨ q_.1 = 2 then q_.1 else 0) = 2) := ⟨by rw [← hqv, hk2]; rfl⟩
   have d2 : (qv == 2) = true := beq_iff_eq.mpr hk2
   have hwq : IntKind.i64.wrap qv = 2 := by rw [hk2]; rfl
   clear hqv hk1 hk2
   go_wp2_with (first | (go_at_call 175; have tk := TKA; refine (gvar_y HX.out.gs HO2.out s_ HSS.out sv HSV.out).mono ?_; rintro e w6 ⟨rfl, hgs, hkp⟩; have m0_ := Aside0.mk (HX.out.call hgs hkp); clear HX TKA tk hgs hkp; have HX := m0_; clear m0_; have TKB := Aside0.mk True.intro; obtain ⟨⟨x0, x1, x2, x3⟩, xf⟩ := HX.out.cells; have xf1 := xf 1) | (go_at_call 175; have tk := TKB; clear x0 x1 x2 x3 xf xf1; have HX1 := Aside0.mk (HX.out.set 1 (.int .u64 sv) ⟨kk, sv, 0, ⟨#[]⟩⟩ rfl); clear HX; refine (gvar_y HX1.out.gs HO3.out q_ HQQ.out qv HQV.out).mono ?_; rintro e w7 ⟨rfl, hgs, hkp⟩; have HX := Aside0.mk (HX1.out.call hgs hkp); clear HX1 TKB tk hgs hkp; have TKC := Aside0.mk True.intro; obtain ⟨⟨x0, x1, x2, x3⟩, xf⟩ := HX.out.cells; have xf2 := xf 2) | (go_at_call 174; have tk := TKC; clear x0 x1 x2 x3 xf xf2; have HX1 := Aside0.mk (HX.out.set 2 (.int .i64 2) ⟨kk, sv, 2, ⟨#[]⟩⟩ rfl); clear HX; refine (gtext_y HX1.out.gs HO4.out 60000 (by omega) v HV.out vs HVS.out).mono ?_; rintro e w8 ⟨rfl, hgs, hkp⟩; have HX := Aside0.mk (HX1.out.call hgs hkp); clear HX1 TKC tk hgs hkp; obtain ⟨⟨x0, x1, x2, x3⟩, xf⟩ := HX.out.cells; have xf3 := xf 3))
   clear x0 x1 x2 x3 xf xf3
   obtain ⟨e_, he_⟩ : ∃ e_ : E, e_ = ⟨kk, sv, 2, vs⟩ := ⟨_, rfl⟩
   have HY := Aside0.mk (HX.out.set 3 (.string vs) e_ (by rw [he_]; rfl))
   have HE_ := Aside0.mk he_
   clear HX he_
   generalize w8.setCell ⟨gb, 3, none⟩ (.string vs) = w9 at *
   have HST := Aside0.mk HY.out.drew.gs.st
   have HBK := Aside0.mk HY.out.drew.bk
   have HBE := Aside0.mk HY.out.drew.gs.bel
   have HRW := Aside0.mk HY.out.drew.gs.row
   have HNE := Aside0.mk HY.out.ne
   clear HY
   refine start_ (n := 8) (S := fun w' => True) (ds := []) #[false, false, false, false, false, false, false, false] (by kernel_rfl) rfl rfl trivial (fun hHeld => ?_); refine with_tabW gb21.tab gb21.bits (fun HT_ HW_ => ?_)
   generalize w9.drew = wS at *
   refine pure_ (i := 0) (N := some 95) (v := ?_) (a' := ?_) #[true, false, false, false, false, false, false, false] rfl rfl (any_of HT_.out (by kernel_rfl)) (fun _ _ _ h => h) (Or.inl ⟨by rfl, ?_⟩) ?_ ?_
   rotate_left
   ·intro w'
    go_simp
    with_reducible rfl
   rotate_left
   ·simp only [Act.put, List.setIfInBounds_toArray, List.set_cons_zero, List.set_cons_succ, i64_w, i32_w]
    rfl
   refine pure_ (i := 4) (N := some 99) (v := ?_) (a' := ?_) #[true, false, false, false, true, false, false, false] rfl rfl (any_of HT_.out (by kernel_rfl)) (fun _ _ _ h => h) (Or.inl ⟨by rfl, ?_⟩) ?_ ?_
   rotate_left
   ·intro w'
    go_simp
    with_reducible rfl
   rotate_left
   ·simp only [Act.put, List.setIfInBounds_toArray, List.set_cons_zero, List.set_cons_succ, i64_w, i32_w]
    rfl
   refine inv_at [1, 2, 3, 5, 6, 7] (fun a0_ b a w' => ∃ (v97 : Value), ∃ (v98 : Value), ∃ (v8x : Value), a = putSel a0_ b [(1, 96, .agg #[.string e_.f0, .int .u64 e_.f1, .int .i64 e_.f2, .string e_.f3]), (2, 97, v97), (3, 98, v98), (5, 100, .string e_.f0), (6, 8, v8x), (7, 9, .string e_.f0)] ∧ (IsS97 w w' g (strOfNums v.2.1) v.2.2) ∧ (w'.heap[gb]? = some (.cells #[.string e_.f0, .int .u64 e_.f1, .int .i64 e_.f2, .string e_.f3] 32 (0, 0))) ∧ (Below w.heap.size w w') ∧ (b 3 = false → Kd.R k32 32 w' w.heap.size (fun _ => True) (.slice A8 acc.length c8) acc) ∧ (b 3 = true → Kd.R k32 32 w' w.heap.size (fun _ => True) v98 (acc ++ [e_])) ∧ (b 2 = true → b 3 = false → Kd.R k32 32 w' w.heap.size (fun _ => True) v97 ([e_] : List E)) ∧ (b 6 = true → v8x = v98)) HT_.out HW_.out (by kernel_rfl) (by kernel_rfl) ?_ ?_ ?_
   ·exact ⟨.bool false, .bool false, .bool false, by simp only [putSel, Bool.false_eq_true, if_false], HST.out, HBK.out, HBE.out, fun _ => HRW.out, fun h_ => absurd h_ (by decide), fun h_ => absurd h_ (by decide), fun h_ => absurd h_ (by decide)⟩
   ·skip
    refine steps_cons ?_ ?_
    ·rintro b a w' ⟨v97, v98, v8x, ha, Q_ST, Q_BK, Q_BEL, Q_ROW, Q_POST, Q_LIT, Q_EQ8⟩ hb_ hon hoff
     refine ⟨_, rfl, fun K hK => ?_⟩
     have e11 : a.tmps[11]? = some (.pointer (some ⟨gb, 0, none⟩)) := by rw [ha]; exact (putSel_off rfl).trans rfl
     replace ha := Aside0.mk ha
     obtain ⟨⟨x0, x1, x2, x3⟩, xf⟩ := Gx.cells2 Q_BK
     have xf0 := xf 0
     refine value_ (w1 := w') (v := .agg #[.string e_.f0, .int .u64 e_.f1, .int .i64 e_.f2, .string e_.f3]) (by rfl) rfl ?_ ?_
     ·go_simp
      (try simp only [i64_w])
      try rfl
     refine hK.out _ _ ⟨v97, v98, v8x, by rw [ha.out]; exact putSel_upk 0 hb_ rfl rfl rfl, Q_ST, Q_BK, Q_BEL, Q_ROW, Q_POST, Q_LIT, Q_EQ8⟩
    refine steps_cons ?_ ?_
    ·rintro b a w' ⟨v97, v98, v8x, ha, Q_ST, Q_BK, Q_BEL, Q_ROW, Q_POST, Q_LIT, Q_EQ8⟩ hb_ hon hoff
     refine ⟨_, rfl, fun K hK => ?_⟩
     have e96 : a.tmps[96]? = some (.agg #[.string e_.f0, .int .u64 e_.f1, .int .i64 e_.f2, .string e_.f3]) := by rw [ha]; exact putSel_on (e := (1, 96, .agg #[.string e_.f0, .int .u64 e_.f1, .int .i64 e_.f2, .string e_.f3])) 0 rfl rfl (hon 1 (by kernel_rfl)) rfl
     replace ha := Aside0.mk ha
     refine Kd.R_lit_step k32 _ 32 ?hg (N := 97) ?hd (xs := ([e_] : List E)) (inner := [.string e_.f0, .int .u64 e_.f1, .int .i64 e_.f2, .string e_.f3]) (ok := fun _ => True) (okp := fun _ => True) ?hr ?hp (fun _ hk => hk) trivial (Below.refl _ _) (Nat.le_refl _) (by simp) ?_; (case hd => rfl); (case hg => rfl); (case hr => first | (go_simp; done) | (go_simp; rfl)); (case hp => exact (Reps.c4 (show Kd.M k32 _ _ _ e_ [.string e_.f0, .int .u64 e_.f1, .int .i64 e_.f2, .string e_.f3] from k32_mkM _ _ _ e_) (Reps.none _ _)))
     intro v97n w1 ho1 hb1 hg_ hnew_
     clear hg_ hnew_
     refine hK.out _ _ ⟨v97n, v98, v8x, by rw [ha.out]; exact putSel_upk 1 hb_ rfl rfl rfl, Q_ST.below hb1, blk_below Q_BK hb1, below_step Q_BEL hb1, fun h_ => Kd.R_below (Q_ROW h_) hb1, fun h_ => absurd ((hoff 3 (by kernel_rfl)).symm.trans h_) (by decide), fun _ _ => Kd.R_lower ho1 Q_BEL.size, fun h_ => absurd ((hoff 6 (by kernel_rfl)).symm.trans h_) (by decide)⟩
    refine steps_cons ?_ ?_
    ·rintro b a w' ⟨v97, v98, v8x, ha, Q_ST, Q_BK, Q_BEL, Q_ROW, Q_POST, Q_LIT, Q_EQ8⟩ hb_ hon hoff
     refine ⟨_, rfl, fun K hK => ?_⟩
     have e95 : a.tmps[95]? = some (.slice A8 acc.length c8) := by rw [ha]; exact (putSel_off rfl).trans rfl
     have e97 : a.tmps[97]? = some (v97) := by rw [ha]; exact putSel_on (e := (2, 97, v97)) 1 rfl rfl (hon 2 (by kernel_rfl)) rfl
     replace ha := Aside0.mk ha
     have hS := Q_LIT (hon 2 (by kernel_rfl)) hb_
     obtain ⟨As, cs, es⟩ := Kd.R_slice hS
     subst es
     refine Kd.R_append_rows_step k32 (P := Tryz.prog) (w0 := w) w.heap.size (by rfl) (.tmp 95) (.tmp 97) 22 32 (.agg #[.string ⟨#[]⟩, .int .u64 0, .int .i64 0, .string ⟨#[]⟩]) 48 rfl Tryz.underlying22 info32 rfl (by decide) (by omega) (.slice A8 acc.length c8) acc ([e_] : List E) As 1 cs (fun _ => True) (fun _ => False) (by simp [Act.eval, e95]) (by simp [Act.eval, e97]) (Q_ROW hb_) (Kd.R_reads' hS).2.2 (fun _ _ h => h) (fun _ h => h.elim) (fun _ _ => trivial) Q_BEL Q_BEL.size (by have := HAL.out; omega) ?_
     intro v98n w1 ho1 hb1 hg1 hat1
     have hgg : w'.grownBy w1 (Value.slice A8 acc.length c8).ownBlock := hg1
     refine hK.out _ _ ⟨.slice As 1 cs, v98n, v8x, by rw [ha.out]; exact putSel_upk 2 hb_ rfl rfl rfl, Q_ST.grown hgg (Q_ST.own_ne (Q_ROW hb_) (by decide)), blk_grown Q_BK hgg (fun e => HNE.out _ e.symm rfl), hb1, fun h_ => absurd h_ (by simp [Go.Proofs.YtchgpcgolgcfdaaGreatW.PrintLast.up]), fun _ => ho1, fun _ h_ => absurd h_ (by simp [Go.Proofs.YtchgpcgolgcfdaaGreatW.PrintLast.up]), fun h_ => absurd ((hoff 6 (by kernel_rfl)).symm.trans h_) (by decide)⟩
    refine steps_cons ?_ ?_
    ·rintro b a w' ⟨v97, v98, v8x, ha, Q_ST, Q_BK, Q_BEL, Q_ROW, Q_POST, Q_LIT, Q_EQ8⟩ hb_ hon hoff
     refine ⟨_, rfl, fun K hK => ?_⟩
     have e99 : a.tmps[99]? = some (.pointer (some ⟨gb, 0, none⟩)) := by rw [ha]; exact (putSel_off rfl).trans rfl
     replace ha := Aside0.mk ha
     obtain ⟨⟨x0, x1, x2, x3⟩, xf⟩ := Gx.cells2 Q_BK
     have xf0 := xf 0
     refine value_ (w1 := w') (v := .string e_.f0) (by rfl) rfl ?_ ?_
     ·go_simp
      (try simp only [i64_w])
      try rfl
     refine hK.out _ _ ⟨v97, v98, v8x, by rw [ha.out]; exact putSel_upk 3 hb_ rfl rfl rfl, Q_ST, Q_BK, Q_BEL, Q_ROW, Q_POST, Q_LIT, Q_EQ8⟩
    refine steps_cons ?_ ?_
    ·rintro b a w' ⟨v97, v98, v8x, ha, Q_ST, Q_BK, Q_BEL, Q_ROW, Q_POST, Q_LIT, Q_EQ8⟩ hb_ hon hoff
     refine ⟨_, rfl, fun K hK => ?_⟩
     have e98 : a.tmps[98]? = some (v98) := by rw [ha]; exact putSel_on (e := (3, 98, v98)) 2 rfl rfl (hon 3 (by kernel_rfl)) rfl
     replace ha := Aside0.mk ha
     refine value_ (w1 := w') (v := v98) (by rfl) rfl ?_ ?_
     ·go_simp
      (try simp only [i64_w])
      try rfl
     refine hK.out _ _ ⟨v97, v98, v98, by rw [ha.out]; exact putSel_upk 4 hb_ rfl rfl rfl, Q_ST, Q_BK, Q_BEL, Q_ROW, Q_POST, Q_LIT, fun _ => rfl⟩
    refine steps_cons ?_ ?_
    ·rintro b a w' ⟨v97, v98, v8x, ha, Q_ST, Q_BK, Q_BEL, Q_ROW, Q_POST, Q_LIT, Q_EQ8⟩ hb_ hon hoff
     refine ⟨_, rfl, fun K hK => ?_⟩
     have e100 : a.tmps[100]? = some (.string e_.f0) := by rw [ha]; exact putSel_on (e := (5, 100, .string e_.f0)) 3 rfl rfl (hon 5 (by kernel_rfl)) rfl
     replace ha := Aside0.mk ha
     refine value_ (w1 := w') (v := .string e_.f0) (by rfl) rfl ?_ ?_
     ·go_simp
      (try simp only [i64_w])
      try rfl
     refine hK.out _ _ ⟨v97, v98, v8x, by rw [ha.out]; exact putSel_upk 5 hb_ rfl rfl rfl, Q_ST, Q_BK, Q_BEL, Q_ROW, Q_POST, Q_LIT, Q_EQ8⟩
    exact steps_nil
   rintro b a w25 hall ⟨v97, v98, v8x, ha, Q_ST, Q_BK, Q_BEL, Q_ROW, Q_POST, Q_LIT, Q_EQ8⟩
   have hb1_ := hall 1 (by kernel_rfl)
   have hb2_ := hall 2 (by kernel_rfl)
   have hb3_ := hall 3 (by kernel_rfl)
   have hb5_ := hall 5 (by kernel_rfl)
   have hb6_ := hall 6 (by kernel_rfl)
   have hb7_ := hall 7 (by kernel_rfl)
   subst ha
   simp only [putSel, hb1_, hb2_, hb3_, hb5_, hb6_, hb7_, if_true, Act.put, List.setIfInBounds_toArray, List.set_cons_zero, List.set_cons_succ]
   have ST := Aside0.mk (Q_ST)
   have BK := Aside0.mk (Q_BK)
   have BEL := Aside0.mk (Q_BEL)
   have POST := Aside0.mk (Q_POST hb3_)
   have LIT := Aside0.mk (Q_LIT hb2_)
   have EQ8 := Aside0.mk (Q_EQ8 hb6_)
   clear hall hb1_ hb2_ hb3_ hb5_ hb6_ hb7_ Q_ST Q_BK Q_BEL Q_ROW Q_POST Q_LIT Q_EQ8
   go_wp2_with (fail)
   have HRN := Aside0.mk (HSTEP.out e_ (by rw [HE_.out, HKK2.out, HSV.out, HVS.out, HKD.out]))
   have HGN : Aside0 (Gs w w25 g v8x v.2.1 v.2.2 (acc ++ [e_])) := ⟨⟨ST.out, by rw [EQ8.out]; exact POST.out, BEL.out⟩⟩
   go_roundw
   case rel => exact ⟨acc ++ [e_], e_.f0, v.2.1, v.2.2, rfl, HGN, ⟨HRN.out.1⟩⟩
   case measure => rw [ms_is HGN.out, ms_is HGM.out, if_pos rfl]; exact HRN.out.2
  have d2 : (qv == 2) = false := beq_eq_false_iff_ne.mpr hk2
  have HKD : Aside0 ((if q_.1 = 1 ∨ q_.1 = 2 then q_.1 else 0) = 0) := ⟨by rw [← hqv]; exact if_neg (fun h => h.elim hk1 hk2)⟩
  clear hqv hk1 hk2
  go_wp2_with (first | (go_at_call 175; have tk := TKA; refine (gvar_y HX.out.gs HO2.out s_ HSS.out sv HSV.out).mono ?_; rintro e w6 ⟨rfl, hgs, hkp⟩; have m0_ := Aside0.mk (HX.out.call hgs hkp); clear HX TKA tk hgs hkp; have HX := m0_; clear m0_; have TKB := Aside0.mk True.intro; obtain ⟨⟨x0, x1, x2, x3⟩, xf⟩ := HX.out.cells; have xf1 := xf 1) | (go_at_call 175; have tk := TKB; clear x0 x1 x2 x3 xf xf1; have HX1 := Aside0.mk (HX.out.set 1 (.int .u64 sv) ⟨kk, sv, 0, ⟨#[]⟩⟩ rfl); clear HX; refine (gvar_y HX1.out.gs HO3.out q_ HQQ.out qv HQV.out).mono ?_; rintro e w7 ⟨rfl, hgs, hkp⟩; have HX := Aside0.mk (HX1.out.call hgs hkp); clear HX1 TKB tk hgs hkp; have TKC := Aside0.mk True.intro; obtain ⟨⟨x0, x1, x2, x3⟩, xf⟩ := HX.out.cells; have xf2 := xf 2) | (go_at_call 174; have tk := TKC; clear x0 x1 x2 x3 xf xf2; have HX1 := Aside0.mk (HX.out); clear HX; refine (gtext_y HX1.out.gs HO4.out 60000 (by omega) v HV.out vs HVS.out).mono ?_; rintro e w8 ⟨rfl, hgs, hkp⟩; have HX := Aside0.mk (HX1.out.call hgs hkp); clear HX1 TKC tk hgs hkp; obtain ⟨⟨x0, x1, x2, x3⟩, xf⟩ := HX.out.cells; have xf3 := xf 3))
  clear x0 x1 x2 x3 xf xf3
  obtain ⟨e_, he_⟩ : ∃ e_ : E, e_ = ⟨kk, sv, 0, vs⟩ := ⟨_, rfl⟩
  have HY := Aside0.mk (HX.out.set 3 (.string vs) e_ (by rw [he_]; rfl))
  have HE_ := Aside0.mk he_
  clear HX he_
  generalize w8.setCell ⟨gb, 3, none⟩ (.string vs) = w9 at *
  have HST := Aside0.mk HY.out.drew.gs.st
  have HBK := Aside0.mk HY.out.drew.bk
  have HBE := Aside0.mk HY.out.drew.gs.bel
  have HRW := Aside0.mk HY.out.drew.gs.row
  have HNE := Aside0.mk HY.out.ne
  clear HY
  refine start_ (n := 8) (S := fun w' => True) (ds := []) #[false, false, false, false, false, false, false, false] (by kernel_rfl) rfl rfl trivial (fun hHeld => ?_); refine with_tabW gb21.tab gb21.bits (fun HT_ HW_ => ?_)
  generalize w9.drew = wS at *
  refine pure_ (i := 0) (N := some 95) (v := ?_) (a' := ?_) #[true, false, false, false, false, false, false, false] rfl rfl (any_of HT_.out (by kernel_rfl)) (fun _ _ _ h => h) (Or.inl ⟨by rfl, ?_⟩) ?_ ?_
  rotate_left
  ·intro w'
   go_simp
   with_reducible rfl
  rotate_left
  ·simp only [Act.put, List.setIfInBounds_toArray, List.set_cons_zero, List.set_cons_succ, i64_w, i32_w]
   rfl
  refine pure_ (i := 4) (N := some 99) (v := ?_) (a' := ?_) #[true, false, false, false, true, false, false, false] rfl rfl (any_of HT_.out (by kernel_rfl)) (fun _ _ _ h => h) (Or.inl ⟨by rfl, ?_⟩) ?_ ?_
  rotate_left
  ·intro w'
   go_simp
   with_reducible rfl
  rotate_left
  ·simp only [Act.put, List.setIfInBounds_toArray, List.set_cons_zero, List.set_cons_succ, i64_w, i32_w]
   rfl
  refine inv_at [1, 2, 3, 5, 6, 7] (fun a0_ b a w' => ∃ (v97 : Value), ∃ (v98 : Value), ∃ (v8x : Value), a = putSel a0_ b [(1, 96, .agg #[.string e_.f0, .int .u64 e_.f1, .int .i64 e_.f2, .string e_.f3]), (2, 97, v97), (3, 98, v98), (5, 100, .string e_.f0), (6, 8, v8x), (7, 9, .string e_.f0)] ∧ (IsS97 w w' g (strOfNums v.2.1) v.2.2) ∧ (w'.heap[gb]? = some (.cells #[.string e_.f0, .int .u64 e_.f1, .int .i64 e_.f2, .string e_.f3] 32 (0, 0))) ∧ (Below w.heap.size w w') ∧ (b 3 = false → Kd.R k32 32 w' w.heap.size (fun _ => True) (.slice A8 acc.length c8) acc) ∧ (b 3 = true → Kd.R k32 32 w' w.heap.size (fun _ => True) v98 (acc ++ [e_])) ∧ (b 2 = true → b 3 = false → Kd.R k32 32 w' w.heap.size (fun _ => True) v97 ([e_] : List E)) ∧ (b 6 = true → v8x = v98)) HT_.out HW_.out (by kernel_rfl) (by kernel_rfl) ?_ ?_ ?_
  ·exact ⟨.bool false, .bool false, .bool false, by simp only [putSel, Bool.false_eq_true, if_false], HST.out, HBK.out, HBE.out, fun _ => HRW.out, fun h_ => absurd h_ (by decide), fun h_ => absurd h_ (by decide), fun h_ => absurd h_ (by decide)⟩
  ·skip
   refine steps_cons ?_ ?_
   ·rintro b a w' ⟨v97, v98, v8x, ha, Q_ST, Q_BK, Q_BEL, Q_ROW, Q_POST, Q_LIT, Q_EQ8⟩ hb_ hon hoff
    refine ⟨_, rfl, fun K hK => ?_⟩
    have e11 : a.tmps[11]? = some (.pointer (some ⟨gb, 0, none⟩)) := by rw [ha]; exact (putSel_off rfl).trans rfl
    replace ha := Aside0.mk ha
    obtain ⟨⟨x0, x1, x2, x3⟩, xf⟩ := Gx.cells2 Q_BK
    have xf0 := xf 0
    refine value_ (w1 := w') (v := .agg #[.string e_.f0, .int .u64 e_.f1, .int .i64 e_.f2, .string e_.f3]) (by rfl) rfl ?_ ?_
    ·go_simp
     (try simp only [i64_w])
     try rfl
    refine hK.out _ _ ⟨v97, v98, v8x, by rw [ha.out]; exact putSel_upk 0 hb_ rfl rfl rfl, Q_ST, Q_BK, Q_BEL, Q_ROW, Q_POST, Q_LIT, Q_EQ8⟩
   refine steps_cons ?_ ?_
   ·rintro b a w' ⟨v97, v98, v8x, ha, Q_ST, Q_BK, Q_BEL, Q_ROW, Q_POST, Q_LIT, Q_EQ8⟩ hb_ hon hoff
    refine ⟨_, rfl, fun K hK => ?_⟩
    have e96 : a.tmps[96]? = some (.agg #[.string e_.f0, .int .u64 e_.f1, .int .i64 e_.f2, .string e_.f3]) := by rw [ha]; exact putSel_on (e := (1, 96, .agg #[.string e_.f0, .int .u64 e_.f1, .int .i64 e_.f2, .string e_.f3])) 0 rfl rfl (hon 1 (by kernel_rfl)) rfl
    replace ha := Aside0.mk ha
    refine Kd.R_lit_step k32 _ 32 ?hg (N := 97) ?hd (xs := ([e_] : List E)) (inner := [.string e_.f0, .int .u64 e_.f1, .int .i64 e_.f2, .string e_.f3]) (ok := fun _ => True) (okp := fun _ => True) ?hr ?hp (fun _ hk => hk) trivial (Below.refl _ _) (Nat.le_refl _) (by simp) ?_; (case hd => rfl); (case hg => rfl); (case hr => first | (go_simp; done) | (go_simp; rfl)); (case hp => exact (Reps.c4 (show Kd.M k32 _ _ _ e_ [.string e_.f0, .int .u64 e_.f1, .int .i64 e_.f2, .string e_.f3] from k32_mkM _ _ _ e_) (Reps.none _ _)))
    intro v97n w1 ho1 hb1 hg_ hnew_
    clear hg_ hnew_
    refine hK.out _ _ ⟨v97n, v98, v8x, by rw [ha.out]; exact putSel_upk 1 hb_ rfl rfl rfl, Q_ST.below hb1, blk_below Q_BK hb1, below_step Q_BEL hb1, fun h_ => Kd.R_below (Q_ROW h_) hb1, fun h_ => absurd ((hoff 3 (by kernel_rfl)).symm.trans h_) (by decide), fun _ _ => Kd.R_lower ho1 Q_BEL.size, fun h_ => absurd ((hoff 6 (by kernel_rfl)).symm.trans h_) (by decide)⟩
   refine steps_cons ?_ ?_
   ·rintro b a w' ⟨v97, v98, v8x, ha, Q_ST, Q_BK, Q_BEL, Q_ROW, Q_POST, Q_LIT, Q_EQ8⟩ hb_ hon hoff
    refine ⟨_, rfl, fun K hK => ?_⟩
    have e95 : a.tmps[95]? = some (.slice A8 acc.length c8) := by rw [ha]; exact (putSel_off rfl).trans rfl
    have e97 : a.tmps[97]? = some (v97) := by rw [ha]; exact putSel_on (e := (2, 97, v97)) 1 rfl rfl (hon 2 (by kernel_rfl)) rfl
    replace ha := Aside0.mk ha
    have hS := Q_LIT (hon 2 (by kernel_rfl)) hb_
    obtain ⟨As, cs, es⟩ := Kd.R_slice hS
    subst es
    refine Kd.R_append_rows_step k32 (P := Tryz.prog) (w0 := w) w.heap.size (by rfl) (.tmp 95) (.tmp 97) 22 32 (.agg #[.string ⟨#[]⟩, .int .u64 0, .int .i64 0, .string ⟨#[]⟩]) 48 rfl Tryz.underlying22 info32 rfl (by decide) (by omega) (.slice A8 acc.length c8) acc ([e_] : List E) As 1 cs (fun _ => True) (fun _ => False) (by simp [Act.eval, e95]) (by simp [Act.eval, e97]) (Q_ROW hb_) (Kd.R_reads' hS).2.2 (fun _ _ h => h) (fun _ h => h.elim) (fun _ _ => trivial) Q_BEL Q_BEL.size (by have := HAL.out; omega) ?_
    intro v98n w1 ho1 hb1 hg1 hat1
    have hgg : w'.grownBy w1 (Value.slice A8 acc.length c8).ownBlock := hg1
    refine hK.out _ _ ⟨.slice As 1 cs, v98n, v8x, by rw [ha.out]; exact putSel_upk 2 hb_ rfl rfl rfl, Q_ST.grown hgg (Q_ST.own_ne (Q_ROW hb_) (by decide)), blk_grown Q_BK hgg (fun e => HNE.out _ e.symm rfl), hb1, fun h_ => absurd h_ (by simp [Go.Proofs.YtchgpcgolgcfdaaGreatW.PrintLast.up]), fun _ => ho1, fun _ h_ => absurd h_ (by simp [Go.Proofs.YtchgpcgolgcfdaaGreatW.PrintLast.up]), fun h_ => absurd ((hoff 6 (by kernel_rfl)).symm.trans h_) (by decide)⟩
   refine steps_cons ?_ ?_
   ·rintro b a w' ⟨v97, v98, v8x, ha, Q_ST, Q_BK, Q_BEL, Q_ROW, Q_POST, Q_LIT, Q_EQ8⟩ hb_ hon hoff
    refine ⟨_, rfl, fun K hK => ?_⟩
    have e99 : a.tmps[99]? = some (.pointer (some ⟨gb, 0, none⟩)) := by rw [ha]; exact (putSel_off rfl).trans rfl
    replace ha := Aside0.mk ha
    obtain ⟨⟨x0, x1, x2, x3⟩, xf⟩ := Gx.cells2 Q_BK
    have xf0 := xf 0
    refine value_ (w1 := w') (v := .string e_.f0) (by rfl) rfl ?_ ?_
    ·go_simp
     (try simp only [i64_w])
     try rfl
    refine hK.out _ _ ⟨v97, v98, v8x, by rw [ha.out]; exact putSel_upk 3 hb_ rfl rfl rfl, Q_ST, Q_BK, Q_BEL, Q_ROW, Q_POST, Q_LIT, Q_EQ8⟩
   refine steps_cons ?_ ?_
   ·rintro b a w' ⟨v97, v98, v8x, ha, Q_ST, Q_BK, Q_BEL, Q_ROW, Q_POST, Q_LIT, Q_EQ8⟩ hb_ hon hoff
    refine ⟨_, rfl, fun K hK => ?_⟩
    have e98 : a.tmps[98]? = some (v98) := by rw [ha]; exact putSel_on (e := (3, 98, v98)) 2 rfl rfl (hon 3 (by kernel_rfl)) rfl
    replace ha := Aside0.mk ha
    refine value_ (w1 := w') (v := v98) (by rfl) rfl ?_ ?_
    ·go_simp
     (try simp only [i64_w])
     try rfl
    refine hK.out _ _ ⟨v97, v98, v98, by rw [ha.out]; exact putSel_upk 4 hb_ rfl rfl rfl, Q_ST, Q_BK, Q_BEL, Q_ROW, Q_POST, Q_LIT, fun _ => rfl⟩
   refine steps_cons ?_ ?_
   ·rintro b a w' ⟨v97, v98, v8x, ha, Q_ST, Q_BK, Q_BEL, Q_ROW, Q_POST, Q_LIT, Q_EQ8⟩ hb_ hon hoff
    refine ⟨_, rfl, fun K hK => ?_⟩
    have e100 : a.tmps[100]? = some (.string e_.f0) := by rw [ha]; exact putSel_on (e := (5, 100, .string e_.f0)) 3 rfl rfl (hon 5 (by kernel_rfl)) rfl
    replace ha := Aside0.mk ha
    refine value_ (w1 := w') (v := .string e_.f0) (by rfl) rfl ?_ ?_
    ·go_simp
     (try simp only [i64_w])
     try rfl
    refine hK.out _ _ ⟨v97, v98, v8x, by rw [ha.out]; exact putSel_upk 5 hb_ rfl rfl rfl, Q_ST, Q_BK, Q_BEL, Q_ROW, Q_POST, Q_LIT, Q_EQ8⟩
   exact steps_nil
  rintro b a w25 hall ⟨v97, v98, v8x, ha, Q_ST, Q_BK, Q_BEL, Q_ROW, Q_POST, Q_LIT, Q_EQ8⟩
  have hb1_ := hall 1 (by kernel_rfl)
  have hb2_ := hall 2 (by kernel_rfl)
  have hb3_ := hall 3 (by kernel_rfl)
  have hb5_ := hall 5 (by kernel_rfl)
  have hb6_ := hall 6 (by kernel_rfl)
  have hb7_ := hall 7 (by kernel_rfl)
  subst ha
  simp only [putSel, hb1_, hb2_, hb3_, hb5_, hb6_, hb7_, if_true, Act.put, List.setIfInBounds_toArray, List.set_cons_zero, List.set_cons_succ]
  have ST := Aside0.mk (Q_ST)
  have BK := Aside0.mk (Q_BK)
  have BEL := Aside0.mk (Q_BEL)
  have POST := Aside0.mk (Q_POST hb3_)
  have LIT := Aside0.mk (Q_LIT hb2_)
  have EQ8 := Aside0.mk (Q_EQ8 hb6_)
  clear hall hb1_ hb2_ hb3_ hb5_ hb6_ hb7_ Q_ST Q_BK Q_BEL Q_ROW Q_POST Q_LIT Q_EQ8
  go_wp2_with (fail)
  have HRN := Aside0.mk (HSTEP.out e_ (by rw [HE_.out, HKK2.out, HSV.out, HVS.out, HKD.out]))
  have HGN : Aside0 (Gs w w25 g v8x v.2.1 v.2.2 (acc ++ [e_])) := ⟨⟨ST.out, by rw [EQ8.out]; exact POST.out, BEL.out⟩⟩
  go_roundw
  case rel => exact ⟨acc ++ [e_], e_.f0, v.2.1, v.2.2, rfl, HGN, ⟨HRN.out.1⟩⟩
  case measure => rw [ms_is HGN.out, ms_is HGM.out, if_pos rfl]; exact HRN.out.2
end Go.Proofs.YtchgpcgolgcfdaaGreat.Gb
end
section
namespace Go.Proofs.YtchgpcgolgcfdaaGreat.PuSame
open Go Go.RowKit Go.Proofs.YtchgpcgolgcfdaaGreat.PNum Go.Proofs.YtchgpcgolgcfdaaGreat.PuIkC Go.Proofs.YtchgpcgolgcfdaaGreatW.PrintWords Go.Proofs.YtchgpcgolgcfdaaGreatW.PrintLast Go.Proofs.YtchgpcgolgcfdaaGreatW.PrintMore Go.Proofs.YtchgpcgolgcfdaaGreatW.Pu
abbrev E := S32
theorem at_nat (l : List E) (i : Nat) (h : i < l.length) : rd_T32 l (i : Int) = l[i] := by
 simp [rd_T32, h]
theorem same_l (l : List E) (hl : l.length ≤ 1000000) : ∀ (d i : Nat), i + d = l.length → ∀ k, d < k → cornucopiabook_SameEntries.l0 k l l (i : Int) = some true
 | 0, i, hi, k, hk => by
  obtain ⟨k, rfl⟩ : ∃ m, k = m + 1 := ⟨k - 1, by omega⟩
  rw [cornucopiabook_SameEntries.l0, if_neg (by omega)]
 | d + 1, i, hi, k, hk => by
  obtain ⟨k, rfl⟩ : ∃ m, k = m + 1 := ⟨k - 1, by omega⟩
  rw [cornucopiabook_SameEntries.l0, if_pos (by omega), if_pos (by omega), if_pos (by omega), if_pos (by simp), wrap64_id (by omega)]
  exact same_l l hl d (i + 1) (by omega) k (by omega)
end Go.Proofs.YtchgpcgolgcfdaaGreat.PuSame
end
section
namespace Go.Proofs.YtchgpcgolgcfdaaGreat.PuBk
open Go Go.RowKit Go.Proofs.YtchgpcgolgcfdaaGreat.PNum Go.Proofs.YtchgpcgolgcfdaaGreat.PuVt Go.Proofs.YtchgpcgolgcfdaaGreat.PuVr Go.Proofs.YtchgpcgolgcfdaaGreat.PuCrc Go.Proofs.YtchgpcgolgcfdaaGreatW.PrintWords Go.Proofs.YtchgpcgolgcfdaaGreatW.PrintLast Go.Proofs.YtchgpcgolgcfdaaGreatW.PrintMore Go.Proofs.YtchgpcgolgcfdaaGreatW.Pu Go.Proofs.YtchgpcgolgcfdaaGreat.Bl2
def lt (key : ByteArray) (e : E) : Bool := Op.bytesLess e.f0.toList key.toList
theorem less_cb : ∀ a b : List UInt8, Op.bytesLess a b = decide (Lib.compareBytes a b = -1)
 | [], [] => by simp [Op.bytesLess, Lib.compareBytes]
 | [], _ :: _ => by simp [Op.bytesLess, Lib.compareBytes]
 | _ :: _, [] => by simp [Op.bytesLess, Lib.compareBytes]
 | a :: x, b :: y => by
  have ih := less_cb x y
  unfold Op.bytesLess Lib.compareBytes
  rw [ih]
  by_cases h1 : a < b
  ·simp [h1]
  ·by_cases h2 : b < a
   ·have h3 : a ≠ b := fun e => by subst e; exact h1 h2
    simp [h1, h2, h3]
   ·have h3 : a = b := UInt8.le_antisymm (UInt8.not_lt.1 h2) (UInt8.not_lt.1 h1)
    subst h3
    simp
theorem lt_cb (key : ByteArray) (e : E) : lt key e = decide (Go.Proofs.YtchgpcgolgcfdaaGreat.PuIkC.cb e.f0 key = -1) := by
 unfold lt
 rw [less_cb, toList_data, toList_data]
 rfl
theorem lt_mono (key : ByteArray) (a b : E) (h : Go.Proofs.YtchgpcgolgcfdaaGreat.PuIkC.ce a b = -1) (hb : lt key b = true) : lt key a = true := by
 rw [lt_cb, decide_eq_true_eq] at hb ⊢
 unfold Go.Proofs.YtchgpcgolgcfdaaGreat.PuIkC.ce at h
 by_cases h0 : Go.Proofs.YtchgpcgolgcfdaaGreat.PuIkC.cb a.f0 b.f0 = 0
 ·rw [(Go.Proofs.YtchgpcgolgcfdaaGreat.PuIkC.cb_zero _ _).1 h0]
  exact hb
 ·rw [if_neg h0] at h
  exact Go.Proofs.YtchgpcgolgcfdaaGreat.PuIkC.cl_trans _ _ _ h hb
theorem split (key : ByteArray) (l : List E) : ∃ j, j ≤ l.length ∧ l.dropWhile (lt key) = l.drop j ∧ (∀ i (h : i < l.length), i < j → lt key l[i] = true) ∧ (∀ h : j < l.length, lt key l[j] = false) := by
 induction l with
 | nil => exact ⟨0, Nat.le_refl _, rfl, fun i h => by simp at h, fun h => by simp at h⟩
 | cons a l ih =>
  by_cases ha : lt key a = true
  ·obtain ⟨j, hj, hd, h1, h2⟩ := ih
   refine ⟨j + 1, by simpa using hj, ?_, ?_, ?_⟩
   ·rw [List.dropWhile_cons, if_pos ha, hd, List.drop_succ_cons]
   ·intro i hi hij
    cases i with
    | zero => exact ha
    | succ i => exact h1 i (by simpa using hi) (by omega)
   ·intro h
    exact h2 (by simpa using h)
  ·refine ⟨0, Nat.zero_le _, ?_, fun i _ h => by omega, fun _ => by simpa using ha⟩
   rw [List.dropWhile_cons, if_neg ha, List.drop_zero]
def L3 : List E := [⟨⟨#[97]⟩, 2, 1, ⟨#[]⟩⟩, ⟨⟨#[97]⟩, 1, 1, ⟨#[]⟩⟩, ⟨⟨#[98]⟩, 1, 2, ⟨#[]⟩⟩]
theorem L3_ok : ∀ e ∈ L3, Ok e := by
 intro e he
 simp only [L3, List.mem_cons, List.not_mem_nil, or_false] at he
 rcases he with rfl | rfl | rfl
 ·exact ⟨by decide, by decide, by decide, by decide⟩
 ·exact ⟨by decide, by decide, by decide, by decide⟩
 ·exact ⟨by decide, by decide, by decide, by decide⟩
theorem L3_right : block_Right.f 20 L3 = some true := by decide +kernel
theorem L3_seek : L3.dropWhile (lt ⟨#[98]⟩) = [⟨⟨#[98]⟩, 1, 2, ⟨#[]⟩⟩] := by
 unfold L3
 rw [List.dropWhile_cons, if_pos (by decide +kernel), List.dropWhile_cons, if_pos (by decide +kernel), List.dropWhile_cons, if_neg (by decide +kernel)]
theorem L3_shared : block_Shared.f 10 ⟨#[97, 98, 99]⟩ ⟨#[97, 98, 100]⟩ = some 2 := by decide +kernel
end Go.Proofs.YtchgpcgolgcfdaaGreat.PuBk
end
section
namespace Go.Proofs.YtchgpcgolgcfdaaGreat.PNum
open Go.RowKit Go.Proofs.YtchgpcgolgcfdaaGreatW.PrintWords Go.Proofs.YtchgpcgolgcfdaaGreatW.PrintLast Go.Proofs.YtchgpcgolgcfdaaGreatW.PrintMore
attribute [local go_sem] max2_int min2_int max_two min_two max_three min_three max_four min_four
set_option linter.unusedVariables false
set_option linter.unusedSimpArgs false
set_option maxRecDepth 100000
set_option maxHeartbeats 16000000
def cornucopiaref5_Range.l0 : Nat → List (S32) → ByteArray → ByteArray → List (S32) → Int → Option ((List (S32)))
 | 0, _, _, _, _, _ => none
 | k + 1, x0, x1, x2, x7, x8 => if x8 < (x0.length : Int) then (if 0 ≤ x8 then ((cornucopiaref1_Less.f k ((rd_T32 x0 x8).f0) x1).bind fun t115 => (if t115 = true then (cornucopiaref5_Range.l0 k x0 x1 x2 x7 (wrap64 (x8 + 1))) else (if x2.toList = ([] : List UInt8) then (if x7.length < 2932031007402 then (cornucopiaref5_Range.l0 k x0 x1 x2 (x7 ++ [(⟨(rd_T32 x0 x8).f0, (rd_T32 x0 x8).f1, (rd_T32 x0 x8).f2, (rd_T32 x0 x8).f3⟩ : S32)]) (wrap64 (x8 + 1))) else (none)) else ((cornucopiaref1_Less.f k ((rd_T32 x0 x8).f0) x2).bind fun t121 => (if t121 = true then (if x7.length < 2932031007402 then (cornucopiaref5_Range.l0 k x0 x1 x2 (x7 ++ [(⟨(rd_T32 x0 x8).f0, (rd_T32 x0 x8).f1, (rd_T32 x0 x8).f2, (rd_T32 x0 x8).f3⟩ : S32)]) (wrap64 (x8 + 1))) else (none)) else (cornucopiaref5_Range.l0 k x0 x1 x2 x7 (wrap64 (x8 + 1)))))))) else (none)) else (some x7)
def cornucopiaref5_Range.f (k : Nat) (l0 : List (S32)) (a1 : ByteArray) (a2 : ByteArray) : Option ((List (S32))) := cornucopiaref5_Range.l0 k l0 a1 a2 ([] : List (S32)) 0
theorem cornucopiaref5_Range.calls (k : Nat) (A0 : Option Addr) (c0 : Nat) (l0 : List (S32)) (a1 : ByteArray) (a2 : ByteArray) (r : List (S32)) (w : World) (hr0 : Kd.C k32 w A0 l0.length l0) (hc0 : l0.length ≤ c0) (h : cornucopiaref5_Range.f k l0 a1 a2 = some r) :
  Calls Tryz.prog 20 #[.slice A0 l0.length c0, .string a1, .string a2] w fun e w' => ∃ v0_ : Value, e = .returned (v0_) ∧ Kd.R k32 32 w' w.heap.size (fun _ => True) v0_ r ∧ Below w.heap.size w w' := by
 have hu32 := Tryz.underlying32
 have HR0 := a_k hr0
 have HC0 := a_k hc0
 clear hr0 hc0
 have HB := a_k (Below.refl w.heap.size w)
 have H : (cornucopiaref5_Range.l0 k l0 a1 a2 ([] : List (S32)) 0) = some r := h
 clear h
 have H' := a_k H
 clear H
 go_enter Tryz.func20, Tryz.ntmps20
 go_wp2
 go_loopg [7, 8] k (fun kq v7 v8 w' => ∃ (x7_1 : List (S32)) (x8_1 : Int), v8 = .int .i64 x8_1 ∧ Aside0 (cornucopiaref5_Range.l0 kq l0 a1 a2 x7_1 x8_1 = some r) ∧ Aside0 (kq ≤ k) ∧ Aside0 (Kd.R k32 32 w' w.heap.size (fun _ => True) v7 x7_1) ∧ Aside0 (Below w.heap.size w w'))
 case atStart => exact ⟨(([] : List (S32))), (0), (by first | rfl | (simp; done) | (simp [*]; done)), H', ⟨Nat.le_refl _⟩, ⟨by first | exact Kd.R_nil _ _ _ _ _ | exact Kd.N_nil _ _ _ _ _ | exact Kd.V_nil _ _ _ _ _ | exact Kd.Q_nil _ _ _ _ _ | exact Kd.S_nil _ _ _ _ _⟩, ⟨by repeat (first | exact HB.out | apply b_a | apply b_n | apply b_d)⟩⟩
 case round =>
  clear H'
  try clear c2
  try clear p2
  obtain ⟨x7_1, x8_1, rfl, HA, HK1, HO_7, HB⟩ := hrel
  cases gk with
  | zero => exact absurd HA.out (by simp [cornucopiaref5_Range.l0])
  | succ k1 =>
   have H := HA.out
   clear HA
   simp only [cornucopiaref5_Range.l0] at H
   by_cases c4 : x8_1 < (l0.length : Int)
   ·rw [if_pos c4] at H
    have c4b0 : decide (x8_1 < (l0.length : Int)) = true := decide_eq_true c4
    clear c4
    by_cases c5 : 0 ≤ x8_1
    ·rw [if_pos c5] at H
     have c5b0 : decide (0 ≤ x8_1) = true := decide_eq_true c5
     clear c5
     replace H := Option.bind_eq_some_iff.mp H
     obtain ⟨t115, A60, H⟩ := H
     replace H : (if t115 = true then (cornucopiaref5_Range.l0 k1 l0 a1 a2 x7_1 (wrap64 (x8_1 + 1))) else (if a2.toList = ([] : List UInt8) then (if x7_1.length < 2932031007402 then (cornucopiaref5_Range.l0 k1 l0 a1 a2 (x7_1 ++ [(⟨(rd_T32 l0 x8_1).f0, (rd_T32 l0 x8_1).f1, (rd_T32 l0 x8_1).f2, (rd_T32 l0 x8_1).f3⟩ : S32)]) (wrap64 (x8_1 + 1))) else (none)) else ((cornucopiaref1_Less.f k1 ((rd_T32 l0 x8_1).f0) a2).bind fun t121 => (if t121 = true then (if x7_1.length < 2932031007402 then (cornucopiaref5_Range.l0 k1 l0 a1 a2 (x7_1 ++ [(⟨(rd_T32 l0 x8_1).f0, (rd_T32 l0 x8_1).f1, (rd_T32 l0 x8_1).f2, (rd_T32 l0 x8_1).f3⟩ : S32)]) (wrap64 (x8_1 + 1))) else (none)) else (cornucopiaref5_Range.l0 k1 l0 a1 a2 x7_1 (wrap64 (x8_1 + 1))))))) = some r := H
     have A6 := a_k A60
     clear A60
     by_cases c7 : t115 = true
     ·subst c7
      have H1 : (cornucopiaref5_Range.l0 k1 l0 a1 a2 x7_1 (wrap64 (x8_1 + 1))) = some r := by rw [if_pos rfl] at H; exact H
      clear H
      have H := H1
      clear H1
      have H' := a_k H
      clear H
      have p114 : 0 ≤ (x8_1 : Int) := of_decide_eq_true (by assumption)
      have q114 : x8_1 < (l0.length : Int) := of_decide_eq_true (by assumption)
      obtain ⟨ad114, e114, hx114_0, hx114_1, hx114_2, hx114_3⟩ := at_T32 HR0.out x8_1 p114 q114
      cases e114
      replace hx114_0 := c_b HB.out hx114_0
      replace hx114_1 := c_b HB.out hx114_1
      replace hx114_2 := c_b HB.out hx114_2
      replace hx114_3 := c_b HB.out hx114_3
      replace p114 := eq_true p114
      replace q114 := eq_true q114
      go_wp2_with (first | ((with_reducible refine gate_callee (f := 102) rfl ?_); refine goesL_ (some 21) rfl rfl Tryz.func102 (by kernel_rfl) rfl #[.string ((rd_T32 l0 x8_1).f0), .string a1] rfl (by (try simp only [m_a, m_c, m_n]); first | done | rfl) ?_; (with_reducible refine (cornucopiaref1_Less.calls k1 ((rd_T32 l0 x8_1).f0) a1 true _ A6.out).mono ?_); rintro e w' ⟨rfl, ⟨nd, rfl⟩⟩; refine ⟨_, rfl, ?_⟩))
      go_roundg k1
      case measure => have := HK1.out; omega
      case rel => exact ⟨(x7_1), (wrap64 (x8_1 + 1)), (by first | rfl | (simp; done) | (simp [*]; done)), H', ⟨by have := HK1.out; omega⟩, ⟨by (with_reducible repeat (first | apply Kd.R_alloc | apply Kd.R_drewN | apply Kd.R_drew)); exact HO_7.out⟩, ⟨by repeat (first | exact HB.out | apply b_a | apply b_n | apply b_d)⟩⟩
     ·replace c7 := Bool.eq_false_iff.mpr c7
      subst c7
      have H1 : (if a2.toList = ([] : List UInt8) then (if x7_1.length < 2932031007402 then (cornucopiaref5_Range.l0 k1 l0 a1 a2 (x7_1 ++ [(⟨(rd_T32 l0 x8_1).f0, (rd_T32 l0 x8_1).f1, (rd_T32 l0 x8_1).f2, (rd_T32 l0 x8_1).f3⟩ : S32)]) (wrap64 (x8_1 + 1))) else (none)) else ((cornucopiaref1_Less.f k1 ((rd_T32 l0 x8_1).f0) a2).bind fun t121 => (if t121 = true then (if x7_1.length < 2932031007402 then (cornucopiaref5_Range.l0 k1 l0 a1 a2 (x7_1 ++ [(⟨(rd_T32 l0 x8_1).f0, (rd_T32 l0 x8_1).f1, (rd_T32 l0 x8_1).f2, (rd_T32 l0 x8_1).f3⟩ : S32)]) (wrap64 (x8_1 + 1))) else (none)) else (cornucopiaref5_Range.l0 k1 l0 a1 a2 x7_1 (wrap64 (x8_1 + 1)))))) = some r := by rw [if_neg (show ¬ (false = true) by decide)] at H; exact H
      clear H
      have H := H1
      clear H1
      by_cases c8 : a2.toList = ([] : List UInt8)
      ·rw [if_pos c8] at H
       have c8b0 : (a2.toList == ([] : List UInt8)) = true := beq_iff_eq.mpr c8
       have c8b1 : (a2.toList != ([] : List UInt8)) = false := bne_eq_false_iff_eq.mpr c8
       clear c8
       by_cases c9 : x7_1.length < 2932031007402
       ·rw [if_pos c9] at H
        have LMc9 := a_k c9
        clear c9
        obtain ⟨y117, hy117⟩ : ∃ y_ : List (S32), y_ = (x7_1 ++ [(⟨(rd_T32 l0 x8_1).f0, (rd_T32 l0 x8_1).f1, (rd_T32 l0 x8_1).f2, (rd_T32 l0 x8_1).f3⟩ : S32)]) := ⟨_, rfl⟩
        replace H : (cornucopiaref5_Range.l0 k1 l0 a1 a2 y117 (wrap64 (x8_1 + 1))) = some r := by first | (rw [hy117]; with_reducible exact H) | (have H2_ := (Option.bind_some _ _).symm.trans H; rw [hy117]; with_reducible exact H2_) | (have H2_ := (Option.bind_some _ _).symm.trans H; with_reducible exact H2_) | with_reducible exact H | (rw [hy117]; exact H) | exact H
        have Ny117 := a_k hy117
        clear hy117
        have H' := a_k H
        clear H
        have p114 : 0 ≤ (x8_1 : Int) := of_decide_eq_true (by assumption)
        have q114 : x8_1 < (l0.length : Int) := of_decide_eq_true (by assumption)
        obtain ⟨ad114, e114, hx114_0, hx114_1, hx114_2, hx114_3⟩ := at_T32 HR0.out x8_1 p114 q114
        cases e114
        replace hx114_0 := c_b HB.out hx114_0
        replace hx114_1 := c_b HB.out hx114_1
        replace hx114_2 := c_b HB.out hx114_2
        replace hx114_3 := c_b HB.out hx114_3
        replace p114 := eq_true p114
        replace q114 := eq_true q114
        go_wp2_with (first | ((with_reducible refine gate_callee (f := 102) rfl ?_); refine goesL_ (some 21) rfl rfl Tryz.func102 (by kernel_rfl) rfl #[.string ((rd_T32 l0 x8_1).f0), .string a1] rfl (by (try simp only [m_a, m_c, m_n]); first | done | rfl) ?_; (with_reducible refine (cornucopiaref1_Less.calls k1 ((rd_T32 l0 x8_1).f0) a1 false _ A6.out).mono ?_); rintro e w' ⟨rfl, ⟨nd, rfl⟩⟩; refine ⟨_, rfl, ?_⟩; have p116 : 0 ≤ (x8_1 : Int) := of_decide_eq_true (by assumption); have q116 : x8_1 < (l0.length : Int) := of_decide_eq_true (by assumption); obtain ⟨ad116, e116, hx116_0, hx116_1, hx116_2, hx116_3⟩ := at_T32 HR0.out x8_1 p116 q116; obtain rfl : ad114 = ad116 := (by injection e116); replace hx116_0 := c_b HB.out hx116_0; replace hx116_1 := c_b HB.out hx116_1; replace hx116_2 := c_b HB.out hx116_2; replace hx116_3 := c_b HB.out hx116_3; replace p116 := eq_true p116; replace q116 := eq_true q116) | ((with_reducible refine gate_builtin (b := .append) (xs := #[.tmp 36, .tmp 41]) rfl ?_); at_builtin; refine Kd.R_append k32 (w0 := w) w.heap.size rfl (.tmp 36) (.tmp 41) 22 32 (.agg #[(.string ⟨#[]⟩), (.int .u64 0), (.int .i64 0), (.string ⟨#[]⟩)]) 48 rfl Tryz.underlying22 info32 rfl (by decide) (by omega) u7 x7_1 (⟨(rd_T32 l0 x8_1).f0, (rd_T32 l0 x8_1).f1, (rd_T32 l0 x8_1).f2, (rd_T32 l0 x8_1).f3⟩ : S32) [.string ((rd_T32 l0 x8_1).f0), .int .u64 ((rd_T32 l0 x8_1).f1), .int .i64 ((rd_T32 l0 x8_1).f2), .string ((rd_T32 l0 x8_1).f3)] (fun _ => True) (fun _ => False) rfl rfl ?aP (fun _ hk => hk.elim) ?aF ?aO ?aB ?aS ?aL ?_; (case aP => exact k32_mkM _ _ _ (⟨(rd_T32 l0 x8_1).f0, (rd_T32 l0 x8_1).f1, (rd_T32 l0 x8_1).f2, (rd_T32 l0 x8_1).f3⟩ : S32)); (case aB => exact (by repeat (first | exact HB.out | apply b_a | apply b_n | apply b_d))); (case aF => exact (fun _ _ => trivial)); (case aO => exact (by (with_reducible repeat (first | apply Kd.R_alloc | apply Kd.R_drewN | apply Kd.R_drew)); exact HO_7.out)); (case aS => exact (below_size (by repeat (first | exact HB.out | apply b_a | apply b_n | apply b_d)))); (case aL => have := LMc9.out; omega); intro v118 w10 ho hb hg hat; rw [← Ny117.out] at ho; have n0_ := a_k (hb); have n1_ := a_k (ho); clear HB; clear HO_7; have HB := n0_; have HO119 := n1_; clear n0_ n1_; clear ho hb hg hat))
        go_roundg k1
        case measure => have := HK1.out; omega
        case rel => exact ⟨(y117), (wrap64 (x8_1 + 1)), (by first | rfl | (simp; done) | (simp [*]; done)), H', ⟨by have := HK1.out; omega⟩, ⟨by (with_reducible repeat (first | apply Kd.R_alloc | apply Kd.R_drewN | apply Kd.R_drew)); exact HO119.out⟩, ⟨by repeat (first | exact HB.out | apply b_a | apply b_n | apply b_d)⟩⟩
       ·rw [if_neg c9] at H
        exact absurd H (by simp)
      ·rw [if_neg c8] at H
       have c8b0 : (a2.toList == ([] : List UInt8)) = false := beq_eq_false_iff_ne.mpr c8
       have c8b1 : (a2.toList != ([] : List UInt8)) = true := bne_iff_ne.mpr c8
       replace H := Option.bind_eq_some_iff.mp H
       obtain ⟨t121, A110, H⟩ := H
       replace H : (if t121 = true then (if x7_1.length < 2932031007402 then (cornucopiaref5_Range.l0 k1 l0 a1 a2 (x7_1 ++ [(⟨(rd_T32 l0 x8_1).f0, (rd_T32 l0 x8_1).f1, (rd_T32 l0 x8_1).f2, (rd_T32 l0 x8_1).f3⟩ : S32)]) (wrap64 (x8_1 + 1))) else (none)) else (cornucopiaref5_Range.l0 k1 l0 a1 a2 x7_1 (wrap64 (x8_1 + 1)))) = some r := H
       have A11 := a_k A110
       clear A110
       by_cases c12 : t121 = true
       ·subst c12
        have H1 : (if x7_1.length < 2932031007402 then (cornucopiaref5_Range.l0 k1 l0 a1 a2 (x7_1 ++ [(⟨(rd_T32 l0 x8_1).f0, (rd_T32 l0 x8_1).f1, (rd_T32 l0 x8_1).f2, (rd_T32 l0 x8_1).f3⟩ : S32)]) (wrap64 (x8_1 + 1))) else (none)) = some r := by rw [if_pos rfl] at H; exact H
        clear H
        have H := H1
        clear H1
        by_cases c13 : x7_1.length < 2932031007402
        ·rw [if_pos c13] at H
         have LMc13 := a_k c13
         clear c13
         obtain ⟨y123, hy123⟩ : ∃ y_ : List (S32), y_ = (x7_1 ++ [(⟨(rd_T32 l0 x8_1).f0, (rd_T32 l0 x8_1).f1, (rd_T32 l0 x8_1).f2, (rd_T32 l0 x8_1).f3⟩ : S32)]) := ⟨_, rfl⟩
         replace H : (cornucopiaref5_Range.l0 k1 l0 a1 a2 y123 (wrap64 (x8_1 + 1))) = some r := by first | (rw [hy123]; with_reducible exact H) | (have H2_ := (Option.bind_some _ _).symm.trans H; rw [hy123]; with_reducible exact H2_) | (have H2_ := (Option.bind_some _ _).symm.trans H; with_reducible exact H2_) | with_reducible exact H | (rw [hy123]; exact H) | exact H
         have Ny123 := a_k hy123
         clear hy123
         have H' := a_k H
         clear H
         have p114 : 0 ≤ (x8_1 : Int) := of_decide_eq_true (by assumption)
         have q114 : x8_1 < (l0.length : Int) := of_decide_eq_true (by assumption)
         obtain ⟨ad114, e114, hx114_0, hx114_1, hx114_2, hx114_3⟩ := at_T32 HR0.out x8_1 p114 q114
         cases e114
         replace hx114_0 := c_b HB.out hx114_0
         replace hx114_1 := c_b HB.out hx114_1
         replace hx114_2 := c_b HB.out hx114_2
         replace hx114_3 := c_b HB.out hx114_3
         replace p114 := eq_true p114
         replace q114 := eq_true q114
         go_wp2_with (first | ((with_reducible refine gate_callee (f := 102) rfl ?_); refine goesL_ (some 21) rfl rfl Tryz.func102 (by kernel_rfl) rfl #[.string ((rd_T32 l0 x8_1).f0), .string a1] rfl (by (try simp only [m_a, m_c, m_n]); first | done | rfl) ?_; (with_reducible refine (cornucopiaref1_Less.calls k1 ((rd_T32 l0 x8_1).f0) a1 false _ A6.out).mono ?_); rintro e w' ⟨rfl, ⟨nd, rfl⟩⟩; refine ⟨_, rfl, ?_⟩; have p120 : 0 ≤ (x8_1 : Int) := of_decide_eq_true (by assumption); have q120 : x8_1 < (l0.length : Int) := of_decide_eq_true (by assumption); obtain ⟨ad120, e120, hx120_0, hx120_1, hx120_2, hx120_3⟩ := at_T32 HR0.out x8_1 p120 q120; obtain rfl : ad114 = ad120 := (by injection e120); replace hx120_0 := c_b HB.out hx120_0; replace hx120_1 := c_b HB.out hx120_1; replace hx120_2 := c_b HB.out hx120_2; replace hx120_3 := c_b HB.out hx120_3; replace p120 := eq_true p120; replace q120 := eq_true q120) | (go_at_call 102; (with_reducible refine (cornucopiaref1_Less.calls k1 ((rd_T32 l0 x8_1).f0) a2 true _ A11.out).mono ?_); rintro e w' ⟨rfl, ⟨nd, rfl⟩⟩; have p122 : 0 ≤ (x8_1 : Int) := of_decide_eq_true (by assumption); have q122 : x8_1 < (l0.length : Int) := of_decide_eq_true (by assumption); obtain ⟨ad122, e122, hx122_0, hx122_1, hx122_2, hx122_3⟩ := at_T32 HR0.out x8_1 p122 q122; obtain rfl : ad114 = ad122 := (by injection e122); replace hx122_0 := c_b HB.out hx122_0; replace hx122_1 := c_b HB.out hx122_1; replace hx122_2 := c_b HB.out hx122_2; replace hx122_3 := c_b HB.out hx122_3; replace p122 := eq_true p122; replace q122 := eq_true q122) | ((with_reducible refine gate_builtin (b := .append) (xs := #[.tmp 36, .tmp 41]) rfl ?_); at_builtin; refine Kd.R_append k32 (w0 := w) w.heap.size rfl (.tmp 36) (.tmp 41) 22 32 (.agg #[(.string ⟨#[]⟩), (.int .u64 0), (.int .i64 0), (.string ⟨#[]⟩)]) 48 rfl Tryz.underlying22 info32 rfl (by decide) (by omega) u7 x7_1 (⟨(rd_T32 l0 x8_1).f0, (rd_T32 l0 x8_1).f1, (rd_T32 l0 x8_1).f2, (rd_T32 l0 x8_1).f3⟩ : S32) [.string ((rd_T32 l0 x8_1).f0), .int .u64 ((rd_T32 l0 x8_1).f1), .int .i64 ((rd_T32 l0 x8_1).f2), .string ((rd_T32 l0 x8_1).f3)] (fun _ => True) (fun _ => False) rfl rfl ?aP (fun _ hk => hk.elim) ?aF ?aO ?aB ?aS ?aL ?_; (case aP => exact k32_mkM _ _ _ (⟨(rd_T32 l0 x8_1).f0, (rd_T32 l0 x8_1).f1, (rd_T32 l0 x8_1).f2, (rd_T32 l0 x8_1).f3⟩ : S32)); (case aB => exact (by repeat (first | exact HB.out | apply b_a | apply b_n | apply b_d))); (case aF => exact (fun _ _ => trivial)); (case aO => exact (by (with_reducible repeat (first | apply Kd.R_alloc | apply Kd.R_drewN | apply Kd.R_drew)); exact HO_7.out)); (case aS => exact (below_size (by repeat (first | exact HB.out | apply b_a | apply b_n | apply b_d)))); (case aL => have := LMc13.out; omega); intro v124 w14 ho hb hg hat; rw [← Ny123.out] at ho; have n0_ := a_k (hb); have n1_ := a_k (ho); clear HB; clear HO_7; have HB := n0_; have HO125 := n1_; clear n0_ n1_; clear ho hb hg hat))
         go_roundg k1
         case measure => have := HK1.out; omega
         case rel => exact ⟨(y123), (wrap64 (x8_1 + 1)), (by first | rfl | (simp; done) | (simp [*]; done)), H', ⟨by have := HK1.out; omega⟩, ⟨by (with_reducible repeat (first | apply Kd.R_alloc | apply Kd.R_drewN | apply Kd.R_drew)); exact HO125.out⟩, ⟨by repeat (first | exact HB.out | apply b_a | apply b_n | apply b_d)⟩⟩
        ·rw [if_neg c13] at H
         exact absurd H (by simp)
       ·replace c12 := Bool.eq_false_iff.mpr c12
        subst c12
        have H1 : (cornucopiaref5_Range.l0 k1 l0 a1 a2 x7_1 (wrap64 (x8_1 + 1))) = some r := by rw [if_neg (show ¬ (false = true) by decide)] at H; exact H
        clear H
        have H := H1
        clear H1
        have H' := a_k H
        clear H
        have p114 : 0 ≤ (x8_1 : Int) := of_decide_eq_true (by assumption)
        have q114 : x8_1 < (l0.length : Int) := of_decide_eq_true (by assumption)
        obtain ⟨ad114, e114, hx114_0, hx114_1, hx114_2, hx114_3⟩ := at_T32 HR0.out x8_1 p114 q114
        cases e114
        replace hx114_0 := c_b HB.out hx114_0
        replace hx114_1 := c_b HB.out hx114_1
        replace hx114_2 := c_b HB.out hx114_2
        replace hx114_3 := c_b HB.out hx114_3
        replace p114 := eq_true p114
        replace q114 := eq_true q114
        go_wp2_with (first | ((with_reducible refine gate_callee (f := 102) rfl ?_); refine goesL_ (some 21) rfl rfl Tryz.func102 (by kernel_rfl) rfl #[.string ((rd_T32 l0 x8_1).f0), .string a1] rfl (by (try simp only [m_a, m_c, m_n]); first | done | rfl) ?_; (with_reducible refine (cornucopiaref1_Less.calls k1 ((rd_T32 l0 x8_1).f0) a1 false _ A6.out).mono ?_); rintro e w' ⟨rfl, ⟨nd, rfl⟩⟩; refine ⟨_, rfl, ?_⟩; have p120 : 0 ≤ (x8_1 : Int) := of_decide_eq_true (by assumption); have q120 : x8_1 < (l0.length : Int) := of_decide_eq_true (by assumption); obtain ⟨ad120, e120, hx120_0, hx120_1, hx120_2, hx120_3⟩ := at_T32 HR0.out x8_1 p120 q120; obtain rfl : ad114 = ad120 := (by injection e120); replace hx120_0 := c_b HB.out hx120_0; replace hx120_1 := c_b HB.out hx120_1; replace hx120_2 := c_b HB.out hx120_2; replace hx120_3 := c_b HB.out hx120_3; replace p120 := eq_true p120; replace q120 := eq_true q120) | (go_at_call 102; (with_reducible refine (cornucopiaref1_Less.calls k1 ((rd_T32 l0 x8_1).f0) a2 false _ A11.out).mono ?_); rintro e w' ⟨rfl, ⟨nd, rfl⟩⟩))
        go_roundg k1
        case measure => have := HK1.out; omega
        case rel => exact ⟨(x7_1), (wrap64 (x8_1 + 1)), (by first | rfl | (simp; done) | (simp [*]; done)), H', ⟨by have := HK1.out; omega⟩, ⟨by (with_reducible repeat (first | apply Kd.R_alloc | apply Kd.R_drewN | apply Kd.R_drew)); exact HO_7.out⟩, ⟨by repeat (first | exact HB.out | apply b_a | apply b_n | apply b_d)⟩⟩
    ·rw [if_neg c5] at H
     exact absurd H (by simp)
   ·rw [if_neg c4] at H
    have c4b0 : decide (x8_1 < (l0.length : Int)) = false := decide_eq_false c4
    clear c4
    obtain rfl := Option.some.inj H
    go_wp2
    go_ret
    exact ⟨_, by first | rfl | (simp [*, errW_none, errW_some] <;> rfl), by (with_reducible repeat (first | apply Kd.R_alloc | apply Kd.R_drewN | apply Kd.R_drew)); exact HO_7.out, by repeat (first | exact HB.out | apply b_a | apply b_n | apply b_d)⟩
end Go.Proofs.YtchgpcgolgcfdaaGreat.PNum
end
section
namespace Go.Proofs.YtchgpcgolgcfdaaGreat.PuRef5
open Go Go.RowKit Go.Proofs.YtchgpcgolgcfdaaGreat.PNum Go.Proofs.YtchgpcgolgcfdaaGreat.PuIkC Go.Proofs.YtchgpcgolgcfdaaGreat.PuLess Go.Proofs.YtchgpcgolgcfdaaGreatW.PrintWords Go.Proofs.YtchgpcgolgcfdaaGreatW.PrintLast Go.Proofs.YtchgpcgolgcfdaaGreatW.PrintMore Go.Proofs.YtchgpcgolgcfdaaGreatW.Pu
theorem rdE {l : List E} {i : Nat} (h : i < l.length) : rd_T32 l (i : Int) = l[i] := by simp [rd_T32, h]
def inR (a b : ByteArray) (x : E) : Bool := !decide (cb x.f0 a = -1) && (decide (b = ⟨#[]⟩) || decide (cb x.f0 b = -1))
theorem range_l (R : List E) (a b : ByteArray) (hs : ∀ x ∈ R, x.f0.size ≤ 140737488351232) (ha : a.size ≤ 140737488351232) (hb : b.size ≤ 140737488351232) (hR : R.length ≤ 1000000) : ∀ (d i : Nat) (acc : List E), i + d = R.length → acc.length ≤ i → Ev (fun k => cornucopiaref5_Range.l0 k R a b acc (i : Int)) (acc ++ (R.drop i).filter (inR a b))
 | 0, i, acc, hi, hacc => by
  refine Ev.step (fun k => by rw [cornucopiaref5_Range.l0]) (ev_neg (by omega) (ev_const ?_))
  rw [List.drop_of_length_le (by omega)]
  simp
 | d + 1, i, acc, hi, hacc => by
  have hlt : i < R.length := by omega
  have hx := hs _ (List.getElem_mem hlt)
  have hd : R.drop i = R[i] :: R.drop (i + 1) := List.drop_eq_getElem_cons hlt
  have hw : wrap64 ((i : Int) + 1) = ((i + 1 : Nat) : Int) := by rw [wrap64_id (by omega)]; omega
  refine Ev.step (fun k => by rw [cornucopiaref5_Range.l0, rdE hlt, hw]) (ev_pos (by omega) (ev_pos (by omega) (Ev.bind (Less_ev _ _ hx ha) ?_)))
  have keep : ∀ (h : inR a b R[i] = true), Ev (fun k => cornucopiaref5_Range.l0 k R a b (acc ++ [(⟨R[i].f0, R[i].f1, R[i].f2, R[i].f3⟩ : E)]) ((i + 1 : Nat) : Int)) (acc ++ (R.drop i).filter (inR a b)) := by
   intro h
   have ih := range_l R a b hs ha hb hR d (i + 1) (acc ++ [R[i]]) (by omega) (by simp; omega)
   rw [hd, List.filter_cons, if_pos h]
   rw [List.append_assoc] at ih
   exact ih
  have drop_ : ∀ (h : inR a b R[i] = false), Ev (fun k => cornucopiaref5_Range.l0 k R a b acc ((i + 1 : Nat) : Int)) (acc ++ (R.drop i).filter (inR a b)) := by
   intro h
   have ih := range_l R a b hs ha hb hR d (i + 1) acc (by omega) (by omega)
   rw [hd, List.filter_cons, if_neg (by rw [h]; simp)]
   exact ih
  by_cases h1 : cb R[i].f0 a = -1
  ·rw [decide_eq_true h1]
   exact ev_pos rfl (drop_ (by unfold inR; rw [decide_eq_true h1]; rfl))
  ·rw [decide_eq_false h1]
   refine ev_neg (by simp) ?_
   by_cases h2 : b = ⟨#[]⟩
   ·refine ev_pos (by rw [h2]; exact nil_toList) (ev_pos (by omega) (keep (by unfold inR; rw [decide_eq_false h1, decide_eq_true h2]; rfl)))
   ·refine ev_neg (fun h => h2 (tl_ext.1 (h.trans nil_toList.symm))) (Ev.bind (Less_ev _ _ hx hb) ?_)
    by_cases h3 : cb R[i].f0 b = -1
    ·rw [decide_eq_true h3]
     exact ev_pos rfl (ev_pos (by omega) (keep (by unfold inR; rw [decide_eq_false h1, decide_eq_false h2, decide_eq_true h3]; rfl)))
    ·rw [decide_eq_false h3]
     exact ev_neg (by simp) (drop_ (by unfold inR; rw [decide_eq_false h1, decide_eq_false h2, decide_eq_false h3]; rfl))
theorem Range_ev (R : List E) (a b : ByteArray) (hs : ∀ x ∈ R, x.f0.size ≤ 140737488351232) (ha : a.size ≤ 140737488351232) (hb : b.size ≤ 140737488351232) (hR : R.length ≤ 1000000) : Ev (fun k => cornucopiaref5_Range.f k R a b) (R.filter (inR a b)) := by
 have h := range_l R a b hs ha hb hR R.length 0 [] (by omega) (by simp)
 rw [List.drop_zero, List.nil_append] at h
 exact h
end Go.Proofs.YtchgpcgolgcfdaaGreat.PuRef5
end
section
namespace Go.Proofs.YtchgpcgolgcfdaaGreat.PuSm
open Go Go.RowKit Go.Proofs.YtchgpcgolgcfdaaGreat.PNum Go.Proofs.YtchgpcgolgcfdaaGreat.PuIkC Go.Proofs.YtchgpcgolgcfdaaGreatW.PrintWords Go.Proofs.YtchgpcgolgcfdaaGreatW.PrintLast Go.Proofs.YtchgpcgolgcfdaaGreatW.PrintMore Go.Proofs.YtchgpcgolgcfdaaGreatW.Pu
theorem at_nat (l : List S32) (i : Nat) (h : i < l.length) : rd_T32 l (i : Int) = l[i] := by
 simp [rd_T32, h]
theorem Small_l0 (l : List S32) (hs : ∀ e ∈ l, e.f0.size ≤ 140737488351232 ∧ e.f3.size ≤ 140737488351232) (d : Nat) : ∀ (i : Nat) (r : Int), i + d = 400 → -1 ≤ r → r ≤ 20000 →
  ∃ b, Ev (fun k => cornucopialaw5_Small.l0 k l r (i : Int)) b ∧ (b = true → l.length ≤ 150) := by
 have leaf : ∀ (i : Nat) (r : Int), ∃ b, Ev (fun _ : Nat => if (l.length : Int) ≤ 150 then (some (decide (r ≥ 0))) else (some false)) b ∧ (b = true → l.length ≤ 150) := by
  intro i r
  by_cases h : (l.length : Int) ≤ 150
  ·exact ⟨decide (r ≥ 0), ev_pos h (ev_const rfl), fun _ => by omega⟩
  ·exact ⟨false, ev_neg h (ev_const rfl), fun k => by cases k⟩
 induction d with
 | zero =>
  intro i r hi h0 h1
  obtain ⟨b, hb, hl⟩ := leaf i r
  refine ⟨b, Ev.step (fun k => by rw [cornucopialaw5_Small.l0]) ?_, hl⟩
  by_cases h : (i : Int) < (l.length : Int)
  ·exact ev_pos h (ev_neg (by omega) hb)
  ·exact ev_neg h hb
 | succ d ih =>
  intro i r hi h0 h1
  by_cases h : (i : Int) < (l.length : Int)
  ·by_cases hr : r ≥ 0
   ·have hlt : i < l.length := by omega
    have hsz := hs l[i] (List.getElem_mem hlt)
    obtain ⟨q, hq, q0, q1⟩ := Room_ev r (l[i].f0.size : Int) (l[i].f3.size : Int) ⟨h0, h1⟩ ⟨by omega, by omega⟩ ⟨by omega, by omega⟩
    obtain ⟨b, hb, hl⟩ := ih (i + 1) q (by omega) q0 q1
    refine ⟨b, Ev.step (fun k => by rw [cornucopialaw5_Small.l0, at_nat l i hlt]) (ev_pos h (ev_pos (by omega) (ev_pos hr (ev_pos (by omega) (Ev.bind hq ?_))))), hl⟩
    rw [wrap64_id (by omega), show ((i : Int) + 1) = ((i + 1 : Nat) : Int) from by omega]
    exact hb
   ·obtain ⟨b, hb, hl⟩ := leaf i r
    exact ⟨b, Ev.step (fun k => by rw [cornucopialaw5_Small.l0]) (ev_pos h (ev_pos (by omega) (ev_neg hr hb))), hl⟩
  ·obtain ⟨b, hb, hl⟩ := leaf i r
   exact ⟨b, Ev.step (fun k => by rw [cornucopialaw5_Small.l0]) (ev_neg h hb), hl⟩
theorem Small_ev (l : List S32) (hs : ∀ e ∈ l, e.f0.size ≤ 140737488351232 ∧ e.f3.size ≤ 140737488351232) : ∃ b, Ev (fun k => cornucopialaw5_Small.f k l) b ∧ (b = true → l.length ≤ 150) := by
 obtain ⟨b, hb, hl⟩ := Small_l0 l hs 400 0 20000 (by omega) (by omega) (by omega)
 exact ⟨b, Ev.congr (fun k => by rw [cornucopialaw5_Small.f]; rfl) hb, hl⟩
end Go.Proofs.YtchgpcgolgcfdaaGreat.PuSm
end
section
namespace Go.Proofs.YtchgpcgolgcfdaaGreat.BkN
open Go Go.RowKit Go.Proofs.YtchgpcgolgcfdaaGreatW.PrintWords Go.Proofs.YtchgpcgolgcfdaaGreatW.PrintLast Go.Proofs.YtchgpcgolgcfdaaGreatW.PrintMore
set_option linter.unusedVariables false
set_option linter.unusedSimpArgs false
set_option maxRecDepth 100000
set_option maxHeartbeats 16000000
theorem stillTexts (w : World) (g : Nat) (c6 : w.cell? ⟨g, 0, none⟩ = some (.slice none 0 0)) : Calls Tryz.prog 104 #[.pointer (some ⟨g, 0, none⟩)] w fun e w' => e = .returned (.bool true) ∧ w' = w := by
 go_enter Tryz.func104, Tryz.ntmps104
 go_wp2_with (fail)
 go_loop [3] (fun i => i = .int .i64 0) (fun _ => 0)
 case atStart => rfl
 case round =>
  obtain rfl := hrel
  go_wp2_with (fail)
  go_ret
  exact ⟨rfl, rfl⟩
theorem putTexts (w : World) (g : Nat) (c6 : w.cell? ⟨g, 0, none⟩ = some (.slice none 0 0)) : Calls Tryz.prog 120 #[.pointer (some ⟨g, 0, none⟩)] w fun e w' => e = .returned (.tuple #[]) ∧ w' = w := by
 go_enter Tryz.func120, Tryz.ntmps120
 go_wp2_with (fail)
 go_loop [2] (fun i => i = .int .i64 0) (fun _ => 0)
 case atStart => rfl
 case round =>
  obtain rfl := hrel
  go_wp2_with (fail)
  go_end0
  exact ⟨rfl, rfl⟩
theorem growTexts (w : World) (g : Nat) (c6 : w.cell? ⟨g, 0, none⟩ = some (.slice none 0 0)) : Calls Tryz.prog 132 #[.pointer (some ⟨g, 0, none⟩)] w fun e w' => e = .returned (.slice none 0 0) ∧ w' = w := by
 go_enter Tryz.func132, Tryz.ntmps132
 go_wp2_with (fail)
 go_loop [3, 4] (fun v i => v = .slice none 0 0 ∧ i = .int .i64 0) (fun _ _ => 0)
 case atStart => exact ⟨rfl, rfl⟩
 case round =>
  obtain ⟨rfl, rfl⟩ := hrel
  go_wp2_with (fail)
  go_ret
  exact ⟨rfl, rfl⟩
theorem markedTexts (w : World) : Calls Tryz.prog 146 #[.slice none 0 0] w fun e w' => e = .returned (.bool true) ∧ w' = w := by
 go_enter Tryz.func146, Tryz.ntmps146
 go_wp2_with (fail)
 go_loop [3] (fun i => i = .int .i64 0) (fun _ => 0)
 case atStart => rfl
 case round =>
  obtain rfl := hrel
  go_wp2_with (fail)
  go_ret
  exact ⟨rfl, rfl⟩
theorem stillInts (w : World) (g : Nat) (c6 : w.cell? ⟨g, 2, none⟩ = some (.slice none 0 0)) : Calls Tryz.prog 105 #[.pointer (some ⟨g, 0, none⟩)] w fun e w' => e = .returned (.bool true) ∧ w' = w := by
 go_enter Tryz.func105, Tryz.ntmps105
 go_wp2_with (fail)
 go_loop [3] (fun i => i = .int .i64 0) (fun _ => 0)
 case atStart => rfl
 case round =>
  obtain rfl := hrel
  go_wp2_with (fail)
  go_ret
  exact ⟨rfl, rfl⟩
theorem putInts (w : World) (g : Nat) (c6 : w.cell? ⟨g, 2, none⟩ = some (.slice none 0 0)) : Calls Tryz.prog 121 #[.pointer (some ⟨g, 0, none⟩)] w fun e w' => e = .returned (.tuple #[]) ∧ w' = w := by
 go_enter Tryz.func121, Tryz.ntmps121
 go_wp2_with (fail)
 go_loop [2] (fun i => i = .int .i64 0) (fun _ => 0)
 case atStart => rfl
 case round =>
  obtain rfl := hrel
  go_wp2_with (fail)
  go_end0
  exact ⟨rfl, rfl⟩
theorem growInts (w : World) (g : Nat) (c6 : w.cell? ⟨g, 2, none⟩ = some (.slice none 0 0)) : Calls Tryz.prog 133 #[.pointer (some ⟨g, 0, none⟩)] w fun e w' => e = .returned (.slice none 0 0) ∧ w' = w := by
 go_enter Tryz.func133, Tryz.ntmps133
 go_wp2_with (fail)
 go_loop [3, 4] (fun v i => v = .slice none 0 0 ∧ i = .int .i64 0) (fun _ _ => 0)
 case atStart => exact ⟨rfl, rfl⟩
 case round =>
  obtain ⟨rfl, rfl⟩ := hrel
  go_wp2_with (fail)
  go_ret
  exact ⟨rfl, rfl⟩
theorem markedInts (w : World) : Calls Tryz.prog 147 #[.slice none 0 0] w fun e w' => e = .returned (.bool true) ∧ w' = w := by
 go_enter Tryz.func147, Tryz.ntmps147
 go_wp2_with (fail)
 go_loop [3] (fun i => i = .int .i64 0) (fun _ => 0)
 case atStart => rfl
 case round =>
  obtain rfl := hrel
  go_wp2_with (fail)
  go_ret
  exact ⟨rfl, rfl⟩
theorem stillNums (w : World) (g : Nat) (c6 : w.cell? ⟨g, 4, none⟩ = some (.slice none 0 0)) : Calls Tryz.prog 106 #[.pointer (some ⟨g, 0, none⟩)] w fun e w' => e = .returned (.bool true) ∧ w' = w := by
 go_enter Tryz.func106, Tryz.ntmps106
 go_wp2_with (fail)
 go_loop [3] (fun i => i = .int .i64 0) (fun _ => 0)
 case atStart => rfl
 case round =>
  obtain rfl := hrel
  go_wp2_with (fail)
  go_ret
  exact ⟨rfl, rfl⟩
theorem putNums (w : World) (g : Nat) (c6 : w.cell? ⟨g, 4, none⟩ = some (.slice none 0 0)) : Calls Tryz.prog 122 #[.pointer (some ⟨g, 0, none⟩)] w fun e w' => e = .returned (.tuple #[]) ∧ w' = w := by
 go_enter Tryz.func122, Tryz.ntmps122
 go_wp2_with (fail)
 go_loop [2] (fun i => i = .int .i64 0) (fun _ => 0)
 case atStart => rfl
 case round =>
  obtain rfl := hrel
  go_wp2_with (fail)
  go_end0
  exact ⟨rfl, rfl⟩
theorem growNums (w : World) (g : Nat) (c6 : w.cell? ⟨g, 4, none⟩ = some (.slice none 0 0)) : Calls Tryz.prog 134 #[.pointer (some ⟨g, 0, none⟩)] w fun e w' => e = .returned (.slice none 0 0) ∧ w' = w := by
 go_enter Tryz.func134, Tryz.ntmps134
 go_wp2_with (fail)
 go_loop [3, 4] (fun v i => v = .slice none 0 0 ∧ i = .int .i64 0) (fun _ _ => 0)
 case atStart => exact ⟨rfl, rfl⟩
 case round =>
  obtain ⟨rfl, rfl⟩ := hrel
  go_wp2_with (fail)
  go_ret
  exact ⟨rfl, rfl⟩
theorem markedNums (w : World) : Calls Tryz.prog 148 #[.slice none 0 0] w fun e w' => e = .returned (.bool true) ∧ w' = w := by
 go_enter Tryz.func148, Tryz.ntmps148
 go_wp2_with (fail)
 go_loop [3] (fun i => i = .int .i64 0) (fun _ => 0)
 case atStart => rfl
 case round =>
  obtain rfl := hrel
  go_wp2_with (fail)
  go_ret
  exact ⟨rfl, rfl⟩
theorem stillPairs (w : World) (g : Nat) (c6 : w.cell? ⟨g, 8, none⟩ = some (.slice none 0 0)) : Calls Tryz.prog 108 #[.pointer (some ⟨g, 0, none⟩)] w fun e w' => e = .returned (.bool true) ∧ w' = w := by
 go_enter Tryz.func108, Tryz.ntmps108
 go_wp2_with (fail)
 go_loop [3] (fun i => i = .int .i64 0) (fun _ => 0)
 case atStart => rfl
 case round =>
  obtain rfl := hrel
  go_wp2_with (fail)
  go_ret
  exact ⟨rfl, rfl⟩
theorem putPairs (w : World) (g : Nat) (c6 : w.cell? ⟨g, 8, none⟩ = some (.slice none 0 0)) : Calls Tryz.prog 124 #[.pointer (some ⟨g, 0, none⟩)] w fun e w' => e = .returned (.tuple #[]) ∧ w' = w := by
 go_enter Tryz.func124, Tryz.ntmps124
 go_wp2_with (fail)
 go_loop [2] (fun i => i = .int .i64 0) (fun _ => 0)
 case atStart => rfl
 case round =>
  obtain rfl := hrel
  go_wp2_with (fail)
  go_end0
  exact ⟨rfl, rfl⟩
theorem growPairs (w : World) (g : Nat) (c6 : w.cell? ⟨g, 8, none⟩ = some (.slice none 0 0)) : Calls Tryz.prog 136 #[.pointer (some ⟨g, 0, none⟩)] w fun e w' => e = .returned (.slice none 0 0) ∧ w' = w := by
 go_enter Tryz.func136, Tryz.ntmps136
 go_wp2_with (fail)
 go_loop [3, 4] (fun v i => v = .slice none 0 0 ∧ i = .int .i64 0) (fun _ _ => 0)
 case atStart => exact ⟨rfl, rfl⟩
 case round =>
  obtain ⟨rfl, rfl⟩ := hrel
  go_wp2_with (fail)
  go_ret
  exact ⟨rfl, rfl⟩
theorem markedPairs (w : World) : Calls Tryz.prog 150 #[.slice none 0 0] w fun e w' => e = .returned (.bool true) ∧ w' = w := by
 go_enter Tryz.func150, Tryz.ntmps150
 go_wp2_with (fail)
 go_loop [3] (fun i => i = .int .i64 0) (fun _ => 0)
 case atStart => rfl
 case round =>
  obtain rfl := hrel
  go_wp2_with (fail)
  go_ret
  exact ⟨rfl, rfl⟩
theorem stillWrites (w : World) (g : Nat) (c6 : w.cell? ⟨g, 10, none⟩ = some (.slice none 0 0)) : Calls Tryz.prog 109 #[.pointer (some ⟨g, 0, none⟩)] w fun e w' => e = .returned (.bool true) ∧ w' = w := by
 go_enter Tryz.func109, Tryz.ntmps109
 go_wp2_with (fail)
 go_loop [3] (fun i => i = .int .i64 0) (fun _ => 0)
 case atStart => rfl
 case round =>
  obtain rfl := hrel
  go_wp2_with (fail)
  go_ret
  exact ⟨rfl, rfl⟩
theorem putWrites (w : World) (g : Nat) (c6 : w.cell? ⟨g, 10, none⟩ = some (.slice none 0 0)) : Calls Tryz.prog 125 #[.pointer (some ⟨g, 0, none⟩)] w fun e w' => e = .returned (.tuple #[]) ∧ w' = w := by
 go_enter Tryz.func125, Tryz.ntmps125
 go_wp2_with (fail)
 go_loop [2] (fun i => i = .int .i64 0) (fun _ => 0)
 case atStart => rfl
 case round =>
  obtain rfl := hrel
  go_wp2_with (fail)
  go_end0
  exact ⟨rfl, rfl⟩
theorem growWrites (w : World) (g : Nat) (c6 : w.cell? ⟨g, 10, none⟩ = some (.slice none 0 0)) : Calls Tryz.prog 137 #[.pointer (some ⟨g, 0, none⟩)] w fun e w' => e = .returned (.slice none 0 0) ∧ w' = w := by
 go_enter Tryz.func137, Tryz.ntmps137
 go_wp2_with (fail)
 go_loop [3, 4] (fun v i => v = .slice none 0 0 ∧ i = .int .i64 0) (fun _ _ => 0)
 case atStart => exact ⟨rfl, rfl⟩
 case round =>
  obtain ⟨rfl, rfl⟩ := hrel
  go_wp2_with (fail)
  go_ret
  exact ⟨rfl, rfl⟩
theorem markedWrites (w : World) : Calls Tryz.prog 151 #[.slice none 0 0] w fun e w' => e = .returned (.bool true) ∧ w' = w := by
 go_enter Tryz.func151, Tryz.ntmps151
 go_wp2_with (fail)
 go_loop [3] (fun i => i = .int .i64 0) (fun _ => 0)
 case atStart => rfl
 case round =>
  obtain rfl := hrel
  go_wp2_with (fail)
  go_ret
  exact ⟨rfl, rfl⟩
theorem stillTables (w : World) (g : Nat) (c6 : w.cell? ⟨g, 12, none⟩ = some (.slice none 0 0)) : Calls Tryz.prog 110 #[.pointer (some ⟨g, 0, none⟩)] w fun e w' => e = .returned (.bool true) ∧ w' = w := by
 go_enter Tryz.func110, Tryz.ntmps110
 go_wp2_with (fail)
 go_loop [3] (fun i => i = .int .i64 0) (fun _ => 0)
 case atStart => rfl
 case round =>
  obtain rfl := hrel
  go_wp2_with (fail)
  go_ret
  exact ⟨rfl, rfl⟩
theorem putTables (w : World) (g : Nat) (c6 : w.cell? ⟨g, 12, none⟩ = some (.slice none 0 0)) : Calls Tryz.prog 126 #[.pointer (some ⟨g, 0, none⟩)] w fun e w' => e = .returned (.tuple #[]) ∧ w' = w := by
 go_enter Tryz.func126, Tryz.ntmps126
 go_wp2_with (fail)
 go_loop [2] (fun i => i = .int .i64 0) (fun _ => 0)
 case atStart => rfl
 case round =>
  obtain rfl := hrel
  go_wp2_with (fail)
  go_end0
  exact ⟨rfl, rfl⟩
theorem growTables (w : World) (g : Nat) (c6 : w.cell? ⟨g, 12, none⟩ = some (.slice none 0 0)) : Calls Tryz.prog 138 #[.pointer (some ⟨g, 0, none⟩)] w fun e w' => e = .returned (.slice none 0 0) ∧ w' = w := by
 go_enter Tryz.func138, Tryz.ntmps138
 go_wp2_with (fail)
 go_loop [3, 4] (fun v i => v = .slice none 0 0 ∧ i = .int .i64 0) (fun _ _ => 0)
 case atStart => exact ⟨rfl, rfl⟩
 case round =>
  obtain ⟨rfl, rfl⟩ := hrel
  go_wp2_with (fail)
  go_ret
  exact ⟨rfl, rfl⟩
theorem markedTables (w : World) : Calls Tryz.prog 152 #[.slice none 0 0] w fun e w' => e = .returned (.bool true) ∧ w' = w := by
 go_enter Tryz.func152, Tryz.ntmps152
 go_wp2_with (fail)
 go_loop [3] (fun i => i = .int .i64 0) (fun _ => 0)
 case atStart => rfl
 case round =>
  obtain rfl := hrel
  go_wp2_with (fail)
  go_ret
  exact ⟨rfl, rfl⟩
theorem stillDots (w : World) (g : Nat) (c6 : w.cell? ⟨g, 14, none⟩ = some (.slice none 0 0)) : Calls Tryz.prog 111 #[.pointer (some ⟨g, 0, none⟩)] w fun e w' => e = .returned (.bool true) ∧ w' = w := by
 go_enter Tryz.func111, Tryz.ntmps111
 go_wp2_with (fail)
 go_loop [3] (fun i => i = .int .i64 0) (fun _ => 0)
 case atStart => rfl
 case round =>
  obtain rfl := hrel
  go_wp2_with (fail)
  go_ret
  exact ⟨rfl, rfl⟩
theorem putDots (w : World) (g : Nat) (c6 : w.cell? ⟨g, 14, none⟩ = some (.slice none 0 0)) : Calls Tryz.prog 127 #[.pointer (some ⟨g, 0, none⟩)] w fun e w' => e = .returned (.tuple #[]) ∧ w' = w := by
 go_enter Tryz.func127, Tryz.ntmps127
 go_wp2_with (fail)
 go_loop [2] (fun i => i = .int .i64 0) (fun _ => 0)
 case atStart => rfl
 case round =>
  obtain rfl := hrel
  go_wp2_with (fail)
  go_end0
  exact ⟨rfl, rfl⟩
theorem growDots (w : World) (g : Nat) (c6 : w.cell? ⟨g, 14, none⟩ = some (.slice none 0 0)) : Calls Tryz.prog 139 #[.pointer (some ⟨g, 0, none⟩)] w fun e w' => e = .returned (.slice none 0 0) ∧ w' = w := by
 go_enter Tryz.func139, Tryz.ntmps139
 go_wp2_with (fail)
 go_loop [3, 4] (fun v i => v = .slice none 0 0 ∧ i = .int .i64 0) (fun _ _ => 0)
 case atStart => exact ⟨rfl, rfl⟩
 case round =>
  obtain ⟨rfl, rfl⟩ := hrel
  go_wp2_with (fail)
  go_ret
  exact ⟨rfl, rfl⟩
theorem markedDots (w : World) : Calls Tryz.prog 153 #[.slice none 0 0] w fun e w' => e = .returned (.bool true) ∧ w' = w := by
 go_enter Tryz.func153, Tryz.ntmps153
 go_wp2_with (fail)
 go_loop [3] (fun i => i = .int .i64 0) (fun _ => 0)
 case atStart => rfl
 case round =>
  obtain rfl := hrel
  go_wp2_with (fail)
  go_ret
  exact ⟨rfl, rfl⟩
theorem stillSpans (w : World) (g : Nat) (c6 : w.cell? ⟨g, 16, none⟩ = some (.slice none 0 0)) : Calls Tryz.prog 112 #[.pointer (some ⟨g, 0, none⟩)] w fun e w' => e = .returned (.bool true) ∧ w' = w := by
 go_enter Tryz.func112, Tryz.ntmps112
 go_wp2_with (fail)
 go_loop [3] (fun i => i = .int .i64 0) (fun _ => 0)
 case atStart => rfl
 case round =>
  obtain rfl := hrel
  go_wp2_with (fail)
  go_ret
  exact ⟨rfl, rfl⟩
theorem putSpans (w : World) (g : Nat) (c6 : w.cell? ⟨g, 16, none⟩ = some (.slice none 0 0)) : Calls Tryz.prog 128 #[.pointer (some ⟨g, 0, none⟩)] w fun e w' => e = .returned (.tuple #[]) ∧ w' = w := by
 go_enter Tryz.func128, Tryz.ntmps128
 go_wp2_with (fail)
 go_loop [2] (fun i => i = .int .i64 0) (fun _ => 0)
 case atStart => rfl
 case round =>
  obtain rfl := hrel
  go_wp2_with (fail)
  go_end0
  exact ⟨rfl, rfl⟩
theorem growSpans (w : World) (g : Nat) (c6 : w.cell? ⟨g, 16, none⟩ = some (.slice none 0 0)) : Calls Tryz.prog 140 #[.pointer (some ⟨g, 0, none⟩)] w fun e w' => e = .returned (.slice none 0 0) ∧ w' = w := by
 go_enter Tryz.func140, Tryz.ntmps140
 go_wp2_with (fail)
 go_loop [3, 4] (fun v i => v = .slice none 0 0 ∧ i = .int .i64 0) (fun _ _ => 0)
 case atStart => exact ⟨rfl, rfl⟩
 case round =>
  obtain ⟨rfl, rfl⟩ := hrel
  go_wp2_with (fail)
  go_ret
  exact ⟨rfl, rfl⟩
theorem markedSpans (w : World) : Calls Tryz.prog 154 #[.slice none 0 0] w fun e w' => e = .returned (.bool true) ∧ w' = w := by
 go_enter Tryz.func154, Tryz.ntmps154
 go_wp2_with (fail)
 go_loop [3] (fun i => i = .int .i64 0) (fun _ => 0)
 case atStart => rfl
 case round =>
  obtain rfl := hrel
  go_wp2_with (fail)
  go_ret
  exact ⟨rfl, rfl⟩
theorem stillItems (w : World) (g : Nat) (c6 : w.cell? ⟨g, 18, none⟩ = some (.slice none 0 0)) : Calls Tryz.prog 113 #[.pointer (some ⟨g, 0, none⟩)] w fun e w' => e = .returned (.bool true) ∧ w' = w := by
 go_enter Tryz.func113, Tryz.ntmps113
 go_wp2_with (fail)
 go_loop [3] (fun i => i = .int .i64 0) (fun _ => 0)
 case atStart => rfl
 case round =>
  obtain rfl := hrel
  go_wp2_with (fail)
  go_ret
  exact ⟨rfl, rfl⟩
theorem putItems (w : World) (g : Nat) (c6 : w.cell? ⟨g, 18, none⟩ = some (.slice none 0 0)) : Calls Tryz.prog 129 #[.pointer (some ⟨g, 0, none⟩)] w fun e w' => e = .returned (.tuple #[]) ∧ w' = w := by
 go_enter Tryz.func129, Tryz.ntmps129
 go_wp2_with (fail)
 go_loop [2] (fun i => i = .int .i64 0) (fun _ => 0)
 case atStart => rfl
 case round =>
  obtain rfl := hrel
  go_wp2_with (fail)
  go_end0
  exact ⟨rfl, rfl⟩
theorem growItems (w : World) (g : Nat) (c6 : w.cell? ⟨g, 18, none⟩ = some (.slice none 0 0)) : Calls Tryz.prog 141 #[.pointer (some ⟨g, 0, none⟩)] w fun e w' => e = .returned (.slice none 0 0) ∧ w' = w := by
 go_enter Tryz.func141, Tryz.ntmps141
 go_wp2_with (fail)
 go_loop [3, 4] (fun v i => v = .slice none 0 0 ∧ i = .int .i64 0) (fun _ _ => 0)
 case atStart => exact ⟨rfl, rfl⟩
 case round =>
  obtain ⟨rfl, rfl⟩ := hrel
  go_wp2_with (fail)
  go_ret
  exact ⟨rfl, rfl⟩
theorem markedItems (w : World) : Calls Tryz.prog 155 #[.slice none 0 0] w fun e w' => e = .returned (.bool true) ∧ w' = w := by
 go_enter Tryz.func155, Tryz.ntmps155
 go_wp2_with (fail)
 go_loop [3] (fun i => i = .int .i64 0) (fun _ => 0)
 case atStart => rfl
 case round =>
  obtain rfl := hrel
  go_wp2_with (fail)
  go_ret
  exact ⟨rfl, rfl⟩
theorem stillParts (w : World) (g : Nat) (c6 : w.cell? ⟨g, 20, none⟩ = some (.slice none 0 0)) : Calls Tryz.prog 114 #[.pointer (some ⟨g, 0, none⟩)] w fun e w' => e = .returned (.bool true) ∧ w' = w := by
 go_enter Tryz.func114, Tryz.ntmps114
 go_wp2_with (fail)
 go_loop [3] (fun i => i = .int .i64 0) (fun _ => 0)
 case atStart => rfl
 case round =>
  obtain rfl := hrel
  go_wp2_with (fail)
  go_ret
  exact ⟨rfl, rfl⟩
theorem putParts (w : World) (g : Nat) (c6 : w.cell? ⟨g, 20, none⟩ = some (.slice none 0 0)) : Calls Tryz.prog 130 #[.pointer (some ⟨g, 0, none⟩)] w fun e w' => e = .returned (.tuple #[]) ∧ w' = w := by
 go_enter Tryz.func130, Tryz.ntmps130
 go_wp2_with (fail)
 go_loop [2] (fun i => i = .int .i64 0) (fun _ => 0)
 case atStart => rfl
 case round =>
  obtain rfl := hrel
  go_wp2_with (fail)
  go_end0
  exact ⟨rfl, rfl⟩
theorem growParts (w : World) (g : Nat) (c6 : w.cell? ⟨g, 20, none⟩ = some (.slice none 0 0)) : Calls Tryz.prog 142 #[.pointer (some ⟨g, 0, none⟩)] w fun e w' => e = .returned (.slice none 0 0) ∧ w' = w := by
 go_enter Tryz.func142, Tryz.ntmps142
 go_wp2_with (fail)
 go_loop [3, 4] (fun v i => v = .slice none 0 0 ∧ i = .int .i64 0) (fun _ _ => 0)
 case atStart => exact ⟨rfl, rfl⟩
 case round =>
  obtain ⟨rfl, rfl⟩ := hrel
  go_wp2_with (fail)
  go_ret
  exact ⟨rfl, rfl⟩
theorem markedParts (w : World) : Calls Tryz.prog 156 #[.slice none 0 0] w fun e w' => e = .returned (.bool true) ∧ w' = w := by
 go_enter Tryz.func156, Tryz.ntmps156
 go_wp2_with (fail)
 go_loop [3] (fun i => i = .int .i64 0) (fun _ => 0)
 case atStart => rfl
 case round =>
  obtain rfl := hrel
  go_wp2_with (fail)
  go_ret
  exact ⟨rfl, rfl⟩
theorem stillBatches (w : World) (g : Nat) (c6 : w.cell? ⟨g, 22, none⟩ = some (.slice none 0 0)) : Calls Tryz.prog 115 #[.pointer (some ⟨g, 0, none⟩)] w fun e w' => e = .returned (.bool true) ∧ w' = w := by
 go_enter Tryz.func115, Tryz.ntmps115
 go_wp2_with (fail)
 go_loop [3] (fun i => i = .int .i64 0) (fun _ => 0)
 case atStart => rfl
 case round =>
  obtain rfl := hrel
  go_wp2_with (fail)
  go_ret
  exact ⟨rfl, rfl⟩
theorem putBatches (w : World) (g : Nat) (c6 : w.cell? ⟨g, 22, none⟩ = some (.slice none 0 0)) : Calls Tryz.prog 118 #[.pointer (some ⟨g, 0, none⟩)] w fun e w' => e = .returned (.tuple #[]) ∧ w' = w := by
 go_enter Tryz.func118, Tryz.ntmps118
 go_wp2_with (fail)
 go_loop [2] (fun i => i = .int .i64 0) (fun _ => 0)
 case atStart => rfl
 case round =>
  obtain rfl := hrel
  go_wp2_with (fail)
  go_end0
  exact ⟨rfl, rfl⟩
theorem growBatches (w : World) (g : Nat) (c6 : w.cell? ⟨g, 22, none⟩ = some (.slice none 0 0)) : Calls Tryz.prog 143 #[.pointer (some ⟨g, 0, none⟩)] w fun e w' => e = .returned (.slice none 0 0) ∧ w' = w := by
 go_enter Tryz.func143, Tryz.ntmps143
 go_wp2_with (fail)
 go_loop [3, 4] (fun v i => v = .slice none 0 0 ∧ i = .int .i64 0) (fun _ _ => 0)
 case atStart => exact ⟨rfl, rfl⟩
 case round =>
  obtain ⟨rfl, rfl⟩ := hrel
  go_wp2_with (fail)
  go_ret
  exact ⟨rfl, rfl⟩
theorem markedBatches (w : World) : Calls Tryz.prog 157 #[.slice none 0 0] w fun e w' => e = .returned (.bool true) ∧ w' = w := by
 go_enter Tryz.func157, Tryz.ntmps157
 go_wp2_with (fail)
 go_loop [3] (fun i => i = .int .i64 0) (fun _ => 0)
 case atStart => rfl
 case round =>
  obtain rfl := hrel
  go_wp2_with (fail)
  go_ret
  exact ⟨rfl, rfl⟩
theorem stillPackets (w : World) (g : Nat) (c6 : w.cell? ⟨g, 24, none⟩ = some (.slice none 0 0)) : Calls Tryz.prog 116 #[.pointer (some ⟨g, 0, none⟩)] w fun e w' => e = .returned (.bool true) ∧ w' = w := by
 go_enter Tryz.func116, Tryz.ntmps116
 go_wp2_with (fail)
 go_loop [3] (fun i => i = .int .i64 0) (fun _ => 0)
 case atStart => rfl
 case round =>
  obtain rfl := hrel
  go_wp2_with (fail)
  go_ret
  exact ⟨rfl, rfl⟩
theorem putPackets (w : World) (g : Nat) (c6 : w.cell? ⟨g, 24, none⟩ = some (.slice none 0 0)) : Calls Tryz.prog 131 #[.pointer (some ⟨g, 0, none⟩)] w fun e w' => e = .returned (.tuple #[]) ∧ w' = w := by
 go_enter Tryz.func131, Tryz.ntmps131
 go_wp2_with (fail)
 go_loop [2] (fun i => i = .int .i64 0) (fun _ => 0)
 case atStart => rfl
 case round =>
  obtain rfl := hrel
  go_wp2_with (fail)
  go_end0
  exact ⟨rfl, rfl⟩
theorem growPackets (w : World) (g : Nat) (c6 : w.cell? ⟨g, 24, none⟩ = some (.slice none 0 0)) : Calls Tryz.prog 144 #[.pointer (some ⟨g, 0, none⟩)] w fun e w' => e = .returned (.slice none 0 0) ∧ w' = w := by
 go_enter Tryz.func144, Tryz.ntmps144
 go_wp2_with (fail)
 go_loop [3, 4] (fun v i => v = .slice none 0 0 ∧ i = .int .i64 0) (fun _ _ => 0)
 case atStart => exact ⟨rfl, rfl⟩
 case round =>
  obtain ⟨rfl, rfl⟩ := hrel
  go_wp2_with (fail)
  go_ret
  exact ⟨rfl, rfl⟩
theorem markedPackets (w : World) : Calls Tryz.prog 158 #[.slice none 0 0] w fun e w' => e = .returned (.bool true) ∧ w' = w := by
 go_enter Tryz.func158, Tryz.ntmps158
 go_wp2_with (fail)
 go_loop [3] (fun i => i = .int .i64 0) (fun _ => 0)
 case atStart => rfl
 case round =>
  obtain rfl := hrel
  go_wp2_with (fail)
  go_ret
  exact ⟨rfl, rfl⟩
theorem stillSteps (w : World) (g : Nat) (c6 : w.cell? ⟨g, 26, none⟩ = some (.slice none 0 0)) : Calls Tryz.prog 117 #[.pointer (some ⟨g, 0, none⟩)] w fun e w' => e = .returned (.bool true) ∧ w' = w := by
 go_enter Tryz.func117, Tryz.ntmps117
 go_wp2_with (fail)
 go_loop [3] (fun i => i = .int .i64 0) (fun _ => 0)
 case atStart => rfl
 case round =>
  obtain rfl := hrel
  go_wp2_with (fail)
  go_ret
  exact ⟨rfl, rfl⟩
theorem putSteps (w : World) (g : Nat) (c6 : w.cell? ⟨g, 26, none⟩ = some (.slice none 0 0)) : Calls Tryz.prog 119 #[.pointer (some ⟨g, 0, none⟩)] w fun e w' => e = .returned (.tuple #[]) ∧ w' = w := by
 go_enter Tryz.func119, Tryz.ntmps119
 go_wp2_with (fail)
 go_loop [2] (fun i => i = .int .i64 0) (fun _ => 0)
 case atStart => rfl
 case round =>
  obtain rfl := hrel
  go_wp2_with (fail)
  go_end0
  exact ⟨rfl, rfl⟩
theorem growSteps (w : World) (g : Nat) (c6 : w.cell? ⟨g, 26, none⟩ = some (.slice none 0 0)) : Calls Tryz.prog 145 #[.pointer (some ⟨g, 0, none⟩)] w fun e w' => e = .returned (.slice none 0 0) ∧ w' = w := by
 go_enter Tryz.func145, Tryz.ntmps145
 go_wp2_with (fail)
 go_loop [3, 4] (fun v i => v = .slice none 0 0 ∧ i = .int .i64 0) (fun _ _ => 0)
 case atStart => exact ⟨rfl, rfl⟩
 case round =>
  obtain ⟨rfl, rfl⟩ := hrel
  go_wp2_with (fail)
  go_ret
  exact ⟨rfl, rfl⟩
theorem markedSteps (w : World) : Calls Tryz.prog 159 #[.slice none 0 0] w fun e w' => e = .returned (.bool true) ∧ w' = w := by
 go_enter Tryz.func159, Tryz.ntmps159
 go_wp2_with (fail)
 go_loop [3] (fun i => i = .int .i64 0) (fun _ => 0)
 case atStart => rfl
 case round =>
  obtain rfl := hrel
  go_wp2_with (fail)
  go_ret
  exact ⟨rfl, rfl⟩
end Go.Proofs.YtchgpcgolgcfdaaGreat.BkN
end
section
namespace Go.Proofs.YtchgpcgolgcfdaaGreat.BkAEntries
open Go Go.RowKit Go.Proofs.YtchgpcgolgcfdaaGreat.PNum Go.Proofs.YtchgpcgolgcfdaaGreat.BkW Go.Proofs.YtchgpcgolgcfdaaGreatW.PrintWords Go.Proofs.YtchgpcgolgcfdaaGreatW.PrintLast Go.Proofs.YtchgpcgolgcfdaaGreatW.PrintMore
set_option linter.unusedVariables false
set_option linter.unusedSimpArgs false
set_option maxRecDepth 100000
set_option maxHeartbeats 16000000
def bcells (pEntries qEntries : Value) : Array Value := #[.slice none 0 0, .slice none 0 0, .slice none 0 0, .slice none 0 0, .slice none 0 0, .slice none 0 0, pEntries, qEntries, .slice none 0 0, .slice none 0 0, .slice none 0 0, .slice none 0 0, .slice none 0 0, .slice none 0 0, .slice none 0 0, .slice none 0 0, .slice none 0 0, .slice none 0 0, .slice none 0 0, .slice none 0 0, .slice none 0 0, .slice none 0 0, .slice none 0 0, .slice none 0 0, .slice none 0 0, .slice none 0 0, .slice none 0 0, .slice none 0 0]
theorem outEntries {w : World} {base b0 n : Nat} {p : Value} {A : Option Addr} {c : Nat} {vs ws : List Value} {X : Nat → List S32} (h : BkEntries.GrO w base b0 p vs X (.slice A n c) ws) (hn : ws.length = n) :
  n ≤ c ∧ Kd.C (Kd.slice 32 k32) w A n ((List.range n).map fun i => BkEntries.grown X i) := by
 subst hn
 have h1 := Rw.of_own h.o
 obtain ⟨A', c', e, hc⟩ := h1.slice
 injection e with e1 _ e2
 subst e1; subst e2
 refine ⟨hc, by simp, h1.max, fun h0 => ?_⟩
 obtain ⟨g, o, c2, e, _, _, hcell⟩ := h1.form h0
 injection e with e _ _
 subst e
 refine ⟨_, rfl, fun j l hj => ?_⟩
 have hjn : j < ws.length := by
  have := (List.getElem?_eq_some_iff.1 hj).1
  simpa using this
 have hl : BkEntries.grown X j = l := by
  rw [List.getElem?_map, List.getElem?_range hjn] at hj
  exact Option.some.inj hj
 have hu := List.getElem?_eq_getElem hjn
 obtain ⟨A3, c3, e3, hc3⟩ := (h.W j _ hu).1.slice
 have hr := (h.W j _ hu).1
 rw [e3] at hr
 refine ⟨[ws[j]], rfl, ⟨A3, c3, by rw [e3, hl], by rw [← hl]; exact hc3, by rw [← hl]; exact BkEntries.flat.to_C hr rfl⟩, fun i u hi => ?_⟩
 cases i with
 | zero =>
  have : ws[j] = u := by simpa using hi
  subst this
  rw [add_at, Nat.add_zero]
  exact hcell _ _ (by rw [show (Kd.slice 32 k32).sz = 1 from rfl, Nat.mul_one]; exact hu)
 | succ i => simp at hi
theorem inEntries {w : World} {base n : Nat} {A : Option Addr} {c : Nat} {vs : List Value} {X : Nat → List S32} (h : Held BkEntries.enc 4 22 32 w base (.slice A n c) vs X) (hn : vs.length = n) :
  n ≤ c ∧ Kd.C (Kd.slice 32 k32) w A n ((List.range n).map X) := by
 subst hn
 have h1 := Rw.of_own h.rp
 obtain ⟨A', c', e, hc⟩ := h1.slice
 injection e with e1 _ e2
 subst e1; subst e2
 refine ⟨hc, by simp, h1.max, fun h0 => ?_⟩
 obtain ⟨g, o, c2, e, _, _, hcell⟩ := h1.form h0
 injection e with e _ _
 subst e
 refine ⟨_, rfl, fun j l hj => ?_⟩
 have hjn : j < vs.length := by
  have := (List.getElem?_eq_some_iff.1 hj).1
  simpa using this
 have hl : X j = l := by
  rw [List.getElem?_map, List.getElem?_range hjn] at hj
  exact Option.some.inj hj
 have hu := List.getElem?_eq_getElem hjn
 obtain ⟨A3, c3, e3, hc3⟩ := (h.el j _ hu).1.slice
 have hr := (h.el j _ hu).1
 rw [e3] at hr
 refine ⟨[vs[j]], rfl, ⟨A3, c3, by rw [e3, hl], by rw [← hl]; exact hc3, by rw [← hl]; exact BkEntries.flat.to_C hr rfl⟩, fun i u hi => ?_⟩
 cases i with
 | zero =>
  have : vs[j] = u := by simpa using hi
  subst this
  rw [add_at, Nat.add_zero]
  exact hcell _ _ (by rw [show (Kd.slice 32 k32).sz = 1 from rfl, Nat.mul_one]; exact hu)
 | succ i => simp at hi
theorem markEntries {w : World} {A : Option Addr} {c n N : Nat} (L : List (List S32)) (hL : L.length = n) (hC : Kd.C (Kd.slice 32 k32) w A n L) (hc : n ≤ c) (hn : n ≤ 1000000) (hN : N ≤ 1000000) (hm : ∀ (j : Nat) (l : List S32), L[j]? = some l → l.length ≤ N ∧ l = BkEntries.marks j 0 l.length) :
  Calls Tryz.prog 149 #[.slice A n c] w fun e w' => e = .returned (.bool true) ∧ Below w.heap.size w w' := by
 subst hL
 exact cornucopiabook_markedEntries.calls (N + L.length + 1) A c L true w hC hc (BkEntries.marked_ev L N hn hm hN)
theorem markOutEntries {w : World} {base b0 n : Nat} {p : Value} {A : Option Addr} {c : Nat} {vs ws : List Value} {X : Nat → List S32} (h : BkEntries.GrO w base b0 p vs (fun i => BkEntries.marks i 0 (X i).length) (.slice A n c) ws) (hn : ws.length = n) (hx : ∀ i, (X i).length ≤ 1000) (h250 : n ≤ 250) :
  Calls Tryz.prog 149 #[.slice A n c] w fun e w' => e = .returned (.bool true) ∧ Below w.heap.size w w' := by
 obtain ⟨hc, hC⟩ := outEntries h hn
 refine markEntries (N := 1072) _ (by simp) hC hc (by omega) (by omega) (fun j l hj => ?_)
 have hjn : j < n := by
  have := (List.getElem?_eq_some_iff.1 hj).1
  simpa using this
 rw [List.getElem?_map, List.getElem?_range hjn] at hj
 obtain rfl := Option.some.inj hj
 show (BkEntries.marks j 0 ((BkEntries.marks j 0 (X j).length).length + 72)).length ≤ 1072 ∧ _
 refine ⟨?_, ?_⟩
 ·rw [BkEntries.marks_len, BkEntries.marks_len]
  have := hx j
  omega
 ·show BkEntries.marks j 0 ((BkEntries.marks j 0 (X j).length).length + 72) = BkEntries.marks j 0 (BkEntries.marks j 0 ((BkEntries.marks j 0 (X j).length).length + 72)).length
  rw [BkEntries.marks_len, BkEntries.marks_len]
theorem markInEntries {w : World} {base n : Nat} {A : Option Addr} {c : Nat} {vs : List Value} {X : Nat → List S32} (h : Held BkEntries.enc 4 22 32 w base (.slice A n c) vs (fun i => BkEntries.marks i 0 (X i).length)) (hn : vs.length = n) (hx : ∀ i, (X i).length ≤ 1000) (h250 : n ≤ 250) :
  Calls Tryz.prog 149 #[.slice A n c] w fun e w' => e = .returned (.bool true) ∧ Below w.heap.size w w' := by
 obtain ⟨hc, hC⟩ := inEntries h hn
 refine markEntries (N := 1000) _ (by simp) hC hc (by omega) (by omega) (fun j l hj => ?_)
 have hjn : j < n := by
  have := (List.getElem?_eq_some_iff.1 hj).1
  simpa using this
 rw [List.getElem?_map, List.getElem?_range hjn] at hj
 obtain rfl := Option.some.inj hj
 refine ⟨?_, ?_⟩
 ·show (BkEntries.marks j 0 (X j).length).length ≤ 1000
  rw [BkEntries.marks_len]
  exact hx j
 ·show BkEntries.marks j 0 (X j).length = BkEntries.marks j 0 (BkEntries.marks j 0 (X j).length).length
  rw [BkEntries.marks_len]
structure Bk (w0 w : World) (g : Nat) (pEntries qEntries : Value) (esEntries : List (Ent S32)) : Prop where
 blk : w.heap[g]? = some (.cells (bcells pEntries qEntries) 56 (0, 0))
 kEntries : Kept BkEntries.enc 4 22 32 w w0.heap.size pEntries qEntries esEntries
 nEntries : esEntries.length ≤ 250
 lEntries : ∀ x ∈ esEntries, x.xs.length ≤ 1000
 bel : Below w0.heap.size w0 w
 gb : w0.heap.size ≤ g
theorem apart_calls (w0 w : World) (g : Nat) (pEntries qEntries : Value) (esEntries : List (Ent S32)) (h : Bk w0 w g pEntries qEntries esEntries) :
  Calls Tryz.prog 29 #[.pointer (some ⟨g, 0, none⟩)] w fun e w' => e = .returned (.bool true) ∧ Below w0.heap.size w0 w' := by
 have HG := a_k h.blk
 have HB := a_k h.bel
 have HGB := a_k h.gb
 obtain ⟨AEntries, cEntries, eEntries⟩ := own_slice h.kEntries.rp
 obtain ⟨vsEntries, hvsEntries⟩ : ∃ vs, vs = esEntries.map (·.v) := ⟨_, rfl⟩
 obtain ⟨nEntries, hnEntries⟩ : ∃ n, n = esEntries.length := ⟨_, rfl⟩
 obtain ⟨XEntries, hXEntries⟩ : ∃ X : Nat → List S32, X = (fun i => ((esEntries.map (·.xs))[i]?).getD []) := ⟨_, rfl⟩
 have HVLEntries : Aside0 (vsEntries.length = nEntries) := ⟨by rw [hvsEntries, hnEntries, List.length_map]⟩
 have HNNEntries : Aside0 (nEntries ≤ 250) := ⟨by rw [hnEntries]; exact h.nEntries⟩
 have HESEntries : Aside0 (esEntries.length ≤ 250 ∧ ∀ x ∈ esEntries, x.xs.length ≤ 1000) := ⟨h.nEntries, h.lEntries⟩
 have HXLEntries : Aside0 (∀ i, (XEntries i).length ≤ 1000) := ⟨by rw [hXEntries]; exact xs_le h.lEntries⟩
 have HKEntries := a_k h.kEntries
 have HHEntries : Aside0 (Held BkEntries.enc 4 22 32 w w0.heap.size pEntries vsEntries XEntries) := ⟨by rw [hvsEntries, hXEntries]; exact h.kEntries.held⟩
 rw [← hnEntries] at eEntries
 subst eEntries
 clear h hvsEntries hnEntries hXEntries
 go_enter Tryz.func29, Tryz.ntmps29
 go_wp2_with (first
  | (go_at_call 104; refine (BkN.stillTexts _ g ((blk_cell HG.out 0).trans rfl)).mono ?_; rintro e w' ⟨rfl, rfl⟩)
  | (go_at_call 105; refine (BkN.stillInts _ g ((blk_cell HG.out 2).trans rfl)).mono ?_; rintro e w' ⟨rfl, rfl⟩)
  | (go_at_call 106; refine (BkN.stillNums _ g ((blk_cell HG.out 4).trans rfl)).mono ?_; rintro e w' ⟨rfl, rfl⟩)
  | (go_at_call 107; refine (BkEntries.still_calls _ _ g _ _ _ _ HG.out rfl rfl HKEntries.out (fun x hx => Nat.le_trans (HESEntries.out.2 x hx) (by decide)) (Nat.le_trans HESEntries.out.1 (by decide))).mono ?_; rintro e w' ⟨rfl, hd⟩; have n0_ := a_k (blk_below HG.out hd.below); have n1_ := a_k (below_step HB.out hd.below); have nkEntries_ := a_k (HKEntries.out.below hd.below); have nhEntries_ := a_k (HHEntries.out.below hd.below); clear hd HG HB HKEntries HHEntries; have HG := n0_; have HB := n1_; have HKEntries := nkEntries_; have HHEntries := nhEntries_; clear n0_ n1_ nkEntries_ nhEntries_)
  | (go_at_call 108; refine (BkN.stillPairs _ g ((blk_cell HG.out 8).trans rfl)).mono ?_; rintro e w' ⟨rfl, rfl⟩)
  | (go_at_call 109; refine (BkN.stillWrites _ g ((blk_cell HG.out 10).trans rfl)).mono ?_; rintro e w' ⟨rfl, rfl⟩)
  | (go_at_call 110; refine (BkN.stillTables _ g ((blk_cell HG.out 12).trans rfl)).mono ?_; rintro e w' ⟨rfl, rfl⟩)
  | (go_at_call 111; refine (BkN.stillDots _ g ((blk_cell HG.out 14).trans rfl)).mono ?_; rintro e w' ⟨rfl, rfl⟩)
  | (go_at_call 112; refine (BkN.stillSpans _ g ((blk_cell HG.out 16).trans rfl)).mono ?_; rintro e w' ⟨rfl, rfl⟩)
  | (go_at_call 113; refine (BkN.stillItems _ g ((blk_cell HG.out 18).trans rfl)).mono ?_; rintro e w' ⟨rfl, rfl⟩)
  | (go_at_call 114; refine (BkN.stillParts _ g ((blk_cell HG.out 20).trans rfl)).mono ?_; rintro e w' ⟨rfl, rfl⟩)
  | (go_at_call 115; refine (BkN.stillBatches _ g ((blk_cell HG.out 22).trans rfl)).mono ?_; rintro e w' ⟨rfl, rfl⟩)
  | (go_at_call 116; refine (BkN.stillPackets _ g ((blk_cell HG.out 24).trans rfl)).mono ?_; rintro e w' ⟨rfl, rfl⟩)
  | (go_at_call 117; refine (BkN.stillSteps _ g ((blk_cell HG.out 26).trans rfl)).mono ?_; rintro e w' ⟨rfl, rfl⟩)
  | (go_at_call 118; refine (BkN.putBatches _ g ((blk_cell HG.out 22).trans rfl)).mono ?_; rintro e w' ⟨rfl, rfl⟩)
  | (go_at_call 119; refine (BkN.putSteps _ g ((blk_cell HG.out 26).trans rfl)).mono ?_; rintro e w' ⟨rfl, rfl⟩)
  | (go_at_call 120; refine (BkN.putTexts _ g ((blk_cell HG.out 0).trans rfl)).mono ?_; rintro e w' ⟨rfl, rfl⟩)
  | (go_at_call 121; refine (BkN.putInts _ g ((blk_cell HG.out 2).trans rfl)).mono ?_; rintro e w' ⟨rfl, rfl⟩)
  | (go_at_call 122; refine (BkN.putNums _ g ((blk_cell HG.out 4).trans rfl)).mono ?_; rintro e w' ⟨rfl, rfl⟩)
  | (go_at_call 123; refine (BkEntries.put_calls w0 _ g _ (.slice AEntries nEntries cEntries) vsEntries XEntries HG.out rfl HHEntries.out HB.out (fun i _ => Nat.le_trans (HXLEntries.out i) (by decide)) (by rw [HVLEntries.out]; exact Nat.le_trans HNNEntries.out (by decide))).mono ?_; rintro e w' ⟨rfl, hh, hb, hs, hz⟩; have n0_ := a_k (hs.blk HG.out (by decide)); have n1_ := a_k hb; have n2_ := a_k hh; clear hh hb hs hz HG HB HHEntries; have HG := n0_; have HB := n1_; have HPEntries := n2_; clear n0_ n1_ n2_ )
  | (go_at_call 124; refine (BkN.putPairs _ g ((blk_cell HG.out 8).trans rfl)).mono ?_; rintro e w' ⟨rfl, rfl⟩)
  | (go_at_call 125; refine (BkN.putWrites _ g ((blk_cell HG.out 10).trans rfl)).mono ?_; rintro e w' ⟨rfl, rfl⟩)
  | (go_at_call 126; refine (BkN.putTables _ g ((blk_cell HG.out 12).trans rfl)).mono ?_; rintro e w' ⟨rfl, rfl⟩)
  | (go_at_call 127; refine (BkN.putDots _ g ((blk_cell HG.out 14).trans rfl)).mono ?_; rintro e w' ⟨rfl, rfl⟩)
  | (go_at_call 128; refine (BkN.putSpans _ g ((blk_cell HG.out 16).trans rfl)).mono ?_; rintro e w' ⟨rfl, rfl⟩)
  | (go_at_call 129; refine (BkN.putItems _ g ((blk_cell HG.out 18).trans rfl)).mono ?_; rintro e w' ⟨rfl, rfl⟩)
  | (go_at_call 130; refine (BkN.putParts _ g ((blk_cell HG.out 20).trans rfl)).mono ?_; rintro e w' ⟨rfl, rfl⟩)
  | (go_at_call 131; refine (BkN.putPackets _ g ((blk_cell HG.out 24).trans rfl)).mono ?_; rintro e w' ⟨rfl, rfl⟩)
  | (go_at_call 132; refine (BkN.growTexts _ g ((blk_cell HG.out 0).trans rfl)).mono ?_; rintro e w' ⟨rfl, rfl⟩)
  | (go_at_call 133; refine (BkN.growInts _ g ((blk_cell HG.out 2).trans rfl)).mono ?_; rintro e w' ⟨rfl, rfl⟩)
  | (go_at_call 134; refine (BkN.growNums _ g ((blk_cell HG.out 4).trans rfl)).mono ?_; rintro e w' ⟨rfl, rfl⟩)
  | (go_at_call 135; refine (BkEntries.grow_calls w0 _ g _ (.slice AEntries nEntries cEntries) vsEntries (fun i => BkEntries.marks i 0 (XEntries i).length) HG.out rfl HPEntries.out (fun i _ => by simp only [BkEntries.marks_len]) HB.out (fun i _ => by rw [BkEntries.marks_len]; exact Nat.le_trans (HXLEntries.out i) (by decide)) (by rw [HVLEntries.out]; exact Nat.le_trans HNNEntries.out (by decide))).mono ?_; rintro e w' ⟨o_, wsEntries, rfl, hwl, ho, hb, hs, hz⟩; have hsl := own_slice ho.o; rw [hwl, HVLEntries.out] at hsl; obtain ⟨AoEntries, coEntries, rfl⟩ := hsl; have n0_ := a_k (hs.blk HG.out (by decide)); have n1_ := a_k hb; have n2_ := a_k ho; have n3_ := a_k (hwl.trans HVLEntries.out); clear hwl ho hb hs hz HG HB HPEntries ; have HG := n0_; have HB := n1_; have HOEntries := n2_; have HWLEntries := n3_; clear n0_ n1_ n2_ n3_ )
  | (go_at_call 136; refine (BkN.growPairs _ g ((blk_cell HG.out 8).trans rfl)).mono ?_; rintro e w' ⟨rfl, rfl⟩)
  | (go_at_call 137; refine (BkN.growWrites _ g ((blk_cell HG.out 10).trans rfl)).mono ?_; rintro e w' ⟨rfl, rfl⟩)
  | (go_at_call 138; refine (BkN.growTables _ g ((blk_cell HG.out 12).trans rfl)).mono ?_; rintro e w' ⟨rfl, rfl⟩)
  | (go_at_call 139; refine (BkN.growDots _ g ((blk_cell HG.out 14).trans rfl)).mono ?_; rintro e w' ⟨rfl, rfl⟩)
  | (go_at_call 140; refine (BkN.growSpans _ g ((blk_cell HG.out 16).trans rfl)).mono ?_; rintro e w' ⟨rfl, rfl⟩)
  | (go_at_call 141; refine (BkN.growItems _ g ((blk_cell HG.out 18).trans rfl)).mono ?_; rintro e w' ⟨rfl, rfl⟩)
  | (go_at_call 142; refine (BkN.growParts _ g ((blk_cell HG.out 20).trans rfl)).mono ?_; rintro e w' ⟨rfl, rfl⟩)
  | (go_at_call 143; refine (BkN.growBatches _ g ((blk_cell HG.out 22).trans rfl)).mono ?_; rintro e w' ⟨rfl, rfl⟩)
  | (go_at_call 144; refine (BkN.growPackets _ g ((blk_cell HG.out 24).trans rfl)).mono ?_; rintro e w' ⟨rfl, rfl⟩)
  | (go_at_call 145; refine (BkN.growSteps _ g ((blk_cell HG.out 26).trans rfl)).mono ?_; rintro e w' ⟨rfl, rfl⟩; have b0 : _ = some (Value.slice none 0 0) := (blk_cell HG.out 0).trans rfl; have b2 : _ = some (Value.slice none 0 0) := (blk_cell HG.out 2).trans rfl; have b4 : _ = some (Value.slice none 0 0) := (blk_cell HG.out 4).trans rfl; have b6 : _ = some (Value.slice AEntries nEntries cEntries) := (blk_cell HG.out 6).trans rfl; have b8 : _ = some (Value.slice none 0 0) := (blk_cell HG.out 8).trans rfl; have b10 : _ = some (Value.slice none 0 0) := (blk_cell HG.out 10).trans rfl; have b12 : _ = some (Value.slice none 0 0) := (blk_cell HG.out 12).trans rfl; have b14 : _ = some (Value.slice none 0 0) := (blk_cell HG.out 14).trans rfl; have b16 : _ = some (Value.slice none 0 0) := (blk_cell HG.out 16).trans rfl; have b18 : _ = some (Value.slice none 0 0) := (blk_cell HG.out 18).trans rfl; have b20 : _ = some (Value.slice none 0 0) := (blk_cell HG.out 20).trans rfl; have b22 : _ = some (Value.slice none 0 0) := (blk_cell HG.out 22).trans rfl; have b24 : _ = some (Value.slice none 0 0) := (blk_cell HG.out 24).trans rfl; have b26 : _ = some (Value.slice none 0 0) := (blk_cell HG.out 26).trans rfl; have TK0 := a_k True.intro)
  | (go_at_call 149; have t_ := TK0; refine (markOutEntries HOEntries.out HWLEntries.out (fun i => HXLEntries.out i) HNNEntries.out).mono ?_; rintro e w' ⟨rfl, hb⟩; have n0_ := a_k (blk_below HG.out hb); have n1_ := a_k (below_step HB.out hb); have noEntries_ := a_k (HOEntries.out.below hb); clear hb t_ TK0 HG HB b0 b2 b4 b6 b8 b10 b12 b14 b16 b18 b20 b22 b24 b26 HOEntries; have HG := n0_; have HB := n1_; have HOEntries := noEntries_; clear n0_ n1_ noEntries_; have b0 : _ = some (Value.slice none 0 0) := (blk_cell HG.out 0).trans rfl; have b2 : _ = some (Value.slice none 0 0) := (blk_cell HG.out 2).trans rfl; have b4 : _ = some (Value.slice none 0 0) := (blk_cell HG.out 4).trans rfl; have b6 : _ = some (Value.slice AEntries nEntries cEntries) := (blk_cell HG.out 6).trans rfl; have b8 : _ = some (Value.slice none 0 0) := (blk_cell HG.out 8).trans rfl; have b10 : _ = some (Value.slice none 0 0) := (blk_cell HG.out 10).trans rfl; have b12 : _ = some (Value.slice none 0 0) := (blk_cell HG.out 12).trans rfl; have b14 : _ = some (Value.slice none 0 0) := (blk_cell HG.out 14).trans rfl; have b16 : _ = some (Value.slice none 0 0) := (blk_cell HG.out 16).trans rfl; have b18 : _ = some (Value.slice none 0 0) := (blk_cell HG.out 18).trans rfl; have b20 : _ = some (Value.slice none 0 0) := (blk_cell HG.out 20).trans rfl; have b22 : _ = some (Value.slice none 0 0) := (blk_cell HG.out 22).trans rfl; have b24 : _ = some (Value.slice none 0 0) := (blk_cell HG.out 24).trans rfl; have b26 : _ = some (Value.slice none 0 0) := (blk_cell HG.out 26).trans rfl; have TK1 := a_k True.intro)
  | (go_at_call 149; have t_ := TK1; refine (markInEntries HOEntries.out.H HVLEntries.out (fun i => HXLEntries.out i) HNNEntries.out).mono ?_; rintro e w' ⟨rfl, hb⟩; have n0_ := a_k (blk_below HG.out hb); have n1_ := a_k (below_step HB.out hb); have noEntries_ := a_k (HOEntries.out.below hb); clear hb t_ TK1 HG HB b0 b2 b4 b6 b8 b10 b12 b14 b16 b18 b20 b22 b24 b26 HOEntries; have HG := n0_; have HB := n1_; have HOEntries := noEntries_; clear n0_ n1_ noEntries_; have b0 : _ = some (Value.slice none 0 0) := (blk_cell HG.out 0).trans rfl; have b2 : _ = some (Value.slice none 0 0) := (blk_cell HG.out 2).trans rfl; have b4 : _ = some (Value.slice none 0 0) := (blk_cell HG.out 4).trans rfl; have b6 : _ = some (Value.slice AEntries nEntries cEntries) := (blk_cell HG.out 6).trans rfl; have b8 : _ = some (Value.slice none 0 0) := (blk_cell HG.out 8).trans rfl; have b10 : _ = some (Value.slice none 0 0) := (blk_cell HG.out 10).trans rfl; have b12 : _ = some (Value.slice none 0 0) := (blk_cell HG.out 12).trans rfl; have b14 : _ = some (Value.slice none 0 0) := (blk_cell HG.out 14).trans rfl; have b16 : _ = some (Value.slice none 0 0) := (blk_cell HG.out 16).trans rfl; have b18 : _ = some (Value.slice none 0 0) := (blk_cell HG.out 18).trans rfl; have b20 : _ = some (Value.slice none 0 0) := (blk_cell HG.out 20).trans rfl; have b22 : _ = some (Value.slice none 0 0) := (blk_cell HG.out 22).trans rfl; have b24 : _ = some (Value.slice none 0 0) := (blk_cell HG.out 24).trans rfl; have b26 : _ = some (Value.slice none 0 0) := (blk_cell HG.out 26).trans rfl; have TK2 := a_k True.intro)
  | (go_at_call 146; refine (BkN.markedTexts _).mono ?_; rintro e w' ⟨rfl, rfl⟩)
  | (go_at_call 147; refine (BkN.markedInts _).mono ?_; rintro e w' ⟨rfl, rfl⟩)
  | (go_at_call 148; refine (BkN.markedNums _).mono ?_; rintro e w' ⟨rfl, rfl⟩)
  | (go_at_call 150; refine (BkN.markedPairs _).mono ?_; rintro e w' ⟨rfl, rfl⟩)
  | (go_at_call 151; refine (BkN.markedWrites _).mono ?_; rintro e w' ⟨rfl, rfl⟩)
  | (go_at_call 152; refine (BkN.markedTables _).mono ?_; rintro e w' ⟨rfl, rfl⟩)
  | (go_at_call 153; refine (BkN.markedDots _).mono ?_; rintro e w' ⟨rfl, rfl⟩)
  | (go_at_call 154; refine (BkN.markedSpans _).mono ?_; rintro e w' ⟨rfl, rfl⟩)
  | (go_at_call 155; refine (BkN.markedItems _).mono ?_; rintro e w' ⟨rfl, rfl⟩)
  | (go_at_call 156; refine (BkN.markedParts _).mono ?_; rintro e w' ⟨rfl, rfl⟩)
  | (go_at_call 157; refine (BkN.markedBatches _).mono ?_; rintro e w' ⟨rfl, rfl⟩)
  | (go_at_call 158; refine (BkN.markedPackets _).mono ?_; rintro e w' ⟨rfl, rfl⟩)
  | (go_at_call 159; refine (BkN.markedSteps _).mono ?_; rintro e w' ⟨rfl, rfl⟩))
 go_ret
 exact ⟨rfl, HB.out⟩
def BkX (w0 w : World) (g : Nat) (P : Nat → Prop) : Prop := ∃ pEntries qEntries, ∃ esEntries, Bk w0 w g pEntries qEntries esEntries ∧ (∀ x ∈ esEntries, ∀ k, x.v.ownBlock = some k → P k)
theorem BkX.mono {w0 w : World} {g : Nat} {P P' : Nat → Prop} (h : BkX w0 w g P) (hn : ∀ k, P k → P' k) : BkX w0 w g P' := by
 obtain ⟨pEntries, qEntries, esEntries, hk, hoEntries⟩ := h
 exact ⟨pEntries, qEntries, esEntries, hk, fun x hx k e => hn k (hoEntries x hx k e)⟩
theorem BkX.still {w0 w w1 : World} {g : Nat} {P : Nat → Prop} (h : BkX w0 w g P) {T : List TypeId} (hs : Still T w w1) (hB : 56 ∉ T) (hSEntries : 22 ∉ T) (hEEntries : 32 ∉ T) (hb : Below w0.heap.size w0 w1) : BkX w0 w1 g P := by
 obtain ⟨pEntries, qEntries, esEntries, hk, hoEntries⟩ := h
 exact ⟨pEntries, qEntries, esEntries, ⟨hs.blk hk.blk hB, hk.kEntries.still hs hSEntries hEEntries, hk.nEntries, hk.lEntries, hb, hk.gb⟩, hoEntries⟩
theorem BkX.below {w0 w w1 : World} {g : Nat} {P : Nat → Prop} (h : BkX w0 w g P) (hb : Below w.heap.size w w1) : BkX w0 w1 g P := by
 have h0 := h
 obtain ⟨pEntries, qEntries, esEntries, hk, hoEntries⟩ := h0
 exact h.still (T := []) (Still.of_below hb) (by simp) (by simp) (by simp) (below_step hk.bel hb)
theorem BkX.bel {w0 w : World} {g : Nat} {P : Nat → Prop} (h : BkX w0 w g P) : Below w0.heap.size w0 w := by
 obtain ⟨pEntries, qEntries, esEntries, hk, hoEntries⟩ := h
 exact hk.bel
theorem BkX.new {w0 w : World} (hb : Below w0.heap.size w0 w) (P : Nat → Prop) : BkX w0 (w.alloc (.cells #[.slice none 0 0, .slice none 0 0, .slice none 0 0, .slice none 0 0, .slice none 0 0, .slice none 0 0, .slice none 0 0, .slice none 0 0, .slice none 0 0, .slice none 0 0, .slice none 0 0, .slice none 0 0, .slice none 0 0, .slice none 0 0, .slice none 0 0, .slice none 0 0, .slice none 0 0, .slice none 0 0, .slice none 0 0, .slice none 0 0, .slice none 0 0, .slice none 0 0, .slice none 0 0, .slice none 0 0, .slice none 0 0, .slice none 0 0, .slice none 0 0, .slice none 0 0] 56)) w.heap.size P :=
 ⟨.slice none 0 0, .slice none 0 0, [], ⟨blk_new w _, (Kept.none_ _ _ _ _ _ _), (by simp), (by simp), below_alloc hb _, hb.size⟩, (by simp)⟩
theorem BkX.apart {w0 w : World} {g : Nat} {P : Nat → Prop} (h : BkX w0 w g P) : Calls Tryz.prog 29 #[.pointer (some ⟨g, 0, none⟩)] w fun e w' => e = .returned (.bool true) ∧ Below w0.heap.size w0 w' := by
 obtain ⟨pEntries, qEntries, esEntries, hk, hoEntries⟩ := h
 exact apart_calls w0 w g _ _ _ hk
theorem BkX.keepEntries {w0 w : World} {g : Nat} {P P' : Nat → Prop} (h : BkX w0 w g P) {A : Option Addr} {c : Nat} {xs : List S32} (hv : Rw w 32 4 (.slice A xs.length c) xs.length (encL BkEntries.enc xs)) (hvk : ∀ k, (Value.slice A xs.length c).ownBlock = some k → ¬ P k ∧ P' k ∧ w0.heap.size ≤ k) (hNN : ∀ k, P k → P' k) (hx : xs.length ≤ 1000) :
  Calls Tryz.prog 18 #[.pointer (some ⟨g, 0, none⟩), .slice A xs.length c] w fun e w' => e = .returned (.tuple #[]) ∧ BkX w0 w' g P' ∧ Still [56, 22] w w' ∧ w.heap.size ≤ w'.heap.size ∧ Below w0.heap.size w0 w' := by
 have h0 := h
 obtain ⟨pEntries, qEntries, esEntries, hk, hoEntries⟩ := h0
 by_cases hn : esEntries.length < 250
 ·refine (BkEntries.keep_calls w0 w g (bcells pEntries qEntries) pEntries qEntries esEntries A c xs hk.blk rfl rfl hk.kEntries hk.bel hk.gb hv (fun k e => (hvk k e).2.2) (fun x hx k e e2 => ?_) (Nat.le_trans hx (by decide)) hn).mono ?_
  ·exact (hvk k e2).1 (hoEntries x hx k e)
  ·rintro e w' ⟨rfl, p', q', u, hb, hK, hB, hs, hz, _⟩
   exact ⟨rfl, ⟨p', q', esEntries ++ [⟨.slice A xs.length c, u, xs⟩], ⟨hb, hK, (by rw [List.length_append, List.length_singleton]; omega), mem_snoc_imp hk.lEntries hx, hB, hk.gb⟩, mem_snoc_imp (fun x hx' k e => hNN k (hoEntries x hx' k e)) (fun k e => (hvk k e).2.1)⟩, hs, hz, hB⟩
 ·obtain ⟨Ap, cp, ep⟩ := own_slice hk.kEntries.rp
  refine (BkEntries.keep_full w g (bcells pEntries qEntries) _ Ap esEntries.length cp hk.blk (by rw [← ep]; rfl) hn).mono ?_
  rintro e w' ⟨rfl, rfl⟩
  exact ⟨rfl, h.mono hNN, Still.refl _ _, Nat.le_refl _, hk.bel⟩
end Go.Proofs.YtchgpcgolgcfdaaGreat.BkAEntries
end
section
namespace Go.Proofs.YtchgpcgolgcfdaaGreat.Bt
open Go Go.RowKit Go.Proofs.YtchgpcgolgcfdaaGreat.PNum Go.Proofs.YtchgpcgolgcfdaaGreat.BkW Go.Proofs.YtchgpcgolgcfdaaGreat.BkAEntries Go.Proofs.YtchgpcgolgcfdaaGreat.PuVt Go.Proofs.YtchgpcgolgcfdaaGreat.PuVr Go.Proofs.YtchgpcgolgcfdaaGreat.PuCrc Go.Proofs.YtchgpcgolgcfdaaGreat.PuBk Go.Proofs.YtchgpcgolgcfdaaGreat.PuBq Go.Proofs.YtchgpcgolgcfdaaGreatW.PrintWords Go.Proofs.YtchgpcgolgcfdaaGreatW.PrintLast Go.Proofs.YtchgpcgolgcfdaaGreatW.PrintMore Go.Proofs.YtchgpcgolgcfdaaGreatW.Pu
set_option linter.unusedVariables false
set_option linter.unusedSimpArgs false
abbrev E := S32
abbrev kE := k32
def wfE (e : E) : Prop := e.f0.size ≤ 140737488351232 ∧ e.f3.size ≤ 140737488351232 ∧ (Lit.int .u64 e.f1).wf = true
def markE : E := ⟨⟨#[109, 97, 114, 107]⟩, 0, 0, ⟨#[]⟩⟩
theorem layB_min : ∀ (l : List E) i p, 5 * l.length ≤ (layB i p l).length
 | [], _, _ => by simp [layB]
 | e :: l, i, p => by
  have h1 := layB_min l (i + 1) e.f0
  have n1 := vb_pos (hd i p e)
  have n2 := vb_pos (e.f0.size - hd i p e)
  have n3 := vb_pos e.f1.toNat
  have n4 := vb_pos e.f2.toNat
  have n5 := vb_pos e.f3.size
  rw [layB, List.length_append, List.length_cons]
  unfold pc
  simp only [List.length_append]
  omega
theorem putB_len {l : List E} {b : ByteArray} (h : putB l = (b, 0)) : 6 * l.length + 8 ≤ b.size := by
 have hr := putB_right h
 have h1 := layB_min l 0 ⟨#[]⟩
 have h2 := rst_len l 0 0 ⟨#[]⟩
 unfold putB at h
 rw [if_pos hr] at h
 have h3 : b.size = (blk l).length + 4 := by
  have h4 : strOfNums (blk l ++ be 4 (crc (blk l))) = b := congrArg Prod.fst h
  rw [← h4, S_size, List.length_append, be_len]
 unfold blk at h3
 rw [List.length_append, List.length_append, be_len] at h3
 omega
theorem gB_cases (b : ByteArray) : (gB b).1 = [] ∨ (rightB (gB b).1 = true ∧ 6 * (gB b).1.length + 8 ≤ b.size ∧ (gB b).2 = 0) := by
 by_cases h0 : (opn b).2 = 0
 ·cases hg : gR (opn b).1 with
  | none => left; rw [gB_no h0 hg]
  | some l =>
   by_cases hp : putB l = (b, 0)
   ·right; rw [gB_some h0 hg hp]; exact ⟨putB_right hp, putB_len hp, rfl⟩
   ·left; rw [gB_other h0 hg hp]
 ·left
  unfold gB
  rw [if_neg h0]
theorem gB_len (b : ByteArray) (hb : b.size ≤ 6004) : (gB b).1.length ≤ 1000 := by
 rcases gB_cases b with h | h
 ·rw [h]; simp
 ·omega
theorem RG_pw {l : List E} (h : RG l 0) : l.Pairwise fun x y => PuIkC.ce x y = -1 := by
 rw [List.pairwise_iff_getElem]
 have key : ∀ d i (hi : i + (d + 1) < l.length), PuIkC.ce (l[i]'(by omega)) (l[i + (d + 1)]'hi) = -1 := by
  intro d
  induction d with
  | zero =>
   intro i hi
   exact (h (i + 1) hi (Nat.zero_le _)).2 (by omega)
  | succ d ih =>
   intro i hi
   have h1 := ih i (by omega)
   have h2 := (h (i + (d + 1 + 1)) hi (Nat.zero_le _)).2 (by omega)
   exact PuIkC.ce_trans h1 h2
 intro i j hi hj hij
 obtain ⟨d, rfl⟩ : ∃ d, j = i + (d + 1) := ⟨j - i - 1, by omega⟩
 exact key d i hj
theorem gB_srt (b : ByteArray) : (gB b).1.Pairwise fun x y => PuIkC.ce x y = -1 := by
 rcases gB_cases b with h | h
 ·rw [h]; exact List.Pairwise.nil
 ·exact RG_pw (RG_of h.1)
theorem gB_key (b : ByteArray) : ∀ x ∈ (gB b).1, x.f0.size ≤ 140737488351232 := by
 rcases gB_cases b with h | h
 ·rw [h]; intro x hx; simp at hx
 ·intro x hx
  obtain ⟨j, hj, rfl⟩ := List.getElem_of_mem hx
  have hv := (RG_of h.1 j hj (Nat.zero_le _)).1
  unfold PuIkC.valid at hv
  rw [decide_eq_true_eq] at hv
  omega
theorem dropw {p : E → Bool} : ∀ {l : List E}, l.Pairwise (fun x y => PuIkC.ce x y = -1) → (∀ x y, PuIkC.ce x y = -1 → p y = true → p x = true) → l.filter (fun x => !p x) = l.dropWhile p
 | [], _, _ => rfl
 | x :: r, h, hp => by
  have h2 := List.pairwise_cons.1 h
  by_cases h1 : p x = true
  ·rw [List.filter_cons, if_neg (by simp [h1]), List.dropWhile_cons, if_pos h1]
   exact dropw h2.2 hp
  ·have h1' : p x = false := by simpa using h1
   rw [List.filter_cons, if_pos (by simp [h1']), List.dropWhile_cons, if_neg h1]
   congr 1
   refine List.filter_eq_self.2 (fun y hy => ?_)
   cases h3 : p y with
   | false => rfl
   | true =>
    have := hp x y (h2.1 y hy) h3
    rw [h1'] at this
    cases this
theorem range_from (key : ByteArray) (R : List E) (hS : R.Pairwise (fun x y => PuIkC.ce x y = -1)) : R.filter (PuRef5.inR key ⟨#[]⟩) = R.dropWhile (lt key) := by
 rw [← dropw hS (fun x y h => lt_mono key x y h)]
 refine List.filter_congr (fun x _ => ?_)
 unfold PuRef5.inR
 rw [lt_cb]
 simp
theorem Below.setFar {B : Nat} {a w : World} {g : Nat} (h : Below B a w) (hg : B ≤ g) (i : Nat) (u : Value) : Below B a (w.setCell ⟨g, i, none⟩ u) :=
 ⟨h.os, h.tape, h.output, by simpa [World.setCell] using h.size, fun k hk => (Below.heap_setCell w _ u k (by show k ≠ g; omega)).trans (h.block k hk)⟩
theorem Rw.drop {w : World} {e : TypeId} {sz g o n c : Nat} {cs : List Value} (h : Rw w e sz (.slice (some ⟨g, o, none⟩) n c) n cs) (i : Nat) (hi : i ≤ n) : Rw w e sz (.slice (some ⟨g, o + i * sz, none⟩) (n - i) (c - i)) (n - i) (cs.drop (i * sz)) := by
 obtain ⟨h1, h2⟩ := h
 have hle : i * sz ≤ n * sz := Nat.mul_le_mul_right _ hi
 refine ⟨by rw [List.length_drop, h1, Nat.sub_mul], ?_⟩
 rcases h2 with ⟨h2, _⟩ | ⟨g', o', c', cur, h2, hh, hnc, hcm, hcs, ht⟩
 ·cases h2
 injection h2 with ha _ hc
 injection ha with ha
 injection ha with hg ho
 subst hg; subst ho; subst hc
 have hle2 : i * sz ≤ c * sz := Nat.mul_le_mul_right _ (by omega)
 refine .inr ⟨g, o + i * sz, c - i, cur, rfl, hh, by omega, by omega, by rw [Nat.sub_mul]; omega, ?_⟩
 rw [← ht, Nat.sub_mul, List.drop_take, List.drop_drop]
theorem encL_drop {α : Type} {d : Kd α} {enc : α → List Value} (h : Flat d enc) : ∀ (xs : List α) (i : Nat), (encL enc xs).drop (i * d.sz) = encL enc (xs.drop i)
 | [], i => by simp [encL]
 | x :: r, 0 => by rw [Nat.zero_mul, List.drop_zero, List.drop_zero]
 | x :: r, i + 1 => by
  have e : encL enc (x :: r) = enc x ++ encL enc r := rfl
  rw [e, Nat.succ_mul, Nat.add_comm, ← List.drop_drop, List.drop_left' (h.len x), List.drop_succ_cons, encL_drop h r i]
theorem ecells {w : World} {A : Option Addr} {l : List E} (hC : Kd.C kE w A l.length l) {i : Nat} (hi : i < l.length) : ∃ ad, A = some ad ∧ ∀ V, Below w.heap.size w V → V.cell? (ad.add (i * 4)) = some (.string l[i].f0) ∧ V.cell? ⟨(ad.add (i * 4)).block, (ad.add (i * 4)).off + 1, none⟩ = some (.int .u64 l[i].f1) ∧ V.cell? ⟨(ad.add (i * 4)).block, (ad.add (i * 4)).off + 2, none⟩ = some (.int .i64 l[i].f2) ∧ V.cell? ⟨(ad.add (i * 4)).block, (ad.add (i * 4)).off + 3, none⟩ = some (.string l[i].f3) := by
 obtain ⟨ad, e0, y0, y1, y2, y3⟩ := at_T32 hC (i : Int) (Int.natCast_nonneg _) (Int.ofNat_lt.mpr hi)
 have hx : rd_T32 l (i : Int) = l[i] := by simp [rd_T32, hi]
 rw [hx] at y0 y1 y2 y3
 simp only [Int.toNat_natCast] at y0 y1 y2 y3
 exact ⟨ad, e0, fun V hb => ⟨pw_cell_below hb y0, pw_cell_below hb y1, pw_cell_below hb y2, pw_cell_below hb y3⟩⟩
theorem getE (w : World) (s : ByteArray) (hs : s.size ≤ 10000) (xs : List E) (er : Int) (hg : gB s = (xs, er)) :
  Calls Tryz.prog 77 #[.string s] w fun e w' => ∃ A n c, e = .returned (.tuple #[.slice A n c, .int .i64 er]) ∧ n = xs.length ∧ Rw w' 32 4 (.slice A n c) n (encL BkEntries.enc xs) ∧ (∀ k, (Value.slice A n c).ownBlock = some k → w.heap.size ≤ k) ∧ Below w.heap.size w w' := by
 have h := Get_is s hs
 rw [hg] at h
 obtain ⟨k, hk⟩ := Ev.rounds h
 refine (block_Get.calls k s xs er w hk).mono ?_
 rintro e w' ⟨v, rfl, hR, hB⟩
 obtain ⟨A, c, rfl⟩ := Kd.R_slice hR
 exact ⟨A, _, c, rfl, rfl, BkEntries.flat.of_R hR, fun k hk => Kd.R_base hR k hk, hB⟩
set_option maxHeartbeats 16000000 in
set_option maxRecDepth 100000 in
theorem seekE (w : World) (s key : ByteArray) (hs : s.size ≤ 10000) (xs : List E) (er : Int) (hg : gB s = (xs, er)) :
  Calls Tryz.prog 79 #[.string s, .string key] w fun e w' => ∃ A n c, e = .returned (.tuple #[.slice A n c, .int .i64 er]) ∧ n = (xs.dropWhile (lt key)).length ∧ Rw w' 32 4 (.slice A n c) n (encL BkEntries.enc (xs.dropWhile (lt key))) ∧ (∀ k, (Value.slice A n c).ownBlock = some k → w.heap.size ≤ k) ∧ Below w.heap.size w w' := by
 have HG := a_k hg
 go_enter Tryz.func79, Tryz.ntmps79
 go_wp2_with (first | (go_at_call 77; refine (getE _ s hs xs er HG.out).mono ?_; rintro e w1 ⟨A, n, c, rfl, hn, hx, ho, hb⟩; have HX := a_k hx; have HO := a_k ho; have HB := a_k hb; have HN := a_k hn; clear hx ho hb hn))
 have hC := BkEntries.flat.to_C HX.out HN.out.symm
 rw [HN.out] at hC
 have HC := a_k hC
 have hnm : n ≤ 9223372036854775807 := HX.out.max
 clear hC
 go_loopw [17] (fun v17 w' => ∃ i : Nat, v17 = .int .i64 i ∧ i ≤ n ∧ Aside0 (xs.dropWhile (lt key) = (xs.drop i).dropWhile (lt key)) ∧ Aside0 (Below w1.heap.size w1 w')) (fun v17 _ => n - (intOf v17).toNat)
 case atStart => exact ⟨0, rfl, Nat.zero_le _, ⟨by rw [List.drop_zero]⟩, ⟨Below.refl _ _⟩⟩
 case round =>
  obtain ⟨i, rfl, hi, HD, HBL⟩ := hrel
  by_cases hlt : i < n
  ·have p0 : (0 : Int) ≤ (i : Int) := Int.natCast_nonneg _
   have q0 : (i : Int) < (n : Int) := Int.ofNat_lt.mpr hlt
   have s0 : decide ((i : Int) < (n : Int)) = true := decide_eq_true q0
   have hix : i < xs.length := by rw [← HN.out]; exact hlt
   obtain ⟨ad, e0, hy⟩ := ecells HC.out hix
   obtain ⟨y0, y1, y2, y3⟩ := hy _ HBL.out
   cases e0
   have hdc : xs.drop i = xs[i] :: xs.drop (i + 1) := List.drop_eq_getElem_cons hix
   obtain ⟨x, hx⟩ : ∃ x, x = xs[i] := ⟨_, rfl⟩
   rw [← hx] at y0 y1 y2 y3 hdc
   have HDC := a_k hdc
   clear hx hdc hy hix
   by_cases hl : Op.bytesLess x.f0.toList key.toList = true
   ·go_wp2_with (first | ((with_reducible refine gate_dst (N := 9) rfl ?_); refine box_event ?hg (N := 9) ?hd (cs := #[.string (⟨#[]⟩ : ByteArray), .int .u64 0, .int .i64 0, .string (⟨#[]⟩ : ByteArray)]) (t := 32) ?hr ?_; (case hd => rfl); (case hg => rfl); (case hr => first | (go_simp; done) | (go_simp; rfl)); intro gb hg w10 hbox hb; have n0_ := a_k (below_step HBL.out hb); have n3_ := a_k hbox; have n4_ := a_k ((by rw [hg]; exact HBL.out.size) : w1.heap.size ≤ gb); clear HBL; have HBL := n0_; have BK := n3_; have GE := n4_; clear n0_ n3_ n4_ hb hbox hg; have hcz0 : w10.cell? ⟨gb, 0, none⟩ = some (.string (⟨#[]⟩ : ByteArray)) := (blk_cell BK.out 0).trans rfl; have hcz1 : w10.cell? ⟨gb, 1, none⟩ = some (.int .u64 0) := (blk_cell BK.out 1).trans rfl; have hcz2 : w10.cell? ⟨gb, 2, none⟩ = some (.int .i64 0) := (blk_cell BK.out 2).trans rfl; have hcz3 : w10.cell? ⟨gb, 3, none⟩ = some (.string (⟨#[]⟩ : ByteArray)) := (blk_cell BK.out 3).trans rfl; have hfz0 := blk_frozen BK.out 0; have hfz1 := blk_frozen BK.out 1; have hfz2 := blk_frozen BK.out 2; have hfz3 := blk_frozen BK.out 3))
    go_roundw
    case rel => exact ⟨i + 1, by go_num, by omega, ⟨by rw [HD.out, HDC.out, List.dropWhile_cons, if_pos (show lt key x = true from hl)]⟩, ⟨Below.setFar (Below.setFar (Below.setFar (Below.setFar HBL.out GE.out 0 _) GE.out 1 _) GE.out 2 _) GE.out 3 _⟩⟩
    case measure => simp [intOf]; omega
   ·have hl2 : Op.bytesLess x.f0.toList key.toList = false := by simpa using hl
    have hsl : decide ((i : Int) ≤ (n : Int)) = true := decide_eq_true (by omega)
    have hnc : n ≤ c := by
     obtain ⟨A', c', e', hc'⟩ := HX.out.slice
     injection e' with _ _ e'
     omega
    have hci : (c = i) = False := eq_false (by omega)
    have hci2 : i < c := by omega
    have HL2 := a_k hl
    clear hl
    go_wp2_with (first | ((with_reducible refine gate_dst (N := 9) rfl ?_); refine box_event ?hg (N := 9) ?hd (cs := #[.string (⟨#[]⟩ : ByteArray), .int .u64 0, .int .i64 0, .string (⟨#[]⟩ : ByteArray)]) (t := 32) ?hr ?_; (case hd => rfl); (case hg => rfl); (case hr => first | (go_simp; done) | (go_simp; rfl)); intro gb hg w10 hbox hb; have n0_ := a_k (below_step HBL.out hb); have n3_ := a_k hbox; have n4_ := a_k ((by rw [hg]; exact HBL.out.size) : w1.heap.size ≤ gb); clear HBL; have HBL := n0_; have BK := n3_; have GE := n4_; clear n0_ n3_ n4_ hb hbox hg; have hcz0 : w10.cell? ⟨gb, 0, none⟩ = some (.string (⟨#[]⟩ : ByteArray)) := (blk_cell BK.out 0).trans rfl; have hcz1 : w10.cell? ⟨gb, 1, none⟩ = some (.int .u64 0) := (blk_cell BK.out 1).trans rfl; have hcz2 : w10.cell? ⟨gb, 2, none⟩ = some (.int .i64 0) := (blk_cell BK.out 2).trans rfl; have hcz3 : w10.cell? ⟨gb, 3, none⟩ = some (.string (⟨#[]⟩ : ByteArray)) := (blk_cell BK.out 3).trans rfl; have hfz0 := blk_frozen BK.out 0; have hfz1 := blk_frozen BK.out 1; have hfz2 := blk_frozen BK.out 2; have hfz3 := blk_frozen BK.out 3))
    go_ret2
    obtain ⟨g, o, c', he', _, _, _⟩ := HX.out.form (by omega)
    have had : ad = ⟨g, o, none⟩ := by injection he' with he' _ _; exact Option.some.inj he'
    subst had
    have hw : xs.dropWhile (lt key) = xs.drop i := by rw [HD.out, HDC.out, List.dropWhile_cons, if_neg (show ¬ lt key x = true from HL2.out)]
    have hbx := Below.setFar (Below.setFar (Below.setFar (Below.setFar HBL.out GE.out 0 (.string x.f0)) GE.out 1 (.int .u64 x.f1)) GE.out 2 (.int .i64 x.f2)) GE.out 3 (.string x.f3)
    have hd := Rw.drop (HX.out.below hbx) i (by omega)
    rw [show i * 4 = i * kE.sz from rfl, encL_drop BkEntries.flat] at hd
    rw [hw]
    refine ⟨some ⟨g, o + i * 4, none⟩, n - i, c - i, ?_, by rw [List.length_drop, HN.out], hd, fun k hk => HO.out k (by simpa [Value.ownBlock] using hk), below_step HB.out hbx⟩
    show Ending.returned (.tuple #[.slice (some ((⟨g, o, none⟩ : Addr).add (i * 4))) (n - i) (c - i), .int .i64 er]) = _
    rw [add_at]
  ·obtain rfl : i = n := by omega
   have s0 : decide ((i : Int) < (i : Int)) = false := decide_eq_false (by omega)
   go_wp2_with (fail)
   go_ret2
   have hnil : xs.dropWhile (lt key) = [] := by rw [HD.out, List.drop_of_length_le (by rw [← HN.out]; exact Nat.le_refl _), List.dropWhile_nil]
   rw [hnil]
   exact ⟨none, 0, 0, rfl, rfl, Rw.nil _ _ _, fun k hk => by simp [Value.ownBlock] at hk, below_step HB.out HBL.out⟩
def LE (w : World) (A : Option Addr) (c : Nat) (l : List E) : Prop := l.length + 1 ≤ c ∧ Rw w 32 4 (.slice A (l.length + 1) c) (l.length + 1) (encL BkEntries.enc (l ++ [markE]))
section
variable {w w1 : World} {A : Option Addr} {c : Nat} {l : List E}
theorem LE.below (h : LE w A c l) (hb : Below w.heap.size w w1) : LE w1 A c l := ⟨h.1, h.2.below hb⟩
theorem LE.still {T : List TypeId} (h : LE w A c l) (hs : Still T w w1) (ht : 32 ∉ T) : LE w1 A c l := ⟨h.1, hs.rw_ h.2 ht⟩
theorem LE.cm (h : LE w A c l) : Lent.CM kE markE w A l.length l := by
 refine ⟨BkEntries.flat.to_C h.2 (by simp), ?_⟩
 have h1 := h.2.take (m := l.length) (by omega)
 refine BkEntries.flat.to_C (e := 32) (c := c) ?_ rfl
 have e : (encL BkEntries.enc (l ++ [markE])).take (l.length * 4) = encL BkEntries.enc l := by
  rw [encL_append, List.take_append_of_le_length (by rw [BkEntries.flat.lenL]; exact Nat.le_refl _)]
  exact List.take_of_length_le (by rw [BkEntries.flat.lenL]; exact Nat.le_refl _)
 rw [e] at h1
 exact h1
end
theorem lentE {w : World} {A : Option Addr} {c : Nat} {l : List E} (hC : Kd.C kE w A l.length l) (hc : l.length ≤ c) (hl : l.length ≤ 1000) :
  Calls Tryz.prog 32 #[.slice A l.length c] w fun e w' => ∃ A' c', e = .returned (.slice A' l.length c') ∧ LE w' A' c' l ∧ Below w.heap.size w w' := by
 have hf : cornucopiabook_LentEntries.f l = some l := by
  unfold cornucopiabook_LentEntries.f
  rw [if_pos (by simp; omega), Option.bind_some, if_pos (by simp; omega), Option.bind_some, if_pos (by omega), if_pos (by simp; omega)]
  simp
 refine (cornucopiabook_LentEntries.calls A c l l w hC hc hf).mono ?_
 rintro e w' ⟨v, rfl, ⟨A', c', rfl, hr⟩, hb⟩
 have h2 := (Kd.R_reads' hr).2.1
 have h3 := BkEntries.flat.of_R hr
 rw [List.length_append, List.length_singleton] at h3
 exact ⟨A', c', rfl, ⟨h2, h3⟩, hb⟩
theorem staysE {w : World} {A A0 : Option Addr} {c c0 : Nat} {l : List E} (h : LE w A c l) (hC : Kd.C kE w A0 l.length l) (hc : l.length ≤ c0) (hl : l.length ≤ 1000) :
  Calls Tryz.prog 41 #[.slice A l.length c, .slice A0 l.length c0] w fun e w' => e = .returned (.bool true) ∧ Below w.heap.size w w' := by
 have hf : cornucopiabook_StaysEntries.f (l.length + 1) l l = some true := by
  unfold cornucopiabook_StaysEntries.f
  rw [if_pos (by omega)]
  exact BkEntries.same_ev l (by omega) (Nat.lt_succ_self _)
 exact (cornucopiabook_StaysEntries.calls (l.length + 1) A c l A0 c0 l true w h.cm h.1 hC hc hf).mono (fun e w' h => ⟨h.1, h.2.below⟩)
theorem putE {w : World} {A : Option Addr} {c : Nat} {l : List E} (h : LE w A c l) (hl : l.length ≤ 1000) (hu : u64s_ l) (px : ByteArray) (pr : Int) (hp : putB l = (px, pr)) :
  Calls Tryz.prog 75 #[.slice A l.length c] w fun e w' => e = .returned (.tuple #[.string px, .int .i64 pr]) ∧ Below w.heap.size w w' := by
 have hp2 := Put_is l (by omega) hu
 rw [hp] at hp2
 obtain ⟨k, hk⟩ := Ev.rounds hp2
 exact block_Put.calls k A c l px pr w h.cm.2 (by have := h.1; omega) hk
theorem rputE {w : World} {A : Option Addr} {c : Nat} {l : List E} (hr : Kd.C kE w A l.length l) (hc : l.length ≤ c) (hl : l.length ≤ 1000) (hu : u64s_ l) (hs : ∀ e ∈ l, e.f0.size ≤ 140737488351232) (px : ByteArray) (pr : Int) (hp : putB l = (px, pr)) :
  Calls Tryz.prog 76 #[.slice A l.length c] w fun e w' => e = .returned (.tuple #[.string px, .int .i64 pr]) ∧ Below w.heap.size w w' := by
 have h := Pb.putblock_calls A c l w hr hc (by omega) hu hs
 rw [hp] at h
 exact h
theorem rgetE (w : World) (s : ByteArray) (hs : s.size ≤ 10000) (xs : List E) (er : Int) (hg : gB s = (xs, er)) :
  Calls Tryz.prog 78 #[.string s] w fun e w' => ∃ A n c, e = .returned (.tuple #[.slice A n c, .int .i64 er]) ∧ n = xs.length ∧ Rw w' 32 4 (.slice A n c) n (encL BkEntries.enc xs) ∧ Below w.heap.size w w' := by
 have h := Gb.getblock_calls s w hs
 rw [hg] at h
 refine h.mono ?_
 rintro e w' ⟨A, c, rfl, hR, hB⟩
 exact ⟨A, _, c, rfl, rfl, hR, hB⟩
theorem keepE {w0 w : World} {g : Nat} {P P' : Nat → Prop} (h : BkX w0 w g P) {A : Option Addr} {n c : Nat} {xs : List E} (hn : n = xs.length) (hv : Rw w 32 4 (.slice A n c) n (encL BkEntries.enc xs)) (hvk : ∀ k, (Value.slice A n c).ownBlock = some k → ¬ P k ∧ P' k ∧ w0.heap.size ≤ k) (hNN : ∀ k, P k → P' k) (hx : xs.length ≤ 1000) :
  Calls Tryz.prog 18 #[.pointer (some ⟨g, 0, none⟩), .slice A n c] w fun e w' => e = .returned (.tuple #[]) ∧ BkX w0 w' g P' ∧ Still [56, 22] w w' ∧ w.heap.size ≤ w'.heap.size ∧ Below w0.heap.size w0 w' := by
 subst hn
 exact h.keepEntries hv hvk hNN hx
theorem sameE {w : World} {A A' : Option Addr} {n c n' c' : Nat} {xs : List E} (hn : n = xs.length) (hn' : n' = xs.length) (h1 : Rw w 32 4 (.slice A n c) n (encL BkEntries.enc xs)) (h2 : Rw w 32 4 (.slice A' n' c') n' (encL BkEntries.enc xs)) (hx : xs.length ≤ 1000000) :
  Calls Tryz.prog 19 #[.slice A n c, .slice A' n' c'] w fun e w' => e = .returned (.bool true) ∧ Below w.heap.size w w' := by
 subst hn
 subst hn'
 obtain ⟨_, _, e1, g1⟩ := h1.slice
 obtain ⟨_, _, e2, g2⟩ := h2.slice
 injection e1 with _ _ e1
 injection e2 with _ _ e2
 exact (cornucopiabook_SameEntries.calls (xs.length + 1) A c xs A' c' xs true w (BkEntries.flat.to_C h1 rfl) (by omega) (BkEntries.flat.to_C h2 rfl) (by omega) (BkEntries.same_ev xs hx (Nat.lt_succ_self _))).mono (fun e w' h => ⟨h.1, h.2.below⟩)
theorem rangeE {w : World} {A : Option Addr} {n c : Nat} {xs : List E} (key : ByteArray) (hn : n = xs.length) (h1 : Rw w 32 4 (.slice A n c) n (encL BkEntries.enc xs)) (hx : xs.length ≤ 1000000) (hs : ∀ x ∈ xs, x.f0.size ≤ 140737488351232) (hk : key.size ≤ 140737488351232) (hS : xs.Pairwise (fun x y => PuIkC.ce x y = -1)) (us : List E) (hus : us = xs.dropWhile (lt key)) :
  Calls Tryz.prog 20 #[.slice A n c, .string key, .string ⟨#[]⟩] w fun e w' => ∃ A' n' c', e = .returned (.slice A' n' c') ∧ n' = us.length ∧ Rw w' 32 4 (.slice A' n' c') n' (encL BkEntries.enc us) ∧ Below w.heap.size w w' := by
 subst hn hus
 obtain ⟨_, _, e1, g1⟩ := h1.slice
 injection e1 with _ _ e1
 obtain ⟨k, hk2⟩ := PuRef5.Range_ev xs key ⟨#[]⟩ hs hk (by decide) hx
 refine (cornucopiaref5_Range.calls k A c xs key ⟨#[]⟩ _ w (BkEntries.flat.to_C h1 rfl) (by omega) (hk2 k (Nat.le_refl _))).mono ?_
 rintro e w' ⟨v, rfl, hr, hb⟩
 rw [range_from key xs hS] at hr
 obtain ⟨A', c', rfl⟩ := Kd.R_slice hr
 exact ⟨A', _, c', rfl, rfl, BkEntries.flat.of_R hr, hb⟩
theorem small_c {w : World} {A : Option Addr} {c : Nat} {l : List E} (hr : Kd.C kE w A l.length l) (hc : l.length ≤ c) (b : Bool) (hb : Ev (fun k => cornucopialaw5_Small.f k l) b) :
  Calls Tryz.prog 9 #[.slice A l.length c] w fun e w' => e = .returned (.bool b) ∧ Below w.heap.size w w' := by
 obtain ⟨k, hk⟩ := Ev.rounds hb
 exact cornucopialaw5_Small.calls k A c l b w hr hc hk
theorem seal_c (w : World) (b : ByteArray) (hb : b.size ≤ 140737488355328) (z : ByteArray) (hz : z = b ++ strOfNums (be 4 (crc (bytesOf b)))) : Calls Tryz.prog 74 #[.string b] w fun e w' => e = .returned (.string z) ∧ Below w.heap.size w w' := by
 subst hz
 obtain ⟨k, hk⟩ := Ev.rounds (RSeal_eq b hb)
 exact cornucopiaref1_Seal.calls k _ _ w hk
theorem shared_c (w : World) (a b : ByteArray) (m : Int) (ha : a.size ≤ 9223372036854775806) (hm : m = ((sh (bytesOf a) (bytesOf b) : Nat) : Int)) : Calls Tryz.prog 80 #[.string a, .string b] w fun e w' => e = .returned (.int .i64 m) ∧ Below w.heap.size w w' := by
 subst hm
 obtain ⟨k, hk⟩ := Ev.rounds (Shared_ev a b ha)
 exact (block_Shared.calls k a b _ w hk).mono (fun e w' h => ⟨h.1, h.2.below⟩)
theorem rshared_c (w : World) (a b : ByteArray) (m : Int) (ha : a.size ≤ 9223372036854775806) (hm : m = ((sh (bytesOf a) (bytesOf b) : Nat) : Int)) : Calls Tryz.prog 81 #[.string a, .string b] w fun e w' => e = .returned (.int .i64 m) ∧ Below w.heap.size w w' := by
 subst hm
 obtain ⟨k, hk⟩ := Ev.rounds (RShared_ev a b ha)
 exact (cornucopiaref5_Shared.calls k a b _ w hk).mono (fun e w' h => ⟨h.1, h.2.below⟩)
end Go.Proofs.YtchgpcgolgcfdaaGreat.Bt
end
section
namespace Go.Proofs.YtchgpcgolgcfdaaGreat.Bt
open Go Go.RowKit Go.Proofs.YtchgpcgolgcfdaaGreat.PNum Go.Proofs.YtchgpcgolgcfdaaGreat.BkW Go.Proofs.YtchgpcgolgcfdaaGreat.BkAEntries Go.Proofs.YtchgpcgolgcfdaaGreat.PuVt Go.Proofs.YtchgpcgolgcfdaaGreat.PuVr Go.Proofs.YtchgpcgolgcfdaaGreat.PuCrc Go.Proofs.YtchgpcgolgcfdaaGreat.PuBk Go.Proofs.YtchgpcgolgcfdaaGreat.PuBq Go.Proofs.YtchgpcgolgcfdaaGreatW.PrintWords Go.Proofs.YtchgpcgolgcfdaaGreatW.PrintLast Go.Proofs.YtchgpcgolgcfdaaGreatW.PrintMore Go.Proofs.YtchgpcgolgcfdaaGreatW.Pu
set_option linter.unusedVariables false
set_option linter.unusedSimpArgs false
set_option maxRecDepth 100000
set_option maxHeartbeats 16000000
def bnd : List E → Nat
 | [] => 0
 | e :: l => 50 + e.f0.size + e.f3.size + bnd l
theorem layB_b : ∀ (l : List E) i p, (∀ e ∈ l, Ok e) → (layB i p l).length ≤ bnd l
 | [], _, _, _ => by simp [layB, bnd]
 | e :: l, i, p, h => by
  have ho := h e List.mem_cons_self
  have h2 := layB_b l (i + 1) e.f0 (fun x hx => h x (List.mem_cons_of_mem _ hx))
  have hh := hd_le i p e
  have n1 := vb_len10 (n := hd i p e) (by have := ho.key; omega)
  have n2 := vb_len10 (n := e.f0.size - hd i p e) (by have := ho.key; omega)
  have n3 := vb_len10 (n := e.f1.toNat) (by have := ho.seq; omega)
  have n4 := vb_len10 (n := e.f2.toNat) (by rcases ho.kind with q | q <;> rw [q] <;> decide)
  have n5 := vb_len10 (n := e.f3.size) (by have := ho.val; omega)
  have n6 : (bytesOf e.f0).length = e.f0.size := bytesOf_length _
  have n7 : (bytesOf e.f3).length = e.f3.size := bytesOf_length _
  rw [layB, List.length_append, bnd]
  unfold pc
  simp only [List.length_append, List.length_drop]
  omega
theorem L3_u : u64s_ L3 := fun e he => (L3_ok e he).seq
theorem L3_rg : rightB L3 = true := ev_uniq (Right_is L3 (by decide)) (ev_at (block_Right.mono _) 20 L3_right)
theorem L3_put : ∃ s : ByteArray, s.size ≤ 6004 ∧ putB L3 = (s, 0) ∧ gB s = (L3, 0) := by
 have hb := layB_b L3 0 ⟨#[]⟩ L3_ok
 have hr := rst_len L3 0 0 ⟨#[]⟩
 have hp : putB L3 = (strOfNums (blk L3 ++ be 4 (crc (blk L3))), 0) := by unfold putB; rw [if_pos L3_rg]
 have hz : (strOfNums (blk L3 ++ be 4 (crc (blk L3)))).size ≤ 6004 := by
  rw [S_size, List.length_append, be_len]
  unfold blk
  rw [List.length_append, List.length_append, be_len]
  have h1 : bnd L3 = 153 := rfl
  have h2 : L3.length = 3 := rfl
  omega
 refine ⟨_, hz, hp, ?_⟩
 have h1 := Get_put (l := L3) (by decide) L3_u L3_rg
 rw [hp] at h1
 exact ev_uniq (Get_is _ (by omega)) h1
theorem put3 {w : World} {A : Option Addr} {c : Nat} {l : List E} (hC : Kd.C kE w A l.length l) (hc : l.length ≤ c) (hl : l.length ≤ 1000) (hu : u64s_ l) (px : ByteArray) (pr : Int) (hp : putB l = (px, pr)) :
  Calls Tryz.prog 75 #[.slice A l.length c] w fun e w' => e = .returned (.tuple #[.string px, .int .i64 pr]) ∧ Below w.heap.size w w' := by
 have hp2 := Put_is l (by omega) hu
 rw [hp] at hp2
 obtain ⟨k, hk⟩ := Ev.rounds hp2
 exact block_Put.calls k A c l px pr w hC hc hk
abbrev c3 : Array Value := #[.string ⟨#[97]⟩, .int .u64 2, .int .i64 1, .string ⟨#[]⟩, .string ⟨#[97]⟩, .int .u64 1, .int .i64 1, .string ⟨#[]⟩, .string ⟨#[98]⟩, .int .u64 1, .int .i64 2, .string ⟨#[]⟩]
theorem shared3 (w : World) : Calls Tryz.prog 80 #[.string ⟨#[97, 98, 99]⟩, .string ⟨#[97, 98, 100]⟩] w fun e w' => e = .returned (.int .i64 2) ∧ Below w.heap.size w w' := (block_Shared.calls 10 _ _ 2 w L3_shared).mono (fun e w' h => ⟨h.1, h.2.below⟩)
theorem eqE (V : World) (e : E) : (binOp BinOp.eql 32 (.agg #[.string (e).f0, .int .u64 (e).f1, .int .i64 (e).f2, .string (e).f3]) (.agg #[.string (e).f0, .int .u64 (e).f1, .int .i64 (e).f2, .string (e).f3])).run Tryz.prog V = .ok (.bool true) V := by
 go_simp
def Js (w V : World) (gl : Nat) (Ax : Option Addr) (nx cx gu ou cu : Nat) : Prop := Rw V 32 4 (.slice Ax nx cx) nx (encL BkEntries.enc L3) ∧ Rw V 32 4 (.slice (some ⟨gl, 0, none⟩) 3 3) 3 (encL BkEntries.enc L3) ∧ Rw V 32 4 (.slice (some ⟨gu, ou, none⟩) 1 cu) 1 (encL BkEntries.enc [(⟨⟨#[98]⟩, 1, 2, ⟨#[]⟩⟩ : E)]) ∧ Below w.heap.size w V
theorem Js.below {w V V1 : World} {gl : Nat} {Ax : Option Addr} {nx cx gu ou cu : Nat} (h : Js w V gl Ax nx cx gu ou cu) (hb : Below V.heap.size V V1) : Js w V1 gl Ax nx cx gu ou cu := ⟨h.1.below hb, h.2.1.below hb, h.2.2.1.below hb, below_step h.2.2.2 hb⟩
theorem Js.out {w V : World} {gl : Nat} {Ax : Option Addr} {nx cx gu ou cu : Nat} (h : Js w V gl Ax nx cx gu ou cu) : V.cell? ⟨gu, ou, none⟩ = some (.string ⟨#[98]⟩) ∧ V.cell? ⟨gu, ou + 1, none⟩ = some (.int .u64 1) ∧ V.cell? ⟨gu, ou + 2, none⟩ = some (.int .i64 2) ∧ V.cell? ⟨gu, ou + 3, none⟩ = some (.string ⟨#[]⟩) ∧ V.cell? ⟨gl, 8, none⟩ = some (.string ⟨#[98]⟩) ∧ V.cell? ⟨gl, 9, none⟩ = some (.int .u64 1) ∧ V.cell? ⟨gl, 10, none⟩ = some (.int .i64 2) ∧ V.cell? ⟨gl, 11, none⟩ = some (.string ⟨#[]⟩) ∧ Aside0 (Js w V gl Ax nx cx gu ou cu) := by
 obtain ⟨g1, o1, c1, e1, _, _, h1⟩ := h.2.2.1.form (by decide)
 obtain ⟨g2, o2, c2, e2, _, _, h2⟩ := h.2.1.form (by decide)
 injection e1 with e1 _ _
 injection e1 with e1
 injection e1 with e11 e12
 subst e11; subst e12
 injection e2 with e2 _ _
 injection e2 with e2
 injection e2 with e21 e22
 subst e21; subst e22
 exact ⟨h1 0 _ rfl, h1 1 _ rfl, h1 2 _ rfl, h1 3 _ rfl, h2 8 _ rfl, h2 9 _ rfl, h2 10 _ rfl, h2 11 _ rfl, ⟨h⟩⟩
theorem same3 {w V : World} {gl : Nat} {Ax : Option Addr} {nx cx gu ou cu : Nat} (hn : nx = L3.length) (h : Aside0 (Js w V gl Ax nx cx gu ou cu)) : Calls Tryz.prog 19 #[.slice Ax nx cx, .slice (some ⟨gl, 0, none⟩) 3 3] V fun e w' => e = .returned (.bool true) ∧ Below V.heap.size V w' := sameE hn rfl h.out.1 h.out.2.1 (by decide)
theorem same4 {w V : World} {gl : Nat} {Ax : Option Addr} {nx cx gu ou cu : Nat} (hn : nx = L3.length) (h : V.cell? ⟨gu, ou, none⟩ = some (.string ⟨#[98]⟩) ∧ V.cell? ⟨gu, ou + 1, none⟩ = some (.int .u64 1) ∧ V.cell? ⟨gu, ou + 2, none⟩ = some (.int .i64 2) ∧ V.cell? ⟨gu, ou + 3, none⟩ = some (.string ⟨#[]⟩) ∧ V.cell? ⟨gl, 8, none⟩ = some (.string ⟨#[98]⟩) ∧ V.cell? ⟨gl, 9, none⟩ = some (.int .u64 1) ∧ V.cell? ⟨gl, 10, none⟩ = some (.int .i64 2) ∧ V.cell? ⟨gl, 11, none⟩ = some (.string ⟨#[]⟩) ∧ Aside0 (Js w V gl Ax nx cx gu ou cu)) : Calls Tryz.prog 19 #[.slice Ax nx cx, .slice (some ⟨gl, 0, none⟩) 3 3] V fun e w' => e = .returned (.bool true) ∧ Below V.heap.size V w' := same3 hn h.2.2.2.2.2.2.2.2
theorem Js.stepB {w V V1 : World} {gl : Nat} {Ax : Option Addr} {nx cx gu ou cu : Nat} (hb : Below V.heap.size V V1) (h : V.cell? ⟨gu, ou, none⟩ = some (.string ⟨#[98]⟩) ∧ V.cell? ⟨gu, ou + 1, none⟩ = some (.int .u64 1) ∧ V.cell? ⟨gu, ou + 2, none⟩ = some (.int .i64 2) ∧ V.cell? ⟨gu, ou + 3, none⟩ = some (.string ⟨#[]⟩) ∧ V.cell? ⟨gl, 8, none⟩ = some (.string ⟨#[98]⟩) ∧ V.cell? ⟨gl, 9, none⟩ = some (.int .u64 1) ∧ V.cell? ⟨gl, 10, none⟩ = some (.int .i64 2) ∧ V.cell? ⟨gl, 11, none⟩ = some (.string ⟨#[]⟩) ∧ Aside0 (Js w V gl Ax nx cx gu ou cu)) : V1.cell? ⟨gu, ou, none⟩ = some (.string ⟨#[98]⟩) ∧ V1.cell? ⟨gu, ou + 1, none⟩ = some (.int .u64 1) ∧ V1.cell? ⟨gu, ou + 2, none⟩ = some (.int .i64 2) ∧ V1.cell? ⟨gu, ou + 3, none⟩ = some (.string ⟨#[]⟩) ∧ V1.cell? ⟨gl, 8, none⟩ = some (.string ⟨#[98]⟩) ∧ V1.cell? ⟨gl, 9, none⟩ = some (.int .u64 1) ∧ V1.cell? ⟨gl, 10, none⟩ = some (.int .i64 2) ∧ V1.cell? ⟨gl, 11, none⟩ = some (.string ⟨#[]⟩) ∧ Aside0 (Js w V1 gl Ax nx cx gu ou cu) := (h.2.2.2.2.2.2.2.2.out.below hb).out
theorem Js.stepD {w V V1 : World} {gl : Nat} {Ax : Option Addr} {nx cx gu ou cu : Nat} (h : Js w V gl Ax nx cx gu ou cu) (hb : Below V.drew.heap.size V.drew V1) : V1.cell? ⟨gu, ou, none⟩ = some (.string ⟨#[98]⟩) ∧ V1.cell? ⟨gu, ou + 1, none⟩ = some (.int .u64 1) ∧ V1.cell? ⟨gu, ou + 2, none⟩ = some (.int .i64 2) ∧ V1.cell? ⟨gu, ou + 3, none⟩ = some (.string ⟨#[]⟩) ∧ V1.cell? ⟨gl, 8, none⟩ = some (.string ⟨#[98]⟩) ∧ V1.cell? ⟨gl, 9, none⟩ = some (.int .u64 1) ∧ V1.cell? ⟨gl, 10, none⟩ = some (.int .i64 2) ∧ V1.cell? ⟨gl, 11, none⟩ = some (.string ⟨#[]⟩) ∧ Aside0 (Js w V1 gl Ax nx cx gu ou cu) := ((h.below (below_drew (Below.refl _ _))).below hb).out
theorem alive_w (w : World) : Calls Tryz.prog 73 #[] w fun e w' => e = .returned (.bool true) ∧ Below w.heap.size w w' := by
 obtain ⟨s, hs, hp, hg⟩ := L3_put
 have HP := a_k hp
 have HG := a_k hg
 have HZ : Aside0 (s.size ≤ 10000) := ⟨by omega⟩
 have hrow : Rw (w.alloc (.cells c3 32)) 32 4 (.slice (some ⟨w.heap.size, 0, none⟩) 3 3) 3 (encL BkEntries.enc L3) := ⟨rfl, .inr ⟨w.heap.size, 0, 3, c3, rfl, blk_new w _, Nat.le_refl _, by decide, by decide, rfl⟩⟩
 have HL := a_k hrow
 have HB := a_k (below_alloc (Below.refl w.heap.size w) (.cells c3 32))
 clear hs hp hg hrow
 go_enter Tryz.func73, Tryz.ntmps73
 go_wp2_with (first
  | (go_at_call 75; refine (put3 (A := some ⟨w.heap.size, 0, none⟩) (c := 3) (l := L3) (BkEntries.flat.to_C HL.out rfl) (Nat.le_refl _) (by decide) L3_u s 0 HP.out).mono ?_; rintro e w1 ⟨rfl, hb⟩; have m0_ := a_k (HL.out.below hb); clear HL; have HL := m0_; have m1_ := a_k (below_step HB.out hb); clear HB; have HB := m1_; clear m0_ m1_ hb)
  | (go_at_call 77; refine (getE _ s HZ.out L3 0 HG.out).mono ?_; rintro e w2 ⟨Ax, nx, cx, rfl, hn, hx, ho, hb⟩; have HX := a_k hx; have HXN := a_k hn; have m0_ := a_k (HL.out.below hb); clear HL; have HL := m0_; have m1_ := a_k (below_step HB.out hb); clear HB; have HB := m1_; clear m0_ m1_ hb hx hn ho)
  | (go_at_call 79; refine (seekE _ s ⟨#[98]⟩ HZ.out L3 0 HG.out).mono ?_; rintro e w3 ⟨Au, nu, cu, rfl, hn, hu, ho, hb⟩; rw [L3_seek] at hn hu; have HUU := a_k hu; obtain rfl : nu = 1 := hn; have m2_ := a_k (HX.out.below hb); clear HX; have HX := m2_; have m0_ := a_k (HL.out.below hb); clear HL; have HL := m0_; have m1_ := a_k (below_step HB.out hb); clear HB; have HB := m1_; clear m0_ m1_ m2_ hb hu ho))
 obtain ⟨gu, ou, cu', eu, _, _, _⟩ := HUU.out.form (by decide)
 injection eu with eu _ eu2
 subst eu
 subst eu2
 have HJ : Aside0 (Js w w3 w.heap.size Ax nx cx gu ou cu) := ⟨⟨HX.out, HL.out, HUU.out, HB.out⟩⟩
 clear HX HL HUU HB
 generalize w.heap.size = gl at *
 have HEQ := fun V => eqE V ⟨⟨#[98]⟩, 1, 2, ⟨#[]⟩⟩
 go_region_held3 (fun V => V.cell? ⟨gu, ou, none⟩ = some (.string ⟨#[98]⟩) ∧ V.cell? ⟨gu, ou + 1, none⟩ = some (.int .u64 1) ∧ V.cell? ⟨gu, ou + 2, none⟩ = some (.int .i64 2) ∧ V.cell? ⟨gu, ou + 3, none⟩ = some (.string ⟨#[]⟩) ∧ V.cell? ⟨gl, 8, none⟩ = some (.string ⟨#[98]⟩) ∧ V.cell? ⟨gl, 9, none⟩ = some (.int .u64 1) ∧ V.cell? ⟨gl, 10, none⟩ = some (.int .i64 2) ∧ V.cell? ⟨gl, 11, none⟩ = some (.string ⟨#[]⟩) ∧ Aside0 (Js w V gl Ax nx cx gu ou cu)) (first | exact Js.out HJ.out | exact Js.out (Js.below HJ.out (below_drew (Below.refl _ _))) | exact Js.stepD HJ.out hb | exact Js.stepB hb (by assumption)) (first | (go_at_call 80; refine (shared3 _).mono ?_; rintro e w4 ⟨rfl, hb⟩) | (go_at_call 19; refine (same4 HXN.out (by assumption)).mono ?_; rintro e w5 ⟨rfl, hb⟩))
 rename_i hH
 have HB3 := a_k hH.2.2.2.2.2.2.2.2.out.2.2.2
 clear hH
 go_wp2_with (fail)
 go_ret
 exact ⟨rfl, HB3.out⟩
end Go.Proofs.YtchgpcgolgcfdaaGreat.Bt
end
