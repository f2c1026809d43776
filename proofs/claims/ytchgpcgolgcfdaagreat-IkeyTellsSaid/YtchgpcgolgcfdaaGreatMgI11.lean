/- Texts of this claim, put together and cut down to what is used (I11). -/
import Derived.Test.YtchgpcgolgcfdaaGreatMgI10
section
namespace Go.Proofs.YtchgpcgolgcfdaaGreat.IkT
open Go Go.RowKit Go.Proofs.YtchgpcgolgcfdaaGreat.PNum Go.Proofs.YtchgpcgolgcfdaaGreat.BkW Go.Proofs.YtchgpcgolgcfdaaGreat.BkAEntries Go.Proofs.YtchgpcgolgcfdaaGreatW.PrintWords Go.Proofs.YtchgpcgolgcfdaaGreatW.PrintLast Go.Proofs.YtchgpcgolgcfdaaGreatW.PrintMore Go.Proofs.YtchgpcgolgcfdaaGreatW.Pu
set_option linter.unusedVariables false
set_option linter.unusedSimpArgs false
theorem ecells2 {w : World} {A : Option Addr} {l : List E} (hC : Kd.C kE w A l.length l) {i : Nat} (hi : i < l.length) : ∃ ad, A = some ad ∧ (∀ V, Below w.heap.size w V → V.cell? (ad.add (i * 4)) = some (.string l[i].f0) ∧ V.cell? ⟨(ad.add (i * 4)).block, (ad.add (i * 4)).off + 1, none⟩ = some (.int .u64 l[i].f1) ∧ V.cell? ⟨(ad.add (i * 4)).block, (ad.add (i * 4)).off + 2, none⟩ = some (.int .i64 l[i].f2) ∧ V.cell? ⟨(ad.add (i * 4)).block, (ad.add (i * 4)).off + 3, none⟩ = some (.string l[i].f3)) ∧
  ∀ V, Below w.heap.size w V → V.cell? ad = some (.string (l[0]'(by omega)).f0) ∧ V.cell? ⟨ad.block, ad.off + 1, none⟩ = some (.int .u64 (l[0]'(by omega)).f1) ∧ V.cell? ⟨ad.block, ad.off + 2, none⟩ = some (.int .i64 (l[0]'(by omega)).f2) ∧ V.cell? ⟨ad.block, ad.off + 3, none⟩ = some (.string (l[0]'(by omega)).f3) := by
 obtain ⟨ad, e0, h1⟩ := ecells hC hi
 obtain ⟨ad2, e2, h2⟩ := ecells hC (i := 0) (by omega)
 rw [e0] at e2
 obtain rfl := Option.some.inj e2
 have h3 : ad.add (0 * 4) = ad := by simp [Addr.add]
 rw [h3] at h2
 exact ⟨ad, e0, h1, h2⟩
theorem neqV (V : World) (v0 : ByteArray) (v1 v2 : Int) (v3 : ByteArray) : (binOp BinOp.neq 32 (.agg #[.string v0, .int .u64 v1, .int .i64 v2, .string v3]) (.agg #[.string v0, .int .u64 v1, .int .i64 v2, .string v3])).run Tryz.prog V = .ok (.bool false) V := by
 go_simp
theorem keepE {w0 w : World} {g : Nat} {P P' : Nat → Prop} (h : BkX w0 w g P) {A : Option Addr} {n c : Nat} {xs : List E} (hn : n = xs.length) (hv : Rw w 32 4 (.slice A n c) n (encL BkEntries.enc xs)) (hvk : ∀ k, (Value.slice A n c).ownBlock = some k → ¬ P k ∧ P' k ∧ w0.heap.size ≤ k) (hNN : ∀ k, P k → P' k) (hx : xs.length ≤ 1000) :
  Calls Tryz.prog 18 #[.pointer (some ⟨g, 0, none⟩), .slice A n c] w fun e w' => e = .returned (.tuple #[]) ∧ BkX w0 w' g P' ∧ Still [56, 22] w w' ∧ w.heap.size ≤ w'.heap.size ∧ Below w0.heap.size w0 w' := by
 subst hn
 exact h.keepEntries hv hvk hNN hx
theorem sameE {w : World} {A A' : Option Addr} {n c n' c' : Nat} {xs : List E} (hn : n = xs.length) (hn' : n' = xs.length) (h1 : Rw w 32 4 (.slice A n c) n (encL BkEntries.enc xs)) (h2 : Rw w 32 4 (.slice A' n' c') n' (encL BkEntries.enc xs)) (hx : xs.length ≤ 1000000) :
  Calls Tryz.prog 19 #[.slice A n c, .slice A' n' c'] w fun e w' => e = .returned (.bool true) ∧ Below w.heap.size w w' := by
 subst hn
 subst hn'
 obtain ⟨_, _, e1, g1⟩ := h1.slice
 obtain ⟨_, _, e2, g2⟩ := h2.slice
 injection e1 with _ _ e1
 injection e2 with _ _ e2
 exact (cornucopiabook_SameEntries.calls (xs.length + 1) A c xs A' c' xs true w (BkEntries.flat.to_C h1 rfl) (by omega) (BkEntries.flat.to_C h2 rfl) (by omega) (BkEntries.same_ev xs hx (Nat.lt_succ_self _))).mono (fun e w' h => ⟨h.1, h.2.below⟩)
theorem shadowE {w : World} {A A4 : Option Addr} {c c4 : Nat} {l : List E} {p : List Int} (hm : LE w A c l) (hp : LN w A4 c4 p) (ho : l.Pairwise PuShadow.Rl) (h1 : l.length < 1000000) (h2 : p.length < 1000000) (h3 : ∀ x ∈ p, (Lit.int .u64 x).wf = true) (ks : List E) (hk : ks = PuShadow.kp p none l) :
  Calls Tryz.prog 55 #[.slice A l.length c, .slice A4 p.length c4] w fun e w' => ∃ A' n' c', e = .returned (.slice A' n' c') ∧ n' = ks.length ∧ Rw w' 32 4 (.slice A' n' c') n' (encL BkEntries.enc ks) ∧ (∀ k, (Value.slice A' n' c').ownBlock = some k → w.heap.size ≤ k) ∧ Below w.heap.size w w' := by
 subst hk
 refine (ikey_Shadow.calls A c l A4 c4 p _ w hm.cm.2 (by have := hm.1; omega) hp.cm.2 (by have := hp.1; omega) (PuShadow.Shadow_eq p l ho h1 h2 h3)).mono ?_
 rintro e w' ⟨v, rfl, hr, hb⟩
 obtain ⟨A', c', rfl⟩ := Kd.R_slice hr
 exact ⟨A', _, c', rfl, rfl, BkEntries.flat.of_R hr, fun k hk => Kd.R_base hr k hk, hb⟩
theorem rshadowE {w : World} {A A4 : Option Addr} {c c4 : Nat} {l : List E} {p : List Int} (hm : Kd.C kE w A l.length l) (hc : l.length ≤ c) (hp : Kd.C (Kd.int .u64) w A4 p.length p) (hc4 : p.length ≤ c4) (h1 : l.length ≤ 1000000) (h2 : p.length ≤ 1000000) (ks : List E) (hk : ks = PuShadow.kp p none l) :
  Calls Tryz.prog 56 #[.slice A l.length c, .slice A4 p.length c4] w fun e w' => ∃ A' n' c', e = .returned (.slice A' n' c') ∧ n' = ks.length ∧ Rw w' 32 4 (.slice A' n' c') n' (encL BkEntries.enc ks) ∧ Below w.heap.size w w' := by
 subst hk
 obtain ⟨k, hk⟩ := PuIkT.RShadow_ev l p h2 h1
 refine (cornucopiaref5_Shadow.calls k A c l A4 c4 p _ w hm hc hp hc4 (hk k (Nat.le_refl _))).mono ?_
 rintro e w' ⟨v, rfl, hr, hb⟩
 obtain ⟨A', c', rfl⟩ := Kd.R_slice hr
 exact ⟨A', _, c', rfl, rfl, BkEntries.flat.of_R hr, hb⟩
structure Ir (w w1 : World) (gk : Nat) (Am : Option Addr) (cm : Nat) (l : List E) (Ap : Option Addr) (cp : Nat) (p : List Int) : Prop where
 bk : BkX w w1 gk (fun k => k < w1.heap.size)
 m : LE w1 Am cm l
 p : LN w1 Ap cp p
 bel : Below w.heap.size w w1
def R21.T : Bool × List (List Nat × List Nat) := (true, [([], []), ([0], [0]), ([], []), ([2, 1], [2]), ([1, 3], [1, 3]), ([4, 3], [4]), ([5], [5]), ([6, 5, 5], [5, 6]), ([5], [5]), ([8, 5], [5, 8]), ([9, 5], [5, 9]), ([10, 5], [5, 10]), ([7, 11, 5], [5, 7, 11]), ([5, 12], [5, 12]), ([13, 7], [13]), ([14], [14]), ([15, 14, 14], [14, 15]), ([14], [14]), ([17, 14], [14, 17]), ([18, 14], [14, 18]), ([19, 14], [14, 19]), ([20, 14], [14, 20]), ([16, 21, 14], [14, 16, 21]), ([14, 22], [14, 22])])
def R21.B : List Nat := [0, 1, 0, 7, 15, 31, 63, 127, 63, 319, 831, 1855, 4095, 8191, 16383, 32767, 65535, 32767, 163839, 425983, 950271, 1998847, 4194303, 8388607]
theorem R21.tab : rtab .any (opsOf Tryz.f5 21) = R21.T := by kernel_rfl
theorem R21.bits : waitsOk R21.T.2 R21.B = true := by kernel_rfl
set_option maxHeartbeats 16000000 in
set_option maxRecDepth 100000 in
theorem calls (A1 : Option Addr) (c1 : Nat) (l : List E) (a1 a2 : ByteArray) (a3 : Int) (A4 : Option Addr) (c4 : Nat) (p : List Int) (w : World)
  (hr1 : Kd.C kE w A1 l.length l) (hc1 : l.length ≤ c1) (hr4 : Kd.C (Kd.int .u64) w A4 p.length p) (hc4 : p.length ≤ c4)
  (hz1 : ∀ e ∈ l, e.f0.size ≤ 140737488351232 ∧ e.f3.size ≤ 140737488351232) (hw1 : ∀ e ∈ l, 0 ≤ e.f1 ∧ e.f1 ≤ 18446744073709551615) (hw4 : ∀ x ∈ p, (Lit.int .u64 x).wf = true) :
  Calls Tryz.prog 5 #[.slice A1 l.length c1, .string a1, .string a2, .int .u64 a3, .slice A4 p.length c4] w fun e w' => e = .returned (.bool true) ∧ Below w.heap.size w w' := by
 obtain ⟨sb, ⟨ks, hks⟩, hsm⟩ := PuIkB.Small_ev l hz1
 obtain ⟨ka, hka⟩ := PuIk.alive_ev
 have HKA := Aside0.mk (hka ka (Nat.le_refl _))
 have HKS := Aside0.mk (hks ks (Nat.le_refl _))
 have HR1 := Aside0.mk hr1
 have HC1 := Aside0.mk hc1
 have HR4 := Aside0.mk hr4
 have HC4 := Aside0.mk hc4
 have HZ1 := Aside0.mk hz1
 have HW1 := Aside0.mk hw1
 have HW4 := Aside0.mk hw4
 clear hks hka hr1 hc1 hr4 hc4 hz1 hw1 hw4
 have HB := Aside0.mk (Below.refl w.heap.size w)
 by_cases hcond : sb = true ∧ a1.size ≤ 3000 ∧ a2.size ≤ 3000 ∧ p.length ≤ 60
 case neg =>
  as_aux_lemma =>
  have al : ∀ (b1 b2 b3 b4 : Bool), sb = !b1 → decide (3000 < (a1.size : Int)) = b2 → decide (3000 < a1.size) = b2 → decide (3000 < (a2.size : Int)) = b3 → decide (3000 < a2.size) = b3 → decide (60 < (p.length : Int)) = b4 → decide (60 < p.length) = b4 → (b1 || b2 || b3 || b4) = true → Calls Tryz.prog 5 #[.slice A1 l.length c1, .string a1, .string a2, .int .u64 a3, .slice A4 p.length c4] w fun e w' => e = .returned (.bool true) ∧ Below w.heap.size w w' := by
   intro b1 b2 b3 b4 h1 h2 h2' h3 h3' h4 h4' h5
   subst h1
   clear hcond hsm
   cases b1
   case true =>
    clear h2 h2' h3 h3' h4 h4' h5
    have HKS2 : Aside0 (cornucopialaw5_Small.f ks l = some false) := HKS
    go_enter Tryz.func5, Tryz.ntmps5
    go_wp2_with (first | (go_at_call 9; refine (cornucopialaw5_Small.calls ks _ _ l false _ HR1.out HC1.out HKS2.out).mono ?_; rintro e w1 ⟨rfl, hb⟩; have n0_ := Aside0.mk (below_step HB.out hb); clear HB; have HB := n0_; clear n0_; clear hb) | (go_at_call 42; refine (cornucopialaw5_alive.calls ka true _ HKA.out).mono ?_; rintro e w9 ⟨rfl, hb⟩; have n0_ := Aside0.mk (below_step HB.out hb); clear HB; have HB := n0_; clear n0_; clear hb))
    go_ret
    exact ⟨rfl, HB.out⟩
   case false =>
    have HKS2 : Aside0 (cornucopialaw5_Small.f ks l = some true) := HKS
    cases b2
    case true =>
     clear h3 h3' h4 h4' h5
     go_enter Tryz.func5, Tryz.ntmps5
     go_wp2_with (first | (go_at_call 9; refine (cornucopialaw5_Small.calls ks _ _ l true _ HR1.out HC1.out HKS2.out).mono ?_; rintro e w1 ⟨rfl, hb⟩; have n0_ := Aside0.mk (below_step HB.out hb); clear HB; have HB := n0_; clear n0_; clear hb) | (go_at_call 42; refine (cornucopialaw5_alive.calls ka true _ HKA.out).mono ?_; rintro e w9 ⟨rfl, hb⟩; have n0_ := Aside0.mk (below_step HB.out hb); clear HB; have HB := n0_; clear n0_; clear hb))
     go_ret
     exact ⟨rfl, HB.out⟩
    case false =>
     cases b3
     case true =>
      clear h4 h4' h5
      go_enter Tryz.func5, Tryz.ntmps5
      go_wp2_with (first | (go_at_call 9; refine (cornucopialaw5_Small.calls ks _ _ l true _ HR1.out HC1.out HKS2.out).mono ?_; rintro e w1 ⟨rfl, hb⟩; have n0_ := Aside0.mk (below_step HB.out hb); clear HB; have HB := n0_; clear n0_; clear hb) | (go_at_call 42; refine (cornucopialaw5_alive.calls ka true _ HKA.out).mono ?_; rintro e w9 ⟨rfl, hb⟩; have n0_ := Aside0.mk (below_step HB.out hb); clear HB; have HB := n0_; clear n0_; clear hb))
      go_ret
      exact ⟨rfl, HB.out⟩
     case false =>
      cases b4
      case true =>
       clear h5
       go_enter Tryz.func5, Tryz.ntmps5
       go_wp2_with (first | (go_at_call 9; refine (cornucopialaw5_Small.calls ks _ _ l true _ HR1.out HC1.out HKS2.out).mono ?_; rintro e w1 ⟨rfl, hb⟩; have n0_ := Aside0.mk (below_step HB.out hb); clear HB; have HB := n0_; clear n0_; clear hb) | (go_at_call 42; refine (cornucopialaw5_alive.calls ka true _ HKA.out).mono ?_; rintro e w9 ⟨rfl, hb⟩; have n0_ := Aside0.mk (below_step HB.out hb); clear HB; have HB := n0_; clear n0_; clear hb))
       go_ret
       exact ⟨rfl, HB.out⟩
      case false => cases h5
  refine al (!sb) (decide (3000 < (a1.size : Int))) (decide (3000 < (a2.size : Int))) (decide (60 < (p.length : Int))) (by simp) rfl (decide_eq_decide.2 (by omega)) rfl (decide_eq_decide.2 (by omega)) rfl (decide_eq_decide.2 (by omega)) ?_
  cases sb
  ·rfl
  ·by_cases q1 : a1.size ≤ 3000
   ·by_cases q2 : a2.size ≤ 3000
    ·have q3 : 60 < (p.length : Int) := by
      by_cases q4 : p.length ≤ 60
      ·exact absurd ⟨rfl, q1, q2, q4⟩ hcond
      ·omega
     simp [q3]
    ·have : 3000 < (a2.size : Int) := by omega
     simp [this]
   ·have : 3000 < (a1.size : Int) := by omega
    simp [this]
 case pos =>
 obtain ⟨rfl, q1, q2, q3⟩ := hcond
 have hl : l.length ≤ 150 := hsm rfl
 clear hsm
 have s1 : decide (3000 < (a1.size : Int)) = false := decide_eq_false (by omega)
 have s1' : decide (3000 < a1.size) = false := decide_eq_false (by omega)
 have s2 : decide (3000 < (a2.size : Int)) = false := decide_eq_false (by omega)
 have s2' : decide (3000 < a2.size) = false := decide_eq_false (by omega)
 have s3 : decide (60 < (p.length : Int)) = false := decide_eq_false (by omega)
 have s3' : decide (60 < p.length) = false := decide_eq_false (by omega)
 have HL := Aside0.mk hl
 have HQ1 := Aside0.mk q1
 have HQ2 := Aside0.mk q2
 have HQ3 := Aside0.mk q3
 have HKS2 : Aside0 (cornucopialaw5_Small.f ks l = some true) := HKS
 clear hl q1 q2 q3
 go_enter Tryz.func5, Tryz.ntmps5
 go_wp2_with (first | (go_at_call 9; refine (cornucopialaw5_Small.calls ks _ _ l true _ HR1.out HC1.out HKS2.out).mono ?_; rintro e w1 ⟨rfl, hb⟩; have n0_ := Aside0.mk (below_step HB.out hb); clear HB; have HB := n0_; clear n0_; clear hb))
 clear s1 s1' s2 s2' s3 s3'
 have HP : Aside0 (BkX w (w1.alloc (.cells #[.slice none 0 0, .slice none 0 0, .slice none 0 0, .slice none 0 0, .slice none 0 0, .slice none 0 0, .slice none 0 0, .slice none 0 0, .slice none 0 0, .slice none 0 0, .slice none 0 0, .slice none 0 0, .slice none 0 0, .slice none 0 0, .slice none 0 0, .slice none 0 0, .slice none 0 0, .slice none 0 0, .slice none 0 0, .slice none 0 0, .slice none 0 0, .slice none 0 0, .slice none 0 0, .slice none 0 0, .slice none 0 0, .slice none 0 0, .slice none 0 0, .slice none 0 0] 56)) w1.heap.size (fun k => k < (w1.alloc (.cells #[.slice none 0 0, .slice none 0 0, .slice none 0 0, .slice none 0 0, .slice none 0 0, .slice none 0 0, .slice none 0 0, .slice none 0 0, .slice none 0 0, .slice none 0 0, .slice none 0 0, .slice none 0 0, .slice none 0 0, .slice none 0 0, .slice none 0 0, .slice none 0 0, .slice none 0 0, .slice none 0 0, .slice none 0 0, .slice none 0 0, .slice none 0 0, .slice none 0 0, .slice none 0 0, .slice none 0 0, .slice none 0 0, .slice none 0 0, .slice none 0 0, .slice none 0 0] 56)).heap.size)) := ⟨BkX.new HB.out _⟩
 obtain ⟨gk, hgk⟩ : ∃ gk, gk = w1.heap.size := ⟨_, rfl⟩
 rw [← hgk] at HP ⊢
 clear hgk HB
 go_loopw [12] (fun v12 w' => ∃ k : Nat, v12 = .int .i64 k ∧ k ≤ 2 ∧ Aside0 (BkX w w' gk (fun k => k < w'.heap.size))) (fun v12 _ => 2 - (intOf v12).toNat)
 case atStart => exact ⟨0, rfl, by omega, HP⟩
 case round =>
  clear HP
  obtain ⟨k, rfl, hk, HP⟩ := hrel
  by_cases hlt : k < 2
  ·have q0 : (k : Int) < 2 := by omega
   have t0 : decide ((k : Int) < 2) = true := decide_eq_true q0
   have HLT := Aside0.mk hlt
   have HB := Aside0.mk HP.out.bel
   go_upto_if 57 with (first
    | (go_at_call 32; refine (lentE (Kd.C_below HR1.out HB.out) HC1.out (by have := HL.out; omega)).mono ?_; rintro e w2 ⟨Am, cm, rfl, hm, hb⟩; have HM := Aside0.mk hm; have n0_ := Aside0.mk (HP.out.below hb); have n1_ := Aside0.mk (below_step HB.out hb); have HSY := Aside0.mk hb.size; clear HP HB; have HP := n0_; have HB := n1_; clear n0_ n1_ hm hb)
    | (go_at_call 43; refine (lentN (Kd.C_below HR4.out HB.out) HC4.out (by have := HQ3.out; omega)).mono ?_; rintro e w3 ⟨Ap, cp, rfl, hp, hb⟩; have HN := Aside0.mk hp; have n0_ := Aside0.mk (HP.out.below hb); have n1_ := Aside0.mk (below_step HB.out hb); have n2_ := Aside0.mk (HM.out.below hb); have n3_ := Aside0.mk hb.size; clear HP HB HM; have HP := n0_; have HB := n1_; have HM := n2_; have HSZ := n3_; clear n0_ n1_ n2_ n3_ hp hb))
   have HI : Aside0 (Ir w w3 gk Am cm l Ap cp p) := ⟨⟨HP.out.mono (fun k hk => Nat.lt_of_lt_of_le hk (Nat.le_trans HSY.out HSZ.out)), HM.out, HN.out, HB.out⟩⟩
   clear HP HM HN HB HSY HSZ
   go_loopw [15] (fun v15 w' => ∃ i : Nat, v15 = .int .i64 i ∧ i ≤ l.length ∧ Aside0 (Below w3.heap.size w3 w')) (fun v15 _ => l.length - (intOf v15).toNat)
   case atStart => exact ⟨0, rfl, Nat.zero_le _, ⟨Below.refl _ _⟩⟩
   case round =>
    obtain ⟨i, rfl, hi, HB⟩ := hrel
    have hi2 : i ≤ 150 := by have := HL.out; omega
    by_cases hil : i < l.length
    ·have p1 : (0 : Int) ≤ (i : Int) := Int.natCast_nonneg _
     have q1 : (i : Int) < (l.length : Int) := Int.ofNat_lt.mpr hil
     have q10 : (0 : Int) < (l.length : Int) := by omega
     have t1 : decide ((i : Int) < (l.length : Int)) = true := decide_eq_true q1
     have q10' : 0 < l.length := by omega
     have HIL := Aside0.mk hil
     obtain ⟨ad, e1, hY, hY0⟩ := ecells2 HR1.out hil
     subst e1
     have HY := Aside0.mk hY
     have HY0 := Aside0.mk hY0
     have HXW := Aside0.mk (HW1.out _ (List.getElem_mem hil))
     have HXZ := Aside0.mk (HZ1.out _ (List.getElem_mem hil)).1
     have HOW := Aside0.mk (HZ1.out _ (List.getElem_mem (show 0 < l.length by omega))).1
     clear hY hY0
     generalize l[i] = x at *
     generalize (l[0]'(by omega)) = o at *
     obtain ⟨kp, sp, xp, hp1, hp2⟩ := PuIkT.both_put x.f0 x.f1 x.f2 x.f3 HXW.out.1 HXW.out.2
     have HP1 := Aside0.mk hp1
     have HP2 := Aside0.mk hp2
     clear hp1 hp2
     have HBW := Aside0.mk (below_step HI.out.bel HB.out)
     obtain ⟨y0, y1, y2, y3⟩ := HY.out _ HBW.out
     go_upto_if 79 with (first
      | (go_at_call 44; refine (ikey_Put.calls kp _ _ _ _ sp xp _ HP1.out).mono ?_; rintro e wa ⟨rfl, hb⟩; have n0_ := Aside0.mk (below_step HB.out hb); have n1_ := Aside0.mk (below_step HBW.out hb); clear HB HBW y0 y1 y2 y3 hb; have HB := n0_; have HBW := n1_; clear n0_ n1_; obtain ⟨y0, y1, y2, y3⟩ := HY.out _ HBW.out)
      | (go_at_call 45; refine (cornucopiaref5_Put.calls kp _ _ _ _ sp xp _ HP2.out).mono ?_; rintro e wb ⟨rfl, hb⟩; have n0_ := Aside0.mk (below_step HB.out hb); have n1_ := Aside0.mk (below_step HBW.out hb); clear HB HBW y0 y1 y2 y3 hb; have HB := n0_; have HBW := n1_; clear n0_ n1_))
     obtain ⟨vv, hvv⟩ : ∃ vv, vv = PuIk.valid x.f0 x.f2 x.f3 := ⟨_, rfl⟩
     obtain ⟨kv, hv1⟩ := PuIk.Valid_ev x.f0 x.f1 x.f2 x.f3
     have hv2 := PuIkT.refValid_eq x.f0 x.f1 x.f2 x.f3
     rw [← hvv] at hv1 hv2
     have HV1 := Aside0.mk (hv1 kv (Nat.le_refl _))
     have HV2 := Aside0.mk hv2
     obtain ⟨d1, hd1⟩ : ∃ d, d = PuIk.ce o x := ⟨_, rfl⟩
     obtain ⟨d2, hd2⟩ : ∃ d, d = PuIk.ce x o := ⟨_, rfl⟩
     obtain ⟨kc1, hc11, hc12⟩ := PuReads.both (PuIk.Compare_ev o x) (PuShadow.RefCompare_ev o x HOW.out HXZ.out)
     obtain ⟨kc2, hc21, hc22⟩ := PuReads.both (PuIk.Compare_ev x o) (PuShadow.RefCompare_ev x o HXZ.out HOW.out)
     rw [← hd1] at hc11 hc12
     rw [← hd2] at hc21 hc22
     have HC11 := Aside0.mk hc11
     have HC12 := Aside0.mk hc12
     have HC21 := Aside0.mk hc21
     have HC22 := Aside0.mk hc22
     have HS : Aside0 (∀ V, Below w.heap.size w V → V.cell? (ad.add (i * 4)) = some (.string x.f0) ∧ V.cell? ⟨(ad.add (i * 4)).block, (ad.add (i * 4)).off + 1, none⟩ = some (.int .u64 x.f1) ∧ V.cell? ⟨(ad.add (i * 4)).block, (ad.add (i * 4)).off + 2, none⟩ = some (.int .i64 x.f2) ∧ V.cell? ⟨(ad.add (i * 4)).block, (ad.add (i * 4)).off + 3, none⟩ = some (.string x.f3) ∧
       V.cell? ad = some (.string o.f0) ∧ V.cell? ⟨ad.block, ad.off + 1, none⟩ = some (.int .u64 o.f1) ∧ V.cell? ⟨ad.block, ad.off + 2, none⟩ = some (.int .i64 o.f2) ∧ V.cell? ⟨ad.block, ad.off + 3, none⟩ = some (.string o.f3)) :=
      ⟨fun V hV => ⟨(HY.out V hV).1, (HY.out V hV).2.1, (HY.out V hV).2.2.1, (HY.out V hV).2.2.2, (HY0.out V hV).1, (HY0.out V hV).2.1, (HY0.out V hV).2.2.1, (HY0.out V hV).2.2.2⟩⟩
     have g1' : (sp.toList != sp.toList) = false := bne_self_eq_false _
     have g2 : (xp != xp) = false := bne_self_eq_false xp
     have g3 : (vv != vv) = false := bne_self_eq_false vv
     have g4 : (d1 != d1) = false := bne_self_eq_false d1
     have g5 : (d2 != d2) = false := bne_self_eq_false d2
     clear hv1 hv2 hvv hd1 hd2 hc11 hc12 hc21 hc22
     have TC1 := Aside0.mk True.intro
     go_cut [137] (fun v137 wc => v137 = .bool false ∧ Aside0 (Below w3.heap.size w3 wc))
     case first =>
      as_aux_lemma =>
      go_region_held3 (fun V => V.cell? (ad.add (i * 4)) = some (.string x.f0) ∧ V.cell? ⟨(ad.add (i * 4)).block, (ad.add (i * 4)).off + 1, none⟩ = some (.int .u64 x.f1) ∧ V.cell? ⟨(ad.add (i * 4)).block, (ad.add (i * 4)).off + 2, none⟩ = some (.int .i64 x.f2) ∧ V.cell? ⟨(ad.add (i * 4)).block, (ad.add (i * 4)).off + 3, none⟩ = some (.string x.f3) ∧
        V.cell? ad = some (.string o.f0) ∧ V.cell? ⟨ad.block, ad.off + 1, none⟩ = some (.int .u64 o.f1) ∧ V.cell? ⟨ad.block, ad.off + 2, none⟩ = some (.int .i64 o.f2) ∧ V.cell? ⟨ad.block, ad.off + 3, none⟩ = some (.string o.f3)) (exact HS.out _ (by repeat (first | exact HBW.out | apply below_alloc | apply pw_below_drewN | apply below_drew1))) (first
       | (go_at_call 46; refine (ikey_Valid.calls kv _ _ _ _ vv _ HV1.out).mono ?_; rintro e wa1 ⟨rfl, hb⟩; have n0_ := Aside0.mk (below_step (by repeat (first | exact HB.out | apply below_alloc | apply pw_below_drewN | apply below_drew1)) hb); have n1_ := Aside0.mk (below_step HI.out.bel n0_.out); clear HB HBW hb; have HB := n0_; have HBW := n1_; clear n0_ n1_)
       | (go_at_call 14; refine (cornucopiaref5_Valid.calls _ _ _ _ vv _ HV2.out).mono ?_; rintro e wa2 ⟨rfl, hb⟩; have n0_ := Aside0.mk (below_step (by repeat (first | exact HB.out | apply below_alloc | apply pw_below_drewN | apply below_drew1)) hb); have n1_ := Aside0.mk (below_step HI.out.bel n0_.out); clear HB HBW hb; have HB := n0_; have HBW := n1_; clear n0_ n1_)
       | (go_at_call 47; have t_ := TC1; refine (ikey_Compare.calls kc1 _ _ _ _ _ _ _ _ d1 _ HC11.out).mono ?_; rintro e wa3 ⟨rfl, hb⟩; have n0_ := Aside0.mk (below_step (by repeat (first | exact HB.out | apply below_alloc | apply pw_below_drewN | apply below_drew1)) hb); have n1_ := Aside0.mk (below_step HI.out.bel n0_.out); clear HB HBW hb; have HB := n0_; have HBW := n1_; clear n0_ n1_; clear t_ TC1; have TC2 := Aside0.mk True.intro)
       | (go_at_call 48; have t_ := TC2; refine (cornucopiaref5_Compare.calls kc1 _ _ _ _ _ _ _ _ d1 _ HC12.out).mono ?_; rintro e wa4 ⟨rfl, hb⟩; have n0_ := Aside0.mk (below_step (by repeat (first | exact HB.out | apply below_alloc | apply pw_below_drewN | apply below_drew1)) hb); have n1_ := Aside0.mk (below_step HI.out.bel n0_.out); clear HB HBW hb; have HB := n0_; have HBW := n1_; clear n0_ n1_; clear t_ TC2; have TC3 := Aside0.mk True.intro)
       | (go_at_call 47; have t_ := TC3; refine (ikey_Compare.calls kc2 _ _ _ _ _ _ _ _ d2 _ HC21.out).mono ?_; rintro e wa5 ⟨rfl, hb⟩; have n0_ := Aside0.mk (below_step (by repeat (first | exact HB.out | apply below_alloc | apply pw_below_drewN | apply below_drew1)) hb); have n1_ := Aside0.mk (below_step HI.out.bel n0_.out); clear HB HBW hb; have HB := n0_; have HBW := n1_; clear n0_ n1_; clear t_ TC3; have TC4 := Aside0.mk True.intro)
       | (go_at_call 48; have t_ := TC4; refine (cornucopiaref5_Compare.calls kc2 _ _ _ _ _ _ _ _ d2 _ HC22.out).mono ?_; rintro e wa6 ⟨rfl, hb⟩; have n0_ := Aside0.mk (below_step (by repeat (first | exact HB.out | apply below_alloc | apply pw_below_drewN | apply below_drew1)) hb); have n1_ := Aside0.mk (below_step HI.out.bel n0_.out); clear HB HBW hb; have HB := n0_; have HBW := n1_; clear n0_ n1_; clear t_ TC4; have TC5 := Aside0.mk True.intro))
      all_goals
       go_wp2_with (fail)
       go_meet
       case rel => exact ⟨rfl, HB⟩
     case rest =>
     clear HB HBW
     obtain ⟨rfl, HB⟩ := hcut
     go_wp2_with (fail)
     go_roundw
     case rel => exact ⟨i + 1, by go_num, by have := HIL.out; omega, HB⟩
     case measure => simp [intOf]; have := HIL.out; omega
    ·obtain rfl : i = l.length := by omega
     have t1 : decide ((l.length : Int) < (l.length : Int)) = false := decide_eq_false (by omega)
     go_upto_if 145 with (first
      | (go_at_call 49; refine (num_NewReader.calls a1 a1 0 w3 _ HB.out (PuRead.New_eq a1 (by have := HQ1.out; omega))).mono ?_; rintro e wn ⟨g1, rfl, hi1, hb1, hb⟩; have HA := Aside0.mk hi1; clear HB hb; have HB := Aside0.mk hb1; clear hb1 hi1))
     have HA2 : Aside0 (IsS97 w3 (wn.alloc (.cells #[.string a1, .int .i64 0] 97)) wn.heap.size a1 0) := ⟨IsS97.new w3 wn a1 0 HB.out⟩
     have n0_ := Aside0.mk (HA.out.alloc (.cells #[.string a1, .int .i64 0] 97))
     have n1_ := Aside0.mk (below_alloc HB.out (.cells #[.string a1, .int .i64 0] 97))
     clear HA HB
     have HA := n0_
     have HB := n1_
     clear n0_ n1_
     obtain ⟨g2, hg2⟩ : ∃ g, g = wn.heap.size := ⟨_, rfl⟩
     rw [← hg2] at HA2 ⊢
     clear hg2
     have HNE := Aside0.mk (two_ne HA.out HA2.out)
     go_loopw [22] (fun v22 w' => ∃ (j : Nat) (b : List Int) (e : Int), v22 = .int .i64 j ∧ j ≤ 3 ∧ Aside0 (PuReads.Small b) ∧ Aside0 (IsS206 w3 w' g1 (strOfNums b) e) ∧ Aside0 (IsS97 w3 w' g2 (strOfNums b) e) ∧ Aside0 (Below w3.heap.size w3 w')) (fun v22 _ => 3 - (intOf v22).toNat)
     case atStart => exact ⟨0, bytesOf a1, 0, rfl, by omega, ⟨PuReads.small_of a1 (by have := HQ1.out; omega)⟩, ⟨by rw [S_of]; exact HA.out⟩, ⟨by rw [S_of]; exact HA2.out⟩, HB⟩
     case round =>
      clear HA HA2 HB
      obtain ⟨j, b, e, rfl, hj, HSM, HA, HA2, HB⟩ := hrel
      by_cases hjl : j < 3
      ·have q5 : (j : Int) < 3 := by omega
       have t5 : decide ((j : Int) < 3) = true := decide_eq_true q5
       have HJ := Aside0.mk hjl
       obtain ⟨kg, v0, v1, v2, v3, b', e', hg1, hg2, hs⟩ := PuIkT.step_Get HSM.out e
       have HG1 := Aside0.mk hg1
       have HG2 := Aside0.mk hg2
       have HSM2 := Aside0.mk hs
       clear hg1 hg2 hs HSM
       go_upto_if 149 with (fail)
       have hnq := fun V => neqV V v0 v1 v2 v3
       have g2' : (e' != e') = false := bne_self_eq_false e'
       have g3' : (((strOfNums b').size : Int) != ((strOfNums b').size : Int)) = false := bne_self_eq_false _
       go_cut [172] (fun v172 wc => v172 = .bool false ∧ Aside0 (IsS206 w3 wc g1 (strOfNums b') e') ∧ Aside0 (IsS97 w3 wc g2 (strOfNums b') e') ∧ Aside0 (Below w3.heap.size w3 wc))
       case first =>
        as_aux_lemma =>
        refine start_ (n := 24) (S := fun w' => True) (ds := []) #[false, false, false, false, false, false, false, false, false, false, false, false, false, false, false, false, false, false, false, false, false, false, false, false] (by kernel_rfl) rfl rfl trivial (fun hHeld => ?_); refine with_tabW R21.tab R21.bits (fun HT_ HW_ => ?_)
        clear hHeld
        refine pure_ (i := 0) (N := some 149) (v := ?_) (a' := ?_) #[true, false, false, false, false, false, false, false, false, false, false, false, false, false, false, false, false, false, false, false, false, false, false, false] rfl rfl (any_of HT_.out (by kernel_rfl)) (fun _ _ _ h => h) (Or.inl ⟨by rfl, ?_⟩) ?_ ?_
        rotate_left
        ·intro w'
         go_simp
         with_reducible rfl
        rotate_left
        ·simp only [Act.put, List.setIfInBounds_toArray, List.set_cons_zero, List.set_cons_succ, i64_w, i32_w]
         rfl
        refine pure_ (i := 2) (N := some 151) (v := ?_) (a' := ?_) #[true, false, true, false, false, false, false, false, false, false, false, false, false, false, false, false, false, false, false, false, false, false, false, false] rfl rfl (any_of HT_.out (by kernel_rfl)) (fun _ _ _ h => h) (Or.inl ⟨by rfl, ?_⟩) ?_ ?_
        rotate_left
        ·intro w'
         go_simp
         with_reducible rfl
        rotate_left
        ·simp only [Act.put, List.setIfInBounds_toArray, List.set_cons_zero, List.set_cons_succ, i64_w, i32_w]
         rfl
        refine one_ (i := 1) (N := some 150) #[true, true, true, false, false, false, false, false, false, false, false, false, false, false, false, false, false, false, false, false, false, false, false, false] rfl rfl (one_of HT_.out (by kernel_rfl)) (by decide) (fun K hK => ?_)
        refine goes_ Tryz.func50 (by kernel_rfl) rfl #[.pointer (some ⟨g1, 0, none⟩)] (by rfl) rfl rfl (by (try simp only [List.map_toArray, List.map_cons, List.map_nil]); first | done | rfl) ?_
        refine (ikey_Get.calls kg g1 _ e v0 v1 v2 v3 _ e' w3 _ (by repeat (first | exact HA.out | apply IsS206.drew | apply IsS206.drewN)) (by repeat (first | exact HB.out | apply below_drew1 | apply pw_below_drewN)) HG1.out).mono ?_
        rintro e_ wg1 ⟨rfl, hi1, hb1, hk1⟩
        refine ⟨_, rfl, ?_⟩
        have n0_ := Aside0.mk (S97_keep (show IsS97 w3 _ g2 _ _ from (by repeat (first | exact HA2.out | apply IsS97.drew | apply IsS97.drewN))) hk1 HNE.out.symm)
        clear HA HA2 HB
        have HA := Aside0.mk hi1
        have HA2 := n0_
        have HB := Aside0.mk hb1
        clear n0_ hi1 hb1 hk1
        refine hK.out _ _ trivial (fun _ => ?_)
        clear hK K
        refine norm_ (a' := ?_) ?_ ?_
        rotate_left
        ·show Act.put _ (some 150) _ = _
         simp only [Act.put, List.setIfInBounds_toArray, List.set_cons_zero, List.set_cons_succ, i64_w, i32_w]
         rfl
        refine one_ (i := 3) (N := some 152) #[true, true, true, true, false, false, false, false, false, false, false, false, false, false, false, false, false, false, false, false, false, false, false, false] rfl rfl (one_of HT_.out (by kernel_rfl)) (by decide) (fun K hK => ?_)
        refine goes_ Tryz.func51 (by kernel_rfl) rfl #[.pointer (some ⟨g2, 0, none⟩)] (by rfl) rfl rfl (by (try simp only [List.map_toArray, List.map_cons, List.map_nil]); first | done | rfl) ?_
        refine (cornucopiaref5_Get.calls kg g2 _ e v0 v1 v2 v3 _ e' w3 _ (by repeat (first | exact HA2.out | apply IsS97.drew | apply IsS97.drewN)) (by repeat (first | exact HB.out | apply below_drew1 | apply pw_below_drewN)) HG2.out).mono ?_
        rintro e_ wg2 ⟨rfl, hi1, hb1, hk1⟩
        refine ⟨_, rfl, ?_⟩
        have n0_ := Aside0.mk (S206_keep (show IsS206 w3 _ g1 _ _ from (by repeat (first | exact HA.out | apply IsS206.drew | apply IsS206.drewN))) hk1 HNE.out)
        clear HA HA2 HB
        have HA2 := Aside0.mk hi1
        have HA := n0_
        have HB := Aside0.mk hb1
        clear n0_ hi1 hb1 hk1
        have zc0 : wg2.cell? ⟨g2, 0, none⟩ = some (.string (strOfNums b')) := (blk_cell HA2.out.1 0).trans rfl
        have zc1 : wg2.cell? ⟨g2, 1, none⟩ = some (.int .i64 e') := (blk_cell HA2.out.1 1).trans rfl
        refine hK.out _ _ trivial (fun _ => ?_)
        clear hK K
        refine norm_ (a' := ?_) ?_ ?_
        rotate_left
        ·show Act.put _ (some 152) _ = _
         simp only [Act.put, List.setIfInBounds_toArray, List.set_cons_zero, List.set_cons_succ, i64_w, i32_w]
         rfl
        refine pure_ (i := 4) (N := some 153) (v := ?_) (a' := ?_) #[true, true, true, true, true, false, false, false, false, false, false, false, false, false, false, false, false, false, false, false, false, false, false, false] rfl rfl (any_of HT_.out (by kernel_rfl)) (fun _ _ _ h => h) (Or.inl ⟨by rfl, ?_⟩) ?_ ?_
        rotate_left
        ·intro w'
         go_simp
         with_reducible rfl
        rotate_left
        ·simp only [Act.put, List.setIfInBounds_toArray, List.set_cons_zero, List.set_cons_succ, i64_w, i32_w]
         rfl
        refine pure_ (i := 5) (N := some 154) (v := ?_) (a' := ?_) #[true, true, true, true, true, true, false, false, false, false, false, false, false, false, false, false, false, false, false, false, false, false, false, false] rfl rfl (any_of HT_.out (by kernel_rfl)) (fun _ _ _ h => h) (Or.inl ⟨by rfl, ?_⟩) ?_ ?_
        rotate_left
        ·intro w'
         go_simp
         with_reducible rfl
        rotate_left
        ·simp only [Act.put, List.setIfInBounds_toArray, List.set_cons_zero, List.set_cons_succ, i64_w, i32_w]
         rfl
        refine pure_ (i := 6) (N := some 155) (v := ?_) (a' := ?_) #[true, true, true, true, true, true, true, false, false, false, false, false, false, false, false, false, false, false, false, false, false, false, false, false] rfl rfl (any_of HT_.out (by kernel_rfl)) (fun _ _ _ h => h) (Or.inl ⟨by rfl, ?_⟩) ?_ ?_
        rotate_left
        ·intro w'
         go_simp
         with_reducible rfl
        rotate_left
        ·simp only [Act.put, List.setIfInBounds_toArray, List.set_cons_zero, List.set_cons_succ, i64_w, i32_w]
         rfl
        refine pure_ (i := 8) (N := some 157) (v := ?_) (a' := ?_) #[true, true, true, true, true, true, true, false, true, false, false, false, false, false, false, false, false, false, false, false, false, false, false, false] rfl rfl (any_of HT_.out (by kernel_rfl)) (fun _ _ _ h => h) (Or.inl ⟨by rfl, ?_⟩) ?_ ?_
        rotate_left
        ·intro w'
         go_simp
         with_reducible rfl
        rotate_left
        ·simp only [Act.put, List.setIfInBounds_toArray, List.set_cons_zero, List.set_cons_succ, i64_w, i32_w]
         rfl
        refine pure_ (i := 9) (N := some 158) (v := ?_) (a' := ?_) #[true, true, true, true, true, true, true, false, true, true, false, false, false, false, false, false, false, false, false, false, false, false, false, false] rfl rfl (any_of HT_.out (by kernel_rfl)) (fun _ _ _ h => h) (Or.inl ⟨by rfl, ?_⟩) ?_ ?_
        rotate_left
        ·intro w'
         go_simp
         with_reducible rfl
        rotate_left
        ·simp only [Act.put, List.setIfInBounds_toArray, List.set_cons_zero, List.set_cons_succ, i64_w, i32_w]
         rfl
        refine pure_ (i := 10) (N := some 159) (v := ?_) (a' := ?_) #[true, true, true, true, true, true, true, false, true, true, true, false, false, false, false, false, false, false, false, false, false, false, false, false] rfl rfl (any_of HT_.out (by kernel_rfl)) (fun _ _ _ h => h) (Or.inl ⟨by rfl, ?_⟩) ?_ ?_
        rotate_left
        ·intro w'
         go_simp
         with_reducible rfl
        rotate_left
        ·simp only [Act.put, List.setIfInBounds_toArray, List.set_cons_zero, List.set_cons_succ, i64_w, i32_w]
         rfl
        refine two_ (i := 7) (j := 11) (Ni := some 156) (Nj := some 160) #[true, true, true, true, true, true, true, true, true, true, true, false, false, false, false, false, false, false, false, false, false, false, false, false] #[true, true, true, true, true, true, true, false, true, true, true, true, false, false, false, false, false, false, false, false, false, false, false, false] rfl rfl rfl rfl (two_of HT_.out (by kernel_rfl)) (by decide) (by decide) (fun K hK => ?_) (fun K hK => ?_)
        ·skip
         refine goes_ Tryz.func52 (by kernel_rfl) rfl #[.pointer (some ⟨g1, 0, none⟩)] (by rfl) rfl rfl (by (try simp only [List.map_toArray, List.map_cons, List.map_nil]); first | done | rfl) ?_
         refine (num_Reader_Err.calls g1 _ e' e' _ e' w3 _ (by repeat (first | exact HA.out | apply IsS206.drew | apply IsS206.drewN)) (by repeat (first | exact HB.out | apply below_drew1 | apply pw_below_drewN)) (PuIkT.Err_ne _ e')).mono ?_
         rintro e_ wg3 ⟨rfl, hi1, hb1, hk1⟩
         refine ⟨_, rfl, ?_⟩
         have n0_ := Aside0.mk (S97_keep (show IsS97 w3 _ g2 _ _ from (by repeat (first | exact HA2.out | apply IsS97.drew | apply IsS97.drewN))) hk1 HNE.out.symm)
         clear HA HA2 HB zc0 zc1
         have HA := Aside0.mk hi1
         have HA2 := n0_
         have HB := Aside0.mk hb1
         clear n0_ hi1 hb1 hk1
         have zc0 : wg3.cell? ⟨g2, 0, none⟩ = some (.string (strOfNums b')) := (blk_cell HA2.out.1 0).trans rfl
         have zc1 : wg3.cell? ⟨g2, 1, none⟩ = some (.int .i64 e') := (blk_cell HA2.out.1 1).trans rfl
         refine hK.out _ _ trivial (fun _ => ?_)
         clear hK K
         refine norm_ (a' := ?_) ?_ ?_
         rotate_left
         ·show Act.put _ (some 156) _ = _
          simp only [Act.put, List.setIfInBounds_toArray, List.set_cons_zero, List.set_cons_succ, i64_w, i32_w]
          rfl
         refine one_ (i := 11) (N := some 160) #[true, true, true, true, true, true, true, true, true, true, true, true, false, false, false, false, false, false, false, false, false, false, false, false] rfl rfl (one_of HT_.out (by kernel_rfl)) (by decide) (fun K hK => ?_)
         refine value_ (w1 := wg3) (v := ?_) (by rfl) rfl ?_ ?_
         rotate_left
         ·go_simp
          with_reducible rfl
         refine hK.out _ _ trivial (fun _ => ?_)
         clear hK K
         refine norm_ (a' := ?_) ?_ ?_
         rotate_left
         ·show Act.put _ (some 160) _ = _
          simp only [Act.put, List.setIfInBounds_toArray, List.set_cons_zero, List.set_cons_succ, i64_w, i32_w]
          rfl
         refine pure_ (i := 12) (N := some 161) (v := ?_) (a' := ?_) #[true, true, true, true, true, true, true, true, true, true, true, true, true, false, false, false, false, false, false, false, false, false, false, false] rfl rfl (any_of HT_.out (by kernel_rfl)) (fun _ _ _ h => h) (Or.inl ⟨by rfl, ?_⟩) ?_ ?_
         rotate_left
         ·intro w'
          go_simp
          with_reducible rfl
         rotate_left
         ·simp only [Act.put, List.setIfInBounds_toArray, List.set_cons_zero, List.set_cons_succ, i64_w, i32_w]
          rfl
         refine pure_ (i := 13) (N := some 162) (v := ?_) (a' := ?_) #[true, true, true, true, true, true, true, true, true, true, true, true, true, true, false, false, false, false, false, false, false, false, false, false] rfl rfl (any_of HT_.out (by kernel_rfl)) (fun _ _ _ h => h) (Or.inl ⟨by rfl, ?_⟩) ?_ ?_
         rotate_left
         ·intro w'
          go_simp
          with_reducible rfl
         rotate_left
         ·simp only [Act.put, List.setIfInBounds_toArray, List.set_cons_zero, List.set_cons_succ, i64_w, i32_w]
          rfl
         refine pure_ (i := 14) (N := some 163) (v := ?_) (a' := ?_) #[true, true, true, true, true, true, true, true, true, true, true, true, true, true, true, false, false, false, false, false, false, false, false, false] rfl rfl (any_of HT_.out (by kernel_rfl)) (fun _ _ _ h => h) (Or.inl ⟨by rfl, ?_⟩) ?_ ?_
         rotate_left
         ·intro w'
          go_simp
          with_reducible rfl
         rotate_left
         ·simp only [Act.put, List.setIfInBounds_toArray, List.set_cons_zero, List.set_cons_succ, i64_w, i32_w]
          rfl
         refine pure_ (i := 15) (N := some 164) (v := ?_) (a' := ?_) #[true, true, true, true, true, true, true, true, true, true, true, true, true, true, true, true, false, false, false, false, false, false, false, false] rfl rfl (any_of HT_.out (by kernel_rfl)) (fun _ _ _ h => h) (Or.inl ⟨by rfl, ?_⟩) ?_ ?_
         rotate_left
         ·intro w'
          go_simp
          with_reducible rfl
         rotate_left
         ·simp only [Act.put, List.setIfInBounds_toArray, List.set_cons_zero, List.set_cons_succ, i64_w, i32_w]
          rfl
         refine pure_ (i := 17) (N := some 166) (v := ?_) (a' := ?_) #[true, true, true, true, true, true, true, true, true, true, true, true, true, true, true, true, false, true, false, false, false, false, false, false] rfl rfl (any_of HT_.out (by kernel_rfl)) (fun _ _ _ h => h) (Or.inl ⟨by rfl, ?_⟩) ?_ ?_
         rotate_left
         ·intro w'
          go_simp
          with_reducible rfl
         rotate_left
         ·simp only [Act.put, List.setIfInBounds_toArray, List.set_cons_zero, List.set_cons_succ, i64_w, i32_w]
          rfl
         refine pure_ (i := 18) (N := some 167) (v := ?_) (a' := ?_) #[true, true, true, true, true, true, true, true, true, true, true, true, true, true, true, true, false, true, true, false, false, false, false, false] rfl rfl (any_of HT_.out (by kernel_rfl)) (fun _ _ _ h => h) (Or.inl ⟨by rfl, ?_⟩) ?_ ?_
         rotate_left
         ·intro w'
          go_simp
          with_reducible rfl
         rotate_left
         ·simp only [Act.put, List.setIfInBounds_toArray, List.set_cons_zero, List.set_cons_succ, i64_w, i32_w]
          rfl
         refine pure_ (i := 19) (N := some 168) (v := ?_) (a' := ?_) #[true, true, true, true, true, true, true, true, true, true, true, true, true, true, true, true, false, true, true, true, false, false, false, false] rfl rfl (any_of HT_.out (by kernel_rfl)) (fun _ _ _ h => h) (Or.inl ⟨by rfl, ?_⟩) ?_ ?_
         rotate_left
         ·intro w'
          go_simp
          with_reducible rfl
         rotate_left
         ·simp only [Act.put, List.setIfInBounds_toArray, List.set_cons_zero, List.set_cons_succ, i64_w, i32_w]
          rfl
         refine two_ (i := 16) (j := 20) (Ni := some 165) (Nj := some 169) #[true, true, true, true, true, true, true, true, true, true, true, true, true, true, true, true, true, true, true, true, false, false, false, false] #[true, true, true, true, true, true, true, true, true, true, true, true, true, true, true, true, false, true, true, true, true, false, false, false] rfl rfl rfl rfl (two_of HT_.out (by kernel_rfl)) (by decide) (by decide) (fun K hK => ?_) (fun K hK => ?_)
         ·skip
          refine goes_ Tryz.func53 (by kernel_rfl) rfl #[.pointer (some ⟨g1, 0, none⟩)] (by rfl) rfl rfl (by (try simp only [List.map_toArray, List.map_cons, List.map_nil]); first | done | rfl) ?_
          refine (num_Reader_Left.calls g1 _ e' _ _ e' w3 _ (by repeat (first | exact HA.out | apply IsS206.drew | apply IsS206.drewN)) (by repeat (first | exact HB.out | apply below_drew1 | apply pw_below_drewN)) (PuRead.Left_eq _ e')).mono ?_
          rintro e_ wg4 ⟨rfl, hi1, hb1, hk1⟩
          refine ⟨_, rfl, ?_⟩
          have n0_ := Aside0.mk (S97_keep (show IsS97 w3 _ g2 _ _ from (by repeat (first | exact HA2.out | apply IsS97.drew | apply IsS97.drewN))) hk1 HNE.out.symm)
          clear HA HA2 HB zc0 zc1
          have HA := Aside0.mk hi1
          have HA2 := n0_
          have HB := Aside0.mk hb1
          clear n0_ hi1 hb1 hk1
          have zc0 : wg4.cell? ⟨g2, 0, none⟩ = some (.string (strOfNums b')) := (blk_cell HA2.out.1 0).trans rfl
          have zc1 : wg4.cell? ⟨g2, 1, none⟩ = some (.int .i64 e') := (blk_cell HA2.out.1 1).trans rfl
          refine hK.out _ _ trivial (fun _ => ?_)
          clear hK K
          refine norm_ (a' := ?_) ?_ ?_
          rotate_left
          ·show Act.put _ (some 165) _ = _
           simp only [Act.put, List.setIfInBounds_toArray, List.set_cons_zero, List.set_cons_succ, i64_w, i32_w]
           rfl
          refine one_ (i := 20) (N := some 169) #[true, true, true, true, true, true, true, true, true, true, true, true, true, true, true, true, true, true, true, true, true, false, false, false] rfl rfl (one_of HT_.out (by kernel_rfl)) (by decide) (fun K hK => ?_)
          refine value_ (w1 := wg4) (v := ?_) (by rfl) rfl ?_ ?_
          rotate_left
          ·go_simp
           with_reducible rfl
          refine hK.out _ _ trivial (fun _ => ?_)
          clear hK K
          refine norm_ (a' := ?_) ?_ ?_
          rotate_left
          ·show Act.put _ (some 169) _ = _
           simp only [Act.put, List.setIfInBounds_toArray, List.set_cons_zero, List.set_cons_succ, i64_w, i32_w]
           rfl
          refine pure_ (i := 21) (N := some 170) (v := ?_) (a' := ?_) #[true, true, true, true, true, true, true, true, true, true, true, true, true, true, true, true, true, true, true, true, true, true, false, false] rfl rfl (any_of HT_.out (by kernel_rfl)) (fun _ _ _ h => h) (Or.inl ⟨by rfl, ?_⟩) ?_ ?_
          rotate_left
          ·intro w'
           go_simp
           with_reducible rfl
          rotate_left
          ·simp only [Act.put, List.setIfInBounds_toArray, List.set_cons_zero, List.set_cons_succ, i64_w, i32_w]
           rfl
          refine pure_ (i := 22) (N := some 171) (v := ?_) (a' := ?_) #[true, true, true, true, true, true, true, true, true, true, true, true, true, true, true, true, true, true, true, true, true, true, true, false] rfl rfl (any_of HT_.out (by kernel_rfl)) (fun _ _ _ h => h) (Or.inl ⟨by rfl, ?_⟩) ?_ ?_
          rotate_left
          ·intro w'
           go_simp
           with_reducible rfl
          rotate_left
          ·simp only [Act.put, List.setIfInBounds_toArray, List.set_cons_zero, List.set_cons_succ, i64_w, i32_w]
           rfl
          refine pure_ (i := 23) (N := some 172) (v := ?_) (a' := ?_) #[true, true, true, true, true, true, true, true, true, true, true, true, true, true, true, true, true, true, true, true, true, true, true, true] rfl rfl (any_of HT_.out (by kernel_rfl)) (fun _ _ _ h => h) (Or.inl ⟨by rfl, ?_⟩) ?_ ?_
          rotate_left
          ·intro w'
           go_simp
           with_reducible rfl
          rotate_left
          ·simp only [Act.put, List.setIfInBounds_toArray, List.set_cons_zero, List.set_cons_succ, i64_w, i32_w]
           rfl
          refine done_ (done_of HT_.out (by kernel_rfl)) ?_
          go_wp2_with (fail)
          go_meet
          case rel => exact ⟨rfl, HA, HA2, HB⟩
         ·skip
          refine value_ (w1 := wg3) (v := ?_) (by rfl) rfl ?_ ?_
          rotate_left
          ·go_simp
           with_reducible rfl
          refine hK.out _ _ trivial (fun _ => ?_)
          clear hK K
          refine norm_ (a' := ?_) ?_ ?_
          rotate_left
          ·show Act.put _ (some 169) _ = _
           simp only [Act.put, List.setIfInBounds_toArray, List.set_cons_zero, List.set_cons_succ, i64_w, i32_w]
           rfl
          refine pure_ (i := 21) (N := some 170) (v := ?_) (a' := ?_) #[true, true, true, true, true, true, true, true, true, true, true, true, true, true, true, true, false, true, true, true, true, true, false, false] rfl rfl (any_of HT_.out (by kernel_rfl)) (fun _ _ _ h => h) (Or.inl ⟨by rfl, ?_⟩) ?_ ?_
          rotate_left
          ·intro w'
           go_simp
           with_reducible rfl
          rotate_left
          ·simp only [Act.put, List.setIfInBounds_toArray, List.set_cons_zero, List.set_cons_succ, i64_w, i32_w]
           rfl
          refine one_ (i := 16) (N := some 165) #[true, true, true, true, true, true, true, true, true, true, true, true, true, true, true, true, true, true, true, true, true, true, false, false] rfl rfl (one_of HT_.out (by kernel_rfl)) (by decide) (fun K hK => ?_)
          refine goes_ Tryz.func53 (by kernel_rfl) rfl #[.pointer (some ⟨g1, 0, none⟩)] (by rfl) rfl rfl (by (try simp only [List.map_toArray, List.map_cons, List.map_nil]); first | done | rfl) ?_
          refine (num_Reader_Left.calls g1 _ e' _ _ e' w3 _ (by repeat (first | exact HA.out | apply IsS206.drew | apply IsS206.drewN)) (by repeat (first | exact HB.out | apply below_drew1 | apply pw_below_drewN)) (PuRead.Left_eq _ e')).mono ?_
          rintro e_ wg4 ⟨rfl, hi1, hb1, hk1⟩
          refine ⟨_, rfl, ?_⟩
          have n0_ := Aside0.mk (S97_keep (show IsS97 w3 _ g2 _ _ from (by repeat (first | exact HA2.out | apply IsS97.drew | apply IsS97.drewN))) hk1 HNE.out.symm)
          clear HA HA2 HB zc0 zc1
          have HA := Aside0.mk hi1
          have HA2 := n0_
          have HB := Aside0.mk hb1
          clear n0_ hi1 hb1 hk1
          have zc0 : wg4.cell? ⟨g2, 0, none⟩ = some (.string (strOfNums b')) := (blk_cell HA2.out.1 0).trans rfl
          have zc1 : wg4.cell? ⟨g2, 1, none⟩ = some (.int .i64 e') := (blk_cell HA2.out.1 1).trans rfl
          refine hK.out _ _ trivial (fun _ => ?_)
          clear hK K
          refine norm_ (a' := ?_) ?_ ?_
          rotate_left
          ·show Act.put _ (some 165) _ = _
           simp only [Act.put, List.setIfInBounds_toArray, List.set_cons_zero, List.set_cons_succ, i64_w, i32_w]
           rfl
          refine pure_ (i := 22) (N := some 171) (v := ?_) (a' := ?_) #[true, true, true, true, true, true, true, true, true, true, true, true, true, true, true, true, true, true, true, true, true, true, true, false] rfl rfl (any_of HT_.out (by kernel_rfl)) (fun _ _ _ h => h) (Or.inl ⟨by rfl, ?_⟩) ?_ ?_
          rotate_left
          ·intro w'
           go_simp
           with_reducible rfl
          rotate_left
          ·simp only [Act.put, List.setIfInBounds_toArray, List.set_cons_zero, List.set_cons_succ, i64_w, i32_w]
           rfl
          refine pure_ (i := 23) (N := some 172) (v := ?_) (a' := ?_) #[true, true, true, true, true, true, true, true, true, true, true, true, true, true, true, true, true, true, true, true, true, true, true, true] rfl rfl (any_of HT_.out (by kernel_rfl)) (fun _ _ _ h => h) (Or.inl ⟨by rfl, ?_⟩) ?_ ?_
          rotate_left
          ·intro w'
           go_simp
           with_reducible rfl
          rotate_left
          ·simp only [Act.put, List.setIfInBounds_toArray, List.set_cons_zero, List.set_cons_succ, i64_w, i32_w]
           rfl
          refine done_ (done_of HT_.out (by kernel_rfl)) ?_
          go_wp2_with (fail)
          go_meet
          case rel => exact ⟨rfl, HA, HA2, HB⟩
        ·skip
         refine value_ (w1 := wg2) (v := ?_) (by rfl) rfl ?_ ?_
         rotate_left
         ·go_simp
          with_reducible rfl
         refine hK.out _ _ trivial (fun _ => ?_)
         clear hK K
         refine norm_ (a' := ?_) ?_ ?_
         rotate_left
         ·show Act.put _ (some 160) _ = _
          simp only [Act.put, List.setIfInBounds_toArray, List.set_cons_zero, List.set_cons_succ, i64_w, i32_w]
          rfl
         refine one_ (i := 7) (N := some 156) #[true, true, true, true, true, true, true, true, true, true, true, true, false, false, false, false, false, false, false, false, false, false, false, false] rfl rfl (one_of HT_.out (by kernel_rfl)) (by decide) (fun K hK => ?_)
         refine goes_ Tryz.func52 (by kernel_rfl) rfl #[.pointer (some ⟨g1, 0, none⟩)] (by rfl) rfl rfl (by (try simp only [List.map_toArray, List.map_cons, List.map_nil]); first | done | rfl) ?_
         refine (num_Reader_Err.calls g1 _ e' e' _ e' w3 _ (by repeat (first | exact HA.out | apply IsS206.drew | apply IsS206.drewN)) (by repeat (first | exact HB.out | apply below_drew1 | apply pw_below_drewN)) (PuIkT.Err_ne _ e')).mono ?_
         rintro e_ wg3 ⟨rfl, hi1, hb1, hk1⟩
         refine ⟨_, rfl, ?_⟩
         have n0_ := Aside0.mk (S97_keep (show IsS97 w3 _ g2 _ _ from (by repeat (first | exact HA2.out | apply IsS97.drew | apply IsS97.drewN))) hk1 HNE.out.symm)
         clear HA HA2 HB zc0 zc1
         have HA := Aside0.mk hi1
         have HA2 := n0_
         have HB := Aside0.mk hb1
         clear n0_ hi1 hb1 hk1
         have zc0 : wg3.cell? ⟨g2, 0, none⟩ = some (.string (strOfNums b')) := (blk_cell HA2.out.1 0).trans rfl
         have zc1 : wg3.cell? ⟨g2, 1, none⟩ = some (.int .i64 e') := (blk_cell HA2.out.1 1).trans rfl
         refine hK.out _ _ trivial (fun _ => ?_)
         clear hK K
         refine norm_ (a' := ?_) ?_ ?_
         rotate_left
         ·show Act.put _ (some 156) _ = _
          simp only [Act.put, List.setIfInBounds_toArray, List.set_cons_zero, List.set_cons_succ, i64_w, i32_w]
          rfl
         refine pure_ (i := 12) (N := some 161) (v := ?_) (a' := ?_) #[true, true, true, true, true, true, true, true, true, true, true, true, true, false, false, false, false, false, false, false, false, false, false, false] rfl rfl (any_of HT_.out (by kernel_rfl)) (fun _ _ _ h => h) (Or.inl ⟨by rfl, ?_⟩) ?_ ?_
         rotate_left
         ·intro w'
          go_simp
          with_reducible rfl
         rotate_left
         ·simp only [Act.put, List.setIfInBounds_toArray, List.set_cons_zero, List.set_cons_succ, i64_w, i32_w]
          rfl
         refine pure_ (i := 13) (N := some 162) (v := ?_) (a' := ?_) #[true, true, true, true, true, true, true, true, true, true, true, true, true, true, false, false, false, false, false, false, false, false, false, false] rfl rfl (any_of HT_.out (by kernel_rfl)) (fun _ _ _ h => h) (Or.inl ⟨by rfl, ?_⟩) ?_ ?_
         rotate_left
         ·intro w'
          go_simp
          with_reducible rfl
         rotate_left
         ·simp only [Act.put, List.setIfInBounds_toArray, List.set_cons_zero, List.set_cons_succ, i64_w, i32_w]
          rfl
         refine pure_ (i := 14) (N := some 163) (v := ?_) (a' := ?_) #[true, true, true, true, true, true, true, true, true, true, true, true, true, true, true, false, false, false, false, false, false, false, false, false] rfl rfl (any_of HT_.out (by kernel_rfl)) (fun _ _ _ h => h) (Or.inl ⟨by rfl, ?_⟩) ?_ ?_
         rotate_left
         ·intro w'
          go_simp
          with_reducible rfl
         rotate_left
         ·simp only [Act.put, List.setIfInBounds_toArray, List.set_cons_zero, List.set_cons_succ, i64_w, i32_w]
          rfl
         refine pure_ (i := 15) (N := some 164) (v := ?_) (a' := ?_) #[true, true, true, true, true, true, true, true, true, true, true, true, true, true, true, true, false, false, false, false, false, false, false, false] rfl rfl (any_of HT_.out (by kernel_rfl)) (fun _ _ _ h => h) (Or.inl ⟨by rfl, ?_⟩) ?_ ?_
         rotate_left
         ·intro w'
          go_simp
          with_reducible rfl
         rotate_left
         ·simp only [Act.put, List.setIfInBounds_toArray, List.set_cons_zero, List.set_cons_succ, i64_w, i32_w]
          rfl
         refine pure_ (i := 17) (N := some 166) (v := ?_) (a' := ?_) #[true, true, true, true, true, true, true, true, true, true, true, true, true, true, true, true, false, true, false, false, false, false, false, false] rfl rfl (any_of HT_.out (by kernel_rfl)) (fun _ _ _ h => h) (Or.inl ⟨by rfl, ?_⟩) ?_ ?_
         rotate_left
         ·intro w'
          go_simp
          with_reducible rfl
         rotate_left
         ·simp only [Act.put, List.setIfInBounds_toArray, List.set_cons_zero, List.set_cons_succ, i64_w, i32_w]
          rfl
         refine pure_ (i := 18) (N := some 167) (v := ?_) (a' := ?_) #[true, true, true, true, true, true, true, true, true, true, true, true, true, true, true, true, false, true, true, false, false, false, false, false] rfl rfl (any_of HT_.out (by kernel_rfl)) (fun _ _ _ h => h) (Or.inl ⟨by rfl, ?_⟩) ?_ ?_
         rotate_left
         ·intro w'
          go_simp
          with_reducible rfl
         rotate_left
         ·simp only [Act.put, List.setIfInBounds_toArray, List.set_cons_zero, List.set_cons_succ, i64_w, i32_w]
          rfl
         refine pure_ (i := 19) (N := some 168) (v := ?_) (a' := ?_) #[true, true, true, true, true, true, true, true, true, true, true, true, true, true, true, true, false, true, true, true, false, false, false, false] rfl rfl (any_of HT_.out (by kernel_rfl)) (fun _ _ _ h => h) (Or.inl ⟨by rfl, ?_⟩) ?_ ?_
         rotate_left
         ·intro w'
          go_simp
          with_reducible rfl
         rotate_left
         ·simp only [Act.put, List.setIfInBounds_toArray, List.set_cons_zero, List.set_cons_succ, i64_w, i32_w]
          rfl
         refine two_ (i := 16) (j := 20) (Ni := some 165) (Nj := some 169) #[true, true, true, true, true, true, true, true, true, true, true, true, true, true, true, true, true, true, true, true, false, false, false, false] #[true, true, true, true, true, true, true, true, true, true, true, true, true, true, true, true, false, true, true, true, true, false, false, false] rfl rfl rfl rfl (two_of HT_.out (by kernel_rfl)) (by decide) (by decide) (fun K hK => ?_) (fun K hK => ?_)
         ·skip
          refine goes_ Tryz.func53 (by kernel_rfl) rfl #[.pointer (some ⟨g1, 0, none⟩)] (by rfl) rfl rfl (by (try simp only [List.map_toArray, List.map_cons, List.map_nil]); first | done | rfl) ?_
          refine (num_Reader_Left.calls g1 _ e' _ _ e' w3 _ (by repeat (first | exact HA.out | apply IsS206.drew | apply IsS206.drewN)) (by repeat (first | exact HB.out | apply below_drew1 | apply pw_below_drewN)) (PuRead.Left_eq _ e')).mono ?_
          rintro e_ wg4 ⟨rfl, hi1, hb1, hk1⟩
          refine ⟨_, rfl, ?_⟩
          have n0_ := Aside0.mk (S97_keep (show IsS97 w3 _ g2 _ _ from (by repeat (first | exact HA2.out | apply IsS97.drew | apply IsS97.drewN))) hk1 HNE.out.symm)
          clear HA HA2 HB zc0 zc1
          have HA := Aside0.mk hi1
          have HA2 := n0_
          have HB := Aside0.mk hb1
          clear n0_ hi1 hb1 hk1
          have zc0 : wg4.cell? ⟨g2, 0, none⟩ = some (.string (strOfNums b')) := (blk_cell HA2.out.1 0).trans rfl
          have zc1 : wg4.cell? ⟨g2, 1, none⟩ = some (.int .i64 e') := (blk_cell HA2.out.1 1).trans rfl
          refine hK.out _ _ trivial (fun _ => ?_)
          clear hK K
          refine norm_ (a' := ?_) ?_ ?_
          rotate_left
          ·show Act.put _ (some 165) _ = _
           simp only [Act.put, List.setIfInBounds_toArray, List.set_cons_zero, List.set_cons_succ, i64_w, i32_w]
           rfl
          refine one_ (i := 20) (N := some 169) #[true, true, true, true, true, true, true, true, true, true, true, true, true, true, true, true, true, true, true, true, true, false, false, false] rfl rfl (one_of HT_.out (by kernel_rfl)) (by decide) (fun K hK => ?_)
          refine value_ (w1 := wg4) (v := ?_) (by rfl) rfl ?_ ?_
          rotate_left
          ·go_simp
           with_reducible rfl
          refine hK.out _ _ trivial (fun _ => ?_)
          clear hK K
          refine norm_ (a' := ?_) ?_ ?_
          rotate_left
          ·show Act.put _ (some 169) _ = _
           simp only [Act.put, List.setIfInBounds_toArray, List.set_cons_zero, List.set_cons_succ, i64_w, i32_w]
           rfl
          refine pure_ (i := 21) (N := some 170) (v := ?_) (a' := ?_) #[true, true, true, true, true, true, true, true, true, true, true, true, true, true, true, true, true, true, true, true, true, true, false, false] rfl rfl (any_of HT_.out (by kernel_rfl)) (fun _ _ _ h => h) (Or.inl ⟨by rfl, ?_⟩) ?_ ?_
          rotate_left
          ·intro w'
           go_simp
           with_reducible rfl
          rotate_left
          ·simp only [Act.put, List.setIfInBounds_toArray, List.set_cons_zero, List.set_cons_succ, i64_w, i32_w]
           rfl
          refine pure_ (i := 22) (N := some 171) (v := ?_) (a' := ?_) #[true, true, true, true, true, true, true, true, true, true, true, true, true, true, true, true, true, true, true, true, true, true, true, false] rfl rfl (any_of HT_.out (by kernel_rfl)) (fun _ _ _ h => h) (Or.inl ⟨by rfl, ?_⟩) ?_ ?_
          rotate_left
          ·intro w'
           go_simp
           with_reducible rfl
          rotate_left
          ·simp only [Act.put, List.setIfInBounds_toArray, List.set_cons_zero, List.set_cons_succ, i64_w, i32_w]
           rfl
          refine pure_ (i := 23) (N := some 172) (v := ?_) (a' := ?_) #[true, true, true, true, true, true, true, true, true, true, true, true, true, true, true, true, true, true, true, true, true, true, true, true] rfl rfl (any_of HT_.out (by kernel_rfl)) (fun _ _ _ h => h) (Or.inl ⟨by rfl, ?_⟩) ?_ ?_
          rotate_left
          ·intro w'
           go_simp
           with_reducible rfl
          rotate_left
          ·simp only [Act.put, List.setIfInBounds_toArray, List.set_cons_zero, List.set_cons_succ, i64_w, i32_w]
           rfl
          refine done_ (done_of HT_.out (by kernel_rfl)) ?_
          go_wp2_with (fail)
          go_meet
          case rel => exact ⟨rfl, HA, HA2, HB⟩
         ·skip
          refine value_ (w1 := wg3) (v := ?_) (by rfl) rfl ?_ ?_
          rotate_left
          ·go_simp
           with_reducible rfl
          refine hK.out _ _ trivial (fun _ => ?_)
          clear hK K
          refine norm_ (a' := ?_) ?_ ?_
          rotate_left
          ·show Act.put _ (some 169) _ = _
           simp only [Act.put, List.setIfInBounds_toArray, List.set_cons_zero, List.set_cons_succ, i64_w, i32_w]
           rfl
          refine pure_ (i := 21) (N := some 170) (v := ?_) (a' := ?_) #[true, true, true, true, true, true, true, true, true, true, true, true, true, true, true, true, false, true, true, true, true, true, false, false] rfl rfl (any_of HT_.out (by kernel_rfl)) (fun _ _ _ h => h) (Or.inl ⟨by rfl, ?_⟩) ?_ ?_
          rotate_left
          ·intro w'
           go_simp
           with_reducible rfl
          rotate_left
          ·simp only [Act.put, List.setIfInBounds_toArray, List.set_cons_zero, List.set_cons_succ, i64_w, i32_w]
           rfl
          refine one_ (i := 16) (N := some 165) #[true, true, true, true, true, true, true, true, true, true, true, true, true, true, true, true, true, true, true, true, true, true, false, false] rfl rfl (one_of HT_.out (by kernel_rfl)) (by decide) (fun K hK => ?_)
          refine goes_ Tryz.func53 (by kernel_rfl) rfl #[.pointer (some ⟨g1, 0, none⟩)] (by rfl) rfl rfl (by (try simp only [List.map_toArray, List.map_cons, List.map_nil]); first | done | rfl) ?_
          refine (num_Reader_Left.calls g1 _ e' _ _ e' w3 _ (by repeat (first | exact HA.out | apply IsS206.drew | apply IsS206.drewN)) (by repeat (first | exact HB.out | apply below_drew1 | apply pw_below_drewN)) (PuRead.Left_eq _ e')).mono ?_
          rintro e_ wg4 ⟨rfl, hi1, hb1, hk1⟩
          refine ⟨_, rfl, ?_⟩
          have n0_ := Aside0.mk (S97_keep (show IsS97 w3 _ g2 _ _ from (by repeat (first | exact HA2.out | apply IsS97.drew | apply IsS97.drewN))) hk1 HNE.out.symm)
          clear HA HA2 HB zc0 zc1
          have HA := Aside0.mk hi1
          have HA2 := n0_
          have HB := Aside0.mk hb1
          clear n0_ hi1 hb1 hk1
          have zc0 : wg4.cell? ⟨g2, 0, none⟩ = some (.string (strOfNums b')) := (blk_cell HA2.out.1 0).trans rfl
          have zc1 : wg4.cell? ⟨g2, 1, none⟩ = some (.int .i64 e') := (blk_cell HA2.out.1 1).trans rfl
          refine hK.out _ _ trivial (fun _ => ?_)
          clear hK K
          refine norm_ (a' := ?_) ?_ ?_
          rotate_left
          ·show Act.put _ (some 165) _ = _
           simp only [Act.put, List.setIfInBounds_toArray, List.set_cons_zero, List.set_cons_succ, i64_w, i32_w]
           rfl
          refine pure_ (i := 22) (N := some 171) (v := ?_) (a' := ?_) #[true, true, true, true, true, true, true, true, true, true, true, true, true, true, true, true, true, true, true, true, true, true, true, false] rfl rfl (any_of HT_.out (by kernel_rfl)) (fun _ _ _ h => h) (Or.inl ⟨by rfl, ?_⟩) ?_ ?_
          rotate_left
          ·intro w'
           go_simp
           with_reducible rfl
          rotate_left
          ·simp only [Act.put, List.setIfInBounds_toArray, List.set_cons_zero, List.set_cons_succ, i64_w, i32_w]
           rfl
          refine pure_ (i := 23) (N := some 172) (v := ?_) (a' := ?_) #[true, true, true, true, true, true, true, true, true, true, true, true, true, true, true, true, true, true, true, true, true, true, true, true] rfl rfl (any_of HT_.out (by kernel_rfl)) (fun _ _ _ h => h) (Or.inl ⟨by rfl, ?_⟩) ?_ ?_
          rotate_left
          ·intro w'
           go_simp
           with_reducible rfl
          rotate_left
          ·simp only [Act.put, List.setIfInBounds_toArray, List.set_cons_zero, List.set_cons_succ, i64_w, i32_w]
           rfl
          refine done_ (done_of HT_.out (by kernel_rfl)) ?_
          go_wp2_with (fail)
          go_meet
          case rel => exact ⟨rfl, HA, HA2, HB⟩
       case rest =>
       clear HA HA2 HB
       obtain ⟨rfl, HA, HA2, HB⟩ := hcut
       go_wp2_with (fail)
       go_roundw
       case rel => exact ⟨j + 1, b', e', by go_num, by have := HJ.out; omega, HSM2, HA, HA2, HB⟩
       case measure => simp [intOf]; have := HJ.out; omega
      ·obtain rfl : j = 3 := by omega
       have t5 : decide (((3 : Nat) : Int) < 3) = false := decide_eq_false (by omega)
       have t5' : decide ((3 : Int) < 3) = false := decide_eq_false (by omega)
       clear HSM HA HA2
       obtain ⟨kq, pk, fk, hpk1, hpk2⟩ := PuIkT.both_pick a2 a3 l (by have := HL.out; omega)
       have HPK1 := Aside0.mk hpk1
       have HPK2 := Aside0.mk hpk2
       clear hpk1 hpk2
       have hnq := fun V => neqV V pk.f0 pk.f1 pk.f2 pk.f3
       have hff : (fk != fk) = false := bne_self_eq_false fk
       obtain ⟨ob, ⟨ko, hko⟩, hob⟩ := PuShadow.Ordered_ev l (fun e he => (HZ1.out e he).1) (by have := HL.out; omega)
       have HKO := Aside0.mk (hko ko (Nat.le_refl _))
       have HOB := Aside0.mk hob
       clear hko hob
       go_upto_if 196 with (first
        | (go_at_call 54; refine (ikey_Pick.calls kq _ _ l a2 a3 _ _ _ _ fk _ (HI.out.m.below HB.out).cm.2 (by have := HI.out.m.1; omega) HPK1.out).mono ?_; rintro e wp1 ⟨rfl, hb⟩; have n0_ := Aside0.mk (below_step HB.out (below_alloc hb (.cells #[.string pk.f0, .int .u64 pk.f1, .int .i64 pk.f2, .string pk.f3] 32))); have HX := Aside0.mk (blk_new wp1 (.cells #[.string pk.f0, .int .u64 pk.f1, .int .i64 pk.f2, .string pk.f3] 32)); clear HB hb; have HB := n0_; clear n0_)
        | (go_at_call 23; refine (cornucopiaref5_Pick.calls kq _ _ l a2 a3 _ _ _ _ fk _ (Kd.C_below HR1.out (below_step HI.out.bel HB.out)) HC1.out HPK2.out).mono ?_; rintro e wp2 ⟨rfl, hb⟩; have n0_ := Aside0.mk (below_step HB.out (below_alloc hb (.cells #[.string pk.f0, .int .u64 pk.f1, .int .i64 pk.f2, .string pk.f3] 32))); have HX2 := Aside0.mk (blk_new wp2 (.cells #[.string pk.f0, .int .u64 pk.f1, .int .i64 pk.f2, .string pk.f3] 32)); have n1_ := Aside0.mk (blk_alloc (blk_below HX.out hb) (.cells #[.string pk.f0, .int .u64 pk.f1, .int .i64 pk.f2, .string pk.f3] 32)); clear HB hb HX; have HB := n0_; have HX := n1_; clear n0_ n1_; have b0 := (blk_cell HX.out 0).trans (rfl : _ = some (Value.string pk.f0)); have b1 := (blk_cell HX.out 1).trans (rfl : _ = some (Value.int .u64 pk.f1)); have b2 := (blk_cell HX.out 2).trans (rfl : _ = some (Value.int .i64 pk.f2)); have b3 := (blk_cell HX.out 3).trans (rfl : _ = some (Value.string pk.f3)); have d0 := (blk_cell HX2.out 0).trans (rfl : _ = some (Value.string pk.f0)); have d1 := (blk_cell HX2.out 1).trans (rfl : _ = some (Value.int .u64 pk.f1)); have d2 := (blk_cell HX2.out 2).trans (rfl : _ = some (Value.int .i64 pk.f2)); have d3 := (blk_cell HX2.out 3).trans (rfl : _ = some (Value.string pk.f3)))
        | (go_at_call 31; refine (cornucopialaw5_Ordered.calls ko _ _ l ob _ (Kd.C_below HR1.out (below_step HI.out.bel HB.out)) HC1.out HKO.out).mono ?_; rintro e wo ⟨rfl, hb⟩; have n0_ := Aside0.mk (below_step HB.out hb); clear HB hb; have HB := n0_; clear n0_))
       clear b0 b1 b2 b3 d0 d1 d2 d3 HX HX2 hnq hff
       obtain ⟨ks_, hks_⟩ : ∃ ks_, ks_ = PuShadow.kp p none l := ⟨_, rfl⟩
       have HKS3 := Aside0.mk hks_
       have HKL : Aside0 (ks_.length ≤ 150) := ⟨by rw [hks_]; exact Nat.le_trans (PuShadow.kp_sub p l none).length_le HL.out⟩
       clear hks_
       go_cut [27] (fun v27 wc => Aside0 (Ir w wc gk Am cm l Ap cp p))
       case first =>
        cases ob
        ·go_wp2_with (fail)
         go_meet
         case rel => exact ⟨⟨(HI.out.bk.below HB.out).mono (fun k hk => Nat.lt_of_lt_of_le hk HB.out.size), HI.out.m.below HB.out, HI.out.p.below HB.out, below_step HI.out.bel HB.out⟩⟩
        ·go_wp2_with (first
          | (go_at_call 55; refine (shadowE (HI.out.m.below HB.out) (HI.out.p.below HB.out) (HOB.out rfl) (by have := HL.out; omega) (by have := HQ3.out; omega) HW4.out ks_ HKS3.out).mono ?_; rintro e ws ⟨As, ns, cs, rfl, hns, hrs, hfs, hb⟩; have HNS := Aside0.mk hns; have HRS := Aside0.mk hrs; have HFS := Aside0.mk (fun k hk => Nat.le_trans HB.out.size (hfs k hk)); have n0_ := Aside0.mk (below_step HB.out hb); clear HB hb hns hrs hfs; have HB := n0_; clear n0_)
          | (go_at_call 18; refine (keepE (P' := fun k => k < ws.heap.size) (HI.out.bk.below HB.out) HNS.out HRS.out ?_ ?_ ?_).mono ?_; (next => exact fun k hk => ⟨fun hp => absurd (HFS.out k hk) (by omega), HRS.out.lt k hk, Nat.le_trans HI.out.bel.size (HFS.out k hk)⟩); (next => exact fun k hk => Nat.lt_of_lt_of_le hk HB.out.size); (next => have := HKL.out; omega); rintro e wk ⟨rfl, hbk, hs, hz, hB⟩; have HI2 : Aside0 (Ir w wk gk Am cm l Ap cp p) := ⟨⟨hbk.mono (fun k hk => Nat.lt_of_lt_of_le hk hz), (HI.out.m.below HB.out).still hs (by decide), (HI.out.p.below HB.out).still hs (by decide), hB⟩⟩; have n1_ := Aside0.mk (hs.rw_ HRS.out (by decide)); clear HRS HFS HB hbk hs hz hB; have HRS := n1_; clear n1_; have HB := Aside0.mk (Below.refl wk.heap.size wk))
          | (go_at_call 56; refine (rshadowE (Kd.C_below HR1.out (below_step HI2.out.bel HB.out)) HC1.out (Kd.C_below HR4.out (below_step HI2.out.bel HB.out)) HC4.out (by have := HL.out; omega) (by have := HQ3.out; omega) ks_ HKS3.out).mono ?_; rintro e wr2 ⟨Ar, nr, cr, rfl, hnr, hrr, hb⟩; have HNR := Aside0.mk hnr; have HRR := Aside0.mk hrr; have n1_ := Aside0.mk (HRS.out.below hb); have n0_ := Aside0.mk (below_step HB.out hb); clear HB HRS hb hnr hrr; have HB := n0_; have HRS := n1_; clear n0_ n1_)
          | (go_at_call 19; refine (sameE HNS.out HNR.out HRS.out HRR.out (by have := HKL.out; omega)).mono ?_; rintro e wse ⟨rfl, hb⟩; have n0_ := Aside0.mk (below_step HB.out hb); clear HB hb HRS HRR; have HB := n0_; clear n0_))
         go_meet
         case rel => exact ⟨⟨(HI2.out.bk.below HB.out).mono (fun k hk => Nat.lt_of_lt_of_le hk HB.out.size), HI2.out.m.below HB.out, HI2.out.p.below HB.out, below_step HI2.out.bel HB.out⟩⟩
       case rest =>
       clear HI HB
       have HI := hcut
       have HB := Aside0.mk (Below.refl wc.heap.size wc)
       go_wp2_with (first
        | (go_at_call 41; refine (staysE (HI.out.m.below HB.out) (Kd.C_below HR1.out (below_step HI.out.bel HB.out)) HC1.out (by have := HL.out; omega)).mono ?_; rintro e wt1 ⟨rfl, hb⟩; have n0_ := Aside0.mk (below_step HB.out hb); clear HB hb; have HB := n0_; clear n0_)
        | (go_at_call 57; refine (staysN (HI.out.p.below HB.out) (Kd.C_below HR4.out (below_step HI.out.bel HB.out)) HC4.out (by have := HQ3.out; omega)).mono ?_; rintro e wt2 ⟨rfl, hb⟩; have n0_ := Aside0.mk (below_step HB.out hb); clear HB hb; have HB := n0_; clear n0_))
       go_roundw
       case rel => exact ⟨k + 1, by go_num, by have := HLT.out; omega, ⟨(HI.out.bk.below HB.out).mono (fun k hk => Nat.lt_of_lt_of_le hk HB.out.size)⟩⟩
       case measure => simp [intOf]; have := HLT.out; omega
  ·obtain rfl : k = 2 := by omega
   have t0 : decide (((2 : Nat) : Int) < 2) = false := decide_eq_false (by omega)
   have t0' : decide ((2 : Int) < 2) = false := decide_eq_false (by omega)
   go_wp2_with (first
    | (go_at_call 42; refine (cornucopialaw5_alive.calls ka true _ HKA.out).mono ?_; rintro e w9 ⟨rfl, hb⟩; have n0_ := Aside0.mk (HP.out.below hb); clear HP hb; have HP := n0_; clear n0_)
    | (go_at_call 29; refine (HP.out.apart).mono ?_; rintro e w8 ⟨rfl, hb⟩; have HB := Aside0.mk hb; clear hb)
    | (go_at_call 50; refine (get_nil _).mono ?_; rintro e w7 ⟨rfl, hb⟩; have n0_ := Aside0.mk (below_step HB.out hb); clear HB hb; have HB := n0_; clear n0_))
   go_ret
   exact ⟨rfl, HB.out⟩
end Go.Proofs.YtchgpcgolgcfdaaGreat.IkT
end
