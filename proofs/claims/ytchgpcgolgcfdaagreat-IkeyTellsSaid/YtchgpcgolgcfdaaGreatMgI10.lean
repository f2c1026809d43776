/- Texts of this claim, put together and cut down to what is used (I10). -/
import Derived.Deep.DeepCutAuto
import Derived.Deep.QuietTactic
import Derived.Deep.RegionHeld3
import Derived.BigRegion
import Derived.Test.YtchgpcgolgcfdaaGreatMgI3
import Derived.Test.YtchgpcgolgcfdaaGreatMgI9
import Derived.Test.YtchgpcgolgcfdaaGreatMgI5
import Derived.Test.YtchgpcgolgcfdaaGreatMgI8
import Derived.Test.YtchgpcgolgcfdaaGreatMgI6
import Derived.Test.YtchgpcgolgcfdaaGreatMgI7
section
namespace Go.Proofs.YtchgpcgolgcfdaaGreat.PNum
open Go.RowKit Go.Proofs.YtchgpcgolgcfdaaGreatW.PrintWords Go.Proofs.YtchgpcgolgcfdaaGreatW.PrintLast Go.Proofs.YtchgpcgolgcfdaaGreatW.PrintMore
attribute [local go_sem] max2_int min2_int max_two min_two max_three min_three max_four min_four   -- for this text's walks alone
set_option linter.unusedVariables false
set_option linter.unusedSimpArgs false
def cornucopiabook_LentEntries.f (l0 : List (S32)) : Option ((List (S32))) := if ([] : List (S32)).length + l0.length < 2932031007402 then ((some (([] : List (S32)) ++ l0 : List (S32))).bind fun y383 => (if y383.length < 2932031007402 then ((some (y383 ++ [(⟨(⟨#[109, 97, 114, 107]⟩ : ByteArray), 0, 0, (⟨#[]⟩ : ByteArray)⟩ : S32)] : List (S32))).bind fun y386 => (if 0 ≤ (l0.length : Int) then (if (l0.length : Int) ≤ (y386.length : Int) then (some (y386.take ((l0.length : Int) : Int).toNat)) else (none)) else (none))) else (none))) else (none)
set_option maxHeartbeats 8000000 in
set_option maxRecDepth 100000 in
theorem cornucopiabook_LentEntries.calls (A0 : Option Addr) (c0 : Nat) (l0 : List (S32)) (r : List (S32)) (w : World) (hr0 : Kd.C k32 w A0 l0.length l0) (hc0 : l0.length ≤ c0) (h : cornucopiabook_LentEntries.f l0 = some r) :
  Calls Tryz.prog 32 #[.slice A0 l0.length c0] w fun e w' => ∃ v0_ : Value, e = .returned (v0_) ∧ Lent.RM k32 (⟨(⟨#[109, 97, 114, 107]⟩ : ByteArray), (0 : Int), (0 : Int), (⟨#[]⟩ : ByteArray)⟩ : S32) 32 w' w.heap.size (fun _ => True) v0_ r ∧ Below w.heap.size w w' := by
 have hu32 := Tryz.underlying32
 have HR0 := Aside0.mk hr0
 have HC0 := Aside0.mk hc0
 clear hr0 hc0
 have HB := Aside0.mk (Below.refl w.heap.size w)
 have H : (if ([] : List (S32)).length + l0.length < 2932031007402 then ((some (([] : List (S32)) ++ l0 : List (S32))).bind fun y383 => (if y383.length < 2932031007402 then ((some (y383 ++ [(⟨(⟨#[109, 97, 114, 107]⟩ : ByteArray), 0, 0, (⟨#[]⟩ : ByteArray)⟩ : S32)] : List (S32))).bind fun y386 => (if 0 ≤ (l0.length : Int) then (if (l0.length : Int) ≤ (y386.length : Int) then (some (y386.take ((l0.length : Int) : Int).toNat)) else (none)) else (none))) else (none))) else (none)) = some r := h
 clear h
 by_cases c2 : ([] : List (S32)).length + l0.length < 2932031007402
 ·rw [if_pos c2] at H
  have LMc2 := Aside0.mk c2
  clear c2
  obtain ⟨y383, hy383⟩ : ∃ y_ : List (S32), y_ = (([] : List (S32)) ++ l0) := ⟨_, rfl⟩
  replace H : (if y383.length < 2932031007402 then ((some (y383 ++ [(⟨(⟨#[109, 97, 114, 107]⟩ : ByteArray), 0, 0, (⟨#[]⟩ : ByteArray)⟩ : S32)] : List (S32))).bind fun y386 => (if 0 ≤ (l0.length : Int) then (if (l0.length : Int) ≤ (y386.length : Int) then (some (y386.take ((l0.length : Int) : Int).toNat)) else (none)) else (none))) else (none)) = some r := by first | (rw [hy383]; with_reducible exact H) | (have H2_ := (Option.bind_some _ _).symm.trans H; rw [hy383]; with_reducible exact H2_) | (have H2_ := (Option.bind_some _ _).symm.trans H; with_reducible exact H2_) | with_reducible exact H | (rw [hy383]; exact H) | exact H
  have Ny383 := Aside0.mk hy383
  clear hy383
  by_cases c3 : y383.length < 2932031007402
  ·rw [if_pos c3] at H
   have LMc3 := Aside0.mk c3
   clear c3
   obtain ⟨y386, hy386⟩ : ∃ y_ : List (S32), y_ = (y383 ++ [(⟨(⟨#[109, 97, 114, 107]⟩ : ByteArray), 0, 0, (⟨#[]⟩ : ByteArray)⟩ : S32)]) := ⟨_, rfl⟩
   replace H : (if 0 ≤ (l0.length : Int) then (if (l0.length : Int) ≤ (y386.length : Int) then (some (y386.take ((l0.length : Int) : Int).toNat)) else (none)) else (none)) = some r := by first | (rw [hy386]; with_reducible exact H) | (have H2_ := (Option.bind_some _ _).symm.trans H; rw [hy386]; with_reducible exact H2_) | (have H2_ := (Option.bind_some _ _).symm.trans H; with_reducible exact H2_) | with_reducible exact H | (rw [hy386]; exact H) | exact H
   have Ny386 := Aside0.mk hy386
   clear hy386
   by_cases c4 : 0 ≤ (l0.length : Int)
   ·rw [if_pos c4] at H
    have c4b0 := eq_true c4
    have c4b1 : decide (0 ≤ (l0.length : Int)) = true := decide_eq_true c4
    clear c4
    by_cases c5 : (l0.length : Int) ≤ (y386.length : Int)
    ·rw [if_pos c5] at H
     have c5b0 := eq_true c5
     have c5b1 : decide ((l0.length : Int) ≤ (y386.length : Int)) = true := decide_eq_true c5
     clear c5
     obtain ⟨y389, hy389⟩ : ∃ y_ : List (S32), y_ = (y386.take ((l0.length : Int) : Int).toNat) := ⟨_, rfl⟩
     replace H : (some y389) = some r := by first | (rw [hy389]; with_reducible exact H) | (have H2_ := (Option.bind_some _ _).symm.trans H; rw [hy389]; with_reducible exact H2_) | (have H2_ := (Option.bind_some _ _).symm.trans H; with_reducible exact H2_) | with_reducible exact H | (rw [hy389]; exact H) | exact H
     have Ny389 := Aside0.mk hy389
     clear hy389
     obtain rfl := Option.some.inj H
     go_enter Tryz.func32, Tryz.ntmps32
     go_wp2_with (first | ((with_reducible refine gate_builtin (b := .append) (xs := #[.const (.slice none 0 0), .tmp 3]) rfl ?_); at_builtin; refine Kd.R_append_rows k32 (w0 := w) w.heap.size rfl (.const (.slice none 0 0)) (.tmp 3) 22 32 (.agg #[(.string ⟨#[]⟩), (.int .u64 0), (.int .i64 0), (.string ⟨#[]⟩)]) 48 rfl Tryz.underlying22 info32 rfl (by decide) (by omega) (.slice none 0 0) ([] : List (S32)) l0 _ _ _ (fun _ => True) (fun _ => False) rfl rfl ?aO ?aR (fun _ _ h => h) (fun _ h => h.elim) ?aF ?aB ?aS ?aL ?_; (case aR => repeat (first | exact HR0.out | (with_reducible refine Kd.C_alloc ?_ _) | (with_reducible refine Kd.C_drewN ?_ _) | (with_reducible refine Kd.C_drew ?_))); (case aB => exact (by repeat (first | (with_reducible first | exact HB.out | apply below_alloc | apply pw_below_drewN | apply below_drew1) | exact HB.out))); (case aF => exact (fun _ _ => trivial)); (case aO => exact ((Kd.R_nil _ _ _ _ (fun _ => True)))); (case aS => exact (below_size (by repeat (first | (with_reducible first | exact HB.out | apply below_alloc | apply pw_below_drewN | apply below_drew1) | exact HB.out)))); (case aL => have := LMc2.out; omega); intro v384 w6 ho hb hg hat; rw [← Ny383.out] at ho; have n0_ := Aside0.mk (hb); have n1_ := Aside0.mk (ho); clear HB; have HB := n0_; have HO385 := n1_; clear n0_ n1_; clear ho hb hg hat) | ((with_reducible refine gate_builtin (b := .append) (xs := #[.tmp 4, .tmp 6]) rfl ?_); at_builtin; refine Kd.R_append k32 (w0 := w) w.heap.size rfl (.tmp 4) (.tmp 6) 22 32 (.agg #[(.string ⟨#[]⟩), (.int .u64 0), (.int .i64 0), (.string ⟨#[]⟩)]) 48 rfl Tryz.underlying22 info32 rfl (by decide) (by omega) v384 y383 (⟨(⟨#[109, 97, 114, 107]⟩ : ByteArray), 0, 0, (⟨#[]⟩ : ByteArray)⟩ : S32) [.string (⟨#[109, 97, 114, 107]⟩ : ByteArray), .int .u64 0, .int .i64 0, .string (⟨#[]⟩ : ByteArray)] (fun _ => True) (fun _ => False) rfl rfl ?aP (fun _ hk => hk.elim) ?aF ?aO ?aB ?aS ?aL ?_; (case aP => exact k32_mkM _ _ _ (⟨(⟨#[109, 97, 114, 107]⟩ : ByteArray), 0, 0, (⟨#[]⟩ : ByteArray)⟩ : S32)); (case aB => exact (by repeat (first | (with_reducible first | exact HB.out | apply below_alloc | apply pw_below_drewN | apply below_drew1) | exact HB.out))); (case aF => exact (fun _ _ => trivial)); (case aO => exact (by (with_reducible repeat (first | apply Kd.R_alloc | apply Kd.R_drewN | apply Kd.R_drew)); exact HO385.out)); (case aS => exact (below_size (by repeat (first | (with_reducible first | exact HB.out | apply below_alloc | apply pw_below_drewN | apply below_drew1) | exact HB.out)))); (case aL => have := LMc3.out; omega); intro v387 w7 ho hb hg hat; rw [← Ny386.out] at ho; have n0_ := Aside0.mk (hb); have n1_ := Aside0.mk (ho); clear HB; clear HO385; have HB := n0_; have HO388 := n1_; clear n0_ n1_; clear ho hb hg hat; obtain ⟨Ao8, co8, eo8⟩ := Kd.R_slice HO388.out; subst eo8; have q9 : ((l0.length : Int) : Int) ≤ ((y386.length : Int) : Int) := of_decide_eq_true (by first | (with_reducible assumption) | assumption); obtain ⟨i09, hi09, _, hsz9, _⟩ := info_parts info32; have hcut9 := cut_to (P := Tryz.prog) 22 32 .i64 Tryz.underlying22 hi09 Ao8 y386.length co8 (l0.length : Int) (of_decide_eq_true (by first | (with_reducible assumption) | assumption)) q9 (Kd.R_reads' HO388.out).2.1; have hr9 := Kd.R_take (m := ((l0.length : Int) : Int).toNat) HO388.out (by omega); have hy9 : y389.length = ((l0.length : Int) : Int).toNat := (by rw [Ny389.out, List.length_take]; omega); rw [← Ny389.out] at hr9; rw [← hy9] at hr9 hcut9; clear hy9 hi09 hsz9; have HO391 := Aside0.mk hr9; clear hr9; replace q9 := eq_true q9))
     go_ret
     have hyy : y386 = y389 ++ [(⟨(⟨#[109, 97, 114, 107]⟩ : ByteArray), (0 : Int), (0 : Int), (⟨#[]⟩ : ByteArray)⟩ : S32)] := by
      have h1 := Ny386.out
      have h2 := Ny389.out
      have h3 := Ny383.out
      rw [h2, h1, h3]
      simp
     refine ⟨_, by first | rfl | (simp [errW_none, errW_some] <;> rfl) | (simp [*, errW_none, errW_some] <;> rfl), ⟨Ao8, co8, rfl, ?_⟩, by repeat (first | (with_reducible first | exact HB.out | apply below_alloc | apply pw_below_drewN | apply below_drew1) | exact HB.out)⟩
     have hlong : Kd.R k32 32 _ w.heap.size (fun _ => True) (.slice Ao8 y386.length co8) y386 := HO388.out
     rw [hyy, List.length_append] at hlong
     (with_reducible repeat (first | apply Kd.R_alloc | apply Kd.R_drewN | apply Kd.R_drew))
     exact hlong
    ·rw [if_neg c5] at H
     exact absurd H (by simp)
   ·rw [if_neg c4] at H
    exact absurd H (by simp)
  ·rw [if_neg c3] at H
   exact absurd H (by simp)
 ·rw [if_neg c2] at H
  exact absurd H (by simp)
def cornucopiabook_StaysEntries.f (k : Nat) (l0 l1 : List S32) : Option Bool := if l0.length < 2932031007401 then cornucopiabook_SameEntries.f k l0 l1 else none
theorem cornucopiabook_StaysEntries.mono (y0 y1 : List S32) : ∀ k, LeO (cornucopiabook_StaysEntries.f k y0 y1) (cornucopiabook_StaysEntries.f (k + 1) y0 y1) := fun k => by
 unfold cornucopiabook_StaysEntries.f
 refine LeO.ite ?_ (LeO.none _)
 exact cornucopiabook_SameEntries.mono _ _ _
set_option maxHeartbeats 8000000 in
set_option maxRecDepth 100000 in
theorem cornucopiabook_StaysEntries.calls (k : Nat) (A0 : Option Addr) (c0 : Nat) (l0 : List S32) (A1 : Option Addr) (c1 : Nat) (l1 : List S32) (r : Bool) (w : World) (hr0 : Lent.CM k32 (⟨(⟨#[109, 97, 114, 107]⟩ : ByteArray), (0 : Int), (0 : Int), (⟨#[]⟩ : ByteArray)⟩ : S32) w A0 l0.length l0) (hc0 : l0.length + 1 ≤ c0) (hr1 : Kd.C k32 w A1 l1.length l1) (hc1 : l1.length ≤ c1) (h : cornucopiabook_StaysEntries.f k l0 l1 = some r) :
  Calls Tryz.prog 41 #[.slice A0 l0.length c0, .slice A1 l1.length c1] w fun e w' => e = .returned (.bool r) ∧ Drawn0 w w' := by
 have HR0 := Aside0.mk hr0
 have HC0 := Aside0.mk hc0
 have HR1 := Aside0.mk hr1
 have HC1 := Aside0.mk hc1
 clear hr0 hc0 hr1 hc1
 unfold cornucopiabook_StaysEntries.f at h
 split at h
 ·rename_i hl
  have HL := Aside0.mk hl
  have HA := Aside0.mk h
  clear h hl
  have hw : wrap64 ((l0.length : Int) + 1) = (((l0.length + 1 : Nat)) : Int) := by have := HL.out; unfold wrap64; omega
  have hw2 : IntKind.i64.wrap ((l0.length : Int) + 1) = (((l0.length + 1 : Nat)) : Int) := (i64_w _).trans hw
  have hle : (l0.length : Int) + 1 ≤ (c0 : Int) := by have := HC0.out; omega
  have hle2 : decide ((l0.length : Int) + 1 ≤ (c0 : Int)) = true := decide_eq_true hle
  have hge : (0 : Int) ≤ (l0.length : Int) + 1 := by omega
  obtain ⟨ad, e0, hx, hx1, hx2, hx3⟩ := at_T32 HR0.out.1 (l0.length : Int) (by omega) (by omega)
  subst e0
  have hmk : rd_T32 (l0 ++ [(⟨(⟨#[109, 97, 114, 107]⟩ : ByteArray), (0 : Int), (0 : Int), (⟨#[]⟩ : ByteArray)⟩ : S32)]) (l0.length : Int) = (⟨(⟨#[109, 97, 114, 107]⟩ : ByteArray), (0 : Int), (0 : Int), (⟨#[]⟩ : ByteArray)⟩ : S32) := by simp [rd_T32]
  rw [hmk] at hx hx1 hx2 hx3
  simp only [Int.toNat_natCast] at hx hx1 hx2 hx3
  have hlt : decide ((l0.length : Int) < ((l0.length + 1 : Nat) : Int)) = true := decide_eq_true (by omega)
  go_enter Tryz.func41, Tryz.ntmps41
  cases r
  ·go_wp2_with (go_at_call 19; refine (cornucopiabook_SameEntries.calls k _ _ l0 _ _ l1 false _ HR0.out.2 (by have := HC0.out; omega) HR1.out HC1.out HA.out).mono ?_; rintro e w' ⟨rfl, ⟨nd, rfl⟩⟩)
   go_ret
   exact ⟨by first | rfl | (simp; done) | (simp [*]; done), by repeat (first | exact Drawn0.refl _ | apply Drawn0.step)⟩
  ·go_wp2_with (go_at_call 19; refine (cornucopiabook_SameEntries.calls k _ _ l0 _ _ l1 true _ HR0.out.2 (by have := HC0.out; omega) HR1.out HC1.out HA.out).mono ?_; rintro e w' ⟨rfl, ⟨nd, rfl⟩⟩)
   go_ret
   exact ⟨by first | rfl | (simp; done) | (simp [*]; done), by repeat (first | exact Drawn0.refl _ | apply Drawn0.step)⟩
 ·cases h
end Go.Proofs.YtchgpcgolgcfdaaGreat.PNum
end
section
namespace Go.Proofs.YtchgpcgolgcfdaaGreat.PNum
open Go.RowKit Go.Proofs.YtchgpcgolgcfdaaGreatW.PrintWords Go.Proofs.YtchgpcgolgcfdaaGreatW.PrintLast Go.Proofs.YtchgpcgolgcfdaaGreatW.PrintMore
attribute [local go_sem] max2_int min2_int max_two min_two max_three min_three max_four min_four   -- for this text's walks alone
set_option linter.unusedVariables false
set_option linter.unusedSimpArgs false
def cornucopiabook_StaysNums.f (k : Nat) (l0 l1 : List Int) : Option Bool := if l0.length < 17592186044415 then cornucopiabook_SameNums.f k l0 l1 else none
theorem cornucopiabook_StaysNums.mono (y0 y1 : List Int) : ∀ k, LeO (cornucopiabook_StaysNums.f k y0 y1) (cornucopiabook_StaysNums.f (k + 1) y0 y1) := fun k => by
 unfold cornucopiabook_StaysNums.f
 refine LeO.ite ?_ (LeO.none _)
 exact cornucopiabook_SameNums.mono _ _ _
set_option maxHeartbeats 8000000 in
set_option maxRecDepth 100000 in
theorem cornucopiabook_StaysNums.calls (k : Nat) (A0 : Option Addr) (c0 : Nat) (l0 : List Int) (A1 : Option Addr) (c1 : Nat) (l1 : List Int) (r : Bool) (w : World) (hr0 : Lent.CM (Kd.int .u64) (77 : Int) w A0 l0.length l0) (hc0 : l0.length + 1 ≤ c0) (hr1 : Kd.C (Kd.int .u64) w A1 l1.length l1) (hc1 : l1.length ≤ c1) (h : cornucopiabook_StaysNums.f k l0 l1 = some r) :
  Calls Tryz.prog 57 #[.slice A0 l0.length c0, .slice A1 l1.length c1] w fun e w' => e = .returned (.bool r) ∧ Drawn0 w w' := by
 have HR0 := Aside0.mk hr0
 have HC0 := Aside0.mk hc0
 have HR1 := Aside0.mk hr1
 have HC1 := Aside0.mk hc1
 clear hr0 hc0 hr1 hc1
 unfold cornucopiabook_StaysNums.f at h
 split at h
 ·rename_i hl
  have HL := Aside0.mk hl
  have HA := Aside0.mk h
  clear h hl
  have hw : wrap64 ((l0.length : Int) + 1) = (((l0.length + 1 : Nat)) : Int) := by have := HL.out; unfold wrap64; omega
  have hw2 : IntKind.i64.wrap ((l0.length : Int) + 1) = (((l0.length + 1 : Nat)) : Int) := (i64_w _).trans hw
  have hle : (l0.length : Int) + 1 ≤ (c0 : Int) := by have := HC0.out; omega
  have hle2 : decide ((l0.length : Int) + 1 ≤ (c0 : Int)) = true := decide_eq_true hle
  have hge : (0 : Int) ≤ (l0.length : Int) + 1 := by omega
  obtain ⟨ad, e0, hx⟩ := Kd.at_int HR0.out.1 (l0.length : Int) (by omega) (by omega)
  subst e0
  have hmk : rd (l0 ++ [(77 : Int)]) (l0.length : Int) = 77 := by simp [rd]
  simp only [Int.toNat_natCast] at hx
  have hlt : decide ((l0.length : Int) < ((l0.length + 1 : Nat) : Int)) = true := decide_eq_true (by omega)
  go_enter Tryz.func57, Tryz.ntmps57
  cases r
  ·go_wp2_with (go_at_call 177; refine (cornucopiabook_SameNums.calls k _ _ l0 _ _ l1 false _ HR0.out.2 (by have := HC0.out; omega) HR1.out HC1.out HA.out).mono ?_; rintro e w' ⟨rfl, ⟨nd, rfl⟩⟩)
   go_ret
   exact ⟨by first | rfl | (simp; done) | (simp [*]; done), by repeat (first | exact Drawn0.refl _ | apply Drawn0.step)⟩
  ·go_wp2_with (go_at_call 177; refine (cornucopiabook_SameNums.calls k _ _ l0 _ _ l1 true _ HR0.out.2 (by have := HC0.out; omega) HR1.out HC1.out HA.out).mono ?_; rintro e w' ⟨rfl, ⟨nd, rfl⟩⟩)
   go_ret
   exact ⟨by first | rfl | (simp; done) | (simp [*]; done), by repeat (first | exact Drawn0.refl _ | apply Drawn0.step)⟩
 ·cases h
end Go.Proofs.YtchgpcgolgcfdaaGreat.PNum
end
section
namespace Go.Proofs.YtchgpcgolgcfdaaGreat.IkT
open Go Go.RowKit Go.Proofs.YtchgpcgolgcfdaaGreat.PNum Go.Proofs.YtchgpcgolgcfdaaGreat.BkW Go.Proofs.YtchgpcgolgcfdaaGreat.BkAEntries Go.Proofs.YtchgpcgolgcfdaaGreatW.PrintWords Go.Proofs.YtchgpcgolgcfdaaGreatW.PrintLast Go.Proofs.YtchgpcgolgcfdaaGreatW.PrintMore Go.Proofs.YtchgpcgolgcfdaaGreatW.Pu
set_option linter.unusedVariables false
set_option linter.unusedSimpArgs false
abbrev E := S32
abbrev kE := k32
def markE : E := ⟨⟨#[109, 97, 114, 107]⟩, 0, 0, ⟨#[]⟩⟩
def encN (x : Int) : List Value := [.int .u64 x]
theorem flatN : Flat (Kd.int .u64) encN := ⟨fun _ => rfl, fun h => h, fun _ _ => rfl, fun h => h⟩
def LE (w : World) (A : Option Addr) (c : Nat) (l : List E) : Prop := l.length + 1 ≤ c ∧ Rw w 32 4 (.slice A (l.length + 1) c) (l.length + 1) (encL BkEntries.enc (l ++ [markE]))
def LN (w : World) (A : Option Addr) (c : Nat) (l : List Int) : Prop := l.length + 1 ≤ c ∧ Rw w 25 1 (.slice A (l.length + 1) c) (l.length + 1) (encL encN (l ++ [77]))
section
variable {w w1 : World} {A : Option Addr} {c : Nat} {l : List E} {p : List Int}
theorem LE.below (h : LE w A c l) (hb : Below w.heap.size w w1) : LE w1 A c l := ⟨h.1, h.2.below hb⟩
theorem LN.below (h : LN w A c p) (hb : Below w.heap.size w w1) : LN w1 A c p := ⟨h.1, h.2.below hb⟩
theorem LE.still {T : List TypeId} (h : LE w A c l) (hs : Still T w w1) (ht : 32 ∉ T) : LE w1 A c l := ⟨h.1, hs.rw_ h.2 ht⟩
theorem LN.still {T : List TypeId} (h : LN w A c p) (hs : Still T w w1) (ht : 25 ∉ T) : LN w1 A c p := ⟨h.1, hs.rw_ h.2 ht⟩
theorem LE.cm (h : LE w A c l) : Lent.CM kE markE w A l.length l := by
 refine ⟨BkEntries.flat.to_C h.2 (by simp), ?_⟩
 have h1 := h.2.take (m := l.length) (by omega)
 refine BkEntries.flat.to_C (e := 32) (c := c) ?_ rfl
 have e : (encL BkEntries.enc (l ++ [markE])).take (l.length * 4) = encL BkEntries.enc l := by
  rw [encL_append, List.take_append_of_le_length (by rw [BkEntries.flat.lenL]; exact Nat.le_refl _)]
  exact List.take_of_length_le (by rw [BkEntries.flat.lenL]; exact Nat.le_refl _)
 rw [e] at h1
 exact h1
theorem LN.cm (h : LN w A c p) : Lent.CM (Kd.int .u64) (77 : Int) w A p.length p := by
 refine ⟨flatN.to_C h.2 (by simp), ?_⟩
 have h1 := h.2.take (m := p.length) (by omega)
 refine flatN.to_C (e := 25) (c := c) ?_ rfl
 have e : (encL encN (p ++ [77])).take (p.length * 1) = encL encN p := by
  rw [encL_append, List.take_append_of_le_length (by rw [flatN.lenL]; exact Nat.le_refl _)]
  exact List.take_of_length_le (by rw [flatN.lenL]; exact Nat.le_refl _)
 rw [e] at h1
 exact h1
end
theorem lentE {w : World} {A : Option Addr} {c : Nat} {l : List E} (hC : Kd.C kE w A l.length l) (hc : l.length ≤ c) (hl : l.length ≤ 1000) :
  Calls Tryz.prog 32 #[.slice A l.length c] w fun e w' => ∃ A' c', e = .returned (.slice A' l.length c') ∧ LE w' A' c' l ∧ Below w.heap.size w w' := by
 have hf : cornucopiabook_LentEntries.f l = some l := by
  unfold cornucopiabook_LentEntries.f
  rw [if_pos (by simp; omega), Option.bind_some, if_pos (by simp; omega), Option.bind_some, if_pos (by omega), if_pos (by simp; omega)]
  simp
 refine (cornucopiabook_LentEntries.calls A c l l w hC hc hf).mono ?_
 rintro e w' ⟨v, rfl, ⟨A', c', rfl, hr⟩, hb⟩
 have h2 := (Kd.R_reads' hr).2.1
 have h3 := BkEntries.flat.of_R hr
 rw [List.length_append, List.length_singleton] at h3
 exact ⟨A', c', rfl, ⟨h2, h3⟩, hb⟩
theorem lentN {w : World} {A : Option Addr} {c : Nat} {l : List Int} (hC : Kd.C (Kd.int .u64) w A l.length l) (hc : l.length ≤ c) (hl : l.length ≤ 1000) :
  Calls Tryz.prog 43 #[.slice A l.length c] w fun e w' => ∃ A' c', e = .returned (.slice A' l.length c') ∧ LN w' A' c' l ∧ Below w.heap.size w w' := by
 have hf : cornucopiabook_LentNums.f l = some l := by
  unfold cornucopiabook_LentNums.f
  rw [if_pos (by simp; omega), Option.bind_some, if_pos (by simp; omega), Option.bind_some, if_pos (by omega), if_pos (by simp; omega)]
  simp
 refine (cornucopiabook_LentNums.calls A c l l w hC hc hf).mono ?_
 rintro e w' ⟨v, rfl, ⟨A', c', rfl, hr⟩, hb⟩
 have h2 := (Kd.R_reads' hr).2.1
 have h3 := flatN.of_R hr
 rw [List.length_append, List.length_singleton] at h3
 exact ⟨A', c', rfl, ⟨h2, h3⟩, hb⟩
theorem sameN_l (l : List Int) (hl : l.length ≤ 1000000) : ∀ (d i : Nat), i + d = l.length → ∀ k, d < k → cornucopiabook_SameNums.l0 k l l (i : Int) = some true
 | 0, i, hi, k, hk => by
  obtain ⟨k, rfl⟩ : ∃ m, k = m + 1 := ⟨k - 1, by omega⟩
  rw [cornucopiabook_SameNums.l0, if_neg (by omega)]
 | d + 1, i, hi, k, hk => by
  obtain ⟨k, rfl⟩ : ∃ m, k = m + 1 := ⟨k - 1, by omega⟩
  rw [cornucopiabook_SameNums.l0, if_pos (by omega), if_pos (by omega), if_pos (by omega), if_pos (by simp), wrap64_id (by omega)]
  exact sameN_l l hl d (i + 1) (by omega) k (by omega)
theorem staysE {w : World} {A A0 : Option Addr} {c c0 : Nat} {l : List E} (h : LE w A c l) (hC : Kd.C kE w A0 l.length l) (hc : l.length ≤ c0) (hl : l.length ≤ 1000) :
  Calls Tryz.prog 41 #[.slice A l.length c, .slice A0 l.length c0] w fun e w' => e = .returned (.bool true) ∧ Below w.heap.size w w' := by
 have hf : cornucopiabook_StaysEntries.f (l.length + 1) l l = some true := by
  unfold cornucopiabook_StaysEntries.f
  rw [if_pos (by omega)]
  exact BkEntries.same_ev l (by omega) (Nat.lt_succ_self _)
 exact (cornucopiabook_StaysEntries.calls (l.length + 1) A c l A0 c0 l true w h.cm h.1 hC hc hf).mono (fun e w' h => ⟨h.1, h.2.below⟩)
theorem staysN {w : World} {A A0 : Option Addr} {c c0 : Nat} {l : List Int} (h : LN w A c l) (hC : Kd.C (Kd.int .u64) w A0 l.length l) (hc : l.length ≤ c0) (hl : l.length ≤ 1000) :
  Calls Tryz.prog 57 #[.slice A l.length c, .slice A0 l.length c0] w fun e w' => e = .returned (.bool true) ∧ Below w.heap.size w w' := by
 have hf : cornucopiabook_StaysNums.f (l.length + 1) l l = some true := by
  unfold cornucopiabook_StaysNums.f
  rw [if_pos (by omega), cornucopiabook_SameNums.f, if_pos rfl]
  exact sameN_l l (by omega) l.length 0 (by omega) _ (by omega)
 exact (cornucopiabook_StaysNums.calls (l.length + 1) A c l A0 c0 l true w h.cm h.1 hC hc hf).mono (fun e w' h => ⟨h.1, h.2.below⟩)
theorem ecells {w : World} {A : Option Addr} {l : List E} (hC : Kd.C kE w A l.length l) {i : Nat} (hi : i < l.length) : ∃ ad, A = some ad ∧ ∀ V, Below w.heap.size w V → V.cell? (ad.add (i * 4)) = some (.string l[i].f0) ∧ V.cell? ⟨(ad.add (i * 4)).block, (ad.add (i * 4)).off + 1, none⟩ = some (.int .u64 l[i].f1) ∧ V.cell? ⟨(ad.add (i * 4)).block, (ad.add (i * 4)).off + 2, none⟩ = some (.int .i64 l[i].f2) ∧ V.cell? ⟨(ad.add (i * 4)).block, (ad.add (i * 4)).off + 3, none⟩ = some (.string l[i].f3) := by
 obtain ⟨ad, e0, y0, y1, y2, y3⟩ := at_T32 hC (i : Int) (Int.natCast_nonneg _) (Int.ofNat_lt.mpr hi)
 have hx : rd_T32 l (i : Int) = l[i] := by simp [rd_T32, hi]
 rw [hx] at y0 y1 y2 y3
 simp only [Int.toNat_natCast] at y0 y1 y2 y3
 exact ⟨ad, e0, fun V hb => ⟨pw_cell_below hb y0, pw_cell_below hb y1, pw_cell_below hb y2, pw_cell_below hb y3⟩⟩
theorem kept_of {w w1 : World} {g : Nat} {x : Obj} (hk : ∀ i, i < w.heap.size → i ≠ g → w1.heap[i]? = w.heap[i]?) {h : Nat} (hh : w.heap[h]? = some x) (hne : h ≠ g) : w1.heap[h]? = some x := by
 rw [hk h (by
  rcases Nat.lt_or_ge h w.heap.size with a | a
  ·exact a
  ·rw [Array.getElem?_eq_none a] at hh; cases hh) hne]
 exact hh
theorem S97_keep {w0 w w1 : World} {g g2 : Nat} {b : ByteArray} {x : Int} (h : IsS97 w0 w g2 b x) (hk : KeepBut w w1 g none) (hne : g2 ≠ g) : IsS97 w0 w1 g2 b x := ⟨kept_of (fun i hi hn => hk.2 i hi hn (by simp)) h.1 hne, h.2⟩
theorem S206_keep {w0 w w1 : World} {g g2 : Nat} {b : ByteArray} {x : Int} (h : IsS206 w0 w g2 b x) (hk : KeepBut w w1 g none) (hne : g2 ≠ g) : IsS206 w0 w1 g2 b x := ⟨kept_of (fun i hi hn => hk.2 i hi hn (by simp)) h.1 hne, h.2⟩
theorem two_ne {w0 w : World} {g g2 : Nat} {b b2 : ByteArray} {x x2 : Int} (h : IsS206 w0 w g b x) (h2 : IsS97 w0 w g2 b2 x2) : g ≠ g2 := by
 rintro rfl
 have := h.1.symm.trans h2.1
 simp at this
theorem valid_nil : ikey_Valid.f 3 ⟨#[]⟩ 0 0 ⟨#[]⟩ = some false := by decide +kernel
theorem t_nil (n : Int) (w : World) : Calls Tryz.prog 171 #[.pointer none, .int .i64 n] w fun e w' => e = .returned (.string ⟨#[]⟩) ∧ Below w.heap.size w w' := (NilR.Text.calls n ⟨#[]⟩ w rfl).mono (fun e w' h => ⟨h.1, h.2.below⟩)
theorem v_nil (w : World) : Calls Tryz.prog 172 #[.pointer none] w fun e w' => e = .returned (.int .u64 0) ∧ Below w.heap.size w w' := (NilR.Var.calls 0 w rfl).mono (fun e w' h => ⟨h.1, h.2.below⟩)
theorem f_nil (n : Int) (w : World) : Calls Tryz.prog 173 #[.pointer none, .int .i64 n] w fun e w' => e = .returned (.tuple #[]) ∧ Below w.heap.size w w' := (NilR.Fail.calls n w rfl).mono (fun e w' h => ⟨h.1, h.2.below⟩)
theorem e_nil (w : World) : Calls Tryz.prog 52 #[.pointer none] w fun e w' => e = .returned (.int .i64 1) ∧ Below w.heap.size w w' := (NilR.Err.calls 1 w rfl).mono (fun e w' h => ⟨h.1, h.2.below⟩)
theorem c_nil (w : World) : Calls Tryz.prog 99 #[.string ⟨#[]⟩] w fun e w' => e = .returned (.string ⟨#[]⟩) ∧ Below w.heap.size w w' := strings_Clone.calls ⟨#[]⟩ ⟨#[]⟩ w (PuIkB.Clone_eq _ (by decide))
abbrev zc : Array Value := #[.string (⟨#[]⟩ : ByteArray), .int .u64 0, .int .i64 0, .string (⟨#[]⟩ : ByteArray)]
set_option maxHeartbeats 8000000 in
set_option maxRecDepth 100000 in
theorem get_nil (w : World) : Calls Tryz.prog 50 #[.pointer none] w fun e w' => e = .returned (.agg #[.string ⟨#[]⟩, .int .u64 0, .int .i64 0, .string ⟨#[]⟩]) ∧ Below w.heap.size w w' := by
 have hu32 := Tryz.underlying32
 have HB := Aside0.mk (Below.refl w.heap.size w)
 have HB0 : Aside0 (w.heap.size ≤ w.heap.size) := ⟨Nat.le_refl _⟩
 have TK0 := Aside0.mk True.intro
 go_enter Tryz.func50, Tryz.ntmps50
 go_wp2_with (first
  | ((with_reducible refine gate_dst (N := 2) rfl ?_); refine box_event ?hg (N := 2) ?hd (cs := #[.string (⟨#[]⟩ : ByteArray), .int .u64 0, .int .i64 0, .string (⟨#[]⟩ : ByteArray)]) (t := 32) ?hr ?_; (case hd => rfl); (case hg => rfl); (case hr => first | (go_simp; done) | (go_simp; rfl)); intro gb2 hg w2 hbox hb; have m_ := Aside0.mk (below_step HB.out hb); clear HB; have HB := m_; clear m_; have BK2 := Aside0.mk hbox; have GE2 : Aside0 (w.heap.size ≤ gb2) := ⟨by rw [hg]; exact HB0.out⟩; clear hbox hg hb HB0; have HB0 : Aside0 (w.heap.size ≤ w2.heap.size) := ⟨HB.out.size⟩)
  | ((with_reducible refine gate_dst (N := 3) rfl ?_); refine box_event ?hg (N := 3) ?hd (cs := #[.string (⟨#[]⟩ : ByteArray), .int .u64 0, .int .i64 0, .string (⟨#[]⟩ : ByteArray)]) (t := 32) ?hr ?_; (case hd => rfl); (case hg => rfl); (case hr => first | (go_simp; done) | (go_simp; rfl)); intro gb3 hg w3 hbox hb; have NE : Aside0 (gb2 ≠ gb3) := ⟨by rw [hg]; exact Nat.ne_of_lt (blk_lt BK2.out)⟩; have n0_ := Aside0.mk (blk_below BK2.out hb); have m_ := Aside0.mk (below_step HB.out hb); clear HB; have HB := m_; clear m_; clear BK2; have BK2 := n0_; clear n0_; have BK3 := Aside0.mk hbox; have GE3 : Aside0 (w.heap.size ≤ gb3) := ⟨by rw [hg]; exact HB0.out⟩; clear hbox hg hb HB0; have hc0 : w3.cell? ⟨gb3, 0, none⟩ = some (.string ⟨#[]⟩) := (blk_cell BK3.out 0).trans rfl; have hc1 : w3.cell? ⟨gb3, 1, none⟩ = some (.int .u64 0) := (blk_cell BK3.out 1).trans rfl; have hc2 : w3.cell? ⟨gb3, 2, none⟩ = some (.int .i64 0) := (blk_cell BK3.out 2).trans rfl; have hc3 : w3.cell? ⟨gb3, 3, none⟩ = some (.string ⟨#[]⟩) := (blk_cell BK3.out 3).trans rfl; have hf0 := blk_frozen BK3.out 0; have hf1 := blk_frozen BK3.out 1; have hf2 := blk_frozen BK3.out 2; have hf3 := blk_frozen BK3.out 3; have HB0 : Aside0 (w.heap.size ≤ w3.heap.size) := ⟨HB.out.size⟩)
  | (go_at_call 171; have t_ := TK0; refine (t_nil 300 _).mono ?_; rintro e wa ⟨rfl, hb⟩; have m_ := Aside0.mk (below_step HB.out hb); clear HB HB0; have HB := m_; clear m_; have n0_ := Aside0.mk (blk_below BK2.out hb); clear BK2; have BK2 := n0_; clear n0_; clear t_ TK0 hb; have TK1 := Aside0.mk True.intro; have HB0 : Aside0 (w.heap.size ≤ wa.heap.size) := ⟨HB.out.size⟩)
  | (go_at_call 99; have t_ := TK1; refine (c_nil _).mono ?_; rintro e wb ⟨rfl, hb⟩; have m_ := Aside0.mk (below_step HB.out hb); clear HB HB0; have HB := m_; clear m_; have n0_ := Aside0.mk (blk_below BK2.out hb); clear BK2; have BK2 := n0_; clear n0_; clear t_ TK1 hb; have TK2 := Aside0.mk True.intro; have HB0 : Aside0 (w.heap.size ≤ wb.heap.size) := ⟨HB.out.size⟩)
  | (go_at_call 172; have t_ := TK2; refine (v_nil _).mono ?_; rintro e wc ⟨rfl, hb⟩; have m_ := Aside0.mk (below_step HB.out hb); clear HB HB0; have HB := m_; clear m_; have n0_ := Aside0.mk (blk_below BK2.out hb); clear BK2; have BK2 := n0_; clear n0_; clear t_ TK2 hb; have TK3 := Aside0.mk True.intro; have HB0 : Aside0 (w.heap.size ≤ wc.heap.size) := ⟨HB.out.size⟩)
  | (go_at_call 172; have t_ := TK3; refine (v_nil _).mono ?_; rintro e wd ⟨rfl, hb⟩; have m_ := Aside0.mk (below_step (below_set (below_set (below_set (below_set (HB.out) GE3.out) GE3.out) GE3.out) GE3.out) hb); have n2_ := Aside0.mk (blk_below (blk_far (blk_far (blk_far (blk_far (BK2.out) NE.out _) NE.out _) NE.out _) NE.out _) hb); have n3_ := Aside0.mk (blk_below (blk_put (cs := zc) (blk_put (cs := zc) (blk_put (cs := zc) (blk_put (cs := zc) (BK3.out) 0 _ rfl) 1 _ rfl) 2 _ rfl) 3 _ rfl) hb); clear HB HB0 BK2 BK3 hc0 hc1 hc2 hc3 hf0 hf1 hf2 hf3; have HB := m_; have BK2 := n2_; have BK3 := n3_; clear m_ n2_ n3_ t_ TK3 hb; have TK4 := Aside0.mk True.intro; have HB0 : Aside0 (w.heap.size ≤ wd.heap.size) := ⟨HB.out.size⟩; have hc0 : wd.cell? ⟨gb3, 0, none⟩ = some (.string ⟨#[]⟩) := (blk_cell BK3.out 0).trans rfl; have hc1 : wd.cell? ⟨gb3, 1, none⟩ = some (.int .u64 0) := (blk_cell BK3.out 1).trans rfl; have hc2 : wd.cell? ⟨gb3, 2, none⟩ = some (.int .i64 0) := (blk_cell BK3.out 2).trans rfl; have hc3 : wd.cell? ⟨gb3, 3, none⟩ = some (.string ⟨#[]⟩) := (blk_cell BK3.out 3).trans rfl; have hf0 := blk_frozen BK3.out 0; have hf1 := blk_frozen BK3.out 1; have hf2 := blk_frozen BK3.out 2; have hf3 := blk_frozen BK3.out 3)
  | (go_at_call 171; have t_ := TK4; refine (t_nil 60000 _).mono ?_; rintro e we ⟨rfl, hb⟩; have m_ := Aside0.mk (below_step (below_set (HB.out) GE3.out) hb); have n2_ := Aside0.mk (blk_below (blk_far (BK2.out) NE.out _) hb); have n3_ := Aside0.mk (blk_below (blk_put (cs := zc) (BK3.out) 2 _ rfl) hb); clear HB HB0 BK2 BK3 hc0 hc1 hc2 hc3 hf0 hf1 hf2 hf3; have HB := m_; have BK2 := n2_; have BK3 := n3_; clear m_ n2_ n3_ t_ TK4 hb; have TK5 := Aside0.mk True.intro; have HB0 : Aside0 (w.heap.size ≤ we.heap.size) := ⟨HB.out.size⟩; have hc0 : we.cell? ⟨gb3, 0, none⟩ = some (.string ⟨#[]⟩) := (blk_cell BK3.out 0).trans rfl; have hc1 : we.cell? ⟨gb3, 1, none⟩ = some (.int .u64 0) := (blk_cell BK3.out 1).trans rfl; have hc2 : we.cell? ⟨gb3, 2, none⟩ = some (.int .i64 0) := (blk_cell BK3.out 2).trans rfl; have hc3 : we.cell? ⟨gb3, 3, none⟩ = some (.string ⟨#[]⟩) := (blk_cell BK3.out 3).trans rfl; have hf0 := blk_frozen BK3.out 0; have hf1 := blk_frozen BK3.out 1; have hf2 := blk_frozen BK3.out 2; have hf3 := blk_frozen BK3.out 3)
  | (go_at_call 99; have t_ := TK5; refine (c_nil _).mono ?_; rintro e wf ⟨rfl, hb⟩; have m_ := Aside0.mk (below_step (HB.out) hb); have n2_ := Aside0.mk (blk_below (BK2.out) hb); have n3_ := Aside0.mk (blk_below (BK3.out) hb); clear HB HB0 BK2 BK3 hc0 hc1 hc2 hc3 hf0 hf1 hf2 hf3; have HB := m_; have BK2 := n2_; have BK3 := n3_; clear m_ n2_ n3_ t_ TK5 hb; have TK6 := Aside0.mk True.intro; have HB0 : Aside0 (w.heap.size ≤ wf.heap.size) := ⟨HB.out.size⟩; have hc0 : wf.cell? ⟨gb3, 0, none⟩ = some (.string ⟨#[]⟩) := (blk_cell BK3.out 0).trans rfl; have hc1 : wf.cell? ⟨gb3, 1, none⟩ = some (.int .u64 0) := (blk_cell BK3.out 1).trans rfl; have hc2 : wf.cell? ⟨gb3, 2, none⟩ = some (.int .i64 0) := (blk_cell BK3.out 2).trans rfl; have hc3 : wf.cell? ⟨gb3, 3, none⟩ = some (.string ⟨#[]⟩) := (blk_cell BK3.out 3).trans rfl; have hf0 := blk_frozen BK3.out 0; have hf1 := blk_frozen BK3.out 1; have hf2 := blk_frozen BK3.out 2; have hf3 := blk_frozen BK3.out 3)
  | (go_at_call 46; have t_ := TK6; refine (ikey_Valid.calls 3 ⟨#[]⟩ 0 0 ⟨#[]⟩ false _ valid_nil).mono ?_; rintro e wg ⟨rfl, hb⟩; have m_ := Aside0.mk (below_step (below_set (HB.out) GE3.out) hb); have n2_ := Aside0.mk (blk_below (blk_far (BK2.out) NE.out _) hb); have n3_ := Aside0.mk (blk_below (blk_put (cs := zc) (BK3.out) 3 _ rfl) hb); clear HB HB0 BK2 BK3 hc0 hc1 hc2 hc3 hf0 hf1 hf2 hf3; have HB := m_; have BK2 := n2_; have BK3 := n3_; clear m_ n2_ n3_ t_ TK6 hb; have TK7 := Aside0.mk True.intro; have HB0 : Aside0 (w.heap.size ≤ wg.heap.size) := ⟨HB.out.size⟩; have hc0 : wg.cell? ⟨gb3, 0, none⟩ = some (.string ⟨#[]⟩) := (blk_cell BK3.out 0).trans rfl; have hc1 : wg.cell? ⟨gb3, 1, none⟩ = some (.int .u64 0) := (blk_cell BK3.out 1).trans rfl; have hc2 : wg.cell? ⟨gb3, 2, none⟩ = some (.int .i64 0) := (blk_cell BK3.out 2).trans rfl; have hc3 : wg.cell? ⟨gb3, 3, none⟩ = some (.string ⟨#[]⟩) := (blk_cell BK3.out 3).trans rfl; have hf0 := blk_frozen BK3.out 0; have hf1 := blk_frozen BK3.out 1; have hf2 := blk_frozen BK3.out 2; have hf3 := blk_frozen BK3.out 3)
  | (go_at_call 173; have t_ := TK7; refine (f_nil 4 _).mono ?_; rintro e wh ⟨rfl, hb⟩; have m_ := Aside0.mk (below_step (HB.out) hb); have n2_ := Aside0.mk (blk_below (BK2.out) hb); have n3_ := Aside0.mk (blk_below (BK3.out) hb); clear HB HB0 BK2 BK3 hc0 hc1 hc2 hc3 hf0 hf1 hf2 hf3; have HB := m_; have BK2 := n2_; have BK3 := n3_; clear m_ n2_ n3_ t_ TK7 hb; have TK8 := Aside0.mk True.intro; have HB0 : Aside0 (w.heap.size ≤ wh.heap.size) := ⟨HB.out.size⟩; have hc0 : wh.cell? ⟨gb3, 0, none⟩ = some (.string ⟨#[]⟩) := (blk_cell BK3.out 0).trans rfl; have hc1 : wh.cell? ⟨gb3, 1, none⟩ = some (.int .u64 0) := (blk_cell BK3.out 1).trans rfl; have hc2 : wh.cell? ⟨gb3, 2, none⟩ = some (.int .i64 0) := (blk_cell BK3.out 2).trans rfl; have hc3 : wh.cell? ⟨gb3, 3, none⟩ = some (.string ⟨#[]⟩) := (blk_cell BK3.out 3).trans rfl; have hf0 := blk_frozen BK3.out 0; have hf1 := blk_frozen BK3.out 1; have hf2 := blk_frozen BK3.out 2; have hf3 := blk_frozen BK3.out 3)
  | (go_at_call 52; have t_ := TK8; refine (e_nil _).mono ?_; rintro e wi ⟨rfl, hb⟩; have m_ := Aside0.mk (below_step (HB.out) hb); have n2_ := Aside0.mk (blk_below (BK2.out) hb); have n3_ := Aside0.mk (blk_below (BK3.out) hb); clear HB HB0 BK2 BK3 hc0 hc1 hc2 hc3 hf0 hf1 hf2 hf3; have HB := m_; have BK2 := n2_; have BK3 := n3_; clear m_ n2_ n3_ t_ TK8 hb; have TK9 := Aside0.mk True.intro; have HB0 : Aside0 (w.heap.size ≤ wi.heap.size) := ⟨HB.out.size⟩; have hc0 : wi.cell? ⟨gb3, 0, none⟩ = some (.string ⟨#[]⟩) := (blk_cell BK3.out 0).trans rfl; have hc1 : wi.cell? ⟨gb3, 1, none⟩ = some (.int .u64 0) := (blk_cell BK3.out 1).trans rfl; have hc2 : wi.cell? ⟨gb3, 2, none⟩ = some (.int .i64 0) := (blk_cell BK3.out 2).trans rfl; have hc3 : wi.cell? ⟨gb3, 3, none⟩ = some (.string ⟨#[]⟩) := (blk_cell BK3.out 3).trans rfl; have hf0 := blk_frozen BK3.out 0; have hf1 := blk_frozen BK3.out 1; have hf2 := blk_frozen BK3.out 2; have hz0 : wi.cell? ⟨gb2, 0, none⟩ = some (.string ⟨#[]⟩) := (blk_cell BK2.out 0).trans rfl; have hz1 : wi.cell? ⟨gb2, 1, none⟩ = some (.int .u64 0) := (blk_cell BK2.out 1).trans rfl; have hz2 : wi.cell? ⟨gb2, 2, none⟩ = some (.int .i64 0) := (blk_cell BK2.out 2).trans rfl; have hz3 : wi.cell? ⟨gb2, 3, none⟩ = some (.string ⟨#[]⟩) := (blk_cell BK2.out 3).trans rfl; have hy0 := blk_frozen BK2.out 0; have hy1 := blk_frozen BK2.out 1; have hy2 := blk_frozen BK2.out 2; have hy3 := blk_frozen BK2.out 3))
 refine bodyPost_ret (results_cell_row rfl _ _ gb2 32 zc (0, 0) _ rfl (blk_put (cs := zc) (blk_put (cs := zc) (blk_put (cs := zc) (blk_put (cs := zc) BK2.out 0 _ rfl) 1 _ rfl) 2 _ rfl) 3 _ rfl) Tryz.underlying32 rfl (by kernel_rfl)) rfl ?_
 exact ⟨rfl, below_set (below_set (below_set (below_set HB.out GE2.out) GE2.out) GE2.out) GE2.out⟩
end Go.Proofs.YtchgpcgolgcfdaaGreat.IkT
end
