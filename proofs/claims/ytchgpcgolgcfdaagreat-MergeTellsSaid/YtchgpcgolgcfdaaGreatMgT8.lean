/- Texts of this claim, put together and cut down to what is used (T8). -/
import Derived.Deep.DeepCutAuto
import Derived.Deep.QuietTactic
import Derived.WalkLawsBesides
import Derived.Deep.RegionHeld3
import Derived.BigRegion
import Derived.BigQuiet
import Derived.StillTailTactics
import Derived.Test.YtchgpcgolgcfdaaGreatMgT3
import Derived.Test.YtchgpcgolgcfdaaGreatMgT7
import Derived.Test.YtchgpcgolgcfdaaGreatMgT6
import Derived.Test.YtchgpcgolgcfdaaGreatMgT4
import Derived.Test.YtchgpcgolgcfdaaGreatMgT1
section
namespace Go.Proofs.YtchgpcgolgcfdaaGreat.PNum
open Go.RowKit Go.Proofs.YtchgpcgolgcfdaaGreatW.PrintWords Go.Proofs.YtchgpcgolgcfdaaGreatW.PrintLast Go.Proofs.YtchgpcgolgcfdaaGreatW.PrintMore
attribute [local go_sem] max2_int min2_int max_two min_two max_three min_three max_four min_four   -- for this text's walks alone
set_option linter.unusedVariables false
set_option linter.unusedSimpArgs false
def merge_All.fit (l0 : List (List S32)) : Bool := decide (l0.length ≤ 800) && l0.all (fun l => decide (l.Pairwise fun x y => Go.Proofs.YtchgpcgolgcfdaaGreat.PuIkC.ce x y = -1)) && l0.all (fun l => l.all fun e => decide (e.f0.size ≤ maxLen) && (Lit.int .u64 e.f1).wf) && decide (l0.flatten.length ≤ 1000000)
def merge_All.f (l0 : List (List S32)) : Option (List S32) := if merge_All.fit l0 = true then some (Go.Proofs.YtchgpcgolgcfdaaGreatW.PuMrg.mrg Go.Proofs.YtchgpcgolgcfdaaGreat.PuIkC.ce l0) else none
theorem merge_All.fit_iff (l0 : List (List S32)) : merge_All.fit l0 = true ↔ l0.length ≤ 800 ∧ (∀ l ∈ l0, Go.Proofs.YtchgpcgolgcfdaaGreatW.PuMrg.Srt Go.Proofs.YtchgpcgolgcfdaaGreat.PuIkC.ce l) ∧ (∀ l ∈ l0, ∀ e ∈ l, Go.Proofs.YtchgpcgolgcfdaaGreat.SetS.ok (e.f0, e.f1)) ∧ l0.flatten.length ≤ 1000000 := by
 unfold merge_All.fit
 simp only [Bool.and_eq_true, decide_eq_true_eq, List.all_eq_true, and_assoc]
 rfl
theorem merge_All.calls (A0 : Option Addr) (c0 : Nat) (l0 : List (List S32)) (r : List S32) (w : World) (hr0 : Kd.C (Kd.slice 32 k32) w A0 l0.length l0) (hc0 : l0.length ≤ c0) (h : merge_All.f l0 = some r) :
  Calls Tryz.prog 33 #[.slice A0 l0.length c0] w fun e w' => ∃ v0_ : Value, e = .returned (v0_) ∧ Kd.R k32 32 w' w.heap.size (fun _ => True) v0_ r ∧ Below w.heap.size w w' := by
 unfold merge_All.f at h
 split at h
 ·rename_i hg
  obtain rfl := Option.some.inj h
  have hg := (merge_All.fit_iff l0).1 hg
  exact Go.Proofs.YtchgpcgolgcfdaaGreat.Hp.all_calls A0 l0.length c0 l0 w hr0 hc0 hg.1 hg.2.1 hg.2.2.1 hg.2.2.2
 ·cases h
end Go.Proofs.YtchgpcgolgcfdaaGreat.PNum
end
section
namespace Go.Proofs.YtchgpcgolgcfdaaGreat.Lt
open Go Go.RowKit Go.Maps Go.Proofs.YtchgpcgolgcfdaaGreat.PNum Go.Proofs.YtchgpcgolgcfdaaGreat.BkW Go.Proofs.YtchgpcgolgcfdaaGreat.PuIkC Go.Proofs.YtchgpcgolgcfdaaGreat.PuLat Go.Proofs.YtchgpcgolgcfdaaGreatW.PrintWords Go.Proofs.YtchgpcgolgcfdaaGreatW.PrintLast Go.Proofs.YtchgpcgolgcfdaaGreatW.PrintMore Go.Proofs.YtchgpcgolgcfdaaGreatW.Pu Go.Proofs.YtchgpcgolgcfdaaGreatW.PuMrg Go.Proofs.YtchgpcgolgcfdaaGreat.Hp
set_option linter.unusedVariables false
set_option linter.unusedSimpArgs false
abbrev E := S32
abbrev P := S184
abbrev kP := k184
def encE (x : E) : List Value := [.string x.f0, .int .u64 x.f1, .int .i64 x.f2, .string x.f3]
theorem flatE : Flat k32 encE := ⟨fun _ => rfl, fun h => k32_openM h, fun w x => k32_mk w x, fun h => k32_open h⟩
def fit (s : Int) (l0 : List (List E)) : Bool := merge_All.fit l0
theorem infoP : (Tryz.prog.info? 184).map (fun i => (i.zero, i.size, i.bytes)) = some (some (.agg #[.string ⟨#[]⟩, .string ⟨#[]⟩]), 2, 32) := by kernel_rfl
theorem all_rw (A0 : Option Addr) (c0 : Nat) (l0 : List (List E)) (w : World) (hr0 : Kd.C (Kd.slice 32 k32) w A0 l0.length l0) (hc0 : l0.length ≤ c0) (hg : merge_All.fit l0 = true) (L : List E) (hL : L = mrg ce l0) (V : World) (hb : Below w.heap.size w V) :
  Calls Tryz.prog 33 #[.slice A0 l0.length c0] V fun e w' => ∃ A c, e = .returned (.slice A L.length c) ∧ L.length ≤ c ∧ Rw w' 32 4 (.slice A L.length c) L.length (encL encE L) ∧ (∀ k, (Value.slice A L.length c).ownBlock = some k → V.heap.size ≤ k) ∧ Below V.heap.size V w' := by
 have hg := (merge_All.fit_iff l0).1 hg
 subst hL
 refine (all_calls A0 l0.length c0 l0 V (Kd.C_below hr0 hb) hc0 hg.1 hg.2.1 hg.2.2.1 hg.2.2.2).mono ?_
 rintro e w' ⟨v, rfl, hR, hb'⟩
 have h1 := flatE.of_R hR
 obtain ⟨A, c, rfl, hc⟩ := h1.slice
 refine ⟨A, c, rfl, hc, h1, fun k hk => ?_, hb'⟩
 obtain ⟨_, ho⟩ := Kd.R_own hR
 exact own_base ho k hk
theorem rw_ne {W : World} {e sz n : Nat} {v : Value} {cs : List Value} {b : Nat} {L : List ByteArray} (h : Rw W e sz v n cs) (hm : SetT.Is W b L) : v.ownBlock ≠ some b := fun he => by
 obtain ⟨cur, hc⟩ := h.typed b he
 exact hm.ne hc rfl
theorem rw_map {W W1 : World} {e sz n : Nat} {v : Value} {cs : List Value} {b : Nat} {L : List ByteArray} (hg : W.grownBy W1 (some b)) (h : Rw W e sz v n cs) (hm : SetT.Is W b L) : Rw W1 e sz v n cs := h.grown hg (.inr (rw_ne h hm))
theorem rw_other {α : Type} {d : Kd α} {W : World} {e e' sz n base : Nat} {v u : Value} {cs : List Value} {ok : Nat → Prop} {xs : List α} (h : Rw W e sz v n cs) (hr : Kd.R d e' W base ok u xs) (hne : e ≠ e') : v.ownBlock = none ∨ v.ownBlock ≠ u.ownBlock := by
 cases hv : v.ownBlock with
 | none => exact .inl rfl
 | some k =>
  refine .inr (fun he => ?_)
  obtain ⟨cur, hc⟩ := h.typed k hv
  obtain ⟨_, ho⟩ := Kd.R_own hr
  obtain ⟨cells, hc2⟩ := own_typed ho k he.symm
  rw [hc] at hc2
  injection hc2 with hc2
  injection hc2 with _ hc2
  exact hne hc2
set_option maxHeartbeats 16000000 in
set_option maxRecDepth 100000 in
theorem latest_calls (s : Int) (A0 : Option Addr) (c0 : Nat) (l0 : List (List E)) (w : World) (hr0 : Kd.C (Kd.slice 32 k32) w A0 l0.length l0) (hc0 : l0.length ≤ c0) (hg : fit s l0 = true) :
  Calls Tryz.prog 34 #[.int .u64 s, .slice A0 l0.length c0] w fun e w' => ∃ v, e = .returned v ∧ Kd.R kP 184 w' w.heap.size (fun _ => True) v (lat s (mrg ce l0) []) ∧ Below w.heap.size w w' := by
 have hg1 := (merge_All.fit_iff l0).1 hg
 obtain ⟨L, hL⟩ : ∃ L, L = mrg ce l0 := ⟨_, rfl⟩
 have HKL : Aside0 (∀ e ∈ L, e.f0.size ≤ maxLen) := ⟨fun e he => by
  rw [hL] at he
  obtain ⟨l, hl, hel⟩ := mrg_mem ordE hg1.2.1 he
  exact (hg1.2.2.1 l hl e hel).1⟩
 have HLL : Aside0 (L.length ≤ 1000000) := ⟨by rw [hL]; exact Nat.le_trans (mrg_len ce l0) hg1.2.2.2⟩
 have HALL : Aside0 (∀ V, Below w.heap.size w V → Calls Tryz.prog 33 #[.slice A0 l0.length c0] V fun e w' => ∃ A c, e = .returned (.slice A L.length c) ∧ L.length ≤ c ∧ Rw w' 32 4 (.slice A L.length c) L.length (encL encE L) ∧ (∀ k, (Value.slice A L.length c).ownBlock = some k → V.heap.size ≤ k) ∧ Below V.heap.size V w') := ⟨fun V hb => all_rw A0 c0 l0 w hr0 hc0 hg L hL V hb⟩
 rw [← hL]
 clear hL hg hg1 hr0 hc0
 have hu29 := Tryz.underlying32
 have hmm := @run_makeMap Tryz.prog
 go_enter Tryz.func34, Tryz.ntmps34
 go_wp2_with (first
  | (go_at_call 33; refine (HALL.out _ (below_alloc (Below.refl _ _) _)).mono ?_; rintro e w1 ⟨A, c, rfl, hc, hrow, hfr, hb⟩; have HRL := Aside0.mk hrow; have HCL := Aside0.mk hc; have HFR := Aside0.mk hfr; have HMS : Aside0 (SetT.Is w1 w.heap.size []) := ⟨(SetT.Is.new w).below hb⟩; have HB := Aside0.mk (below_step (below_alloc (Below.refl w.heap.size w) _) hb); clear hrow hfr hb hc))
 go_loopw [5, 15] (fun v5 v15 w' => ∃ (i : Nat) (seen : List ByteArray) (out : List P), v15 = .int .i64 i ∧ i ≤ L.length ∧ Aside0 (out.length ≤ i) ∧ Aside0 (seen.length ≤ i) ∧ Aside0 (SetT.Is w' w.heap.size seen) ∧ Aside0 (Rw w' 32 4 (.slice A L.length c) L.length (encL encE L)) ∧ Aside0 (Kd.R kP 184 w' w.heap.size (fun _ => True) v5 out) ∧ Aside0 (Below w.heap.size w w') ∧ Aside0 (out ++ lat s (L.drop i) seen = lat s L [])) (fun _ v15 _ => L.length - (intOf v15).toNat)
 case atStart => exact ⟨0, [], [], rfl, Nat.zero_le _, ⟨Nat.le_refl _⟩, ⟨Nat.le_refl _⟩, HMS, HRL, ⟨Kd.R_nil _ _ _ _ _⟩, HB, ⟨rfl⟩⟩
 case round =>
  clear HMS HRL HB HALL
  obtain ⟨i, seen, out, rfl, hi, HO, HS, HM, HR, HRo, HB, HA⟩ := hrel
  by_cases hlt : i < L.length
  ·have p0 : (0 : Int) ≤ (i : Int) := Int.natCast_nonneg _
   have q0 : (i : Int) < (L.length : Int) := Int.ofNat_lt.mpr hlt
   have t0 : decide ((i : Int) < (L.length : Int)) = true := decide_eq_true q0
   have hlen : (L.length : Int) ≤ 1000000 := by have := HLL.out; omega
   obtain ⟨ad, e0, y0, y1, y2, y3⟩ := at_T32 (flatE.to_C HR.out rfl) (i : Int) p0 q0
   cases e0
   have hx : rd_T32 L (i : Int) = L[i] := by simp [rd_T32, hlt]
   rw [hx] at y0 y1 y2 y3
   simp only [Int.toNat_natCast] at y0 y1 y2 y3
   have hdr : L.drop i = L[i] :: L.drop (i + 1) := List.drop_eq_getElem_cons hlt
   have hks : L[i].f0.size ≤ maxLen := HKL.out _ (List.getElem_mem hlt)
   clear hx
   generalize L[i] = e at *
   have HDR := Aside0.mk hdr
   have HKY := Aside0.mk (SetT.key hks)
   have HLT := Aside0.mk hlt
   have hwb : w.heap.size < wr.heap.size := SetT.Is.lt HM.out
   have HWB := Aside0.mk hwb
   have hh := SetT.has_D seen e.f0
   clear hdr hks hlt hwb
   by_cases hs : s < e.f1
   ·have t1 : decide (s < e.f1) = true := decide_eq_true hs
    have HSE := Aside0.mk hs
    clear hh hs
    go_wp2_with (fail)
    go_roundw
    case rel => exact ⟨i + 1, seen, out, by go_num, by have := HLT.out; omega, ⟨by have := HO.out; omega⟩, ⟨by have := HS.out; omega⟩, ⟨HM.out.alloc _⟩, ⟨HR.out.below (below_alloc (Below.refl _ _) _)⟩, ⟨Kd.R_alloc HRo.out _⟩, ⟨below_alloc HB.out _⟩, ⟨by rw [← HA.out, HDR.out, lat, if_pos HSE.out]⟩⟩
    case measure => simp [intOf]; have := HLT.out; omega
   ·have t1 : decide (s < e.f1) = false := decide_eq_false hs
    have HSE := Aside0.mk hs
    clear hs
    generalize hbf : seen.any (fun y => decide (e.f0 = y)) = bf at hh
    have HBF := Aside0.mk hbf
    clear hbf
    cases bf
    ·by_cases hk : e.f2 = 2
     ·have t2 : (e.f2 != 2) = false := by rw [hk]; rfl
      have HK := Aside0.mk hk
      clear hk
      go_wp2_with (first | (at_lookup; refine wpList_lookup_own_unit _ rfl _ _ 198 rfl 9 196 SetT.law Tryz.underlying198 (SetT.unit0 _) w.heap.size _ (SetT.D seen) rfl (by first | exact HM.out | exact SetT.Is.alloc HM.out _ | exact SetT.Is.alloc (SetT.Is.alloc HM.out _) _) _ _ rfl HKY.out ?_) | (at_mapUpdate; refine wpList_mapUpdate_own _ rfl _ _ _ 198 rfl 9 196 SetT.law Tryz.underlying198 (unitElem (H := Unit)) w.heap.size _ (SetT.D seen) rfl (SetT.Is.alloc (SetT.Is.alloc HM.out _) _) (by have := HS.out; have := HLL.out; have := HLT.out; unfold maxLen; omega) _ _ _ rfl rfl HKY.out _ [] unitElem_mk ?_; intro w2 hown hgrow; have hb8 := blk_grown (blk_alloc (blk_new wr (.cells #[.string e.f0, .int .u64 e.f1, .int .i64 e.f2, .string e.f3] 32)) _) hgrow (fun e_ => by have := HWB.out; injection e_ with e_; omega); have v0 : w2.cell? ⟨wr.heap.size, 0, none⟩ = some (.string e.f0) := (blk_cell hb8 0).trans rfl; have v2 : w2.cell? ⟨wr.heap.size, 2, none⟩ = some (.int .i64 e.f2) := (blk_cell hb8 2).trans rfl; have v3 : w2.cell? ⟨wr.heap.size, 3, none⟩ = some (.string e.f3) := (blk_cell hb8 3).trans rfl; have HS2 : Aside0 (SetT.Is w2 w.heap.size (seen ++ [e.f0])) := ⟨by have := hown; rw [SetT.D_snoc] at this; unfold SetT.Is; simpa using this⟩; have HR2 := Aside0.mk (rw_map hgrow (HR.out.below (below_alloc (below_alloc (Below.refl _ _) _) _)) ((HM.out.alloc _).alloc _)); have HO2 := Aside0.mk (SetT.R_map (Kd.R_alloc (Kd.R_alloc HRo.out _) _) ((HM.out.alloc _).alloc _) hgrow); have HB2 := Aside0.mk (Below.grown (below_alloc (below_alloc HB.out _) _) hgrow (below_size (below_alloc (below_alloc HB.out _) _)) (fun k h => by cases h; exact Nat.le_refl _)); clear hb8 hown hgrow))
      go_roundw
      case rel => exact ⟨i + 1, seen ++ [e.f0], out, by go_num, by have := HLT.out; omega, ⟨by have := HO.out; omega⟩, ⟨by have := HS.out; simp; omega⟩, HS2, HR2, HO2, HB2, ⟨by rw [← HA.out, HDR.out, lat, if_neg HSE.out, HBF.out, if_neg (by simp), if_pos HK.out]⟩⟩
      case measure => simp [intOf]; have := HLT.out; omega
     ·have t2 : (e.f2 != 2) = true := by rw [bne_iff_ne]; exact hk
      have HK := Aside0.mk hk
      clear hk
      go_wp2_with (first | (at_lookup; refine wpList_lookup_own_unit _ rfl _ _ 198 rfl 9 196 SetT.law Tryz.underlying198 (SetT.unit0 _) w.heap.size _ (SetT.D seen) rfl (by first | exact HM.out | exact SetT.Is.alloc HM.out _ | exact SetT.Is.alloc (SetT.Is.alloc HM.out _) _) _ _ rfl HKY.out ?_) | (at_mapUpdate; refine wpList_mapUpdate_own _ rfl _ _ _ 198 rfl 9 196 SetT.law Tryz.underlying198 (unitElem (H := Unit)) w.heap.size _ (SetT.D seen) rfl (SetT.Is.alloc (SetT.Is.alloc HM.out _) _) (by have := HS.out; have := HLL.out; have := HLT.out; unfold maxLen; omega) _ _ _ rfl rfl HKY.out _ [] unitElem_mk ?_; intro w2 hown hgrow; have hb8 := blk_grown (blk_alloc (blk_new wr (.cells #[.string e.f0, .int .u64 e.f1, .int .i64 e.f2, .string e.f3] 32)) _) hgrow (fun e_ => by have := HWB.out; injection e_ with e_; omega); have v0 : w2.cell? ⟨wr.heap.size, 0, none⟩ = some (.string e.f0) := (blk_cell hb8 0).trans rfl; have v2 : w2.cell? ⟨wr.heap.size, 2, none⟩ = some (.int .i64 e.f2) := (blk_cell hb8 2).trans rfl; have v3 : w2.cell? ⟨wr.heap.size, 3, none⟩ = some (.string e.f3) := (blk_cell hb8 3).trans rfl; have HS2 : Aside0 (SetT.Is w2 w.heap.size (seen ++ [e.f0])) := ⟨by have := hown; rw [SetT.D_snoc] at this; unfold SetT.Is; simpa using this⟩; have HR2 := Aside0.mk (rw_map hgrow (HR.out.below (below_alloc (below_alloc (Below.refl _ _) _) _)) ((HM.out.alloc _).alloc _)); have HO2 := Aside0.mk (SetT.R_map (Kd.R_alloc (Kd.R_alloc HRo.out _) _) ((HM.out.alloc _).alloc _) hgrow); have HB2 := Aside0.mk (Below.grown (below_alloc (below_alloc HB.out _) _) hgrow (below_size (below_alloc (below_alloc HB.out _) _)) (fun k h => by cases h; exact Nat.le_refl _)); clear hb8 hown hgrow) | ((with_reducible refine gate_builtin (b := .append) (xs := #[.tmp 38, .tmp 44]) rfl ?_); at_builtin; refine Kd.R_append kP (w0 := w) w.heap.size rfl (.tmp 38) (.tmp 44) 79 184 (.agg #[(.string ⟨#[]⟩), (.string ⟨#[]⟩)]) 32 rfl Tryz.underlying79 infoP rfl (by decide) (by omega) u5 out ⟨e.f0, e.f3⟩ [.string e.f0, .string e.f3] (fun _ => True) (fun _ => False) rfl rfl ?aP (fun _ hk => hk.elim) ?aF ?aO ?aB ?aS ?aL ?_; (case aP => exact k184_mkM _ _ _ _); (case aB => exact HB2.out); (case aF => exact (fun _ _ => trivial)); (case aO => exact HO2.out); (case aS => exact below_size HB2.out); (case aL => have := HO.out; have := HLL.out; have := HLT.out; omega); intro v7 w7 ho hb hg hat; have HG := Aside0.mk hg; have HO7 := Aside0.mk ho; have HB7 := Aside0.mk hb; clear ho hb hg hat))
      go_roundw
      case rel => exact ⟨i + 1, seen ++ [e.f0], out ++ [⟨e.f0, e.f3⟩], by go_num, by have := HLT.out; omega, ⟨by have := HO.out; simp; omega⟩, ⟨by have := HS.out; simp; omega⟩, ⟨SetT.Is.grown HS2.out HG.out (SetT.row_ne HO2.out HS2.out)⟩, ⟨HR2.out.grown HG.out (rw_other HR2.out HO2.out (by decide))⟩, HO7, HB7, ⟨by rw [← HA.out, HDR.out, lat, if_neg HSE.out, HBF.out, if_neg (by simp), if_neg HK.out, List.append_assoc]; rfl⟩⟩
      case measure => simp [intOf]; have := HLT.out; omega
    ·go_wp2_with (first | (at_lookup; refine wpList_lookup_own_unit _ rfl _ _ 198 rfl 9 196 SetT.law Tryz.underlying198 (SetT.unit0 _) w.heap.size _ (SetT.D seen) rfl (by first | exact HM.out | exact SetT.Is.alloc HM.out _ | exact SetT.Is.alloc (SetT.Is.alloc HM.out _) _) _ _ rfl HKY.out ?_))
     go_roundw
     case rel => exact ⟨i + 1, seen, out, by go_num, by have := HLT.out; omega, ⟨by have := HO.out; omega⟩, ⟨by have := HS.out; omega⟩, ⟨(HM.out.alloc _).alloc _⟩, ⟨HR.out.below (below_alloc (below_alloc (Below.refl _ _) _) _)⟩, ⟨Kd.R_alloc (Kd.R_alloc HRo.out _) _⟩, ⟨below_alloc (below_alloc HB.out _) _⟩, ⟨by rw [← HA.out, HDR.out, lat, if_neg HSE.out, HBF.out, if_pos rfl]⟩⟩
     case measure => simp [intOf]; have := HLT.out; omega
  ·obtain rfl : i = L.length := by omega
   have t0 : decide ((L.length : Int) < (L.length : Int)) = false := decide_eq_false (by omega)
   go_wp2
   go_ret
   exact ⟨_, rfl, by have := HA.out; rw [List.drop_length, lat, List.append_nil] at this; rw [← this]; exact HRo.out, HB.out⟩
end Go.Proofs.YtchgpcgolgcfdaaGreat.Lt
end
section
namespace Go.Proofs.YtchgpcgolgcfdaaGreat.PNum
open Go.RowKit Go.Proofs.YtchgpcgolgcfdaaGreatW.PrintWords Go.Proofs.YtchgpcgolgcfdaaGreatW.PrintLast Go.Proofs.YtchgpcgolgcfdaaGreatW.PrintMore
attribute [local go_sem] max2_int min2_int max_two min_two max_three min_three max_four min_four   -- for this text's walks alone
set_option linter.unusedVariables false
set_option linter.unusedSimpArgs false
def merge_Cut.l0 : Nat → Int → List (S32) → List (List (S32)) → Int → Int → Int → Option ((List (List (S32))))
 | 0, _, _, _, _, _, _ => none
 | k + 1, x0, x1, x5, x6, x9, x10 => if x10 < x9 then (if (wrap64 (x10 + 1)) = (x1.length : Int) then (if 0 ≤ x6 then (if x6 ≤ (wrap64 (x10 + 1)) then (if (wrap64 (x10 + 1)) ≤ (x1.length : Int) then ((some ((x1.take ((wrap64 (x10 + 1)) : Int).toNat).drop (x6 : Int).toNat : List (S32))).bind fun y349 => (if ([] : List (S32)).length + y349.length < 2932031007402 then (if x5.length < 5864062014805 then (merge_Cut.l0 k x0 x1 (x5 ++ [(([] : List (S32)) ++ y349)]) (wrap64 (x10 + 1)) x9 (wrap64 (x10 + 1))) else (none)) else (none))) else (none)) else (none)) else (none)) else (if (wrap64 ((wrap64 (x10 + 1)) - x6)) ≥ (mx x0 1) then (if 0 ≤ (wrap64 (x10 + 1)) then (if (wrap64 (x10 + 1)) < (x1.length : Int) then (if 0 ≤ x10 then (if x10 < (x1.length : Int) then (if ((rd_T32 x1 (wrap64 (x10 + 1))).f0).toList = ((rd_T32 x1 x10).f0).toList then (merge_Cut.l0 k x0 x1 x5 x6 x9 (wrap64 (x10 + 1))) else (if 0 ≤ x6 then (if x6 ≤ (wrap64 (x10 + 1)) then (if (wrap64 (x10 + 1)) ≤ (x1.length : Int) then ((some ((x1.take ((wrap64 (x10 + 1)) : Int).toNat).drop (x6 : Int).toNat : List (S32))).bind fun y361 => (if ([] : List (S32)).length + y361.length < 2932031007402 then (if x5.length < 5864062014805 then (merge_Cut.l0 k x0 x1 (x5 ++ [(([] : List (S32)) ++ y361)]) (wrap64 (x10 + 1)) x9 (wrap64 (x10 + 1))) else (none)) else (none))) else (none)) else (none)) else (none))) else (none)) else (none)) else (none)) else (none)) else (merge_Cut.l0 k x0 x1 x5 x6 x9 (wrap64 (x10 + 1))))) else (some x5)
def merge_Cut.f (k : Nat) (a0 : Int) (l1 : List (S32)) : Option ((List (List (S32)))) := merge_Cut.l0 k a0 l1 ([] : List (List (S32))) 0 (l1.length : Int) 0
theorem merge_Cut.mono_l : ∀ k, (∀ y0 y1 y2 y3 y4 y5, LeO (merge_Cut.l0 k y0 y1 y2 y3 y4 y5) (merge_Cut.l0 (k + 1) y0 y1 y2 y3 y4 y5))
 | 0 => fun _ _ _ _ _ _ r h => by simp [merge_Cut.l0] at h
 | k + 1 => by
  have ih0 := merge_Cut.mono_l k
  ·intro y0 y1 y2 y3 y4 y5
   unfold merge_Cut.l0
   repeat' first
   | (with_reducible exact ih0 _ _ _ _ _ _)
   | (with_reducible exact LeO.refl _)
   | (with_reducible exact LeO.none _)
   | (with_reducible refine LeO.ite ?_ ?_)
   | (with_reducible refine LeO.bind ?_ (fun _ => ?_))
   | exact ih0 _ _ _ _ _ _
   | exact LeO.none _
   | refine LeO.ite ?_ ?_
   | refine LeO.bind ?_ (fun _ => ?_)
theorem merge_Cut.mono : ∀ a0 a1 k, LeO (merge_Cut.f k a0 a1) (merge_Cut.f (k + 1) a0 a1) := by
 intro a0 a1 k
 have ih0 := merge_Cut.mono_l k
 unfold merge_Cut.f
 repeat' first
   | (with_reducible exact ih0 _ _ _ _ _ _)
   | (with_reducible exact LeO.refl _)
   | (with_reducible exact LeO.none _)
   | (with_reducible refine LeO.ite ?_ ?_)
   | (with_reducible refine LeO.bind ?_ (fun _ => ?_))
   | exact ih0 _ _ _ _ _ _
   | exact LeO.none _
   | refine LeO.ite ?_ ?_
   | refine LeO.bind ?_ (fun _ => ?_)
set_option maxHeartbeats 8000000 in
set_option maxRecDepth 100000 in
theorem merge_Cut.calls (k : Nat) (a0 : Int) (A1 : Option Addr) (c1 : Nat) (l1 : List (S32)) (r : List (List (S32))) (w : World) (hr1 : Kd.C k32 w A1 l1.length l1) (hc1 : l1.length ≤ c1) (h : merge_Cut.f k a0 l1 = some r) :
  Calls Tryz.prog 39 #[.int .i64 a0, .slice A1 l1.length c1] w fun e w' => ∃ v0_ : Value, e = .returned (v0_) ∧ Kd.S (Kd.slice 32 k32) 22 w' w.heap.size (fun _ => True) v0_ r ∧ Below w.heap.size w w' := by
 have HR1 := Aside0.mk hr1
 have HC1 := Aside0.mk hc1
 clear hr1 hc1
 have HB := Aside0.mk (Below.refl w.heap.size w)
 have H : (merge_Cut.l0 k a0 l1 ([] : List (List (S32))) 0 (l1.length : Int) 0) = some r := h
 clear h
 have H' := Aside0.mk H
 clear H
 go_enter Tryz.func39, Tryz.ntmps39
 go_wp2
 repeat (go_quiet (fail); try go_wp2)
 go_loopg [5, 6, 10] k (fun kq v5 v6 v10 w' => ∃ (x5_1 : List (List (S32))) (x6_1 : Int) (x10_1 : Int), v6 = .int .i64 x6_1 ∧ v10 = .int .i64 x10_1 ∧ Aside0 (merge_Cut.l0 kq a0 l1 x5_1 x6_1 (l1.length : Int) x10_1 = some r) ∧ Aside0 (kq ≤ k) ∧ Aside0 (Kd.S (Kd.slice 32 k32) 22 w' w.heap.size (fun _ => True) v5 x5_1) ∧ Aside0 (Below w.heap.size w w'))
 case atStart => exact ⟨(([] : List (List (S32)))), (0), (0), (by first | rfl | (simp; done) | (simp [*]; done)), (by first | rfl | (simp; done) | (simp [*]; done)), H', ⟨Nat.le_refl _⟩, ⟨by first | exact Kd.S_nil _ _ _ _ _ | exact Kd.N_nil _ _ _ _ _ | exact Kd.V_nil _ _ _ _ _ | exact Kd.Q_nil _ _ _ _ _ | exact Kd.R_nil _ _ _ _ _⟩, ⟨by repeat (first | (with_reducible first | exact HB.out | apply below_alloc | apply pw_below_drewN | apply below_drew1) | exact HB.out)⟩⟩
 case round =>
  clear H'
  try clear c1
  try clear p2
  obtain ⟨x5_1, x6_1, x10_1, rfl, rfl, HA, HK1, HO_5, HB⟩ := hrel
  cases gk with
  | zero => exact absurd HA.out (by simp [merge_Cut.l0])
  | succ k1 =>
   have H := HA.out
   clear HA
   simp only [merge_Cut.l0] at H
   by_cases c3 : x10_1 < (l1.length : Int)
   ·rw [if_pos c3] at H
    have c3b0 : decide (x10_1 < (l1.length : Int)) = true := decide_eq_true c3
    clear c3
    by_cases c4 : (wrap64 (x10_1 + 1)) = (l1.length : Int)
    ·rw [if_pos c4] at H
     have c4b0 : ((wrap64 (x10_1 + 1)) == (l1.length : Int)) = true := beq_iff_eq.mpr c4
     have c4b1 : ((wrap64 (x10_1 + 1)) != (l1.length : Int)) = false := bne_eq_false_iff_eq.mpr c4
     clear c4
     by_cases c5 : 0 ≤ x6_1
     ·rw [if_pos c5] at H
      have c5b0 := eq_true c5
      have c5b1 : decide (0 ≤ x6_1) = true := decide_eq_true c5
      clear c5
      by_cases c6 : x6_1 ≤ (wrap64 (x10_1 + 1))
      ·rw [if_pos c6] at H
       have c6b0 := eq_true c6
       have c6b1 : decide (x6_1 ≤ (wrap64 (x10_1 + 1))) = true := decide_eq_true c6
       clear c6
       by_cases c7 : (wrap64 (x10_1 + 1)) ≤ (l1.length : Int)
       ·rw [if_pos c7] at H
        have c7b0 := eq_true c7
        have c7b1 : decide ((wrap64 (x10_1 + 1)) ≤ (l1.length : Int)) = true := decide_eq_true c7
        clear c7
        obtain ⟨y349, hy349⟩ : ∃ y_ : List (S32), y_ = ((l1.take ((wrap64 (x10_1 + 1)) : Int).toNat).drop (x6_1 : Int).toNat) := ⟨_, rfl⟩
        replace H : (if ([] : List (S32)).length + y349.length < 2932031007402 then (if x5_1.length < 5864062014805 then (merge_Cut.l0 k1 a0 l1 (x5_1 ++ [(([] : List (S32)) ++ y349)]) (wrap64 (x10_1 + 1)) (l1.length : Int) (wrap64 (x10_1 + 1))) else (none)) else (none)) = some r := by first | (rw [hy349]; with_reducible exact H) | (have H2_ := (Option.bind_some _ _).symm.trans H; rw [hy349]; with_reducible exact H2_) | (have H2_ := (Option.bind_some _ _).symm.trans H; with_reducible exact H2_) | with_reducible exact H | (rw [hy349]; exact H) | exact H
        have Ny349 := Aside0.mk hy349
        clear hy349
        by_cases c8 : ([] : List (S32)).length + y349.length < 2932031007402
        ·rw [if_pos c8] at H
         have LMc8 := Aside0.mk c8
         clear c8
         obtain ⟨y353, hy353⟩ : ∃ y_ : List (S32), y_ = (([] : List (S32)) ++ y349) := ⟨_, rfl⟩
         replace H : (if x5_1.length < 5864062014805 then (merge_Cut.l0 k1 a0 l1 (x5_1 ++ [y353]) (wrap64 (x10_1 + 1)) (l1.length : Int) (wrap64 (x10_1 + 1))) else (none)) = some r := by first | (rw [hy353]; with_reducible exact H) | (have H2_ := (Option.bind_some _ _).symm.trans H; rw [hy353]; with_reducible exact H2_) | (have H2_ := (Option.bind_some _ _).symm.trans H; with_reducible exact H2_) | with_reducible exact H | (rw [hy353]; exact H) | exact H
         have Ny353 := Aside0.mk hy353
         clear hy353
         by_cases c9 : x5_1.length < 5864062014805
         ·rw [if_pos c9] at H
          have LMc9 := Aside0.mk c9
          clear c9
          obtain ⟨y356, hy356⟩ : ∃ y_ : List (List (S32)), y_ = (x5_1 ++ [y353]) := ⟨_, rfl⟩
          replace H : (merge_Cut.l0 k1 a0 l1 y356 (wrap64 (x10_1 + 1)) (l1.length : Int) (wrap64 (x10_1 + 1))) = some r := by first | (rw [hy356]; with_reducible exact H) | (have H2_ := (Option.bind_some _ _).symm.trans H; rw [hy356]; with_reducible exact H2_) | (have H2_ := (Option.bind_some _ _).symm.trans H; with_reducible exact H2_) | with_reducible exact H | (rw [hy356]; exact H) | exact H
          have Ny356 := Aside0.mk hy356
          clear hy356
          have H' := Aside0.mk H
          clear H
          have q10 : ((wrap64 (x10_1 + 1)) : Int) ≤ ((l1.length : Int) : Int) := of_decide_eq_true (by first | (with_reducible assumption) | assumption)
          obtain ⟨i010, hi010, _, hsz10, _⟩ := info_parts info32
          have hroom10 : l1.length ≤ c1 := HC1.out
          have hC10 : Kd.C k32 _ A1 l1.length l1 := HR1.out
          have ql10 : (x6_1 : Int) ≤ ((wrap64 (x10_1 + 1)) : Int) := of_decide_eq_true (by first | (with_reducible assumption) | assumption)
          have q010 : (0 : Int) ≤ (x6_1 : Int) := of_decide_eq_true (by first | (with_reducible assumption) | assumption)
          have hcut10 := cut_mid (P := Tryz.prog) 22 32 .i64 .i64 Tryz.underlying22 hi010 4 hsz10 A1 l1.length c1 x6_1 (wrap64 (x10_1 + 1)) q010 ql10 q10 hroom10
          have hr10 := Kd.C_mid (lo := (x6_1 : Int).toNat) (hi := ((wrap64 (x10_1 + 1)) : Int).toNat) (c := c1) hC10 (by omega) (by omega) hroom10
          obtain ⟨A10, hA10⟩ : ∃ A1_, A1_ = (if c1 = (x6_1 : Int).toNat then A1 else (A1 : Option Addr).map (·.add ((x6_1 : Int).toNat * 4))) := ⟨_, rfl⟩
          obtain ⟨c10, hc10⟩ : ∃ c1_, c1_ = c1 - (x6_1 : Int).toNat := ⟨_, rfl⟩
          have hy10 : y349.length = ((wrap64 (x10_1 + 1)) : Int).toNat - (x6_1 : Int).toNat := (by rw [Ny349.out, List.length_drop, List.length_take] <;> omega)
          rw [show ((l1).take ((wrap64 (x10_1 + 1)) : Int).toNat).drop (x6_1 : Int).toNat = y349 from Ny349.out.symm] at hr10
          replace hr10 : Kd.C k32 _ A10 y349.length y349 := (by rw [hA10]; exact hr10)
          rw [← hy10, ← hA10, ← hc10] at hcut10
          have HR352 := Aside0.mk hr10
          have HC352 := Aside0.mk (show y349.length ≤ c10 from by rw [hy10, hc10]; exact Nat.sub_le_sub_right (Nat.le_trans (by omega) hroom10) _)
          clear hr10 hC10 hroom10 hi010 hsz10 hc10
          have KY10 := Aside0.mk hy10
          have KA10 := Aside0.mk hA10
          clear hy10 hA10
          replace q10 := eq_true q10
          go_wp2_with (first | ((with_reducible refine gate_builtin (b := .append) (xs := #[.const (.slice none 0 0), .tmp 46]) rfl ?_); (try (refine gate_guard (by rfl) ?_; dsimp only)); at_builtin; refine Kd.R_append_rows k32 (w0 := w) w.heap.size rfl (.const (.slice none 0 0)) (.tmp 46) 22 32 (.agg #[(.string ⟨#[]⟩), (.int .u64 0), (.int .i64 0), (.string ⟨#[]⟩)]) 48 rfl Tryz.underlying22 info32 rfl (by decide) (by omega) (.slice none 0 0) ([] : List (S32)) y349 _ _ _ (fun _ => True) (fun _ => False) rfl rfl ?aO ?aR (fun _ _ h => h) (fun _ h => h.elim) ?aF ?aB ?aS ?aL ?_; (case aR => (try (change Kd.C k32 _ _ _ _)); repeat (first | exact (Kd.C_below HR352.out HB.out) | (with_reducible refine Kd.C_alloc ?_ _) | (with_reducible refine Kd.C_drewN ?_ _) | (with_reducible refine Kd.C_drew ?_))); (case aB => exact (by repeat (first | (with_reducible first | exact HB.out | apply below_alloc | apply pw_below_drewN | apply below_drew1) | exact HB.out))); (case aF => exact (fun _ _ => trivial)); (case aO => exact ((Kd.R_nil _ _ _ _ (fun _ => True)))); (case aS => exact (below_size (by repeat (first | (with_reducible first | exact HB.out | apply below_alloc | apply pw_below_drewN | apply below_drew1) | exact HB.out)))); (case aL => have := LMc8.out; omega); intro v354 w11 ho hb hg hat; rw [← Ny353.out] at ho; have n0_ := Aside0.mk (Kd.S_after (Kd.S_apart_nil (by (with_reducible repeat (first | apply Kd.S_alloc | apply Kd.S_drewN | apply Kd.S_drew)); exact HO_5.out)) hg hat); have n1_ := Aside0.mk (hb); have n2_ := Aside0.mk (ho); clear HO_5; clear HB; have HO_5 := n0_; have HB := n1_; have HO355 := n2_; clear n0_ n1_ n2_; clear ho hb hg hat; obtain ⟨Ao13, co13, eo13⟩ := Kd.R_slice HO355.out; subst eo13) | ((with_reducible refine gate_builtin (b := .append) (xs := #[.tmp 41, .tmp 48]) rfl ?_); (try (refine gate_guard (by rfl) ?_; dsimp only)); at_builtin; refine Kd.S_append (Kd.slice 32 k32) (w0 := w) w.heap.size rfl (.tmp 41) (.tmp 48) 44 22 (.slice none 0 0) 24 rfl Tryz.underlying44 info22 rfl (by decide) (by omega) u5 x5_1 y353 [.slice Ao13 y353.length co13] (fun _ => True) (fun k_ => some k_ = (.slice Ao13 y353.length co13 : Value).ownBlock) rfl rfl ?aP (fun k_ hk_ => ((Kd.R_mono (ok' := fun k_ => ((fun _ => True)) k_ ∧ some k_ ≠ (u5 : Value).ownBlock) (Kd.R_apart' (HO355.out) (Kd.S_typed HO_5.out) (by decide)) (fun k_ hk => ⟨trivial, hk.2⟩))).1 k_ hk_.symm) ?aF ?aO ?aB ?aS ?aL ?_; (case aP => exact Kd.M_row (Kd.R_mono (Kd.R_tight rfl (Kd.R_mono (ok' := fun k_ => ((fun _ => True)) k_ ∧ some k_ ≠ (u5 : Value).ownBlock) (Kd.R_apart' (HO355.out) (Kd.S_typed HO_5.out) (by decide)) (fun k_ hk => ⟨trivial, hk.2⟩))) (fun _ h_ => h_))); (case aB => exact (by repeat (first | (with_reducible first | exact HB.out | apply below_alloc | apply pw_below_drewN | apply below_drew1) | exact HB.out))); (case aF => exact (fun _ _ => trivial)); (case aO => exact (by (with_reducible repeat (first | apply Kd.S_alloc | apply Kd.S_drewN | apply Kd.S_drew)); exact Kd.S_mono HO_5.out (fun k_ hk => ⟨trivial, fun e_ => hk.2 e_⟩))); (case aS => exact (below_size (by repeat (first | (with_reducible first | exact HB.out | apply below_alloc | apply pw_below_drewN | apply below_drew1) | exact HB.out)))); (case aL => have := LMc9.out; omega); intro v357 w12 ho hb hg hat; rw [← Ny356.out] at ho; have n0_ := Aside0.mk (hb); have n1_ := Aside0.mk (ho); clear HB; clear HO_5; clear HO355; have HB := n0_; have HO358 := n1_; clear n0_ n1_; clear ho hb hg hat))
          repeat (go_quiet (first | ((with_reducible refine gate_builtin (b := .append) (xs := #[.const (.slice none 0 0), .tmp 46]) rfl ?_); (try (refine gate_guard (by rfl) ?_; dsimp only)); at_builtin; refine Kd.R_append_rows k32 (w0 := w) w.heap.size rfl (.const (.slice none 0 0)) (.tmp 46) 22 32 (.agg #[(.string ⟨#[]⟩), (.int .u64 0), (.int .i64 0), (.string ⟨#[]⟩)]) 48 rfl Tryz.underlying22 info32 rfl (by decide) (by omega) (.slice none 0 0) ([] : List (S32)) y349 _ _ _ (fun _ => True) (fun _ => False) rfl rfl ?aO ?aR (fun _ _ h => h) (fun _ h => h.elim) ?aF ?aB ?aS ?aL ?_; (case aR => (try (change Kd.C k32 _ _ _ _)); repeat (first | exact (Kd.C_below HR352.out HB.out) | (with_reducible refine Kd.C_alloc ?_ _) | (with_reducible refine Kd.C_drewN ?_ _) | (with_reducible refine Kd.C_drew ?_))); (case aB => exact (by repeat (first | (with_reducible first | exact HB.out | apply below_alloc | apply pw_below_drewN | apply below_drew1) | exact HB.out))); (case aF => exact (fun _ _ => trivial)); (case aO => exact ((Kd.R_nil _ _ _ _ (fun _ => True)))); (case aS => exact (below_size (by repeat (first | (with_reducible first | exact HB.out | apply below_alloc | apply pw_below_drewN | apply below_drew1) | exact HB.out)))); (case aL => have := LMc8.out; omega); intro v354 w11 ho hb hg hat; rw [← Ny353.out] at ho; have n0_ := Aside0.mk (Kd.S_after (Kd.S_apart_nil (by (with_reducible repeat (first | apply Kd.S_alloc | apply Kd.S_drewN | apply Kd.S_drew)); exact HO_5.out)) hg hat); have n1_ := Aside0.mk (hb); have n2_ := Aside0.mk (ho); clear HO_5; clear HB; have HO_5 := n0_; have HB := n1_; have HO355 := n2_; clear n0_ n1_ n2_; clear ho hb hg hat; obtain ⟨Ao13, co13, eo13⟩ := Kd.R_slice HO355.out; subst eo13) | ((with_reducible refine gate_builtin (b := .append) (xs := #[.tmp 41, .tmp 48]) rfl ?_); (try (refine gate_guard (by rfl) ?_; dsimp only)); at_builtin; refine Kd.S_append (Kd.slice 32 k32) (w0 := w) w.heap.size rfl (.tmp 41) (.tmp 48) 44 22 (.slice none 0 0) 24 rfl Tryz.underlying44 info22 rfl (by decide) (by omega) u5 x5_1 y353 [.slice Ao13 y353.length co13] (fun _ => True) (fun k_ => some k_ = (.slice Ao13 y353.length co13 : Value).ownBlock) rfl rfl ?aP (fun k_ hk_ => ((Kd.R_mono (ok' := fun k_ => ((fun _ => True)) k_ ∧ some k_ ≠ (u5 : Value).ownBlock) (Kd.R_apart' (HO355.out) (Kd.S_typed HO_5.out) (by decide)) (fun k_ hk => ⟨trivial, hk.2⟩))).1 k_ hk_.symm) ?aF ?aO ?aB ?aS ?aL ?_; (case aP => exact Kd.M_row (Kd.R_mono (Kd.R_tight rfl (Kd.R_mono (ok' := fun k_ => ((fun _ => True)) k_ ∧ some k_ ≠ (u5 : Value).ownBlock) (Kd.R_apart' (HO355.out) (Kd.S_typed HO_5.out) (by decide)) (fun k_ hk => ⟨trivial, hk.2⟩))) (fun _ h_ => h_))); (case aB => exact (by repeat (first | (with_reducible first | exact HB.out | apply below_alloc | apply pw_below_drewN | apply below_drew1) | exact HB.out))); (case aF => exact (fun _ _ => trivial)); (case aO => exact (by (with_reducible repeat (first | apply Kd.S_alloc | apply Kd.S_drewN | apply Kd.S_drew)); exact Kd.S_mono HO_5.out (fun k_ hk => ⟨trivial, fun e_ => hk.2 e_⟩))); (case aS => exact (below_size (by repeat (first | (with_reducible first | exact HB.out | apply below_alloc | apply pw_below_drewN | apply below_drew1) | exact HB.out)))); (case aL => have := LMc9.out; omega); intro v357 w12 ho hb hg hat; rw [← Ny356.out] at ho; have n0_ := Aside0.mk (hb); have n1_ := Aside0.mk (ho); clear HB; clear HO_5; clear HO355; have HB := n0_; have HO358 := n1_; clear n0_ n1_; clear ho hb hg hat)); try go_wp2_with (first | ((with_reducible refine gate_builtin (b := .append) (xs := #[.const (.slice none 0 0), .tmp 46]) rfl ?_); (try (refine gate_guard (by rfl) ?_; dsimp only)); at_builtin; refine Kd.R_append_rows k32 (w0 := w) w.heap.size rfl (.const (.slice none 0 0)) (.tmp 46) 22 32 (.agg #[(.string ⟨#[]⟩), (.int .u64 0), (.int .i64 0), (.string ⟨#[]⟩)]) 48 rfl Tryz.underlying22 info32 rfl (by decide) (by omega) (.slice none 0 0) ([] : List (S32)) y349 _ _ _ (fun _ => True) (fun _ => False) rfl rfl ?aO ?aR (fun _ _ h => h) (fun _ h => h.elim) ?aF ?aB ?aS ?aL ?_; (case aR => (try (change Kd.C k32 _ _ _ _)); repeat (first | exact (Kd.C_below HR352.out HB.out) | (with_reducible refine Kd.C_alloc ?_ _) | (with_reducible refine Kd.C_drewN ?_ _) | (with_reducible refine Kd.C_drew ?_))); (case aB => exact (by repeat (first | (with_reducible first | exact HB.out | apply below_alloc | apply pw_below_drewN | apply below_drew1) | exact HB.out))); (case aF => exact (fun _ _ => trivial)); (case aO => exact ((Kd.R_nil _ _ _ _ (fun _ => True)))); (case aS => exact (below_size (by repeat (first | (with_reducible first | exact HB.out | apply below_alloc | apply pw_below_drewN | apply below_drew1) | exact HB.out)))); (case aL => have := LMc8.out; omega); intro v354 w11 ho hb hg hat; rw [← Ny353.out] at ho; have n0_ := Aside0.mk (Kd.S_after (Kd.S_apart_nil (by (with_reducible repeat (first | apply Kd.S_alloc | apply Kd.S_drewN | apply Kd.S_drew)); exact HO_5.out)) hg hat); have n1_ := Aside0.mk (hb); have n2_ := Aside0.mk (ho); clear HO_5; clear HB; have HO_5 := n0_; have HB := n1_; have HO355 := n2_; clear n0_ n1_ n2_; clear ho hb hg hat; obtain ⟨Ao13, co13, eo13⟩ := Kd.R_slice HO355.out; subst eo13) | ((with_reducible refine gate_builtin (b := .append) (xs := #[.tmp 41, .tmp 48]) rfl ?_); (try (refine gate_guard (by rfl) ?_; dsimp only)); at_builtin; refine Kd.S_append (Kd.slice 32 k32) (w0 := w) w.heap.size rfl (.tmp 41) (.tmp 48) 44 22 (.slice none 0 0) 24 rfl Tryz.underlying44 info22 rfl (by decide) (by omega) u5 x5_1 y353 [.slice Ao13 y353.length co13] (fun _ => True) (fun k_ => some k_ = (.slice Ao13 y353.length co13 : Value).ownBlock) rfl rfl ?aP (fun k_ hk_ => ((Kd.R_mono (ok' := fun k_ => ((fun _ => True)) k_ ∧ some k_ ≠ (u5 : Value).ownBlock) (Kd.R_apart' (HO355.out) (Kd.S_typed HO_5.out) (by decide)) (fun k_ hk => ⟨trivial, hk.2⟩))).1 k_ hk_.symm) ?aF ?aO ?aB ?aS ?aL ?_; (case aP => exact Kd.M_row (Kd.R_mono (Kd.R_tight rfl (Kd.R_mono (ok' := fun k_ => ((fun _ => True)) k_ ∧ some k_ ≠ (u5 : Value).ownBlock) (Kd.R_apart' (HO355.out) (Kd.S_typed HO_5.out) (by decide)) (fun k_ hk => ⟨trivial, hk.2⟩))) (fun _ h_ => h_))); (case aB => exact (by repeat (first | (with_reducible first | exact HB.out | apply below_alloc | apply pw_below_drewN | apply below_drew1) | exact HB.out))); (case aF => exact (fun _ _ => trivial)); (case aO => exact (by (with_reducible repeat (first | apply Kd.S_alloc | apply Kd.S_drewN | apply Kd.S_drew)); exact Kd.S_mono HO_5.out (fun k_ hk => ⟨trivial, fun e_ => hk.2 e_⟩))); (case aS => exact (below_size (by repeat (first | (with_reducible first | exact HB.out | apply below_alloc | apply pw_below_drewN | apply below_drew1) | exact HB.out)))); (case aL => have := LMc9.out; omega); intro v357 w12 ho hb hg hat; rw [← Ny356.out] at ho; have n0_ := Aside0.mk (hb); have n1_ := Aside0.mk (ho); clear HB; clear HO_5; clear HO355; have HB := n0_; have HO358 := n1_; clear n0_ n1_; clear ho hb hg hat)))
          go_roundg k1
          case measure => have := HK1.out; omega
          case rel => exact ⟨(y356), (wrap64 (x10_1 + 1)), (wrap64 (x10_1 + 1)), (by first | rfl | (simp; done) | (simp [*]; done)), (by first | rfl | (simp; done) | (simp [*]; done)), H', ⟨by have := HK1.out; omega⟩, ⟨by (with_reducible repeat (first | apply Kd.S_alloc | apply Kd.S_drewN | apply Kd.S_drew)); exact HO358.out⟩, ⟨by repeat (first | (with_reducible first | exact HB.out | apply below_alloc | apply pw_below_drewN | apply below_drew1) | exact HB.out)⟩⟩
         ·rw [if_neg c9] at H
          exact absurd H (by simp)
        ·rw [if_neg c8] at H
         exact absurd H (by simp)
       ·rw [if_neg c7] at H
        exact absurd H (by simp)
      ·rw [if_neg c6] at H
       exact absurd H (by simp)
     ·rw [if_neg c5] at H
      exact absurd H (by simp)
    ·rw [if_neg c4] at H
     have c4b0 : ((wrap64 (x10_1 + 1)) == (l1.length : Int)) = false := beq_eq_false_iff_ne.mpr c4
     have c4b1 : ((wrap64 (x10_1 + 1)) != (l1.length : Int)) = true := bne_iff_ne.mpr c4
     obtain ⟨ji14, hji14⟩ : ∃ j_ : Int, (mx a0 1) = j_ := ⟨_, rfl⟩
     replace H : (if (wrap64 ((wrap64 (x10_1 + 1)) - x6_1)) ≥ (ji14) then (if 0 ≤ (wrap64 (x10_1 + 1)) then (if (wrap64 (x10_1 + 1)) < (l1.length : Int) then (if 0 ≤ x10_1 then (if x10_1 < (l1.length : Int) then (if ((rd_T32 l1 (wrap64 (x10_1 + 1))).f0).toList = ((rd_T32 l1 x10_1).f0).toList then (merge_Cut.l0 k1 a0 l1 x5_1 x6_1 (l1.length : Int) (wrap64 (x10_1 + 1))) else (if 0 ≤ x6_1 then (if x6_1 ≤ (wrap64 (x10_1 + 1)) then (if (wrap64 (x10_1 + 1)) ≤ (l1.length : Int) then ((some ((l1.take ((wrap64 (x10_1 + 1)) : Int).toNat).drop (x6_1 : Int).toNat : List (S32))).bind fun y361 => (if ([] : List (S32)).length + y361.length < 2932031007402 then (if x5_1.length < 5864062014805 then (merge_Cut.l0 k1 a0 l1 (x5_1 ++ [(([] : List (S32)) ++ y361)]) (wrap64 (x10_1 + 1)) (l1.length : Int) (wrap64 (x10_1 + 1))) else (none)) else (none))) else (none)) else (none)) else (none))) else (none)) else (none)) else (none)) else (none)) else (merge_Cut.l0 k1 a0 l1 x5_1 x6_1 (l1.length : Int) (wrap64 (x10_1 + 1)))) = some r := by first | (rw [hji14] at H; exact H) | (simp only [hji14] at H ⊢; exact H)
     have hji14_ : (if a0 < 1 then 1 else a0) = ji14 := hji14
     by_cases c15 : (wrap64 ((wrap64 (x10_1 + 1)) - x6_1)) ≥ (ji14)
     ·rw [if_pos c15] at H
      have c15b0 : decide ((ji14) ≤ (wrap64 ((wrap64 (x10_1 + 1)) - x6_1))) = true := decide_eq_true c15
      clear c15
      obtain ⟨ji16, hji16⟩ : ∃ j_ : Int, (wrap64 (x10_1 + 1)) = j_ := ⟨_, rfl⟩
      replace H : (if 0 ≤ (ji16) then (if (ji16) < (l1.length : Int) then (if 0 ≤ x10_1 then (if x10_1 < (l1.length : Int) then (if ((rd_T32 l1 (ji16)).f0).toList = ((rd_T32 l1 x10_1).f0).toList then (merge_Cut.l0 k1 a0 l1 x5_1 x6_1 (l1.length : Int) ji16) else (if 0 ≤ x6_1 then (if x6_1 ≤ (ji16) then (if (ji16) ≤ (l1.length : Int) then ((some ((l1.take ((ji16) : Int).toNat).drop (x6_1 : Int).toNat : List (S32))).bind fun y361 => (if ([] : List (S32)).length + y361.length < 2932031007402 then (if x5_1.length < 5864062014805 then (merge_Cut.l0 k1 a0 l1 (x5_1 ++ [(([] : List (S32)) ++ y361)]) ji16 (l1.length : Int) ji16) else (none)) else (none))) else (none)) else (none)) else (none))) else (none)) else (none)) else (none)) else (none)) = some r := by first | (rw [hji16] at H; exact H) | (simp only [hji16] at H ⊢; exact H)
      (try rw [hji16] at c4b0)
      (try rw [hji16] at c4b1)
      (try rw [hji16] at c15b0)
      have hji16w : (IntKind.i64.wrap (x10_1 + 1)) = ji16 := (i64_w _).trans hji16
      by_cases c17 : 0 ≤ (ji16)
      ·rw [if_pos c17] at H
       have c17b0 : decide (0 ≤ (ji16)) = true := decide_eq_true c17
       clear c17
       by_cases c18 : (ji16) < (l1.length : Int)
       ·rw [if_pos c18] at H
        have c18b0 : decide ((ji16) < (l1.length : Int)) = true := decide_eq_true c18
        clear c18
        by_cases c19 : 0 ≤ x10_1
        ·rw [if_pos c19] at H
         have c19b0 : decide (0 ≤ x10_1) = true := decide_eq_true c19
         clear c19
         by_cases c20 : x10_1 < (l1.length : Int)
         ·rw [if_pos c20] at H
          have c20b0 : decide (x10_1 < (l1.length : Int)) = true := decide_eq_true c20
          clear c20
          by_cases c21 : ((rd_T32 l1 (ji16)).f0).toList = ((rd_T32 l1 x10_1).f0).toList
          ·rw [if_pos c21] at H
           have c21b0 : (((rd_T32 l1 (ji16)).f0).toList == ((rd_T32 l1 x10_1).f0).toList) = true := beq_iff_eq.mpr c21
           have c21b1 : (((rd_T32 l1 (ji16)).f0).toList != ((rd_T32 l1 x10_1).f0).toList) = false := bne_eq_false_iff_eq.mpr c21
           clear c21
           have H' := Aside0.mk H
           clear H
           have p359 : 0 ≤ ((ji16) : Int) := of_decide_eq_true (by first | (with_reducible assumption) | assumption)
           have q359 : (ji16) < (l1.length : Int) := of_decide_eq_true (by first | (with_reducible assumption) | assumption)
           obtain ⟨ad359, e359, hx359_0, hx359_1, hx359_2, hx359_3⟩ := at_T32 HR1.out (ji16) p359 q359
           cases e359
           replace hx359_0 := (HB.out.cell (World.block_lt_of_cell? w _ hx359_0)).trans hx359_0
           replace hx359_1 := (HB.out.cell (World.block_lt_of_cell? w _ hx359_1)).trans hx359_1
           replace hx359_2 := (HB.out.cell (World.block_lt_of_cell? w _ hx359_2)).trans hx359_2
           replace hx359_3 := (HB.out.cell (World.block_lt_of_cell? w _ hx359_3)).trans hx359_3
           replace p359 := eq_true p359
           replace q359 := eq_true q359
           have p360 : 0 ≤ (x10_1 : Int) := of_decide_eq_true (by first | (with_reducible assumption) | assumption)
           have q360 : x10_1 < (l1.length : Int) := of_decide_eq_true (by first | (with_reducible assumption) | assumption)
           obtain ⟨ad360, e360, hx360_0, hx360_1, hx360_2, hx360_3⟩ := at_T32 HR1.out x10_1 p360 q360
           obtain rfl : ad359 = ad360 := (by injection e360)
           replace hx360_0 := (HB.out.cell (World.block_lt_of_cell? w _ hx360_0)).trans hx360_0
           replace hx360_1 := (HB.out.cell (World.block_lt_of_cell? w _ hx360_1)).trans hx360_1
           replace hx360_2 := (HB.out.cell (World.block_lt_of_cell? w _ hx360_2)).trans hx360_2
           replace hx360_3 := (HB.out.cell (World.block_lt_of_cell? w _ hx360_3)).trans hx360_3
           replace p360 := eq_true p360
           replace q360 := eq_true q360
           go_wp2
           repeat (go_quiet (fail); try go_wp2)
           go_roundg k1
           case measure => have := HK1.out; omega
           case rel => exact ⟨(x5_1), (x6_1), (ji16), (by first | rfl | (simp; done) | (simp [*]; done)), (by first | rfl | (simp; done) | (simp only [← hji16] <;> (first | rfl | simp)) | (simp [*]; done)), H', ⟨by have := HK1.out; omega⟩, ⟨by (with_reducible repeat (first | apply Kd.S_alloc | apply Kd.S_drewN | apply Kd.S_drew)); exact HO_5.out⟩, ⟨by repeat (first | (with_reducible first | exact HB.out | apply below_alloc | apply pw_below_drewN | apply below_drew1) | exact HB.out)⟩⟩
          ·rw [if_neg c21] at H
           have c21b0 : (((rd_T32 l1 (ji16)).f0).toList == ((rd_T32 l1 x10_1).f0).toList) = false := beq_eq_false_iff_ne.mpr c21
           have c21b1 : (((rd_T32 l1 (ji16)).f0).toList != ((rd_T32 l1 x10_1).f0).toList) = true := bne_iff_ne.mpr c21
           by_cases c22 : 0 ≤ x6_1
           ·rw [if_pos c22] at H
            have c22b0 := eq_true c22
            have c22b1 : decide (0 ≤ x6_1) = true := decide_eq_true c22
            clear c22
            by_cases c23 : x6_1 ≤ (ji16)
            ·rw [if_pos c23] at H
             have c23b0 := eq_true c23
             have c23b1 : decide (x6_1 ≤ (ji16)) = true := decide_eq_true c23
             clear c23
             by_cases c24 : (ji16) ≤ (l1.length : Int)
             ·rw [if_pos c24] at H
              have c24b0 := eq_true c24
              have c24b1 : decide ((ji16) ≤ (l1.length : Int)) = true := decide_eq_true c24
              clear c24
              obtain ⟨y361, hy361⟩ : ∃ y_ : List (S32), y_ = ((l1.take ((ji16) : Int).toNat).drop (x6_1 : Int).toNat) := ⟨_, rfl⟩
              replace H : (if ([] : List (S32)).length + y361.length < 2932031007402 then (if x5_1.length < 5864062014805 then (merge_Cut.l0 k1 a0 l1 (x5_1 ++ [(([] : List (S32)) ++ y361)]) ji16 (l1.length : Int) ji16) else (none)) else (none)) = some r := by first | (rw [hy361]; with_reducible exact H) | (have H2_ := (Option.bind_some _ _).symm.trans H; rw [hy361]; with_reducible exact H2_) | (have H2_ := (Option.bind_some _ _).symm.trans H; with_reducible exact H2_) | with_reducible exact H | (rw [hy361]; exact H) | exact H
              have Ny361 := Aside0.mk hy361
              clear hy361
              by_cases c25 : ([] : List (S32)).length + y361.length < 2932031007402
              ·rw [if_pos c25] at H
               have LMc25 := Aside0.mk c25
               clear c25
               obtain ⟨y365, hy365⟩ : ∃ y_ : List (S32), y_ = (([] : List (S32)) ++ y361) := ⟨_, rfl⟩
               replace H : (if x5_1.length < 5864062014805 then (merge_Cut.l0 k1 a0 l1 (x5_1 ++ [y365]) ji16 (l1.length : Int) ji16) else (none)) = some r := by first | (rw [hy365]; with_reducible exact H) | (have H2_ := (Option.bind_some _ _).symm.trans H; rw [hy365]; with_reducible exact H2_) | (have H2_ := (Option.bind_some _ _).symm.trans H; with_reducible exact H2_) | with_reducible exact H | (rw [hy365]; exact H) | exact H
               have Ny365 := Aside0.mk hy365
               clear hy365
               by_cases c26 : x5_1.length < 5864062014805
               ·rw [if_pos c26] at H
                have LMc26 := Aside0.mk c26
                clear c26
                obtain ⟨y368, hy368⟩ : ∃ y_ : List (List (S32)), y_ = (x5_1 ++ [y365]) := ⟨_, rfl⟩
                replace H : (merge_Cut.l0 k1 a0 l1 y368 ji16 (l1.length : Int) ji16) = some r := by first | (rw [hy368]; with_reducible exact H) | (have H2_ := (Option.bind_some _ _).symm.trans H; rw [hy368]; with_reducible exact H2_) | (have H2_ := (Option.bind_some _ _).symm.trans H; with_reducible exact H2_) | with_reducible exact H | (rw [hy368]; exact H) | exact H
                have Ny368 := Aside0.mk hy368
                clear hy368
                have H' := Aside0.mk H
                clear H
                have p359 : 0 ≤ ((ji16) : Int) := of_decide_eq_true (by first | (with_reducible assumption) | assumption)
                have q359 : (ji16) < (l1.length : Int) := of_decide_eq_true (by first | (with_reducible assumption) | assumption)
                obtain ⟨ad359, e359, hx359_0, hx359_1, hx359_2, hx359_3⟩ := at_T32 HR1.out (ji16) p359 q359
                cases e359
                replace hx359_0 := (HB.out.cell (World.block_lt_of_cell? w _ hx359_0)).trans hx359_0
                replace hx359_1 := (HB.out.cell (World.block_lt_of_cell? w _ hx359_1)).trans hx359_1
                replace hx359_2 := (HB.out.cell (World.block_lt_of_cell? w _ hx359_2)).trans hx359_2
                replace hx359_3 := (HB.out.cell (World.block_lt_of_cell? w _ hx359_3)).trans hx359_3
                replace p359 := eq_true p359
                replace q359 := eq_true q359
                have p360 : 0 ≤ (x10_1 : Int) := of_decide_eq_true (by first | (with_reducible assumption) | assumption)
                have q360 : x10_1 < (l1.length : Int) := of_decide_eq_true (by first | (with_reducible assumption) | assumption)
                obtain ⟨ad360, e360, hx360_0, hx360_1, hx360_2, hx360_3⟩ := at_T32 HR1.out x10_1 p360 q360
                obtain rfl : ad359 = ad360 := (by injection e360)
                replace hx360_0 := (HB.out.cell (World.block_lt_of_cell? w _ hx360_0)).trans hx360_0
                replace hx360_1 := (HB.out.cell (World.block_lt_of_cell? w _ hx360_1)).trans hx360_1
                replace hx360_2 := (HB.out.cell (World.block_lt_of_cell? w _ hx360_2)).trans hx360_2
                replace hx360_3 := (HB.out.cell (World.block_lt_of_cell? w _ hx360_3)).trans hx360_3
                replace p360 := eq_true p360
                replace q360 := eq_true q360
                have q27 : ((ji16) : Int) ≤ ((l1.length : Int) : Int) := of_decide_eq_true (by first | (with_reducible assumption) | assumption)
                obtain ⟨i027, hi027, _, hsz27, _⟩ := info_parts info32
                have hroom27 : l1.length ≤ c1 := HC1.out
                have hC27 : Kd.C k32 _ (some ad359) l1.length l1 := HR1.out
                have ql27 : (x6_1 : Int) ≤ ((ji16) : Int) := of_decide_eq_true (by first | (with_reducible assumption) | assumption)
                have q027 : (0 : Int) ≤ (x6_1 : Int) := of_decide_eq_true (by first | (with_reducible assumption) | assumption)
                have hcut27 := cut_mid (P := Tryz.prog) 22 32 .i64 .i64 Tryz.underlying22 hi027 4 hsz27 (some ad359) l1.length c1 x6_1 (ji16) q027 ql27 q27 hroom27
                have hr27 := Kd.C_mid (lo := (x6_1 : Int).toNat) (hi := ((ji16) : Int).toNat) (c := c1) hC27 (by omega) (by omega) hroom27
                obtain ⟨A27, hA27⟩ : ∃ A1_, A1_ = (if c1 = (x6_1 : Int).toNat then (some ad359) else ((some ad359) : Option Addr).map (·.add ((x6_1 : Int).toNat * 4))) := ⟨_, rfl⟩
                obtain ⟨c27, hc27⟩ : ∃ c1_, c1_ = c1 - (x6_1 : Int).toNat := ⟨_, rfl⟩
                have hy27 : y361.length = ((ji16) : Int).toNat - (x6_1 : Int).toNat := (by rw [Ny361.out, List.length_drop, List.length_take] <;> omega)
                rw [show ((l1).take ((ji16) : Int).toNat).drop (x6_1 : Int).toNat = y361 from Ny361.out.symm] at hr27
                replace hr27 : Kd.C k32 _ A27 y361.length y361 := (by rw [hA27]; exact hr27)
                rw [← hy27, ← hA27, ← hc27] at hcut27
                have HR364 := Aside0.mk hr27
                have HC364 := Aside0.mk (show y361.length ≤ c27 from by rw [hy27, hc27]; exact Nat.sub_le_sub_right (Nat.le_trans (by omega) hroom27) _)
                clear hr27 hC27 hroom27 hi027 hsz27 hc27
                have KY27 := Aside0.mk hy27
                have KA27 := Aside0.mk hA27
                clear hy27 hA27
                replace q27 := eq_true q27
                go_wp2_with (first | ((with_reducible refine gate_builtin (b := .append) (xs := #[.const (.slice none 0 0), .tmp 46]) rfl ?_); (try (refine gate_guard (by rfl) ?_; dsimp only)); at_builtin; refine Kd.R_append_rows k32 (w0 := w) w.heap.size rfl (.const (.slice none 0 0)) (.tmp 46) 22 32 (.agg #[(.string ⟨#[]⟩), (.int .u64 0), (.int .i64 0), (.string ⟨#[]⟩)]) 48 rfl Tryz.underlying22 info32 rfl (by decide) (by omega) (.slice none 0 0) ([] : List (S32)) y361 _ _ _ (fun _ => True) (fun _ => False) rfl rfl ?aO ?aR (fun _ _ h => h) (fun _ h => h.elim) ?aF ?aB ?aS ?aL ?_; (case aR => (try (change Kd.C k32 _ _ _ _)); repeat (first | exact (Kd.C_below HR364.out HB.out) | (with_reducible refine Kd.C_alloc ?_ _) | (with_reducible refine Kd.C_drewN ?_ _) | (with_reducible refine Kd.C_drew ?_))); (case aB => exact (by repeat (first | (with_reducible first | exact HB.out | apply below_alloc | apply pw_below_drewN | apply below_drew1) | exact HB.out))); (case aF => exact (fun _ _ => trivial)); (case aO => exact ((Kd.R_nil _ _ _ _ (fun _ => True)))); (case aS => exact (below_size (by repeat (first | (with_reducible first | exact HB.out | apply below_alloc | apply pw_below_drewN | apply below_drew1) | exact HB.out)))); (case aL => have := LMc25.out; omega); intro v366 w28 ho hb hg hat; rw [← Ny365.out] at ho; have n0_ := Aside0.mk (Kd.S_after (Kd.S_apart_nil (by (with_reducible repeat (first | apply Kd.S_alloc | apply Kd.S_drewN | apply Kd.S_drew)); exact HO_5.out)) hg hat); have n1_ := Aside0.mk (hb); have n2_ := Aside0.mk (ho); clear HO_5; clear HB; have HO_5 := n0_; have HB := n1_; have HO367 := n2_; clear n0_ n1_ n2_; clear ho hb hg hat; obtain ⟨Ao30, co30, eo30⟩ := Kd.R_slice HO367.out; subst eo30) | ((with_reducible refine gate_builtin (b := .append) (xs := #[.tmp 41, .tmp 48]) rfl ?_); (try (refine gate_guard (by rfl) ?_; dsimp only)); at_builtin; refine Kd.S_append (Kd.slice 32 k32) (w0 := w) w.heap.size rfl (.tmp 41) (.tmp 48) 44 22 (.slice none 0 0) 24 rfl Tryz.underlying44 info22 rfl (by decide) (by omega) u5 x5_1 y365 [.slice Ao30 y365.length co30] (fun _ => True) (fun k_ => some k_ = (.slice Ao30 y365.length co30 : Value).ownBlock) rfl rfl ?aP (fun k_ hk_ => ((Kd.R_mono (ok' := fun k_ => ((fun _ => True)) k_ ∧ some k_ ≠ (u5 : Value).ownBlock) (Kd.R_apart' (HO367.out) (Kd.S_typed HO_5.out) (by decide)) (fun k_ hk => ⟨trivial, hk.2⟩))).1 k_ hk_.symm) ?aF ?aO ?aB ?aS ?aL ?_; (case aP => exact Kd.M_row (Kd.R_mono (Kd.R_tight rfl (Kd.R_mono (ok' := fun k_ => ((fun _ => True)) k_ ∧ some k_ ≠ (u5 : Value).ownBlock) (Kd.R_apart' (HO367.out) (Kd.S_typed HO_5.out) (by decide)) (fun k_ hk => ⟨trivial, hk.2⟩))) (fun _ h_ => h_))); (case aB => exact (by repeat (first | (with_reducible first | exact HB.out | apply below_alloc | apply pw_below_drewN | apply below_drew1) | exact HB.out))); (case aF => exact (fun _ _ => trivial)); (case aO => exact (by (with_reducible repeat (first | apply Kd.S_alloc | apply Kd.S_drewN | apply Kd.S_drew)); exact Kd.S_mono HO_5.out (fun k_ hk => ⟨trivial, fun e_ => hk.2 e_⟩))); (case aS => exact (below_size (by repeat (first | (with_reducible first | exact HB.out | apply below_alloc | apply pw_below_drewN | apply below_drew1) | exact HB.out)))); (case aL => have := LMc26.out; omega); intro v369 w29 ho hb hg hat; rw [← Ny368.out] at ho; have n0_ := Aside0.mk (hb); have n1_ := Aside0.mk (ho); clear HB; clear HO_5; clear HO367; have HB := n0_; have HO370 := n1_; clear n0_ n1_; clear ho hb hg hat))
                repeat (go_quiet (first | ((with_reducible refine gate_builtin (b := .append) (xs := #[.const (.slice none 0 0), .tmp 46]) rfl ?_); (try (refine gate_guard (by rfl) ?_; dsimp only)); at_builtin; refine Kd.R_append_rows k32 (w0 := w) w.heap.size rfl (.const (.slice none 0 0)) (.tmp 46) 22 32 (.agg #[(.string ⟨#[]⟩), (.int .u64 0), (.int .i64 0), (.string ⟨#[]⟩)]) 48 rfl Tryz.underlying22 info32 rfl (by decide) (by omega) (.slice none 0 0) ([] : List (S32)) y361 _ _ _ (fun _ => True) (fun _ => False) rfl rfl ?aO ?aR (fun _ _ h => h) (fun _ h => h.elim) ?aF ?aB ?aS ?aL ?_; (case aR => (try (change Kd.C k32 _ _ _ _)); repeat (first | exact (Kd.C_below HR364.out HB.out) | (with_reducible refine Kd.C_alloc ?_ _) | (with_reducible refine Kd.C_drewN ?_ _) | (with_reducible refine Kd.C_drew ?_))); (case aB => exact (by repeat (first | (with_reducible first | exact HB.out | apply below_alloc | apply pw_below_drewN | apply below_drew1) | exact HB.out))); (case aF => exact (fun _ _ => trivial)); (case aO => exact ((Kd.R_nil _ _ _ _ (fun _ => True)))); (case aS => exact (below_size (by repeat (first | (with_reducible first | exact HB.out | apply below_alloc | apply pw_below_drewN | apply below_drew1) | exact HB.out)))); (case aL => have := LMc25.out; omega); intro v366 w28 ho hb hg hat; rw [← Ny365.out] at ho; have n0_ := Aside0.mk (Kd.S_after (Kd.S_apart_nil (by (with_reducible repeat (first | apply Kd.S_alloc | apply Kd.S_drewN | apply Kd.S_drew)); exact HO_5.out)) hg hat); have n1_ := Aside0.mk (hb); have n2_ := Aside0.mk (ho); clear HO_5; clear HB; have HO_5 := n0_; have HB := n1_; have HO367 := n2_; clear n0_ n1_ n2_; clear ho hb hg hat; obtain ⟨Ao30, co30, eo30⟩ := Kd.R_slice HO367.out; subst eo30) | ((with_reducible refine gate_builtin (b := .append) (xs := #[.tmp 41, .tmp 48]) rfl ?_); (try (refine gate_guard (by rfl) ?_; dsimp only)); at_builtin; refine Kd.S_append (Kd.slice 32 k32) (w0 := w) w.heap.size rfl (.tmp 41) (.tmp 48) 44 22 (.slice none 0 0) 24 rfl Tryz.underlying44 info22 rfl (by decide) (by omega) u5 x5_1 y365 [.slice Ao30 y365.length co30] (fun _ => True) (fun k_ => some k_ = (.slice Ao30 y365.length co30 : Value).ownBlock) rfl rfl ?aP (fun k_ hk_ => ((Kd.R_mono (ok' := fun k_ => ((fun _ => True)) k_ ∧ some k_ ≠ (u5 : Value).ownBlock) (Kd.R_apart' (HO367.out) (Kd.S_typed HO_5.out) (by decide)) (fun k_ hk => ⟨trivial, hk.2⟩))).1 k_ hk_.symm) ?aF ?aO ?aB ?aS ?aL ?_; (case aP => exact Kd.M_row (Kd.R_mono (Kd.R_tight rfl (Kd.R_mono (ok' := fun k_ => ((fun _ => True)) k_ ∧ some k_ ≠ (u5 : Value).ownBlock) (Kd.R_apart' (HO367.out) (Kd.S_typed HO_5.out) (by decide)) (fun k_ hk => ⟨trivial, hk.2⟩))) (fun _ h_ => h_))); (case aB => exact (by repeat (first | (with_reducible first | exact HB.out | apply below_alloc | apply pw_below_drewN | apply below_drew1) | exact HB.out))); (case aF => exact (fun _ _ => trivial)); (case aO => exact (by (with_reducible repeat (first | apply Kd.S_alloc | apply Kd.S_drewN | apply Kd.S_drew)); exact Kd.S_mono HO_5.out (fun k_ hk => ⟨trivial, fun e_ => hk.2 e_⟩))); (case aS => exact (below_size (by repeat (first | (with_reducible first | exact HB.out | apply below_alloc | apply pw_below_drewN | apply below_drew1) | exact HB.out)))); (case aL => have := LMc26.out; omega); intro v369 w29 ho hb hg hat; rw [← Ny368.out] at ho; have n0_ := Aside0.mk (hb); have n1_ := Aside0.mk (ho); clear HB; clear HO_5; clear HO367; have HB := n0_; have HO370 := n1_; clear n0_ n1_; clear ho hb hg hat)); try go_wp2_with (first | ((with_reducible refine gate_builtin (b := .append) (xs := #[.const (.slice none 0 0), .tmp 46]) rfl ?_); (try (refine gate_guard (by rfl) ?_; dsimp only)); at_builtin; refine Kd.R_append_rows k32 (w0 := w) w.heap.size rfl (.const (.slice none 0 0)) (.tmp 46) 22 32 (.agg #[(.string ⟨#[]⟩), (.int .u64 0), (.int .i64 0), (.string ⟨#[]⟩)]) 48 rfl Tryz.underlying22 info32 rfl (by decide) (by omega) (.slice none 0 0) ([] : List (S32)) y361 _ _ _ (fun _ => True) (fun _ => False) rfl rfl ?aO ?aR (fun _ _ h => h) (fun _ h => h.elim) ?aF ?aB ?aS ?aL ?_; (case aR => (try (change Kd.C k32 _ _ _ _)); repeat (first | exact (Kd.C_below HR364.out HB.out) | (with_reducible refine Kd.C_alloc ?_ _) | (with_reducible refine Kd.C_drewN ?_ _) | (with_reducible refine Kd.C_drew ?_))); (case aB => exact (by repeat (first | (with_reducible first | exact HB.out | apply below_alloc | apply pw_below_drewN | apply below_drew1) | exact HB.out))); (case aF => exact (fun _ _ => trivial)); (case aO => exact ((Kd.R_nil _ _ _ _ (fun _ => True)))); (case aS => exact (below_size (by repeat (first | (with_reducible first | exact HB.out | apply below_alloc | apply pw_below_drewN | apply below_drew1) | exact HB.out)))); (case aL => have := LMc25.out; omega); intro v366 w28 ho hb hg hat; rw [← Ny365.out] at ho; have n0_ := Aside0.mk (Kd.S_after (Kd.S_apart_nil (by (with_reducible repeat (first | apply Kd.S_alloc | apply Kd.S_drewN | apply Kd.S_drew)); exact HO_5.out)) hg hat); have n1_ := Aside0.mk (hb); have n2_ := Aside0.mk (ho); clear HO_5; clear HB; have HO_5 := n0_; have HB := n1_; have HO367 := n2_; clear n0_ n1_ n2_; clear ho hb hg hat; obtain ⟨Ao30, co30, eo30⟩ := Kd.R_slice HO367.out; subst eo30) | ((with_reducible refine gate_builtin (b := .append) (xs := #[.tmp 41, .tmp 48]) rfl ?_); (try (refine gate_guard (by rfl) ?_; dsimp only)); at_builtin; refine Kd.S_append (Kd.slice 32 k32) (w0 := w) w.heap.size rfl (.tmp 41) (.tmp 48) 44 22 (.slice none 0 0) 24 rfl Tryz.underlying44 info22 rfl (by decide) (by omega) u5 x5_1 y365 [.slice Ao30 y365.length co30] (fun _ => True) (fun k_ => some k_ = (.slice Ao30 y365.length co30 : Value).ownBlock) rfl rfl ?aP (fun k_ hk_ => ((Kd.R_mono (ok' := fun k_ => ((fun _ => True)) k_ ∧ some k_ ≠ (u5 : Value).ownBlock) (Kd.R_apart' (HO367.out) (Kd.S_typed HO_5.out) (by decide)) (fun k_ hk => ⟨trivial, hk.2⟩))).1 k_ hk_.symm) ?aF ?aO ?aB ?aS ?aL ?_; (case aP => exact Kd.M_row (Kd.R_mono (Kd.R_tight rfl (Kd.R_mono (ok' := fun k_ => ((fun _ => True)) k_ ∧ some k_ ≠ (u5 : Value).ownBlock) (Kd.R_apart' (HO367.out) (Kd.S_typed HO_5.out) (by decide)) (fun k_ hk => ⟨trivial, hk.2⟩))) (fun _ h_ => h_))); (case aB => exact (by repeat (first | (with_reducible first | exact HB.out | apply below_alloc | apply pw_below_drewN | apply below_drew1) | exact HB.out))); (case aF => exact (fun _ _ => trivial)); (case aO => exact (by (with_reducible repeat (first | apply Kd.S_alloc | apply Kd.S_drewN | apply Kd.S_drew)); exact Kd.S_mono HO_5.out (fun k_ hk => ⟨trivial, fun e_ => hk.2 e_⟩))); (case aS => exact (below_size (by repeat (first | (with_reducible first | exact HB.out | apply below_alloc | apply pw_below_drewN | apply below_drew1) | exact HB.out)))); (case aL => have := LMc26.out; omega); intro v369 w29 ho hb hg hat; rw [← Ny368.out] at ho; have n0_ := Aside0.mk (hb); have n1_ := Aside0.mk (ho); clear HB; clear HO_5; clear HO367; have HB := n0_; have HO370 := n1_; clear n0_ n1_; clear ho hb hg hat)))
                go_roundg k1
                case measure => have := HK1.out; omega
                case rel => exact ⟨(y368), (ji16), (ji16), (by first | rfl | (simp; done) | (simp only [← hji16] <;> (first | rfl | simp)) | (simp [*]; done)), (by first | rfl | (simp; done) | (simp only [← hji16] <;> (first | rfl | simp)) | (simp [*]; done)), H', ⟨by have := HK1.out; omega⟩, ⟨by (with_reducible repeat (first | apply Kd.S_alloc | apply Kd.S_drewN | apply Kd.S_drew)); exact HO370.out⟩, ⟨by repeat (first | (with_reducible first | exact HB.out | apply below_alloc | apply pw_below_drewN | apply below_drew1) | exact HB.out)⟩⟩
               ·rw [if_neg c26] at H
                exact absurd H (by simp)
              ·rw [if_neg c25] at H
               exact absurd H (by simp)
             ·rw [if_neg c24] at H
              exact absurd H (by simp)
            ·rw [if_neg c23] at H
             exact absurd H (by simp)
           ·rw [if_neg c22] at H
            exact absurd H (by simp)
         ·rw [if_neg c20] at H
          exact absurd H (by simp)
        ·rw [if_neg c19] at H
         exact absurd H (by simp)
       ·rw [if_neg c18] at H
        exact absurd H (by simp)
      ·rw [if_neg c17] at H
       exact absurd H (by simp)
     ·rw [if_neg c15] at H
      have c15b0 : decide ((ji14) ≤ (wrap64 ((wrap64 (x10_1 + 1)) - x6_1))) = false := decide_eq_false c15
      clear c15
      have H' := Aside0.mk H
      clear H
      go_wp2
      repeat (go_quiet (fail); try go_wp2)
      go_roundg k1
      case measure => have := HK1.out; omega
      case rel => exact ⟨(x5_1), (x6_1), (wrap64 (x10_1 + 1)), (by first | rfl | (simp; done) | (simp [*]; done)), (by first | rfl | (simp; done) | (simp [*]; done)), H', ⟨by have := HK1.out; omega⟩, ⟨by (with_reducible repeat (first | apply Kd.S_alloc | apply Kd.S_drewN | apply Kd.S_drew)); exact HO_5.out⟩, ⟨by repeat (first | (with_reducible first | exact HB.out | apply below_alloc | apply pw_below_drewN | apply below_drew1) | exact HB.out)⟩⟩
   ·rw [if_neg c3] at H
    have c3b0 : decide (x10_1 < (l1.length : Int)) = false := decide_eq_false c3
    clear c3
    obtain rfl := Option.some.inj H
    go_wp2
    repeat (go_quiet (fail); try go_wp2)
    go_ret
    exact ⟨_, by first | rfl | (simp [errW_none, errW_some] <;> rfl) | (simp [*, errW_none, errW_some] <;> rfl), by (with_reducible repeat (first | apply Kd.S_alloc | apply Kd.S_drewN | apply Kd.S_drew)); exact HO_5.out, by repeat (first | (with_reducible first | exact HB.out | apply below_alloc | apply pw_below_drewN | apply below_drew1) | exact HB.out)⟩
end Go.Proofs.YtchgpcgolgcfdaaGreat.PNum
end
section
namespace Go.Proofs.YtchgpcgolgcfdaaGreat.PNum
open Go.RowKit Go.Proofs.YtchgpcgolgcfdaaGreatW.PrintWords Go.Proofs.YtchgpcgolgcfdaaGreatW.PrintLast Go.Proofs.YtchgpcgolgcfdaaGreatW.PrintMore
attribute [local go_sem] max2_int min2_int max_two min_two max_three min_three max_four min_four   -- for this text's walks alone
set_option linter.unusedVariables false
set_option linter.unusedSimpArgs false
def merge_Latest.f (s : Int) (l0 : List (List S32)) : Option (List S184) := if Go.Proofs.YtchgpcgolgcfdaaGreat.Lt.fit s l0 = true then some (Go.Proofs.YtchgpcgolgcfdaaGreat.PuLat.lat s (Go.Proofs.YtchgpcgolgcfdaaGreatW.PuMrg.mrg Go.Proofs.YtchgpcgolgcfdaaGreat.PuIkC.ce l0) []) else none
theorem merge_Latest.calls (s : Int) (A0 : Option Addr) (c0 : Nat) (l0 : List (List S32)) (r : List S184) (w : World) (hr0 : Kd.C (Kd.slice 32 k32) w A0 l0.length l0) (hc0 : l0.length ≤ c0) (h : merge_Latest.f s l0 = some r) :
  Calls Tryz.prog 34 #[.int .u64 s, .slice A0 l0.length c0] w fun e w' => ∃ v0_ : Value, e = .returned (v0_) ∧ Kd.R k184 184 w' w.heap.size (fun _ => True) v0_ r ∧ Below w.heap.size w w' := by
 unfold merge_Latest.f at h
 split at h
 ·rename_i hg
  obtain rfl := Option.some.inj h
  exact Go.Proofs.YtchgpcgolgcfdaaGreat.Lt.latest_calls s A0 c0 l0 w hr0 hc0 hg
 ·cases h
end Go.Proofs.YtchgpcgolgcfdaaGreat.PNum
end
section
namespace Go.Proofs.YtchgpcgolgcfdaaGreat.PNum
open Go.RowKit Go.Proofs.YtchgpcgolgcfdaaGreatW.PrintWords Go.Proofs.YtchgpcgolgcfdaaGreatW.PrintLast Go.Proofs.YtchgpcgolgcfdaaGreatW.PrintMore
attribute [local go_sem] max2_int min2_int max_two min_two max_three min_three max_four min_four   -- for this text's walks alone
set_option linter.unusedVariables false
set_option linter.unusedSimpArgs false
def cornucopialaw14_alive.f (k : Nat)  : Option (Bool) := (merge_Latest.f 2 (([(([(⟨(⟨#[97]⟩ : ByteArray), 3, 1, (⟨#[]⟩ : ByteArray)⟩ : S32)] : List (S32))), (([(⟨(⟨#[97]⟩ : ByteArray), 1, 2, (⟨#[]⟩ : ByteArray)⟩ : S32), (⟨(⟨#[98]⟩ : ByteArray), 2, 1, (⟨#[]⟩ : ByteArray)⟩ : S32)] : List (S32)))] : List (List (S32))))).bind fun t380 => ((merge_Cut.f k 1 (([(⟨(⟨#[97]⟩ : ByteArray), 2, 0, (⟨#[]⟩ : ByteArray)⟩ : S32), (⟨(⟨#[97]⟩ : ByteArray), 1, 0, (⟨#[]⟩ : ByteArray)⟩ : S32), (⟨(⟨#[98]⟩ : ByteArray), 1, 0, (⟨#[]⟩ : ByteArray)⟩ : S32)] : List (S32)))).bind fun t386 => (if (t380.length : Int) = 1 then (if 0 < (t380.length : Int) then (if ((rd_T184 t380 0).f0).toList = ([98] : List UInt8) then (if (t386.length : Int) = 2 then (if 0 < (t386.length : Int) then (if ((rd_L18 t386 0).length : Int) = 2 then ((merge_All.f ([] : List (List (S32)))).bind fun t391 => (some ((t391.length : Int) == 0))) else (none)) else (none)) else (none)) else (none)) else (none)) else (none)))
theorem cornucopialaw14_alive.mono : ∀ k, LeO (cornucopialaw14_alive.f k ) (cornucopialaw14_alive.f (k + 1) ) := by
 intro  k
 unfold cornucopialaw14_alive.f
 repeat' first
   | (with_reducible exact merge_Cut.mono _ _ _)
   | (with_reducible exact LeO.refl _)
   | (with_reducible exact LeO.none _)
   | (with_reducible refine LeO.ite ?_ ?_)
   | (with_reducible refine LeO.bind ?_ (fun _ => ?_))
   | exact merge_Cut.mono _ _ _
   | exact LeO.none _
   | refine LeO.ite ?_ ?_
   | refine LeO.bind ?_ (fun _ => ?_)
set_option maxHeartbeats 8000000 in
set_option maxRecDepth 100000 in
theorem cornucopialaw14_alive.calls (k : Nat)  (r : Bool) (w : World) (h : cornucopialaw14_alive.f k  = some r) :
  Calls Tryz.prog 30 #[] w fun e w' => e = .returned (.bool r) ∧ Below w.heap.size w w' := by
 have hu32 := Tryz.underlying32
 have HB := Aside0.mk (Below.refl w.heap.size w)
 have H : ((merge_Latest.f 2 (([(([(⟨(⟨#[97]⟩ : ByteArray), 3, 1, (⟨#[]⟩ : ByteArray)⟩ : S32)] : List (S32))), (([(⟨(⟨#[97]⟩ : ByteArray), 1, 2, (⟨#[]⟩ : ByteArray)⟩ : S32), (⟨(⟨#[98]⟩ : ByteArray), 2, 1, (⟨#[]⟩ : ByteArray)⟩ : S32)] : List (S32)))] : List (List (S32))))).bind fun t380 => ((merge_Cut.f k 1 (([(⟨(⟨#[97]⟩ : ByteArray), 2, 0, (⟨#[]⟩ : ByteArray)⟩ : S32), (⟨(⟨#[97]⟩ : ByteArray), 1, 0, (⟨#[]⟩ : ByteArray)⟩ : S32), (⟨(⟨#[98]⟩ : ByteArray), 1, 0, (⟨#[]⟩ : ByteArray)⟩ : S32)] : List (S32)))).bind fun t386 => (if (t380.length : Int) = 1 then (if 0 < (t380.length : Int) then (if ((rd_T184 t380 0).f0).toList = ([98] : List UInt8) then (if (t386.length : Int) = 2 then (if 0 < (t386.length : Int) then (if ((rd_L18 t386 0).length : Int) = 2 then ((merge_All.f ([] : List (List (S32)))).bind fun t391 => (some ((t391.length : Int) == 0))) else (none)) else (none)) else (none)) else (none)) else (none)) else (none)))) = some r := h
 clear h
 obtain ⟨y371, hy371⟩ : ∃ y_ : List (S32), y_ = (([(⟨(⟨#[97]⟩ : ByteArray), 3, 1, (⟨#[]⟩ : ByteArray)⟩ : S32)] : List (S32))) := ⟨_, rfl⟩
 replace H : ((merge_Latest.f 2 (([y371, (([(⟨(⟨#[97]⟩ : ByteArray), 1, 2, (⟨#[]⟩ : ByteArray)⟩ : S32), (⟨(⟨#[98]⟩ : ByteArray), 2, 1, (⟨#[]⟩ : ByteArray)⟩ : S32)] : List (S32)))] : List (List (S32))))).bind fun t380 => ((merge_Cut.f k 1 (([(⟨(⟨#[97]⟩ : ByteArray), 2, 0, (⟨#[]⟩ : ByteArray)⟩ : S32), (⟨(⟨#[97]⟩ : ByteArray), 1, 0, (⟨#[]⟩ : ByteArray)⟩ : S32), (⟨(⟨#[98]⟩ : ByteArray), 1, 0, (⟨#[]⟩ : ByteArray)⟩ : S32)] : List (S32)))).bind fun t386 => (if (t380.length : Int) = 1 then (if 0 < (t380.length : Int) then (if ((rd_T184 t380 0).f0).toList = ([98] : List UInt8) then (if (t386.length : Int) = 2 then (if 0 < (t386.length : Int) then (if ((rd_L18 t386 0).length : Int) = 2 then ((merge_All.f ([] : List (List (S32)))).bind fun t391 => (some ((t391.length : Int) == 0))) else (none)) else (none)) else (none)) else (none)) else (none)) else (none)))) = some r := by first | (rw [hy371]; with_reducible exact H) | (have H2_ := (Option.bind_some _ _).symm.trans H; rw [hy371]; with_reducible exact H2_) | (have H2_ := (Option.bind_some _ _).symm.trans H; with_reducible exact H2_) | with_reducible exact H | (rw [hy371]; exact H) | exact H
 have Ny371 := Aside0.mk hy371
 clear hy371
 obtain ⟨y374, hy374⟩ : ∃ y_ : List (S32), y_ = (([(⟨(⟨#[97]⟩ : ByteArray), 1, 2, (⟨#[]⟩ : ByteArray)⟩ : S32), (⟨(⟨#[98]⟩ : ByteArray), 2, 1, (⟨#[]⟩ : ByteArray)⟩ : S32)] : List (S32))) := ⟨_, rfl⟩
 replace H : ((merge_Latest.f 2 (([y371, y374] : List (List (S32))))).bind fun t380 => ((merge_Cut.f k 1 (([(⟨(⟨#[97]⟩ : ByteArray), 2, 0, (⟨#[]⟩ : ByteArray)⟩ : S32), (⟨(⟨#[97]⟩ : ByteArray), 1, 0, (⟨#[]⟩ : ByteArray)⟩ : S32), (⟨(⟨#[98]⟩ : ByteArray), 1, 0, (⟨#[]⟩ : ByteArray)⟩ : S32)] : List (S32)))).bind fun t386 => (if (t380.length : Int) = 1 then (if 0 < (t380.length : Int) then (if ((rd_T184 t380 0).f0).toList = ([98] : List UInt8) then (if (t386.length : Int) = 2 then (if 0 < (t386.length : Int) then (if ((rd_L18 t386 0).length : Int) = 2 then ((merge_All.f ([] : List (List (S32)))).bind fun t391 => (some ((t391.length : Int) == 0))) else (none)) else (none)) else (none)) else (none)) else (none)) else (none)))) = some r := by first | (rw [hy374]; with_reducible exact H) | (have H2_ := (Option.bind_some _ _).symm.trans H; rw [hy374]; with_reducible exact H2_) | (have H2_ := (Option.bind_some _ _).symm.trans H; with_reducible exact H2_) | with_reducible exact H | (rw [hy374]; exact H) | exact H
 have Ny374 := Aside0.mk hy374
 clear hy374
 obtain ⟨y377, hy377⟩ : ∃ y_ : List (List (S32)), y_ = (([y371, y374] : List (List (S32)))) := ⟨_, rfl⟩
 replace H : ((merge_Latest.f 2 y377).bind fun t380 => ((merge_Cut.f k 1 (([(⟨(⟨#[97]⟩ : ByteArray), 2, 0, (⟨#[]⟩ : ByteArray)⟩ : S32), (⟨(⟨#[97]⟩ : ByteArray), 1, 0, (⟨#[]⟩ : ByteArray)⟩ : S32), (⟨(⟨#[98]⟩ : ByteArray), 1, 0, (⟨#[]⟩ : ByteArray)⟩ : S32)] : List (S32)))).bind fun t386 => (if (t380.length : Int) = 1 then (if 0 < (t380.length : Int) then (if ((rd_T184 t380 0).f0).toList = ([98] : List UInt8) then (if (t386.length : Int) = 2 then (if 0 < (t386.length : Int) then (if ((rd_L18 t386 0).length : Int) = 2 then ((merge_All.f ([] : List (List (S32)))).bind fun t391 => (some ((t391.length : Int) == 0))) else (none)) else (none)) else (none)) else (none)) else (none)) else (none)))) = some r := by first | (rw [hy377]; with_reducible exact H) | (have H2_ := (Option.bind_some _ _).symm.trans H; rw [hy377]; with_reducible exact H2_) | (have H2_ := (Option.bind_some _ _).symm.trans H; with_reducible exact H2_) | with_reducible exact H | (rw [hy377]; exact H) | exact H
 have Ny377 := Aside0.mk hy377
 clear hy377
 replace H := Option.bind_eq_some_iff.mp H
 obtain ⟨t380, A10, H⟩ := H
 replace H : ((merge_Cut.f k 1 (([(⟨(⟨#[97]⟩ : ByteArray), 2, 0, (⟨#[]⟩ : ByteArray)⟩ : S32), (⟨(⟨#[97]⟩ : ByteArray), 1, 0, (⟨#[]⟩ : ByteArray)⟩ : S32), (⟨(⟨#[98]⟩ : ByteArray), 1, 0, (⟨#[]⟩ : ByteArray)⟩ : S32)] : List (S32)))).bind fun t386 => (if (t380.length : Int) = 1 then (if 0 < (t380.length : Int) then (if ((rd_T184 t380 0).f0).toList = ([98] : List UInt8) then (if (t386.length : Int) = 2 then (if 0 < (t386.length : Int) then (if ((rd_L18 t386 0).length : Int) = 2 then ((merge_All.f ([] : List (List (S32)))).bind fun t391 => (some ((t391.length : Int) == 0))) else (none)) else (none)) else (none)) else (none)) else (none)) else (none))) = some r := H
 have A1 := Aside0.mk A10
 clear A10
 obtain ⟨y383, hy383⟩ : ∃ y_ : List (S32), y_ = (([(⟨(⟨#[97]⟩ : ByteArray), 2, 0, (⟨#[]⟩ : ByteArray)⟩ : S32), (⟨(⟨#[97]⟩ : ByteArray), 1, 0, (⟨#[]⟩ : ByteArray)⟩ : S32), (⟨(⟨#[98]⟩ : ByteArray), 1, 0, (⟨#[]⟩ : ByteArray)⟩ : S32)] : List (S32))) := ⟨_, rfl⟩
 replace H : ((merge_Cut.f k 1 y383).bind fun t386 => (if (t380.length : Int) = 1 then (if 0 < (t380.length : Int) then (if ((rd_T184 t380 0).f0).toList = ([98] : List UInt8) then (if (t386.length : Int) = 2 then (if 0 < (t386.length : Int) then (if ((rd_L18 t386 0).length : Int) = 2 then ((merge_All.f ([] : List (List (S32)))).bind fun t391 => (some ((t391.length : Int) == 0))) else (none)) else (none)) else (none)) else (none)) else (none)) else (none))) = some r := by first | (rw [hy383]; with_reducible exact H) | (have H2_ := (Option.bind_some _ _).symm.trans H; rw [hy383]; with_reducible exact H2_) | (have H2_ := (Option.bind_some _ _).symm.trans H; with_reducible exact H2_) | with_reducible exact H | (rw [hy383]; exact H) | exact H
 have Ny383 := Aside0.mk hy383
 clear hy383
 replace H := Option.bind_eq_some_iff.mp H
 obtain ⟨t386, A20, H⟩ := H
 replace H : (if (t380.length : Int) = 1 then (if 0 < (t380.length : Int) then (if ((rd_T184 t380 0).f0).toList = ([98] : List UInt8) then (if (t386.length : Int) = 2 then (if 0 < (t386.length : Int) then (if ((rd_L18 t386 0).length : Int) = 2 then ((merge_All.f ([] : List (List (S32)))).bind fun t391 => (some ((t391.length : Int) == 0))) else (none)) else (none)) else (none)) else (none)) else (none)) else (none)) = some r := H
 have A2 := Aside0.mk A20
 clear A20
 by_cases c3 : (t380.length : Int) = 1
 ·rw [if_pos c3] at H
  have c3b0 : ((t380.length : Int) == 1) = true := beq_iff_eq.mpr c3
  have c3b1 : ((t380.length : Int) != 1) = false := bne_eq_false_iff_eq.mpr c3
  clear c3
  by_cases c4 : 0 < (t380.length : Int)
  ·rw [if_pos c4] at H
   have c4b0 : decide (0 < (t380.length : Int)) = true := decide_eq_true c4
   have c4b1 : decide (0 < t380.length) = true := decide_eq_true (by omega)
   clear c4
   by_cases c5 : ((rd_T184 t380 0).f0).toList = ([98] : List UInt8)
   ·rw [if_pos c5] at H
    have c5b0 : (((rd_T184 t380 0).f0).toList == ([98] : List UInt8)) = true := beq_iff_eq.mpr c5
    have c5b1 : (((rd_T184 t380 0).f0).toList != ([98] : List UInt8)) = false := bne_eq_false_iff_eq.mpr c5
    clear c5
    by_cases c6 : (t386.length : Int) = 2
    ·rw [if_pos c6] at H
     have c6b0 : ((t386.length : Int) == 2) = true := beq_iff_eq.mpr c6
     have c6b1 : ((t386.length : Int) != 2) = false := bne_eq_false_iff_eq.mpr c6
     clear c6
     by_cases c7 : 0 < (t386.length : Int)
     ·rw [if_pos c7] at H
      have c7b0 : decide (0 < (t386.length : Int)) = true := decide_eq_true c7
      have c7b1 : decide (0 < t386.length) = true := decide_eq_true (by omega)
      clear c7
      by_cases c8 : ((rd_L18 t386 0).length : Int) = 2
      ·rw [if_pos c8] at H
       have c8b0 : (((rd_L18 t386 0).length : Int) == 2) = true := beq_iff_eq.mpr c8
       have c8b1 : (((rd_L18 t386 0).length : Int) != 2) = false := bne_eq_false_iff_eq.mpr c8
       clear c8
       replace H := Option.bind_eq_some_iff.mp H
       obtain ⟨t391, A90, H⟩ := H
       replace H : (some ((t391.length : Int) == 0)) = some r := H
       have A9 := Aside0.mk A90
       clear A90
       obtain rfl := Option.some.inj H
       go_enter Tryz.func30, Tryz.ntmps30
       go_wp2_with (first | ((with_reducible refine gate_dst (N := 4) rfl ?_); (try (refine gate_guard (by rfl) ?_; dsimp only)); refine Kd.R_lit k32 _ 32 ?hg (N := 4) ?hd (xs := ([(⟨(⟨#[97]⟩ : ByteArray), 3, 1, (⟨#[]⟩ : ByteArray)⟩ : S32)] : List (S32))) (inner := [.string (⟨#[97]⟩ : ByteArray), .int .u64 3, .int .i64 1, .string (⟨#[]⟩ : ByteArray)]) (ok := fun _ => True) (okp := fun _ => True) ?hr ?hp (fun _ hk => hk) trivial (Below.refl _ _) (Nat.le_refl _) (by simp) ?_; (case hd => rfl); (case hg => rfl); (case hr => first | (go_simp; done) | (go_simp; rfl)); (case hp => exact (Reps.c4 (show Kd.M k32 _ _ _ (⟨(⟨#[97]⟩ : ByteArray), 3, 1, (⟨#[]⟩ : ByteArray)⟩ : S32) [.string (⟨#[97]⟩ : ByteArray), .int .u64 3, .int .i64 1, .string (⟨#[]⟩ : ByteArray)] from (k32_mkM _ _ _ (⟨(⟨#[97]⟩ : ByteArray), 3, 1, (⟨#[]⟩ : ByteArray)⟩ : S32) )) (Reps.none _ _))); intro v372 w10 ho11 hb hg_ hnew_; clear hg_ hnew_; (first | rw [← Ny371.out] at ho11 | (simp only [Int.reduceToNat] at ho11; rw [← Ny371.out] at ho11)); have n0_ := Aside0.mk (Kd.R_lower ho11 (below_size (by repeat (first | (with_reducible first | exact HB.out | apply below_alloc | apply pw_below_drewN | apply below_drew1) | exact HB.out)))); have n1_ := Aside0.mk (below_step (by repeat (first | (with_reducible first | exact HB.out | apply below_alloc | apply pw_below_drewN | apply below_drew1) | exact HB.out)) hb); clear HB; have HO373 := n0_; have HB := n1_; clear n0_ n1_; clear hb ho11) | ((with_reducible refine gate_dst (N := 7) rfl ?_); (try (refine gate_guard (by rfl) ?_; dsimp only)); refine Kd.R_lit k32 _ 32 ?hg (N := 7) ?hd (xs := ([(⟨(⟨#[97]⟩ : ByteArray), 1, 2, (⟨#[]⟩ : ByteArray)⟩ : S32), (⟨(⟨#[98]⟩ : ByteArray), 2, 1, (⟨#[]⟩ : ByteArray)⟩ : S32)] : List (S32))) (inner := [.string (⟨#[97]⟩ : ByteArray), .int .u64 1, .int .i64 2, .string (⟨#[]⟩ : ByteArray), .string (⟨#[98]⟩ : ByteArray), .int .u64 2, .int .i64 1, .string (⟨#[]⟩ : ByteArray)]) (ok := fun _ => True) (okp := fun _ => True) ?hr ?hp (fun _ hk => hk) trivial (Below.refl _ _) (Nat.le_refl _) (by simp) ?_; (case hd => rfl); (case hg => rfl); (case hr => first | (go_simp; done) | (go_simp; rfl)); (case hp => exact (Reps.c4 (show Kd.M k32 _ _ _ (⟨(⟨#[97]⟩ : ByteArray), 1, 2, (⟨#[]⟩ : ByteArray)⟩ : S32) [.string (⟨#[97]⟩ : ByteArray), .int .u64 1, .int .i64 2, .string (⟨#[]⟩ : ByteArray)] from (k32_mkM _ _ _ (⟨(⟨#[97]⟩ : ByteArray), 1, 2, (⟨#[]⟩ : ByteArray)⟩ : S32) )) (Reps.c4 (show Kd.M k32 _ _ _ (⟨(⟨#[98]⟩ : ByteArray), 2, 1, (⟨#[]⟩ : ByteArray)⟩ : S32) [.string (⟨#[98]⟩ : ByteArray), .int .u64 2, .int .i64 1, .string (⟨#[]⟩ : ByteArray)] from (k32_mkM _ _ _ (⟨(⟨#[98]⟩ : ByteArray), 2, 1, (⟨#[]⟩ : ByteArray)⟩ : S32) )) (Reps.none _ _)))); intro v375 w12 ho13 hb hg_ hnew_; clear hg_ hnew_; (first | rw [← Ny374.out] at ho13 | (simp only [Int.reduceToNat] at ho13; rw [← Ny374.out] at ho13)); have n0_ := Aside0.mk (Kd.R_elder' (by (with_reducible repeat (first | apply Kd.R_alloc | apply Kd.R_drewN | apply Kd.R_drew)); exact HO373.out) (by first | exact Kd.R_base ho13 | exact Kd.S_base ho13 | exact Kd.R_base ho13) hb); have n1_ := Aside0.mk (Kd.R_lower (Kd.R_new' ho13 (Kd.R_lt (by (with_reducible repeat (first | apply Kd.R_alloc | apply Kd.R_drewN | apply Kd.R_drew)); exact HO373.out))) (below_size (by repeat (first | (with_reducible first | exact HB.out | apply below_alloc | apply pw_below_drewN | apply below_drew1) | exact HB.out)))); have n2_ := Aside0.mk (below_step (by repeat (first | (with_reducible first | exact HB.out | apply below_alloc | apply pw_below_drewN | apply below_drew1) | exact HB.out)) hb); clear HO373; clear HB; have HO373 := n0_; have HO376 := n1_; have HB := n2_; clear n0_ n1_ n2_; clear hb ho13; obtain ⟨Ao14, co14, eo14⟩ := Kd.R_slice HO373.out; subst eo14; obtain ⟨Ao15, co15, eo15⟩ := Kd.R_slice HO376.out; subst eo15) | ((with_reducible refine gate_dst (N := 8) rfl ?_); (try (refine gate_guard (by rfl) ?_; dsimp only)); refine Kd.N_lit (Kd.slice 32 k32) _ 22 ?hg (N' := 8) ?hd (xs := ([y371, y374] : List (List (S32)))) (inner := [.slice Ao14 y371.length co14, .slice Ao15 y374.length co15]) (ok := (fun _ => True)) (okp := (fun _ => True)) ?hr ?hp (fun _ hk => hk) ((show ∀ k_, w12.heap.size ≤ k_ → (fun _ => True) k_ from fun k_ hk => trivial) _ (Nat.le_refl _)) (Below.refl _ _) (Nat.le_refl _) (by simp) ?_; (case hd => rfl); (case hg => rfl); (case hr => first | (go_simp; done) | (go_simp; rfl)); (case hp => exact (Reps.one (show Kd.FK (Kd.slice 32 k32) _ _ y371 [.slice Ao14 y371.length co14] from (Kd.FK_slice_mk (Kd.R_reads' (Kd.R_mono (ok' := (fun _ => True)) (HO373.out) (fun k_ hk => trivial))).2.1 (Kd.R_F (Kd.R_mono (ok' := (fun _ => True)) (HO373.out) (fun k_ hk => trivial))))) (Reps.one (show Kd.FK (Kd.slice 32 k32) _ _ y374 [.slice Ao15 y374.length co15] from (Kd.FK_slice_mk (Kd.R_reads' (Kd.R_mono (ok' := (fun _ => True)) (HO376.out) (fun k_ hk => trivial))).2.1 (Kd.R_F (Kd.R_mono (ok' := (fun _ => True)) (HO376.out) (fun k_ hk => trivial))))) (Reps.none _ _)))); intro v378 w16 ho17 hb hg_ hnew_; clear hg_ hnew_; (first | rw [← Ny377.out] at ho17 | (simp only [Int.reduceToNat] at ho17; rw [← Ny377.out] at ho17)); have n0_ := Aside0.mk (Kd.N_lower ho17 (below_size (by repeat (first | (with_reducible first | exact HB.out | apply below_alloc | apply pw_below_drewN | apply below_drew1) | exact HB.out)))); have n1_ := Aside0.mk (below_step (by repeat (first | (with_reducible first | exact HB.out | apply below_alloc | apply pw_below_drewN | apply below_drew1) | exact HB.out)) hb); clear HB; clear HO373; clear HO376; have HO379 := n0_; have HB := n1_; clear n0_ n1_; clear hb ho17; obtain ⟨Ao18, co18, eo18⟩ := Kd.N_slice HO379.out; subst eo18) | ((with_reducible refine gate_callee (f := 34) rfl ?_); refine goesL_ (some 9) rfl rfl Tryz.func34 (by kernel_rfl) rfl #[.int .u64 2, .slice Ao18 y377.length co18] rfl (by (try simp only [List.map_toArray, List.map_cons, List.map_nil]); first | done | rfl | (simp only [List.length_drop, List.length_take]; rfl)) ?_; (with_reducible refine (merge_Latest.calls 2 _ _ y377 t380 _ ?side1 ?side2 A1.out).mono ?_); (case side1 => repeat (first | exact (Kd.N_reads' HO379.out).2.2 | (with_reducible refine Kd.C_alloc ?_ _) | (with_reducible refine Kd.C_drewN ?_ _) | (with_reducible refine Kd.C_drew ?_))); (case side2 => exact (Kd.N_reads' HO379.out).2.1); rintro e w19 ⟨v381, rfl, ho0, hb⟩; refine ⟨_, rfl, ?_⟩; have n0_ := Aside0.mk (Kd.N_elder' (by (with_reducible repeat (first | apply Kd.N_alloc | apply Kd.N_drewN | apply Kd.N_drew)); exact HO379.out) (by first | exact Kd.R_base ho0 | exact Kd.S_base ho0 | exact Kd.R_base ho0) hb); have n1_ := Aside0.mk (Kd.R_lower ho0 (below_size (by repeat (first | (with_reducible first | exact HB.out | apply below_alloc | apply pw_below_drewN | apply below_drew1) | exact HB.out)))); have n2_ := Aside0.mk (below_step (by repeat (first | (with_reducible first | exact HB.out | apply below_alloc | apply pw_below_drewN | apply below_drew1) | exact HB.out)) hb); clear HO379; clear HB; have HO379 := n0_; have HO382 := n1_; have HB := n2_; clear n0_ n1_ n2_; (try clear hb); (try clear hb2); (try clear hk); (try clear hi); (try clear ho0)) | ((with_reducible refine gate_dst (N := 13) rfl ?_); (try (refine gate_guard (by rfl) ?_; dsimp only)); refine Kd.R_lit k32 _ 32 ?hg (N := 13) ?hd (xs := ([(⟨(⟨#[97]⟩ : ByteArray), 2, 0, (⟨#[]⟩ : ByteArray)⟩ : S32), (⟨(⟨#[97]⟩ : ByteArray), 1, 0, (⟨#[]⟩ : ByteArray)⟩ : S32), (⟨(⟨#[98]⟩ : ByteArray), 1, 0, (⟨#[]⟩ : ByteArray)⟩ : S32)] : List (S32))) (inner := [.string (⟨#[97]⟩ : ByteArray), .int .u64 2, .int .i64 0, .string (⟨#[]⟩ : ByteArray), .string (⟨#[97]⟩ : ByteArray), .int .u64 1, .int .i64 0, .string (⟨#[]⟩ : ByteArray), .string (⟨#[98]⟩ : ByteArray), .int .u64 1, .int .i64 0, .string (⟨#[]⟩ : ByteArray)]) (ok := fun _ => True) (okp := fun _ => True) ?hr ?hp (fun _ hk => hk) trivial (Below.refl _ _) (Nat.le_refl _) (by simp) ?_; (case hd => rfl); (case hg => rfl); (case hr => first | (go_simp; done) | (go_simp; rfl)); (case hp => exact (Reps.c4 (show Kd.M k32 _ _ _ (⟨(⟨#[97]⟩ : ByteArray), 2, 0, (⟨#[]⟩ : ByteArray)⟩ : S32) [.string (⟨#[97]⟩ : ByteArray), .int .u64 2, .int .i64 0, .string (⟨#[]⟩ : ByteArray)] from (k32_mkM _ _ _ (⟨(⟨#[97]⟩ : ByteArray), 2, 0, (⟨#[]⟩ : ByteArray)⟩ : S32) )) (Reps.c4 (show Kd.M k32 _ _ _ (⟨(⟨#[97]⟩ : ByteArray), 1, 0, (⟨#[]⟩ : ByteArray)⟩ : S32) [.string (⟨#[97]⟩ : ByteArray), .int .u64 1, .int .i64 0, .string (⟨#[]⟩ : ByteArray)] from (k32_mkM _ _ _ (⟨(⟨#[97]⟩ : ByteArray), 1, 0, (⟨#[]⟩ : ByteArray)⟩ : S32) )) (Reps.c4 (show Kd.M k32 _ _ _ (⟨(⟨#[98]⟩ : ByteArray), 1, 0, (⟨#[]⟩ : ByteArray)⟩ : S32) [.string (⟨#[98]⟩ : ByteArray), .int .u64 1, .int .i64 0, .string (⟨#[]⟩ : ByteArray)] from (k32_mkM _ _ _ (⟨(⟨#[98]⟩ : ByteArray), 1, 0, (⟨#[]⟩ : ByteArray)⟩ : S32) )) (Reps.none _ _))))); intro v384 w20 ho21 hb hg_ hnew_; clear hg_ hnew_; (first | rw [← Ny383.out] at ho21 | (simp only [Int.reduceToNat] at ho21; rw [← Ny383.out] at ho21)); have n0_ := Aside0.mk (Kd.N_elder' (by (with_reducible repeat (first | apply Kd.N_alloc | apply Kd.N_drewN | apply Kd.N_drew)); exact HO379.out) (by first | exact Kd.R_base ho21 | exact Kd.S_base ho21 | exact Kd.R_base ho21) hb); have n1_ := Aside0.mk (Kd.R_below (by (with_reducible repeat (first | apply Kd.R_alloc | apply Kd.R_drewN | apply Kd.R_drew)); exact HO382.out) hb); have n2_ := Aside0.mk (Kd.R_lower ho21 (below_size (by repeat (first | (with_reducible first | exact HB.out | apply below_alloc | apply pw_below_drewN | apply below_drew1) | exact HB.out)))); have n3_ := Aside0.mk (below_step (by repeat (first | (with_reducible first | exact HB.out | apply below_alloc | apply pw_below_drewN | apply below_drew1) | exact HB.out)) hb); clear HO379; clear HO382; clear HB; have HO379 := n0_; have HO382 := n1_; have HO385 := n2_; have HB := n3_; clear n0_ n1_ n2_ n3_; clear hb ho21; obtain ⟨Ao22, co22, eo22⟩ := Kd.R_slice HO385.out; subst eo22) | ((with_reducible refine gate_callee (f := 39) rfl ?_); refine goesL_ (some 14) rfl rfl Tryz.func39 (by kernel_rfl) rfl #[.int .i64 1, .slice Ao22 y383.length co22] rfl (by (try simp only [List.map_toArray, List.map_cons, List.map_nil]); first | done | rfl | (simp only [List.length_drop, List.length_take]; rfl)) ?_; (with_reducible refine (merge_Cut.calls k 1 _ _ y383 t386 _ ?side1 ?side2 A2.out).mono ?_); (case side1 => repeat (first | exact (Kd.R_reads' HO385.out).2.2 | (with_reducible refine Kd.C_alloc ?_ _) | (with_reducible refine Kd.C_drewN ?_ _) | (with_reducible refine Kd.C_drew ?_))); (case side2 => exact (Kd.R_reads' HO385.out).2.1); rintro e w23 ⟨v387, rfl, ho0, hb⟩; refine ⟨_, rfl, ?_⟩; have n0_ := Aside0.mk (Kd.N_elder' (by (with_reducible repeat (first | apply Kd.N_alloc | apply Kd.N_drewN | apply Kd.N_drew)); exact HO379.out) (by first | exact Kd.N_base ho0 | exact Kd.S_base ho0 | exact Kd.R_base ho0) hb); have n1_ := Aside0.mk (Kd.R_below (by (with_reducible repeat (first | apply Kd.R_alloc | apply Kd.R_drewN | apply Kd.R_drew)); exact HO382.out) hb); have n2_ := Aside0.mk (Kd.R_below (by (with_reducible repeat (first | apply Kd.R_alloc | apply Kd.R_drewN | apply Kd.R_drew)); exact HO385.out) hb); have n3_ := Aside0.mk (Kd.N_lower (Kd.N_mono (ok' := fun k_ => some k_ ≠ (.slice Ao18 y377.length co18 : Value).ownBlock ∧ some k_ ≠ (v381 : Value).ownBlock ∧ some k_ ≠ (.slice Ao22 y383.length co22 : Value).ownBlock) (Kd.S_N (Kd.S_bound ho0)) (fun k_ hk_ => ⟨(Kd.fresh' (Kd.N_lt (by (with_reducible repeat (first | apply Kd.N_alloc | apply Kd.N_drewN | apply Kd.N_drew)); exact HO379.out)) k_ hk_.2.1), (Kd.fresh' (Kd.R_lt (by (with_reducible repeat (first | apply Kd.R_alloc | apply Kd.R_drewN | apply Kd.R_drew)); exact HO382.out)) k_ hk_.2.1), (Kd.fresh' (Kd.R_lt (by (with_reducible repeat (first | apply Kd.R_alloc | apply Kd.R_drewN | apply Kd.R_drew)); exact HO385.out)) k_ hk_.2.1)⟩)) (below_size (by repeat (first | (with_reducible first | exact HB.out | apply below_alloc | apply pw_below_drewN | apply below_drew1) | exact HB.out)))); have n4_ := Aside0.mk (below_step (by repeat (first | (with_reducible first | exact HB.out | apply below_alloc | apply pw_below_drewN | apply below_drew1) | exact HB.out)) hb); clear HO379; clear HO382; clear HO385; clear HB; have HO379 := n0_; have HO382 := n1_; have HO385 := n2_; have HO388 := n3_; have HB := n4_; clear n0_ n1_ n2_ n3_ n4_; (try clear hb); (try clear hb2); (try clear hk); (try clear hi); (try clear ho0); obtain ⟨Ao24, co24, eo24⟩ := Kd.R_slice HO382.out; subst eo24; have p389 : 0 ≤ (0 : Int) := (by omega); have q389 : 0 < (t380.length : Int) := of_decide_eq_true (by first | (with_reducible assumption) | assumption); obtain ⟨ad389, e389, hx389_0, hx389_1⟩ := at_T184 (Kd.R_reads' HO382.out).2.2 0 p389 q389; cases e389; have qi389 : (0 < t380.length) = True := eq_true (by omega); (try rw [show ((0 : Int)).toNat = 0 from rfl] at hx389_0); (try rw [show 0 * 2 = 0 from rfl] at hx389_0); (try rw [Addr.add_zero'] at hx389_0); (try rw [show ((0 : Int)).toNat = 0 from rfl] at hx389_1); (try rw [show 0 * 2 = 0 from rfl] at hx389_1); (try rw [Addr.add_zero'] at hx389_1); replace p389 := eq_true p389; replace q389 := eq_true q389; obtain ⟨Ao25, co25, eo25⟩ := Kd.N_slice HO388.out; subst eo25; have p390 : 0 ≤ (0 : Int) := (by omega); have q390 : 0 < (t386.length : Int) := of_decide_eq_true (by first | (with_reducible assumption) | assumption); obtain ⟨ad390, A390_0, c390_0, e390, hx390_0, hl390_0, hi390_0⟩ := at_L18 (Kd.N_reads' HO388.out).2.2 0 p390 q390; cases e390; obtain ⟨ce390, hce390, hMe390, hcc390⟩ := Kd.N_get HO388.out [] 0 p390 (by first | exact q390 | exact of_decide_eq_true (by first | (with_reducible assumption) | assumption) | (have e_ := (Kd.N_reads' HO388.out).1; omega)); obtain ⟨ua390_0, uc390_0, rfl, ul390_0, ge390_0⟩ := Kd.FK_slice_open hMe390; have hv390_0 := hcc390 0 _ rfl; rw [Nat.add_zero, show ((Kd.slice 32 k32)).sz = 1 from rfl, Nat.mul_one] at hv390_0; replace hv390_0 := Option.some.inj (hv390_0.symm.trans hx390_0); injection hv390_0 with hva_ hvn_ hvc_; rw [hva_] at ge390_0; rw [hvc_] at ul390_0; have HL390_0 := Aside0.mk (show Kd.V k32 32 _ w.heap.size _ _ (rd_L18 t386 0) from Kd.V_mk ul390_0 ge390_0); clear hva_ hvn_ hvc_ ge390_0 ul390_0; clear hcc390 hce390; have qi390 : (0 < t386.length) = True := eq_true (by omega); (try rw [show ((0 : Int)).toNat = 0 from rfl] at hx390_0); (try rw [Addr.add_zero'] at hx390_0); have HR390_0 := Aside0.mk hi390_0; have HC390_0 := Aside0.mk hl390_0; clear hi390_0 hl390_0; replace p390 := eq_true p390; replace q390 := eq_true q390) | (go_at_call 33; (refine (merge_All.calls _ _ ([] : List (List (S32))) t391 _ ?side1 ?side2 A9.out).mono ?_); (case side1 => exact Kd.C_nil _ _); (case side2 => exact Nat.le_refl _); rintro e w26 ⟨v392, rfl, ho0, hb⟩; have n0_ := Aside0.mk (Kd.N_elder' (by (with_reducible repeat (first | apply Kd.N_alloc | apply Kd.N_drewN | apply Kd.N_drew)); exact HO379.out) (by first | exact Kd.R_base ho0 | exact Kd.S_base ho0 | exact Kd.R_base ho0) hb); have n1_ := Aside0.mk (Kd.R_below (by (with_reducible repeat (first | apply Kd.R_alloc | apply Kd.R_drewN | apply Kd.R_drew)); exact HO382.out) hb); have n2_ := Aside0.mk (Kd.R_elder' (by (with_reducible repeat (first | apply Kd.R_alloc | apply Kd.R_drewN | apply Kd.R_drew)); exact HO385.out) (by first | exact Kd.R_base ho0 | exact Kd.S_base ho0 | exact Kd.R_base ho0) hb); have n3_ := Aside0.mk (Kd.N_elder' (by (with_reducible repeat (first | apply Kd.N_alloc | apply Kd.N_drewN | apply Kd.N_drew)); exact HO388.out) (by first | exact Kd.R_base ho0 | exact Kd.S_base ho0 | exact Kd.R_base ho0) hb); have n4_ := Aside0.mk (Kd.V_elder' (by (with_reducible repeat (first | apply Kd.V_alloc | apply Kd.V_drewN | apply Kd.V_drew)); exact HL390_0.out) (by first | exact Kd.R_base ho0 | exact Kd.S_base ho0 | exact Kd.R_base ho0) hb); have n5_ := Aside0.mk (Kd.R_lower (Kd.R_new' ho0 (Kd.R_lt (by (with_reducible repeat (first | apply Kd.R_alloc | apply Kd.R_drewN | apply Kd.R_drew)); exact HO385.out))) (below_size (by repeat (first | (with_reducible first | exact HB.out | apply below_alloc | apply pw_below_drewN | apply below_drew1) | exact HB.out)))); have n6_ := Aside0.mk (Kd.C_below (by repeat (first | (with_reducible exact HR390_0.out) | (with_reducible refine Kd.C_alloc ?_ _) | (with_reducible refine Kd.C_drewN ?_ _) | (with_reducible refine Kd.C_drew ?_) | exact HR390_0.out)) hb); have n7_ := Aside0.mk (below_step (by repeat (first | (with_reducible first | exact HB.out | apply below_alloc | apply pw_below_drewN | apply below_drew1) | exact HB.out)) hb); clear HO379; clear HO382; clear HO385; clear HO388; clear HL390_0; clear HR390_0; clear HB; have HO379 := n0_; have HO382 := n1_; have HO385 := n2_; have HO388 := n3_; have HL390_0 := n4_; have HO393 := n5_; have HR390_0 := n6_; have HB := n7_; clear n0_ n1_ n2_ n3_ n4_ n5_ n6_ n7_; (try clear hb); (try clear hb2); (try clear hk); (try clear hi); (try clear ho0); obtain ⟨Ao27, co27, eo27⟩ := Kd.R_slice HO393.out; subst eo27))
       go_ret
       exact ⟨by first | rfl | (simp [errW_none, errW_some] <;> rfl) | (simp [*, errW_none, errW_some] <;> rfl), by repeat (first | (with_reducible first | exact HB.out | apply below_alloc | apply pw_below_drewN | apply below_drew1) | exact HB.out)⟩
      ·rw [if_neg c8] at H
       exact absurd H (by simp)
     ·rw [if_neg c7] at H
      exact absurd H (by simp)
    ·rw [if_neg c6] at H
     exact absurd H (by simp)
   ·rw [if_neg c5] at H
    exact absurd H (by simp)
  ·rw [if_neg c4] at H
   exact absurd H (by simp)
 ·rw [if_neg c3] at H
  exact absurd H (by simp)
end Go.Proofs.YtchgpcgolgcfdaaGreat.PNum
end
section
namespace Go.Proofs.YtchgpcgolgcfdaaGreat.PuCut
open Go Go.RowKit Go.Proofs.YtchgpcgolgcfdaaGreat.PNum Go.Proofs.YtchgpcgolgcfdaaGreat.PuIkC Go.Proofs.YtchgpcgolgcfdaaGreatW.PrintWords Go.Proofs.YtchgpcgolgcfdaaGreatW.PrintLast Go.Proofs.YtchgpcgolgcfdaaGreatW.PrintMore Go.Proofs.YtchgpcgolgcfdaaGreatW.Pu
abbrev E := S32
abbrev ends (most : Int) (piece : List E) (e : E) (r : List E) : Prop := r.isEmpty = true ∨ (most ≤ (piece.length : Int) + 1 ∧ r.head?.map (·.f0) ≠ some e.f0)
def cutS (most : Int) : List E → List E → List (List E)
 | _, [] => []
 | piece, e :: r => if ends most piece e r then (piece ++ [e]) :: cutS most [] r else cutS most (piece ++ [e]) r
theorem cutS_nil (most : Int) (piece : List E) : cutS most piece [] = [] := by rw [cutS]
theorem cutS_flat (most : Int) : ∀ (l piece : List E), l ≠ [] → (cutS most piece l).flatten = piece ++ l
 | [], _, h => absurd rfl h
 | e :: r, piece, _ => by
  rw [cutS]
  by_cases hr : r = []
  ·subst hr
   rw [if_pos (show ends most piece e [] from .inl rfl), cutS_nil]
   simp
  ·split
   ·rw [List.flatten_cons, cutS_flat most r [] hr]
    simp
   ·rw [cutS_flat most r (piece ++ [e]) hr]
    simp
theorem cutS_all (most : Int) (l : List E) : (cutS most [] l).flatten = l := by
 cases l with
 | nil => rw [cutS_nil]; rfl
 | cons e r => rw [cutS_flat most (e :: r) [] (by simp)]; rfl
theorem cutS_len (most : Int) : ∀ (l piece : List E), (cutS most piece l).length ≤ l.length
 | [], _ => by rw [cutS_nil]; simp
 | e :: r, piece => by
  rw [cutS]
  have h1 := cutS_len most r []
  have h2 := cutS_len most r (piece ++ [e])
  split
  ·simp; omega
  ·simp; omega
end Go.Proofs.YtchgpcgolgcfdaaGreat.PuCut
end
section
namespace Go.Proofs.YtchgpcgolgcfdaaGreat.PNum
open Go.RowKit Go.Proofs.YtchgpcgolgcfdaaGreatW.PrintWords Go.Proofs.YtchgpcgolgcfdaaGreatW.PrintLast Go.Proofs.YtchgpcgolgcfdaaGreatW.PrintMore
attribute [local go_sem] max2_int min2_int max_two min_two max_three min_three max_four min_four   -- for this text's walks alone
set_option linter.unusedVariables false
set_option linter.unusedSimpArgs false
def cornucopialaw5_Small.l0 : Nat → List (S32) → Int → Int → Option (Bool)
 | 0, _, _, _ => none
 | k + 1, x0, x3, x4 => if x4 < (x0.length : Int) then (if x4 < 400 then (if x3 ≥ 0 then (if 0 ≤ x4 then ((cornucopiabook_Room.f k x3 (([(((rd_T32 x0 x4).f0).size : Int), (((rd_T32 x0 x4).f3).size : Int)] : List Int))).bind fun t108 => (cornucopialaw5_Small.l0 k x0 t108 (wrap64 (x4 + 1)))) else (none)) else (if (x0.length : Int) ≤ 150 then (some (decide (x3 ≥ 0))) else (some false))) else (if (x0.length : Int) ≤ 150 then (some (decide (x3 ≥ 0))) else (some false))) else (if (x0.length : Int) ≤ 150 then (some (decide (x3 ≥ 0))) else (some false))
def cornucopialaw5_Small.f (k : Nat) (l0 : List (S32)) : Option (Bool) := cornucopialaw5_Small.l0 k l0 20000 0
theorem cornucopialaw5_Small.mono_l : ∀ k, (∀ y0 y1 y2, LeO (cornucopialaw5_Small.l0 k y0 y1 y2) (cornucopialaw5_Small.l0 (k + 1) y0 y1 y2))
 | 0 => fun _ _ _ r h => by simp [cornucopialaw5_Small.l0] at h
 | k + 1 => by
  have ih0 := cornucopialaw5_Small.mono_l k
  ·intro y0 y1 y2
   unfold cornucopialaw5_Small.l0
   repeat' first
   | (with_reducible exact ih0 _ _ _)
   | (with_reducible exact cornucopiabook_Room.mono _ _ _)
   | (with_reducible exact LeO.refl _)
   | (with_reducible exact LeO.none _)
   | (with_reducible refine LeO.ite ?_ ?_)
   | (with_reducible refine LeO.bind ?_ (fun _ => ?_))
   | exact ih0 _ _ _
   | exact cornucopiabook_Room.mono _ _ _
   | exact LeO.none _
   | refine LeO.ite ?_ ?_
   | refine LeO.bind ?_ (fun _ => ?_)
theorem cornucopialaw5_Small.mono : ∀ a0 k, LeO (cornucopialaw5_Small.f k a0) (cornucopialaw5_Small.f (k + 1) a0) := by
 intro a0 k
 have ih0 := cornucopialaw5_Small.mono_l k
 unfold cornucopialaw5_Small.f
 repeat' first
   | (with_reducible exact ih0 _ _ _)
   | (with_reducible exact cornucopiabook_Room.mono _ _ _)
   | (with_reducible exact LeO.refl _)
   | (with_reducible exact LeO.none _)
   | (with_reducible refine LeO.ite ?_ ?_)
   | (with_reducible refine LeO.bind ?_ (fun _ => ?_))
   | exact ih0 _ _ _
   | exact cornucopiabook_Room.mono _ _ _
   | exact LeO.none _
   | refine LeO.ite ?_ ?_
   | refine LeO.bind ?_ (fun _ => ?_)
def cornucopialaw5_Small.T5 : Bool × List (List Nat × List Nat) := (true, [([], []), ([], []), ([], []), ([1, 2], [1, 2]), ([3], [3]), ([4], [4]), ([5], [5]), ([], []), ([], []), ([7, 8], [7, 8]), ([9], [9]), ([10], [10]), ([11], [11]), ([6, 12], [6, 12]), ([0, 13], [0, 13]), ([14, 14, 0, 1, 2, 3, 4, 5, 6, 7, 8, 9, 10, 11, 12, 13, 14], [0, 14])])
def cornucopialaw5_Small.B5 : List Nat := [0, 0, 0, 6, 14, 30, 62, 0, 0, 384, 896, 1920, 3968, 8190, 16383, 32767]
theorem cornucopialaw5_Small.tab5 : rtab .any (opsOf Tryz.f9 5) = cornucopialaw5_Small.T5 := by kernel_rfl
theorem cornucopialaw5_Small.bits5 : waitsOk cornucopialaw5_Small.T5.2 cornucopialaw5_Small.B5 = true := by kernel_rfl
set_option maxHeartbeats 8000000 in
set_option maxRecDepth 100000 in
theorem cornucopialaw5_Small.calls (k : Nat) (A0 : Option Addr) (c0 : Nat) (l0 : List (S32)) (r : Bool) (w : World) (hr0 : Kd.C k32 w A0 l0.length l0) (hc0 : l0.length ≤ c0) (h : cornucopialaw5_Small.f k l0 = some r) :
  Calls Tryz.prog 9 #[.slice A0 l0.length c0] w fun e w' => e = .returned (.bool r) ∧ Below w.heap.size w w' := by
 have HR0 := Aside0.mk hr0
 have HC0 := Aside0.mk hc0
 clear hr0 hc0
 have HB := Aside0.mk (Below.refl w.heap.size w)
 have H : (cornucopialaw5_Small.l0 k l0 20000 0) = some r := h
 clear h
 have H' := Aside0.mk H
 clear H
 go_enter Tryz.func9, Tryz.ntmps9
 go_wp2
 go_loopg [3, 4] k (fun kq v3 v4 w' => ∃ (x3_1 : Int) (x4_1 : Int), v3 = .int .i64 x3_1 ∧ v4 = .int .i64 x4_1 ∧ Aside0 (cornucopialaw5_Small.l0 kq l0 x3_1 x4_1 = some r) ∧ Aside0 (kq ≤ k) ∧ Aside0 (Below w.heap.size w w'))
 case atStart => exact ⟨(20000), (0), (by first | rfl | (simp; done) | (simp [*]; done)), (by first | rfl | (simp; done) | (simp [*]; done)), H', ⟨Nat.le_refl _⟩, ⟨by repeat (first | (with_reducible first | exact HB.out | apply below_alloc | apply pw_below_drewN | apply below_drew1) | exact HB.out)⟩⟩
 case round =>
  clear H'
  obtain ⟨x3_1, x4_1, rfl, rfl, HA, HK1, HB⟩ := hrel
  cases gk with
  | zero => exact absurd HA.out (by simp [cornucopialaw5_Small.l0])
  | succ k1 =>
   have H := HA.out
   clear HA
   simp only [cornucopialaw5_Small.l0] at H
   by_cases c2 : x4_1 < (l0.length : Int)
   ·rw [if_pos c2] at H
    have c2b0 : decide (x4_1 < (l0.length : Int)) = true := decide_eq_true c2
    clear c2
    by_cases c3 : x4_1 < 400
    ·rw [if_pos c3] at H
     have c3b0 : decide (x4_1 < 400) = true := decide_eq_true c3
     clear c3
     by_cases c4 : x3_1 ≥ 0
     ·rw [if_pos c4] at H
      have c4b0 : decide (0 ≤ x3_1) = true := decide_eq_true c4
      clear c4
      by_cases c5 : 0 ≤ x4_1
      ·rw [if_pos c5] at H
       have c5b0 : decide (0 ≤ x4_1) = true := decide_eq_true c5
       clear c5
       obtain ⟨y105, hy105⟩ : ∃ y_ : List Int, y_ = (([(((rd_T32 l0 x4_1).f0).size : Int), (((rd_T32 l0 x4_1).f3).size : Int)] : List Int)) := ⟨_, rfl⟩
       replace H : ((cornucopiabook_Room.f k1 x3_1 y105).bind fun t108 => (cornucopialaw5_Small.l0 k1 l0 t108 (wrap64 (x4_1 + 1)))) = some r := by first | (rw [hy105]; with_reducible exact H) | (have H2_ := (Option.bind_some _ _).symm.trans H; rw [hy105]; with_reducible exact H2_) | (have H2_ := (Option.bind_some _ _).symm.trans H; with_reducible exact H2_) | with_reducible exact H | (rw [hy105]; exact H) | exact H
       have Ny105 := Aside0.mk hy105
       clear hy105
       replace H := Option.bind_eq_some_iff.mp H
       obtain ⟨t108, A60, H⟩ := H
       replace H : (cornucopialaw5_Small.l0 k1 l0 t108 (wrap64 (x4_1 + 1))) = some r := H
       have A6 := Aside0.mk A60
       clear A60
       have H' := Aside0.mk H
       clear H
       try go_wp2
       have n0_ := Aside0.mk (below_drew1 HB.out)
       clear HB
       have HB := n0_
       clear n0_
       have p103 : 0 ≤ (x4_1 : Int) := of_decide_eq_true (by first | (with_reducible assumption) | assumption)
       have q103 : x4_1 < (l0.length : Int) := of_decide_eq_true (by first | (with_reducible assumption) | assumption)
       obtain ⟨ad103, e103, hx103_0, hx103_1, hx103_2, hx103_3⟩ := at_T32 HR0.out x4_1 p103 q103
       have hw103_3 := hx103_3
       have hw103_2 := hx103_2
       have hw103_1 := hx103_1
       have hw103_0 := hx103_0
       cases e103
       replace hx103_0 := (HB.out.cell (World.block_lt_of_cell? w _ hx103_0)).trans hx103_0
       replace hx103_1 := (HB.out.cell (World.block_lt_of_cell? w _ hx103_1)).trans hx103_1
       replace hx103_2 := (HB.out.cell (World.block_lt_of_cell? w _ hx103_2)).trans hx103_2
       replace hx103_3 := (HB.out.cell (World.block_lt_of_cell? w _ hx103_3)).trans hx103_3
       replace p103 := eq_true p103
       replace q103 := eq_true q103
       have p104 : 0 ≤ (x4_1 : Int) := of_decide_eq_true (by first | (with_reducible assumption) | assumption)
       have q104 : x4_1 < (l0.length : Int) := of_decide_eq_true (by first | (with_reducible assumption) | assumption)
       obtain ⟨ad104, e104, hx104_0, hx104_1, hx104_2, hx104_3⟩ := at_T32 HR0.out x4_1 p104 q104
       have hw104_3 := hx104_3
       have hw104_2 := hx104_2
       have hw104_1 := hx104_1
       have hw104_0 := hx104_0
       obtain rfl : ad103 = ad104 := (by injection e104)
       replace hx104_0 := (HB.out.cell (World.block_lt_of_cell? w _ hx104_0)).trans hx104_0
       replace hx104_1 := (HB.out.cell (World.block_lt_of_cell? w _ hx104_1)).trans hx104_1
       replace hx104_2 := (HB.out.cell (World.block_lt_of_cell? w _ hx104_2)).trans hx104_2
       replace hx104_3 := (HB.out.cell (World.block_lt_of_cell? w _ hx104_3)).trans hx104_3
       replace p104 := eq_true p104
       replace q104 := eq_true q104
       refine start_ (n := 16) (S := fun w' => w'.cell? (ad103.add ((x4_1).toNat * 4)) = some (.string ((rd_T32 l0 x4_1).f0)) ∧ w'.cell? ⟨(ad103.add ((x4_1).toNat * 4)).block, (ad103.add ((x4_1).toNat * 4)).off + 1, none⟩ = some (.int .u64 ((rd_T32 l0 x4_1).f1)) ∧ w'.cell? ⟨(ad103.add ((x4_1).toNat * 4)).block, (ad103.add ((x4_1).toNat * 4)).off + 2, none⟩ = some (.int .i64 ((rd_T32 l0 x4_1).f2)) ∧ w'.cell? ⟨(ad103.add ((x4_1).toNat * 4)).block, (ad103.add ((x4_1).toNat * 4)).off + 3, none⟩ = some (.string ((rd_T32 l0 x4_1).f3)) ∧ w'.cell? (ad103.add ((x4_1).toNat * 4)) = some (.string ((rd_T32 l0 x4_1).f0)) ∧ w'.cell? ⟨(ad103.add ((x4_1).toNat * 4)).block, (ad103.add ((x4_1).toNat * 4)).off + 1, none⟩ = some (.int .u64 ((rd_T32 l0 x4_1).f1)) ∧ w'.cell? ⟨(ad103.add ((x4_1).toNat * 4)).block, (ad103.add ((x4_1).toNat * 4)).off + 2, none⟩ = some (.int .i64 ((rd_T32 l0 x4_1).f2)) ∧ w'.cell? ⟨(ad103.add ((x4_1).toNat * 4)).block, (ad103.add ((x4_1).toNat * 4)).off + 3, none⟩ = some (.string ((rd_T32 l0 x4_1).f3))) (ds := []) #[false, false, false, false, false, false, false, false, false, false, false, false, false, false, false, false] (by kernel_rfl) rfl rfl ⟨((HB.out.cell (World.block_lt_of_cell? w _ hw103_0)).trans hw103_0), ((HB.out.cell (World.block_lt_of_cell? w _ hw103_1)).trans hw103_1), ((HB.out.cell (World.block_lt_of_cell? w _ hw103_2)).trans hw103_2), ((HB.out.cell (World.block_lt_of_cell? w _ hw103_3)).trans hw103_3), ((HB.out.cell (World.block_lt_of_cell? w _ hw104_0)).trans hw104_0), ((HB.out.cell (World.block_lt_of_cell? w _ hw104_1)).trans hw104_1), ((HB.out.cell (World.block_lt_of_cell? w _ hw104_2)).trans hw104_2), ((HB.out.cell (World.block_lt_of_cell? w _ hw104_3)).trans hw104_3)⟩ (fun hHeld => ?_); refine with_tabW cornucopialaw5_Small.tab5 cornucopialaw5_Small.bits5 (fun HT_ HW_ => ?_)
       generalize wr.drew = w7 at HB hx103_0 hx103_1 hx103_2 hx103_3 hx104_0 hx104_1 hx104_2 hx104_3 hHeld ⊢
       refine pure_ (i := 0) (N := some 19) (v := ?_) (a' := ?_) #[true, false, false, false, false, false, false, false, false, false, false, false, false, false, false, false] rfl rfl (any_of HT_.out (by kernel_rfl)) (fun _ _ _ h => h) (Or.inl ⟨by rfl, ?_⟩) ?_ ?_
       rotate_left
       ·intro w'
        go_simp
        with_reducible rfl
       rotate_left
       ·simp only [Act.put, List.setIfInBounds_toArray, List.set_cons_zero, List.set_cons_succ, i64_w, i32_w]
        rfl
       refine pure_ (i := 1) (N := some 20) (v := ?_) (a' := ?_) #[true, true, false, false, false, false, false, false, false, false, false, false, false, false, false, false] rfl rfl (any_of HT_.out (by kernel_rfl)) (fun _ _ _ h => h) (Or.inl ⟨by rfl, ?_⟩) ?_ ?_
       rotate_left
       ·intro w'
        go_simp
        with_reducible rfl
       rotate_left
       ·simp only [Act.put, List.setIfInBounds_toArray, List.set_cons_zero, List.set_cons_succ, i64_w, i32_w]
        rfl
       refine pure_ (i := 2) (N := some 21) (v := ?_) (a' := ?_) #[true, true, true, false, false, false, false, false, false, false, false, false, false, false, false, false] rfl rfl (any_of HT_.out (by kernel_rfl)) (fun _ _ _ h => h) (Or.inl ⟨by rfl, ?_⟩) ?_ ?_
       rotate_left
       ·intro w'
        go_simp
        with_reducible rfl
       rotate_left
       ·simp only [Act.put, List.setIfInBounds_toArray, List.set_cons_zero, List.set_cons_succ, i64_w, i32_w]
        rfl
       refine pure_ (i := 3) (N := some 22) (v := ?_) (a' := ?_) #[true, true, true, true, false, false, false, false, false, false, false, false, false, false, false, false] rfl rfl (any_of HT_.out (by kernel_rfl)) (fun _ _ _ h => h) (Or.inl ⟨by rfl, ?_⟩) ?_ ?_
       rotate_left
       ·intro w'
        go_simp
        with_reducible rfl
       rotate_left
       ·simp only [Act.put, List.setIfInBounds_toArray, List.set_cons_zero, List.set_cons_succ, i64_w, i32_w]
        rfl
       refine pure_ (i := 4) (N := some 23) (v := ?_) (a' := ?_) #[true, true, true, true, true, false, false, false, false, false, false, false, false, false, false, false] rfl rfl (any_of HT_.out (by kernel_rfl)) (fun _ _ _ h => h) (Or.inl ⟨by rfl, ?_⟩) ?_ ?_
       rotate_left
       ·intro w'
        go_simp
        with_reducible rfl
       rotate_left
       ·simp only [Act.put, List.setIfInBounds_toArray, List.set_cons_zero, List.set_cons_succ, i64_w, i32_w]
        rfl
       refine pure_ (i := 7) (N := some 26) (v := ?_) (a' := ?_) #[true, true, true, true, true, false, false, true, false, false, false, false, false, false, false, false] rfl rfl (any_of HT_.out (by kernel_rfl)) (fun _ _ _ h => h) (Or.inl ⟨by rfl, ?_⟩) ?_ ?_
       rotate_left
       ·intro w'
        go_simp
        with_reducible rfl
       rotate_left
       ·simp only [Act.put, List.setIfInBounds_toArray, List.set_cons_zero, List.set_cons_succ, i64_w, i32_w]
        rfl
       refine pure_ (i := 8) (N := some 27) (v := ?_) (a' := ?_) #[true, true, true, true, true, false, false, true, true, false, false, false, false, false, false, false] rfl rfl (any_of HT_.out (by kernel_rfl)) (fun _ _ _ h => h) (Or.inl ⟨by rfl, ?_⟩) ?_ ?_
       rotate_left
       ·intro w'
        go_simp
        with_reducible rfl
       rotate_left
       ·simp only [Act.put, List.setIfInBounds_toArray, List.set_cons_zero, List.set_cons_succ, i64_w, i32_w]
        rfl
       refine pure_ (i := 9) (N := some 28) (v := ?_) (a' := ?_) #[true, true, true, true, true, false, false, true, true, true, false, false, false, false, false, false] rfl rfl (any_of HT_.out (by kernel_rfl)) (fun _ _ _ h => h) (Or.inl ⟨by rfl, ?_⟩) ?_ ?_
       rotate_left
       ·intro w'
        go_simp
        with_reducible rfl
       rotate_left
       ·simp only [Act.put, List.setIfInBounds_toArray, List.set_cons_zero, List.set_cons_succ, i64_w, i32_w]
        rfl
       refine pure_ (i := 10) (N := some 29) (v := ?_) (a' := ?_) #[true, true, true, true, true, false, false, true, true, true, true, false, false, false, false, false] rfl rfl (any_of HT_.out (by kernel_rfl)) (fun _ _ _ h => h) (Or.inl ⟨by rfl, ?_⟩) ?_ ?_
       rotate_left
       ·intro w'
        go_simp
        with_reducible rfl
       rotate_left
       ·simp only [Act.put, List.setIfInBounds_toArray, List.set_cons_zero, List.set_cons_succ, i64_w, i32_w]
        rfl
       refine take_ (i := 5) (N := some 24) (v := ?_) (a' := ?_) #[true, true, true, true, true, true, false, true, true, true, true, false, false, false, false, false] rfl rfl (take_ofW HT_.out HW_.out (by kernel_rfl)) (fun _ _ _ h => h) (Or.inl ⟨by rfl, ?_⟩) hHeld ?_ ?_
       rotate_left
       ·rintro w' ⟨s0, s1, s2, s3, s4, s5, s6, s7⟩
        go_simp
        with_reducible rfl
       rotate_left
       ·simp only [Act.put, List.setIfInBounds_toArray, List.set_cons_zero, List.set_cons_succ, i64_w, i32_w]
        rfl
       refine pure_ (i := 6) (N := some 25) (v := ?_) (a' := ?_) #[true, true, true, true, true, true, true, true, true, true, true, false, false, false, false, false] rfl rfl (any_of HT_.out (by kernel_rfl)) (fun _ _ _ h => h) (Or.inl ⟨by rfl, ?_⟩) ?_ ?_
       rotate_left
       ·intro w'
        go_simp
        with_reducible rfl
       rotate_left
       ·simp only [Act.put, List.setIfInBounds_toArray, List.set_cons_zero, List.set_cons_succ, i64_w, i32_w]
        rfl
       refine take_ (i := 11) (N := some 30) (v := ?_) (a' := ?_) #[true, true, true, true, true, true, true, true, true, true, true, true, false, false, false, false] rfl rfl (take_ofW HT_.out HW_.out (by kernel_rfl)) (fun _ _ _ h => h) (Or.inl ⟨by rfl, ?_⟩) hHeld ?_ ?_
       rotate_left
       ·rintro w' ⟨s0, s1, s2, s3, s4, s5, s6, s7⟩
        go_simp
        with_reducible rfl
       rotate_left
       ·simp only [Act.put, List.setIfInBounds_toArray, List.set_cons_zero, List.set_cons_succ, i64_w, i32_w]
        rfl
       refine pure_ (i := 12) (N := some 31) (v := ?_) (a' := ?_) #[true, true, true, true, true, true, true, true, true, true, true, true, true, false, false, false] rfl rfl (any_of HT_.out (by kernel_rfl)) (fun _ _ _ h => h) (Or.inl ⟨by rfl, ?_⟩) ?_ ?_
       rotate_left
       ·intro w'
        go_simp
        with_reducible rfl
       rotate_left
       ·simp only [Act.put, List.setIfInBounds_toArray, List.set_cons_zero, List.set_cons_succ, i64_w, i32_w]
        rfl
       refine one_ (i := 13) (N := some 32) #[true, true, true, true, true, true, true, true, true, true, true, true, true, true, false, false] rfl rfl (one_of HT_.out (by kernel_rfl)) (by decide) (fun K hK => ?_)
       refine Kd.R_lit_step (Kd.int .i64) _ 3 ?hg (N := 32) ?hd (xs := ([(((rd_T32 l0 x4_1).f0).size : Int), (((rd_T32 l0 x4_1).f3).size : Int)] : List Int)) (inner := [.int .i64 (((rd_T32 l0 x4_1).f0).size : Int), .int .i64 (((rd_T32 l0 x4_1).f3).size : Int)]) (ok := fun _ => True) (okp := fun _ => True) ?hr ?hp (fun _ hk => hk) trivial (Below.refl _ _) (Nat.le_refl _) (by simp) ?_; (case hd => rfl); (case hg => rfl); (case hr => first | (go_simp; done) | (go_simp; rfl)); (case hp => exact (Reps.one (show Kd.M (Kd.int .i64) _ _ _ (((rd_T32 l0 x4_1).f0).size : Int) [.int .i64 (((rd_T32 l0 x4_1).f0).size : Int)] from rfl) (Reps.one (show Kd.M (Kd.int .i64) _ _ _ (((rd_T32 l0 x4_1).f3).size : Int) [.int .i64 (((rd_T32 l0 x4_1).f3).size : Int)] from rfl) (Reps.none _ _))))
       intro v106 w8 ho9 hb hg_ hnew_
       clear hg_ hnew_
       (first | rw [← Ny105.out] at ho9 | (simp only [Int.reduceToNat] at ho9; rw [← Ny105.out] at ho9))
       have n0_ := Aside0.mk (Kd.R_lower ho9 (below_size (by repeat (first | (with_reducible first | exact HB.out | apply below_alloc | apply pw_below_drewN | apply below_drew1) | exact HB.out))))
       have n1_ := Aside0.mk (below_step (by repeat (first | (with_reducible first | exact HB.out | apply below_alloc | apply pw_below_drewN | apply below_drew1) | exact HB.out)) hb)
       clear HB
       have HO107 := n0_
       have HB := n1_
       clear n0_ n1_
       clear hb ho9
       obtain ⟨Ao10, co10, eo10⟩ := Kd.R_slice HO107.out
       (first | subst eo10 | (injection eo10 with f1_ f2_ f3_; have f4_ := f1_.symm; have f5_ := f3_.symm; clear f1_ f2_ f3_; subst f4_; subst f5_))
       refine hK.out _ _ ⟨((HB.out.cell (World.block_lt_of_cell? w _ hw103_0)).trans hw103_0), ((HB.out.cell (World.block_lt_of_cell? w _ hw103_1)).trans hw103_1), ((HB.out.cell (World.block_lt_of_cell? w _ hw103_2)).trans hw103_2), ((HB.out.cell (World.block_lt_of_cell? w _ hw103_3)).trans hw103_3), ((HB.out.cell (World.block_lt_of_cell? w _ hw104_0)).trans hw104_0), ((HB.out.cell (World.block_lt_of_cell? w _ hw104_1)).trans hw104_1), ((HB.out.cell (World.block_lt_of_cell? w _ hw104_2)).trans hw104_2), ((HB.out.cell (World.block_lt_of_cell? w _ hw104_3)).trans hw104_3)⟩ (fun hHeld => ?_)
       clear hK K
       refine norm_ (a' := ?_) ?_ ?_
       rotate_left
       ·show Act.put _ (some 32) _ = _
        simp only [Act.put, List.setIfInBounds_toArray, List.set_cons_zero, List.set_cons_succ, i64_w, i32_w]
        rfl
       refine one_ (i := 14) (N := some 33) #[true, true, true, true, true, true, true, true, true, true, true, true, true, true, true, false] rfl rfl (one_of HT_.out (by kernel_rfl)) (by decide) (fun K hK => ?_)
       refine goes_ Tryz.func96 (by kernel_rfl) rfl #[.int .i64 x3_1, .slice Ao10 y105.length co10] (by rfl) rfl rfl (by (try simp only [List.map_toArray, List.map_cons, List.map_nil]); first | done | rfl | (simp only [List.length_drop, List.length_take]; rfl)) ?_
       with_reducible refine (cornucopiabook_Room.calls k1 x3_1 _ _ y105 t108 _ ?side1 ?side2 A6.out).mono ?_
       (case side1 => repeat (first | exact (Kd.R_reads' HO107.out).2.2 | (with_reducible refine Kd.C_alloc ?_ _) | (with_reducible refine Kd.C_drewN ?_ _) | (with_reducible refine Kd.C_drew ?_)))
       (case side2 => exact (Kd.R_reads' HO107.out).2.1)
       rintro e w' ⟨rfl, ⟨nd, rfl⟩⟩
       refine ⟨_, rfl, ?_⟩
       refine hK.out _ _ ⟨((HB.out.cell (World.block_lt_of_cell? w _ hw103_0)).trans hw103_0), ((HB.out.cell (World.block_lt_of_cell? w _ hw103_1)).trans hw103_1), ((HB.out.cell (World.block_lt_of_cell? w _ hw103_2)).trans hw103_2), ((HB.out.cell (World.block_lt_of_cell? w _ hw103_3)).trans hw103_3), ((HB.out.cell (World.block_lt_of_cell? w _ hw104_0)).trans hw104_0), ((HB.out.cell (World.block_lt_of_cell? w _ hw104_1)).trans hw104_1), ((HB.out.cell (World.block_lt_of_cell? w _ hw104_2)).trans hw104_2), ((HB.out.cell (World.block_lt_of_cell? w _ hw104_3)).trans hw104_3)⟩ (fun hHeld => ?_)
       clear hK K
       refine norm_ (a' := ?_) ?_ ?_
       rotate_left
       ·show Act.put _ (some 33) _ = _
        simp only [Act.put, List.setIfInBounds_toArray, List.set_cons_zero, List.set_cons_succ, i64_w, i32_w]
        rfl
       refine pure_ (i := 15) (N := some 3) (v := ?_) (a' := ?_) #[true, true, true, true, true, true, true, true, true, true, true, true, true, true, true, true] rfl rfl (any_of HT_.out (by kernel_rfl)) (fun _ _ _ h => h) (Or.inl ⟨by rfl, ?_⟩) ?_ ?_
       rotate_left
       ·intro w'
        go_simp
        with_reducible rfl
       rotate_left
       ·simp only [Act.put, List.setIfInBounds_toArray, List.set_cons_zero, List.set_cons_succ, i64_w, i32_w]
        rfl
       refine done_ (done_of HT_.out (by kernel_rfl)) ?_
       try go_wp2
       go_roundg k1
       case measure => have := HK1.out; omega
       case rel => exact ⟨(t108), (wrap64 (x4_1 + 1)), (by first | rfl | (simp; done) | (simp [*]; done)), (by first | rfl | (simp; done) | (simp [*]; done)), H', ⟨by have := HK1.out; omega⟩, ⟨by repeat (first | (with_reducible first | exact HB.out | apply below_alloc | apply pw_below_drewN | apply below_drew1) | exact HB.out)⟩⟩
      ·rw [if_neg c5] at H
       exact absurd H (by simp)
     ·rw [if_neg c4] at H
      have c4b0 : decide (0 ≤ x3_1) = false := decide_eq_false c4
      clear c4
      by_cases c11 : (l0.length : Int) ≤ 150
      ·rw [if_pos c11] at H
       have c11b0 : decide ((l0.length : Int) ≤ 150) = true := decide_eq_true c11
       have c11b1 : decide (l0.length ≤ 150) = true := decide_eq_true (by omega)
       clear c11
       obtain rfl := Option.some.inj H
       go_wp2
       go_ret
       exact ⟨by first | rfl | (simp [errW_none, errW_some] <;> rfl) | (simp [*, errW_none, errW_some] <;> rfl), by repeat (first | (with_reducible first | exact HB.out | apply below_alloc | apply pw_below_drewN | apply below_drew1) | exact HB.out)⟩
      ·rw [if_neg c11] at H
       have c11b0 : decide ((l0.length : Int) ≤ 150) = false := decide_eq_false c11
       have c11b1 : decide (l0.length ≤ 150) = false := decide_eq_false (by omega)
       clear c11
       obtain rfl := Option.some.inj H
       go_wp2
       go_ret
       exact ⟨by first | rfl | (simp [errW_none, errW_some] <;> rfl) | (simp [*, errW_none, errW_some] <;> rfl), by repeat (first | (with_reducible first | exact HB.out | apply below_alloc | apply pw_below_drewN | apply below_drew1) | exact HB.out)⟩
    ·rw [if_neg c3] at H
     have c3b0 : decide (x4_1 < 400) = false := decide_eq_false c3
     clear c3
     by_cases c12 : (l0.length : Int) ≤ 150
     ·rw [if_pos c12] at H
      have c12b0 : decide ((l0.length : Int) ≤ 150) = true := decide_eq_true c12
      have c12b1 : decide (l0.length ≤ 150) = true := decide_eq_true (by omega)
      clear c12
      obtain rfl := Option.some.inj H
      go_wp2
      go_ret
      exact ⟨by first | rfl | (simp [errW_none, errW_some] <;> rfl) | (simp [*, errW_none, errW_some] <;> rfl), by repeat (first | (with_reducible first | exact HB.out | apply below_alloc | apply pw_below_drewN | apply below_drew1) | exact HB.out)⟩
     ·rw [if_neg c12] at H
      have c12b0 : decide ((l0.length : Int) ≤ 150) = false := decide_eq_false c12
      have c12b1 : decide (l0.length ≤ 150) = false := decide_eq_false (by omega)
      clear c12
      obtain rfl := Option.some.inj H
      go_wp2
      go_ret
      exact ⟨by first | rfl | (simp [errW_none, errW_some] <;> rfl) | (simp [*, errW_none, errW_some] <;> rfl), by repeat (first | (with_reducible first | exact HB.out | apply below_alloc | apply pw_below_drewN | apply below_drew1) | exact HB.out)⟩
   ·rw [if_neg c2] at H
    have c2b0 : decide (x4_1 < (l0.length : Int)) = false := decide_eq_false c2
    clear c2
    by_cases c13 : (l0.length : Int) ≤ 150
    ·rw [if_pos c13] at H
     have c13b0 : decide ((l0.length : Int) ≤ 150) = true := decide_eq_true c13
     have c13b1 : decide (l0.length ≤ 150) = true := decide_eq_true (by omega)
     clear c13
     obtain rfl := Option.some.inj H
     go_wp2
     go_ret
     exact ⟨by first | rfl | (simp [errW_none, errW_some] <;> rfl) | (simp [*, errW_none, errW_some] <;> rfl), by repeat (first | (with_reducible first | exact HB.out | apply below_alloc | apply pw_below_drewN | apply below_drew1) | exact HB.out)⟩
    ·rw [if_neg c13] at H
     have c13b0 : decide ((l0.length : Int) ≤ 150) = false := decide_eq_false c13
     have c13b1 : decide (l0.length ≤ 150) = false := decide_eq_false (by omega)
     clear c13
     obtain rfl := Option.some.inj H
     go_wp2
     go_ret
     exact ⟨by first | rfl | (simp [errW_none, errW_some] <;> rfl) | (simp [*, errW_none, errW_some] <;> rfl), by repeat (first | (with_reducible first | exact HB.out | apply below_alloc | apply pw_below_drewN | apply below_drew1) | exact HB.out)⟩
end Go.Proofs.YtchgpcgolgcfdaaGreat.PNum
end
section
namespace Go.Proofs.YtchgpcgolgcfdaaGreat.PuSm
open Go Go.RowKit Go.Proofs.YtchgpcgolgcfdaaGreat.PNum Go.Proofs.YtchgpcgolgcfdaaGreat.PuIkC Go.Proofs.YtchgpcgolgcfdaaGreatW.PrintWords Go.Proofs.YtchgpcgolgcfdaaGreatW.PrintLast Go.Proofs.YtchgpcgolgcfdaaGreatW.PrintMore Go.Proofs.YtchgpcgolgcfdaaGreatW.Pu
theorem at_nat (l : List S32) (i : Nat) (h : i < l.length) : rd_T32 l (i : Int) = l[i] := by
 simp [rd_T32, h]
theorem Small_l0 (l : List S32) (hs : ∀ e ∈ l, e.f0.size ≤ 140737488351232 ∧ e.f3.size ≤ 140737488351232) (d : Nat) : ∀ (i : Nat) (r : Int), i + d = 400 → -1 ≤ r → r ≤ 20000 →
  ∃ b, Ev (fun k => cornucopialaw5_Small.l0 k l r (i : Int)) b ∧ (b = true → l.length ≤ 150) := by
 have leaf : ∀ (i : Nat) (r : Int), ∃ b, Ev (fun _ : Nat => if (l.length : Int) ≤ 150 then (some (decide (r ≥ 0))) else (some false)) b ∧ (b = true → l.length ≤ 150) := by
  intro i r
  by_cases h : (l.length : Int) ≤ 150
  ·exact ⟨decide (r ≥ 0), ev_pos h (ev_const rfl), fun _ => by omega⟩
  ·exact ⟨false, ev_neg h (ev_const rfl), fun k => by cases k⟩
 induction d with
 | zero =>
  intro i r hi h0 h1
  obtain ⟨b, hb, hl⟩ := leaf i r
  refine ⟨b, Ev.step (fun k => by rw [cornucopialaw5_Small.l0]) ?_, hl⟩
  by_cases h : (i : Int) < (l.length : Int)
  ·exact ev_pos h (ev_neg (by omega) hb)
  ·exact ev_neg h hb
 | succ d ih =>
  intro i r hi h0 h1
  by_cases h : (i : Int) < (l.length : Int)
  ·by_cases hr : r ≥ 0
   ·have hlt : i < l.length := by omega
    have hsz := hs l[i] (List.getElem_mem hlt)
    obtain ⟨q, hq, q0, q1⟩ := Room_ev r (l[i].f0.size : Int) (l[i].f3.size : Int) ⟨h0, h1⟩ ⟨by omega, by omega⟩ ⟨by omega, by omega⟩
    obtain ⟨b, hb, hl⟩ := ih (i + 1) q (by omega) q0 q1
    refine ⟨b, Ev.step (fun k => by rw [cornucopialaw5_Small.l0, at_nat l i hlt]) (ev_pos h (ev_pos (by omega) (ev_pos hr (ev_pos (by omega) (Ev.bind hq ?_))))), hl⟩
    rw [wrap64_id (by omega), show ((i : Int) + 1) = ((i + 1 : Nat) : Int) from by omega]
    exact hb
   ·obtain ⟨b, hb, hl⟩ := leaf i r
    exact ⟨b, Ev.step (fun k => by rw [cornucopialaw5_Small.l0]) (ev_pos h (ev_pos (by omega) (ev_neg hr hb))), hl⟩
  ·obtain ⟨b, hb, hl⟩ := leaf i r
   exact ⟨b, Ev.step (fun k => by rw [cornucopialaw5_Small.l0]) (ev_neg h hb), hl⟩
theorem Small_ev (l : List S32) (hs : ∀ e ∈ l, e.f0.size ≤ 140737488351232 ∧ e.f3.size ≤ 140737488351232) : ∃ b, Ev (fun k => cornucopialaw5_Small.f k l) b ∧ (b = true → l.length ≤ 150) := by
 obtain ⟨b, hb, hl⟩ := Small_l0 l hs 400 0 20000 (by omega) (by omega) (by omega)
 exact ⟨b, Ev.congr (fun k => by rw [cornucopialaw5_Small.f]; rfl) hb, hl⟩
end Go.Proofs.YtchgpcgolgcfdaaGreat.PuSm
end
section
namespace Go.Proofs.YtchgpcgolgcfdaaGreat.PNum
open Go.RowKit Go.Proofs.YtchgpcgolgcfdaaGreatW.PrintWords Go.Proofs.YtchgpcgolgcfdaaGreatW.PrintLast Go.Proofs.YtchgpcgolgcfdaaGreatW.PrintMore
attribute [local go_sem] max2_int min2_int max_two min_two max_three min_three max_four min_four   -- for this text's walks alone
set_option linter.unusedVariables false
set_option linter.unusedSimpArgs false
def cornucopialaw5_Ordered.l0 : Nat → List (S32) → Int → Option (Bool)
 | 0, _, _ => none
 | k + 1, x0, x3 => if x3 < (x0.length : Int) then (if 0 ≤ (wrap64 (x3 - 1)) then (if (wrap64 (x3 - 1)) < (x0.length : Int) then (if 0 ≤ x3 then ((cornucopiaref5_Compare.f k ((rd_T32 x0 (wrap64 (x3 - 1))).f0) ((rd_T32 x0 (wrap64 (x3 - 1))).f1) ((rd_T32 x0 (wrap64 (x3 - 1))).f2) ((rd_T32 x0 (wrap64 (x3 - 1))).f3) ((rd_T32 x0 x3).f0) ((rd_T32 x0 x3).f1) ((rd_T32 x0 x3).f2) ((rd_T32 x0 x3).f3)).bind fun t396 => (if t396 ≥ 0 then (some false) else (cornucopialaw5_Ordered.l0 k x0 (wrap64 (x3 + 1))))) else (none)) else (none)) else (none)) else (some true)
def cornucopialaw5_Ordered.f (k : Nat) (l0 : List (S32)) : Option (Bool) := cornucopialaw5_Ordered.l0 k l0 1
theorem cornucopialaw5_Ordered.mono_l : ∀ k, (∀ y0 y1, LeO (cornucopialaw5_Ordered.l0 k y0 y1) (cornucopialaw5_Ordered.l0 (k + 1) y0 y1))
 | 0 => fun _ _ r h => by simp [cornucopialaw5_Ordered.l0] at h
 | k + 1 => by
  have ih0 := cornucopialaw5_Ordered.mono_l k
  ·intro y0 y1
   unfold cornucopialaw5_Ordered.l0
   repeat' first
   | (with_reducible exact ih0 _ _)
   | (with_reducible exact cornucopiaref5_Compare.mono _ _ _ _ _ _ _ _ _)
   | (with_reducible exact LeO.refl _)
   | (with_reducible exact LeO.none _)
   | (with_reducible refine LeO.ite ?_ ?_)
   | (with_reducible refine LeO.bind ?_ (fun _ => ?_))
   | exact ih0 _ _
   | exact cornucopiaref5_Compare.mono _ _ _ _ _ _ _ _ _
   | exact LeO.none _
   | refine LeO.ite ?_ ?_
   | refine LeO.bind ?_ (fun _ => ?_)
theorem cornucopialaw5_Ordered.mono : ∀ a0 k, LeO (cornucopialaw5_Ordered.f k a0) (cornucopialaw5_Ordered.f (k + 1) a0) := by
 intro a0 k
 have ih0 := cornucopialaw5_Ordered.mono_l k
 unfold cornucopialaw5_Ordered.f
 repeat' first
   | (with_reducible exact ih0 _ _)
   | (with_reducible exact cornucopiaref5_Compare.mono _ _ _ _ _ _ _ _ _)
   | (with_reducible exact LeO.refl _)
   | (with_reducible exact LeO.none _)
   | (with_reducible refine LeO.ite ?_ ?_)
   | (with_reducible refine LeO.bind ?_ (fun _ => ?_))
   | exact ih0 _ _
   | exact cornucopiaref5_Compare.mono _ _ _ _ _ _ _ _ _
   | exact LeO.none _
   | refine LeO.ite ?_ ?_
   | refine LeO.bind ?_ (fun _ => ?_)
def cornucopialaw5_Ordered.T4 : Bool × List (List Nat × List Nat) := (true, [([], []), ([], []), ([1], [1]), ([0, 2], [0, 2]), ([3], [3]), ([], []), ([], []), ([5, 6], [5, 6]), ([7], [7]), ([4, 8], [4, 8]), ([9], [9])])
def cornucopialaw5_Ordered.B4 : List Nat := [0, 0, 2, 7, 15, 0, 0, 96, 224, 511, 1023]
theorem cornucopialaw5_Ordered.tab4 : rtab .any (opsOf Tryz.f31 4) = cornucopialaw5_Ordered.T4 := by kernel_rfl
theorem cornucopialaw5_Ordered.bits4 : waitsOk cornucopialaw5_Ordered.T4.2 cornucopialaw5_Ordered.B4 = true := by kernel_rfl
set_option maxHeartbeats 8000000 in
set_option maxRecDepth 100000 in
theorem cornucopialaw5_Ordered.calls (k : Nat) (A0 : Option Addr) (c0 : Nat) (l0 : List (S32)) (r : Bool) (w : World) (hr0 : Kd.C k32 w A0 l0.length l0) (hc0 : l0.length ≤ c0) (h : cornucopialaw5_Ordered.f k l0 = some r) :
  Calls Tryz.prog 31 #[.slice A0 l0.length c0] w fun e w' => e = .returned (.bool r) ∧ Below w.heap.size w w' := by
 have hu32 := Tryz.underlying32
 have HR0 := Aside0.mk hr0
 have HC0 := Aside0.mk hc0
 clear hr0 hc0
 have HB := Aside0.mk (Below.refl w.heap.size w)
 have H : (cornucopialaw5_Ordered.l0 k l0 1) = some r := h
 clear h
 have H' := Aside0.mk H
 clear H
 go_enter Tryz.func31, Tryz.ntmps31
 go_wp2
 go_loopg [3] k (fun kq v3 w' => ∃ (x3_1 : Int), v3 = .int .i64 x3_1 ∧ Aside0 (cornucopialaw5_Ordered.l0 kq l0 x3_1 = some r) ∧ Aside0 (kq ≤ k) ∧ Aside0 (Below w.heap.size w w'))
 case atStart => exact ⟨(1), (by first | rfl | (simp; done) | (simp [*]; done)), H', ⟨Nat.le_refl _⟩, ⟨by repeat (first | (with_reducible first | exact HB.out | apply below_alloc | apply pw_below_drewN | apply below_drew1) | exact HB.out)⟩⟩
 case round =>
  clear H'
  obtain ⟨x3_1, rfl, HA, HK1, HB⟩ := hrel
  cases gk with
  | zero => exact absurd HA.out (by simp [cornucopialaw5_Ordered.l0])
  | succ k1 =>
   have H := HA.out
   clear HA
   simp only [cornucopialaw5_Ordered.l0] at H
   by_cases c2 : x3_1 < (l0.length : Int)
   ·rw [if_pos c2] at H
    have c2b0 : decide (x3_1 < (l0.length : Int)) = true := decide_eq_true c2
    clear c2
    obtain ⟨ji3, hji3⟩ : ∃ j_ : Int, (wrap64 (x3_1 - 1)) = j_ := ⟨_, rfl⟩
    replace H : (if 0 ≤ (ji3) then (if (ji3) < (l0.length : Int) then (if 0 ≤ x3_1 then ((cornucopiaref5_Compare.f k1 ((rd_T32 l0 (ji3)).f0) ((rd_T32 l0 (ji3)).f1) ((rd_T32 l0 (ji3)).f2) ((rd_T32 l0 (ji3)).f3) ((rd_T32 l0 x3_1).f0) ((rd_T32 l0 x3_1).f1) ((rd_T32 l0 x3_1).f2) ((rd_T32 l0 x3_1).f3)).bind fun t396 => (if t396 ≥ 0 then (some false) else (cornucopialaw5_Ordered.l0 k1 l0 (wrap64 (x3_1 + 1))))) else (none)) else (none)) else (none)) = some r := by first | (rw [hji3] at H; exact H) | (simp only [hji3] at H ⊢; exact H)
    have hji3w : (IntKind.i64.wrap (x3_1 - 1)) = ji3 := (i64_w _).trans hji3
    by_cases c4 : 0 ≤ (ji3)
    ·rw [if_pos c4] at H
     have c4b0 : decide (0 ≤ (ji3)) = true := decide_eq_true c4
     clear c4
     by_cases c5 : (ji3) < (l0.length : Int)
     ·rw [if_pos c5] at H
      have c5b0 : decide ((ji3) < (l0.length : Int)) = true := decide_eq_true c5
      clear c5
      by_cases c6 : 0 ≤ x3_1
      ·rw [if_pos c6] at H
       have c6b0 : decide (0 ≤ x3_1) = true := decide_eq_true c6
       clear c6
       replace H := Option.bind_eq_some_iff.mp H
       obtain ⟨t396, A70, H⟩ := H
       replace H : (if t396 ≥ 0 then (some false) else (cornucopialaw5_Ordered.l0 k1 l0 (wrap64 (x3_1 + 1)))) = some r := H
       have A7 := Aside0.mk A70
       clear A70
       by_cases c8 : t396 ≥ 0
       ·rw [if_pos c8] at H
        have c8b0 : decide (0 ≤ t396) = true := decide_eq_true c8
        clear c8
        obtain rfl := Option.some.inj H
        try go_wp2
        have n0_ := Aside0.mk (below_drew1 HB.out)
        clear HB
        have HB := n0_
        clear n0_
        have p394 : 0 ≤ ((ji3) : Int) := of_decide_eq_true (by first | (with_reducible assumption) | assumption)
        have q394 : (ji3) < (l0.length : Int) := of_decide_eq_true (by first | (with_reducible assumption) | assumption)
        obtain ⟨ad394, e394, hx394_0, hx394_1, hx394_2, hx394_3⟩ := at_T32 HR0.out (ji3) p394 q394
        have hw394_3 := hx394_3
        have hw394_2 := hx394_2
        have hw394_1 := hx394_1
        have hw394_0 := hx394_0
        cases e394
        replace hx394_0 := (HB.out.cell (World.block_lt_of_cell? w _ hx394_0)).trans hx394_0
        replace hx394_1 := (HB.out.cell (World.block_lt_of_cell? w _ hx394_1)).trans hx394_1
        replace hx394_2 := (HB.out.cell (World.block_lt_of_cell? w _ hx394_2)).trans hx394_2
        replace hx394_3 := (HB.out.cell (World.block_lt_of_cell? w _ hx394_3)).trans hx394_3
        replace p394 := eq_true p394
        replace q394 := eq_true q394
        have p395 : 0 ≤ (x3_1 : Int) := of_decide_eq_true (by first | (with_reducible assumption) | assumption)
        have q395 : x3_1 < (l0.length : Int) := of_decide_eq_true (by first | (with_reducible assumption) | assumption)
        obtain ⟨ad395, e395, hx395_0, hx395_1, hx395_2, hx395_3⟩ := at_T32 HR0.out x3_1 p395 q395
        have hw395_3 := hx395_3
        have hw395_2 := hx395_2
        have hw395_1 := hx395_1
        have hw395_0 := hx395_0
        obtain rfl : ad394 = ad395 := (by injection e395)
        replace hx395_0 := (HB.out.cell (World.block_lt_of_cell? w _ hx395_0)).trans hx395_0
        replace hx395_1 := (HB.out.cell (World.block_lt_of_cell? w _ hx395_1)).trans hx395_1
        replace hx395_2 := (HB.out.cell (World.block_lt_of_cell? w _ hx395_2)).trans hx395_2
        replace hx395_3 := (HB.out.cell (World.block_lt_of_cell? w _ hx395_3)).trans hx395_3
        replace p395 := eq_true p395
        replace q395 := eq_true q395
        refine start_ (n := 11) (S := fun w' => w'.cell? (ad394.add (((ji3)).toNat * 4)) = some (.string ((rd_T32 l0 (ji3)).f0)) ∧ w'.cell? ⟨(ad394.add (((ji3)).toNat * 4)).block, (ad394.add (((ji3)).toNat * 4)).off + 1, none⟩ = some (.int .u64 ((rd_T32 l0 (ji3)).f1)) ∧ w'.cell? ⟨(ad394.add (((ji3)).toNat * 4)).block, (ad394.add (((ji3)).toNat * 4)).off + 2, none⟩ = some (.int .i64 ((rd_T32 l0 (ji3)).f2)) ∧ w'.cell? ⟨(ad394.add (((ji3)).toNat * 4)).block, (ad394.add (((ji3)).toNat * 4)).off + 3, none⟩ = some (.string ((rd_T32 l0 (ji3)).f3)) ∧ w'.cell? (ad394.add ((x3_1).toNat * 4)) = some (.string ((rd_T32 l0 x3_1).f0)) ∧ w'.cell? ⟨(ad394.add ((x3_1).toNat * 4)).block, (ad394.add ((x3_1).toNat * 4)).off + 1, none⟩ = some (.int .u64 ((rd_T32 l0 x3_1).f1)) ∧ w'.cell? ⟨(ad394.add ((x3_1).toNat * 4)).block, (ad394.add ((x3_1).toNat * 4)).off + 2, none⟩ = some (.int .i64 ((rd_T32 l0 x3_1).f2)) ∧ w'.cell? ⟨(ad394.add ((x3_1).toNat * 4)).block, (ad394.add ((x3_1).toNat * 4)).off + 3, none⟩ = some (.string ((rd_T32 l0 x3_1).f3))) (ds := []) #[false, false, false, false, false, false, false, false, false, false, false] (by kernel_rfl) rfl rfl ⟨((HB.out.cell (World.block_lt_of_cell? w _ hw394_0)).trans hw394_0), ((HB.out.cell (World.block_lt_of_cell? w _ hw394_1)).trans hw394_1), ((HB.out.cell (World.block_lt_of_cell? w _ hw394_2)).trans hw394_2), ((HB.out.cell (World.block_lt_of_cell? w _ hw394_3)).trans hw394_3), ((HB.out.cell (World.block_lt_of_cell? w _ hw395_0)).trans hw395_0), ((HB.out.cell (World.block_lt_of_cell? w _ hw395_1)).trans hw395_1), ((HB.out.cell (World.block_lt_of_cell? w _ hw395_2)).trans hw395_2), ((HB.out.cell (World.block_lt_of_cell? w _ hw395_3)).trans hw395_3)⟩ (fun hHeld => ?_); refine with_tabW cornucopialaw5_Ordered.tab4 cornucopialaw5_Ordered.bits4 (fun HT_ HW_ => ?_)
        generalize wr.drew = w9 at HB hx394_0 hx394_1 hx394_2 hx394_3 hx395_0 hx395_1 hx395_2 hx395_3 hHeld ⊢
        refine pure_ (i := 0) (N := some 10) (v := ?_) (a' := ?_) #[true, false, false, false, false, false, false, false, false, false, false] rfl rfl (any_of HT_.out (by kernel_rfl)) (fun _ _ _ h => h) (Or.inl ⟨by rfl, ?_⟩) ?_ ?_
        rotate_left
        ·intro w'
         go_simp
         with_reducible rfl
        rotate_left
        ·simp only [Act.put, List.setIfInBounds_toArray, List.set_cons_zero, List.set_cons_succ, i64_w, i32_w]
         rfl
        refine pure_ (i := 1) (N := some 11) (v := ?_) (a' := ?_) #[true, true, false, false, false, false, false, false, false, false, false] rfl rfl (any_of HT_.out (by kernel_rfl)) (fun _ _ _ h => h) (Or.inl ⟨by rfl, ?_⟩) ?_ ?_
        rotate_left
        ·intro w'
         go_simp
         with_reducible rfl
        rotate_left
        ·simp only [Act.put, List.setIfInBounds_toArray, List.set_cons_zero, List.set_cons_succ, i64_w, i32_w]
         rfl
        refine pure_ (i := 2) (N := some 12) (v := ?_) (a' := ?_) #[true, true, true, false, false, false, false, false, false, false, false] rfl rfl (any_of HT_.out (by kernel_rfl)) (fun _ _ _ h => h) (Or.inl ⟨by rfl, ?_⟩) ?_ ?_
        rotate_left
        ·intro w'
         go_simp
         with_reducible rfl
        rotate_left
        ·simp only [Act.put, List.setIfInBounds_toArray, List.set_cons_zero, List.set_cons_succ, i64_w, i32_w]
         rfl
        refine pure_ (i := 3) (N := some 13) (v := ?_) (a' := ?_) #[true, true, true, true, false, false, false, false, false, false, false] rfl rfl (any_of HT_.out (by kernel_rfl)) (fun _ _ _ h => h) (Or.inl ⟨by rfl, ?_⟩) ?_ ?_
        rotate_left
        ·intro w'
         go_simp
         with_reducible rfl
        rotate_left
        ·simp only [Act.put, List.setIfInBounds_toArray, List.set_cons_zero, List.set_cons_succ, i64_w, i32_w]
         rfl
        refine pure_ (i := 5) (N := some 15) (v := ?_) (a' := ?_) #[true, true, true, true, false, true, false, false, false, false, false] rfl rfl (any_of HT_.out (by kernel_rfl)) (fun _ _ _ h => h) (Or.inl ⟨by rfl, ?_⟩) ?_ ?_
        rotate_left
        ·intro w'
         go_simp
         with_reducible rfl
        rotate_left
        ·simp only [Act.put, List.setIfInBounds_toArray, List.set_cons_zero, List.set_cons_succ, i64_w, i32_w]
         rfl
        refine pure_ (i := 6) (N := some 16) (v := ?_) (a' := ?_) #[true, true, true, true, false, true, true, false, false, false, false] rfl rfl (any_of HT_.out (by kernel_rfl)) (fun _ _ _ h => h) (Or.inl ⟨by rfl, ?_⟩) ?_ ?_
        rotate_left
        ·intro w'
         go_simp
         with_reducible rfl
        rotate_left
        ·simp only [Act.put, List.setIfInBounds_toArray, List.set_cons_zero, List.set_cons_succ, i64_w, i32_w]
         rfl
        refine pure_ (i := 7) (N := some 17) (v := ?_) (a' := ?_) #[true, true, true, true, false, true, true, true, false, false, false] rfl rfl (any_of HT_.out (by kernel_rfl)) (fun _ _ _ h => h) (Or.inl ⟨by rfl, ?_⟩) ?_ ?_
        rotate_left
        ·intro w'
         go_simp
         with_reducible rfl
        rotate_left
        ·simp only [Act.put, List.setIfInBounds_toArray, List.set_cons_zero, List.set_cons_succ, i64_w, i32_w]
         rfl
        refine take_ (i := 4) (N := some 14) (v := ?_) (a' := ?_) #[true, true, true, true, true, true, true, true, false, false, false] rfl rfl (take_ofW HT_.out HW_.out (by kernel_rfl)) (fun _ _ _ h => h) (Or.inl ⟨by rfl, ?_⟩) hHeld ?_ ?_
        rotate_left
        ·rintro w' ⟨s0, s1, s2, s3, s4, s5, s6, s7⟩
         go_simp
         with_reducible rfl
        rotate_left
        ·simp only [Act.put, List.setIfInBounds_toArray, List.set_cons_zero, List.set_cons_succ, i64_w, i32_w]
         rfl
        refine take_ (i := 8) (N := some 18) (v := ?_) (a' := ?_) #[true, true, true, true, true, true, true, true, true, false, false] rfl rfl (take_ofW HT_.out HW_.out (by kernel_rfl)) (fun _ _ _ h => h) (Or.inl ⟨by rfl, ?_⟩) hHeld ?_ ?_
        rotate_left
        ·rintro w' ⟨s0, s1, s2, s3, s4, s5, s6, s7⟩
         go_simp
         with_reducible rfl
        rotate_left
        ·simp only [Act.put, List.setIfInBounds_toArray, List.set_cons_zero, List.set_cons_succ, i64_w, i32_w]
         rfl
        refine one_ (i := 9) (N := some 19) #[true, true, true, true, true, true, true, true, true, true, false] rfl rfl (one_of HT_.out (by kernel_rfl)) (by decide) (fun K hK => ?_)
        refine goes_ Tryz.func48 (by kernel_rfl) rfl #[.agg #[.string ((rd_T32 l0 (ji3)).f0), .int .u64 ((rd_T32 l0 (ji3)).f1), .int .i64 ((rd_T32 l0 (ji3)).f2), .string ((rd_T32 l0 (ji3)).f3)], .agg #[.string ((rd_T32 l0 x3_1).f0), .int .u64 ((rd_T32 l0 x3_1).f1), .int .i64 ((rd_T32 l0 x3_1).f2), .string ((rd_T32 l0 x3_1).f3)]] (by rfl) rfl rfl (by (try simp only [List.map_toArray, List.map_cons, List.map_nil]); first | done | (simp only [hji3]; rfl) | rfl | (simp only [List.length_drop, List.length_take]; rfl)) ?_
        with_reducible refine (cornucopiaref5_Compare.calls k1 ((rd_T32 l0 (ji3)).f0) ((rd_T32 l0 (ji3)).f1) ((rd_T32 l0 (ji3)).f2) ((rd_T32 l0 (ji3)).f3) ((rd_T32 l0 x3_1).f0) ((rd_T32 l0 x3_1).f1) ((rd_T32 l0 x3_1).f2) ((rd_T32 l0 x3_1).f3) t396 _ A7.out).mono ?_
        rintro e w10 ⟨rfl, hb⟩
        refine ⟨_, rfl, ?_⟩
        have n0_ := Aside0.mk (below_step (by repeat (first | (with_reducible first | exact HB.out | apply below_alloc | apply pw_below_drewN | apply below_drew1) | exact HB.out)) hb)
        clear HB
        have HB := n0_
        clear n0_
        (try clear hb)
        (try clear hb2)
        (try clear hk)
        (try clear hi)
        refine hK.out _ _ ⟨((HB.out.cell (World.block_lt_of_cell? w _ hw394_0)).trans hw394_0), ((HB.out.cell (World.block_lt_of_cell? w _ hw394_1)).trans hw394_1), ((HB.out.cell (World.block_lt_of_cell? w _ hw394_2)).trans hw394_2), ((HB.out.cell (World.block_lt_of_cell? w _ hw394_3)).trans hw394_3), ((HB.out.cell (World.block_lt_of_cell? w _ hw395_0)).trans hw395_0), ((HB.out.cell (World.block_lt_of_cell? w _ hw395_1)).trans hw395_1), ((HB.out.cell (World.block_lt_of_cell? w _ hw395_2)).trans hw395_2), ((HB.out.cell (World.block_lt_of_cell? w _ hw395_3)).trans hw395_3)⟩ (fun hHeld => ?_)
        clear hK K
        refine norm_ (a' := ?_) ?_ ?_
        rotate_left
        ·show Act.put _ (some 19) _ = _
         simp only [Act.put, List.setIfInBounds_toArray, List.set_cons_zero, List.set_cons_succ, i64_w, i32_w]
         rfl
        refine pure_ (i := 10) (N := some 20) (v := ?_) (a' := ?_) #[true, true, true, true, true, true, true, true, true, true, true] rfl rfl (any_of HT_.out (by kernel_rfl)) (fun _ _ _ h => h) (Or.inl ⟨by rfl, ?_⟩) ?_ ?_
        rotate_left
        ·intro w'
         go_simp
         with_reducible rfl
        rotate_left
        ·simp only [Act.put, List.setIfInBounds_toArray, List.set_cons_zero, List.set_cons_succ, i64_w, i32_w]
         rfl
        refine done_ (done_of HT_.out (by kernel_rfl)) ?_
        try go_wp2
        go_ret
        exact ⟨by first | rfl | (simp [errW_none, errW_some] <;> rfl) | (simp only [← hji3]; first | rfl | (simp [errW_none, errW_some] <;> rfl)) | (simp [*, errW_none, errW_some] <;> rfl), by repeat (first | (with_reducible first | exact HB.out | apply below_alloc | apply pw_below_drewN | apply below_drew1) | exact HB.out)⟩
       ·rw [if_neg c8] at H
        have c8b0 : decide (0 ≤ t396) = false := decide_eq_false c8
        clear c8
        have H' := Aside0.mk H
        clear H
        try go_wp2
        have n0_ := Aside0.mk (below_drew1 HB.out)
        clear HB
        have HB := n0_
        clear n0_
        have p394 : 0 ≤ ((ji3) : Int) := of_decide_eq_true (by first | (with_reducible assumption) | assumption)
        have q394 : (ji3) < (l0.length : Int) := of_decide_eq_true (by first | (with_reducible assumption) | assumption)
        obtain ⟨ad394, e394, hx394_0, hx394_1, hx394_2, hx394_3⟩ := at_T32 HR0.out (ji3) p394 q394
        have hw394_3 := hx394_3
        have hw394_2 := hx394_2
        have hw394_1 := hx394_1
        have hw394_0 := hx394_0
        cases e394
        replace hx394_0 := (HB.out.cell (World.block_lt_of_cell? w _ hx394_0)).trans hx394_0
        replace hx394_1 := (HB.out.cell (World.block_lt_of_cell? w _ hx394_1)).trans hx394_1
        replace hx394_2 := (HB.out.cell (World.block_lt_of_cell? w _ hx394_2)).trans hx394_2
        replace hx394_3 := (HB.out.cell (World.block_lt_of_cell? w _ hx394_3)).trans hx394_3
        replace p394 := eq_true p394
        replace q394 := eq_true q394
        have p395 : 0 ≤ (x3_1 : Int) := of_decide_eq_true (by first | (with_reducible assumption) | assumption)
        have q395 : x3_1 < (l0.length : Int) := of_decide_eq_true (by first | (with_reducible assumption) | assumption)
        obtain ⟨ad395, e395, hx395_0, hx395_1, hx395_2, hx395_3⟩ := at_T32 HR0.out x3_1 p395 q395
        have hw395_3 := hx395_3
        have hw395_2 := hx395_2
        have hw395_1 := hx395_1
        have hw395_0 := hx395_0
        obtain rfl : ad394 = ad395 := (by injection e395)
        replace hx395_0 := (HB.out.cell (World.block_lt_of_cell? w _ hx395_0)).trans hx395_0
        replace hx395_1 := (HB.out.cell (World.block_lt_of_cell? w _ hx395_1)).trans hx395_1
        replace hx395_2 := (HB.out.cell (World.block_lt_of_cell? w _ hx395_2)).trans hx395_2
        replace hx395_3 := (HB.out.cell (World.block_lt_of_cell? w _ hx395_3)).trans hx395_3
        replace p395 := eq_true p395
        replace q395 := eq_true q395
        refine start_ (n := 11) (S := fun w' => w'.cell? (ad394.add (((ji3)).toNat * 4)) = some (.string ((rd_T32 l0 (ji3)).f0)) ∧ w'.cell? ⟨(ad394.add (((ji3)).toNat * 4)).block, (ad394.add (((ji3)).toNat * 4)).off + 1, none⟩ = some (.int .u64 ((rd_T32 l0 (ji3)).f1)) ∧ w'.cell? ⟨(ad394.add (((ji3)).toNat * 4)).block, (ad394.add (((ji3)).toNat * 4)).off + 2, none⟩ = some (.int .i64 ((rd_T32 l0 (ji3)).f2)) ∧ w'.cell? ⟨(ad394.add (((ji3)).toNat * 4)).block, (ad394.add (((ji3)).toNat * 4)).off + 3, none⟩ = some (.string ((rd_T32 l0 (ji3)).f3)) ∧ w'.cell? (ad394.add ((x3_1).toNat * 4)) = some (.string ((rd_T32 l0 x3_1).f0)) ∧ w'.cell? ⟨(ad394.add ((x3_1).toNat * 4)).block, (ad394.add ((x3_1).toNat * 4)).off + 1, none⟩ = some (.int .u64 ((rd_T32 l0 x3_1).f1)) ∧ w'.cell? ⟨(ad394.add ((x3_1).toNat * 4)).block, (ad394.add ((x3_1).toNat * 4)).off + 2, none⟩ = some (.int .i64 ((rd_T32 l0 x3_1).f2)) ∧ w'.cell? ⟨(ad394.add ((x3_1).toNat * 4)).block, (ad394.add ((x3_1).toNat * 4)).off + 3, none⟩ = some (.string ((rd_T32 l0 x3_1).f3))) (ds := []) #[false, false, false, false, false, false, false, false, false, false, false] (by kernel_rfl) rfl rfl ⟨((HB.out.cell (World.block_lt_of_cell? w _ hw394_0)).trans hw394_0), ((HB.out.cell (World.block_lt_of_cell? w _ hw394_1)).trans hw394_1), ((HB.out.cell (World.block_lt_of_cell? w _ hw394_2)).trans hw394_2), ((HB.out.cell (World.block_lt_of_cell? w _ hw394_3)).trans hw394_3), ((HB.out.cell (World.block_lt_of_cell? w _ hw395_0)).trans hw395_0), ((HB.out.cell (World.block_lt_of_cell? w _ hw395_1)).trans hw395_1), ((HB.out.cell (World.block_lt_of_cell? w _ hw395_2)).trans hw395_2), ((HB.out.cell (World.block_lt_of_cell? w _ hw395_3)).trans hw395_3)⟩ (fun hHeld => ?_); refine with_tabW cornucopialaw5_Ordered.tab4 cornucopialaw5_Ordered.bits4 (fun HT_ HW_ => ?_)
        generalize wr.drew = w11 at HB hx394_0 hx394_1 hx394_2 hx394_3 hx395_0 hx395_1 hx395_2 hx395_3 hHeld ⊢
        refine pure_ (i := 0) (N := some 10) (v := ?_) (a' := ?_) #[true, false, false, false, false, false, false, false, false, false, false] rfl rfl (any_of HT_.out (by kernel_rfl)) (fun _ _ _ h => h) (Or.inl ⟨by rfl, ?_⟩) ?_ ?_
        rotate_left
        ·intro w'
         go_simp
         with_reducible rfl
        rotate_left
        ·simp only [Act.put, List.setIfInBounds_toArray, List.set_cons_zero, List.set_cons_succ, i64_w, i32_w]
         rfl
        refine pure_ (i := 1) (N := some 11) (v := ?_) (a' := ?_) #[true, true, false, false, false, false, false, false, false, false, false] rfl rfl (any_of HT_.out (by kernel_rfl)) (fun _ _ _ h => h) (Or.inl ⟨by rfl, ?_⟩) ?_ ?_
        rotate_left
        ·intro w'
         go_simp
         with_reducible rfl
        rotate_left
        ·simp only [Act.put, List.setIfInBounds_toArray, List.set_cons_zero, List.set_cons_succ, i64_w, i32_w]
         rfl
        refine pure_ (i := 2) (N := some 12) (v := ?_) (a' := ?_) #[true, true, true, false, false, false, false, false, false, false, false] rfl rfl (any_of HT_.out (by kernel_rfl)) (fun _ _ _ h => h) (Or.inl ⟨by rfl, ?_⟩) ?_ ?_
        rotate_left
        ·intro w'
         go_simp
         with_reducible rfl
        rotate_left
        ·simp only [Act.put, List.setIfInBounds_toArray, List.set_cons_zero, List.set_cons_succ, i64_w, i32_w]
         rfl
        refine pure_ (i := 3) (N := some 13) (v := ?_) (a' := ?_) #[true, true, true, true, false, false, false, false, false, false, false] rfl rfl (any_of HT_.out (by kernel_rfl)) (fun _ _ _ h => h) (Or.inl ⟨by rfl, ?_⟩) ?_ ?_
        rotate_left
        ·intro w'
         go_simp
         with_reducible rfl
        rotate_left
        ·simp only [Act.put, List.setIfInBounds_toArray, List.set_cons_zero, List.set_cons_succ, i64_w, i32_w]
         rfl
        refine pure_ (i := 5) (N := some 15) (v := ?_) (a' := ?_) #[true, true, true, true, false, true, false, false, false, false, false] rfl rfl (any_of HT_.out (by kernel_rfl)) (fun _ _ _ h => h) (Or.inl ⟨by rfl, ?_⟩) ?_ ?_
        rotate_left
        ·intro w'
         go_simp
         with_reducible rfl
        rotate_left
        ·simp only [Act.put, List.setIfInBounds_toArray, List.set_cons_zero, List.set_cons_succ, i64_w, i32_w]
         rfl
        refine pure_ (i := 6) (N := some 16) (v := ?_) (a' := ?_) #[true, true, true, true, false, true, true, false, false, false, false] rfl rfl (any_of HT_.out (by kernel_rfl)) (fun _ _ _ h => h) (Or.inl ⟨by rfl, ?_⟩) ?_ ?_
        rotate_left
        ·intro w'
         go_simp
         with_reducible rfl
        rotate_left
        ·simp only [Act.put, List.setIfInBounds_toArray, List.set_cons_zero, List.set_cons_succ, i64_w, i32_w]
         rfl
        refine pure_ (i := 7) (N := some 17) (v := ?_) (a' := ?_) #[true, true, true, true, false, true, true, true, false, false, false] rfl rfl (any_of HT_.out (by kernel_rfl)) (fun _ _ _ h => h) (Or.inl ⟨by rfl, ?_⟩) ?_ ?_
        rotate_left
        ·intro w'
         go_simp
         with_reducible rfl
        rotate_left
        ·simp only [Act.put, List.setIfInBounds_toArray, List.set_cons_zero, List.set_cons_succ, i64_w, i32_w]
         rfl
        refine take_ (i := 4) (N := some 14) (v := ?_) (a' := ?_) #[true, true, true, true, true, true, true, true, false, false, false] rfl rfl (take_ofW HT_.out HW_.out (by kernel_rfl)) (fun _ _ _ h => h) (Or.inl ⟨by rfl, ?_⟩) hHeld ?_ ?_
        rotate_left
        ·rintro w' ⟨s0, s1, s2, s3, s4, s5, s6, s7⟩
         go_simp
         with_reducible rfl
        rotate_left
        ·simp only [Act.put, List.setIfInBounds_toArray, List.set_cons_zero, List.set_cons_succ, i64_w, i32_w]
         rfl
        refine take_ (i := 8) (N := some 18) (v := ?_) (a' := ?_) #[true, true, true, true, true, true, true, true, true, false, false] rfl rfl (take_ofW HT_.out HW_.out (by kernel_rfl)) (fun _ _ _ h => h) (Or.inl ⟨by rfl, ?_⟩) hHeld ?_ ?_
        rotate_left
        ·rintro w' ⟨s0, s1, s2, s3, s4, s5, s6, s7⟩
         go_simp
         with_reducible rfl
        rotate_left
        ·simp only [Act.put, List.setIfInBounds_toArray, List.set_cons_zero, List.set_cons_succ, i64_w, i32_w]
         rfl
        refine one_ (i := 9) (N := some 19) #[true, true, true, true, true, true, true, true, true, true, false] rfl rfl (one_of HT_.out (by kernel_rfl)) (by decide) (fun K hK => ?_)
        refine goes_ Tryz.func48 (by kernel_rfl) rfl #[.agg #[.string ((rd_T32 l0 (ji3)).f0), .int .u64 ((rd_T32 l0 (ji3)).f1), .int .i64 ((rd_T32 l0 (ji3)).f2), .string ((rd_T32 l0 (ji3)).f3)], .agg #[.string ((rd_T32 l0 x3_1).f0), .int .u64 ((rd_T32 l0 x3_1).f1), .int .i64 ((rd_T32 l0 x3_1).f2), .string ((rd_T32 l0 x3_1).f3)]] (by rfl) rfl rfl (by (try simp only [List.map_toArray, List.map_cons, List.map_nil]); first | done | (simp only [hji3]; rfl) | rfl | (simp only [List.length_drop, List.length_take]; rfl)) ?_
        with_reducible refine (cornucopiaref5_Compare.calls k1 ((rd_T32 l0 (ji3)).f0) ((rd_T32 l0 (ji3)).f1) ((rd_T32 l0 (ji3)).f2) ((rd_T32 l0 (ji3)).f3) ((rd_T32 l0 x3_1).f0) ((rd_T32 l0 x3_1).f1) ((rd_T32 l0 x3_1).f2) ((rd_T32 l0 x3_1).f3) t396 _ A7.out).mono ?_
        rintro e w12 ⟨rfl, hb⟩
        refine ⟨_, rfl, ?_⟩
        have n0_ := Aside0.mk (below_step (by repeat (first | (with_reducible first | exact HB.out | apply below_alloc | apply pw_below_drewN | apply below_drew1) | exact HB.out)) hb)
        clear HB
        have HB := n0_
        clear n0_
        (try clear hb)
        (try clear hb2)
        (try clear hk)
        (try clear hi)
        refine hK.out _ _ ⟨((HB.out.cell (World.block_lt_of_cell? w _ hw394_0)).trans hw394_0), ((HB.out.cell (World.block_lt_of_cell? w _ hw394_1)).trans hw394_1), ((HB.out.cell (World.block_lt_of_cell? w _ hw394_2)).trans hw394_2), ((HB.out.cell (World.block_lt_of_cell? w _ hw394_3)).trans hw394_3), ((HB.out.cell (World.block_lt_of_cell? w _ hw395_0)).trans hw395_0), ((HB.out.cell (World.block_lt_of_cell? w _ hw395_1)).trans hw395_1), ((HB.out.cell (World.block_lt_of_cell? w _ hw395_2)).trans hw395_2), ((HB.out.cell (World.block_lt_of_cell? w _ hw395_3)).trans hw395_3)⟩ (fun hHeld => ?_)
        clear hK K
        refine norm_ (a' := ?_) ?_ ?_
        rotate_left
        ·show Act.put _ (some 19) _ = _
         simp only [Act.put, List.setIfInBounds_toArray, List.set_cons_zero, List.set_cons_succ, i64_w, i32_w]
         rfl
        refine pure_ (i := 10) (N := some 20) (v := ?_) (a' := ?_) #[true, true, true, true, true, true, true, true, true, true, true] rfl rfl (any_of HT_.out (by kernel_rfl)) (fun _ _ _ h => h) (Or.inl ⟨by rfl, ?_⟩) ?_ ?_
        rotate_left
        ·intro w'
         go_simp
         with_reducible rfl
        rotate_left
        ·simp only [Act.put, List.setIfInBounds_toArray, List.set_cons_zero, List.set_cons_succ, i64_w, i32_w]
         rfl
        refine done_ (done_of HT_.out (by kernel_rfl)) ?_
        try go_wp2
        go_roundg k1
        case measure => have := HK1.out; omega
        case rel => exact ⟨(wrap64 (x3_1 + 1)), (by first | rfl | (simp; done) | (simp [*]; done)), H', ⟨by have := HK1.out; omega⟩, ⟨by repeat (first | (with_reducible first | exact HB.out | apply below_alloc | apply pw_below_drewN | apply below_drew1) | exact HB.out)⟩⟩
      ·rw [if_neg c6] at H
       exact absurd H (by simp)
     ·rw [if_neg c5] at H
      exact absurd H (by simp)
    ·rw [if_neg c4] at H
     exact absurd H (by simp)
   ·rw [if_neg c2] at H
    have c2b0 : decide (x3_1 < (l0.length : Int)) = false := decide_eq_false c2
    clear c2
    obtain rfl := Option.some.inj H
    go_wp2
    go_ret
    exact ⟨by first | rfl | (simp [errW_none, errW_some] <;> rfl) | (simp [*, errW_none, errW_some] <;> rfl), by repeat (first | (with_reducible first | exact HB.out | apply below_alloc | apply pw_below_drewN | apply below_drew1) | exact HB.out)⟩
end Go.Proofs.YtchgpcgolgcfdaaGreat.PNum
end
section
namespace Go.Proofs.YtchgpcgolgcfdaaGreat.PuOrd
open Go Go.RowKit Go.Proofs.YtchgpcgolgcfdaaGreat.PNum Go.Proofs.YtchgpcgolgcfdaaGreat.PuIkC Go.Proofs.YtchgpcgolgcfdaaGreat.PuLess Go.Proofs.YtchgpcgolgcfdaaGreatW.PrintWords Go.Proofs.YtchgpcgolgcfdaaGreatW.PrintLast Go.Proofs.YtchgpcgolgcfdaaGreatW.PrintMore Go.Proofs.YtchgpcgolgcfdaaGreatW.Pu
theorem at_nat (l : List E) (i : Nat) (h : i < l.length) : rd_T32 l (i : Int) = l[i] := by
 simp [rd_T32, h]
def Rl (a b : E) : Prop := ce a b = -1
theorem Ordered_l0 (l : List E) (hs : ∀ e ∈ l, e.f0.size ≤ 140737488351232) (hl : l.length ≤ 140737488351232) (d : Nat) : ∀ i, i + 1 + d = l.length →
  ∃ b, Ev (fun k => cornucopialaw5_Ordered.l0 k l ((i + 1 : Nat) : Int)) b ∧ (b = true → (l.drop i).Pairwise Rl) := by
 induction d with
 | zero =>
  intro i hi
  have hlt : i < l.length := by omega
  refine ⟨true, Ev.step (fun k => by rw [cornucopialaw5_Ordered.l0]) (ev_neg (by omega) (ev_const rfl)), fun _ => ?_⟩
  rw [List.drop_eq_getElem_cons hlt, List.drop_of_length_le (by omega)]
  exact List.pairwise_singleton _ _
 | succ d ih =>
  intro i hi
  have h0 : i < l.length := by omega
  have h1 : i + 1 < l.length := by omega
  have hw : wrap64 (((i + 1 : Nat) : Int) - 1) = (i : Int) := by rw [wrap64_id (by omega)]; omega
  have hr := RefCompare_ev l[i] l[i + 1] (hs _ (List.getElem_mem h0)) (hs _ (List.getElem_mem h1))
  obtain ⟨b, hb, hp⟩ := ih (i + 1) (by omega)
  by_cases k : ce l[i] l[i + 1] ≥ 0
  ·refine ⟨false, Ev.step (fun k => by rw [cornucopialaw5_Ordered.l0, hw, at_nat l i h0, at_nat l (i + 1) h1]) (ev_pos (by omega) (ev_pos (by omega) (ev_pos (by omega) (ev_pos (by omega) (Ev.bind hr (ev_pos k (ev_const rfl))))))), fun q => by cases q⟩
  ·refine ⟨b, Ev.step (fun k => by rw [cornucopialaw5_Ordered.l0, hw, at_nat l i h0, at_nat l (i + 1) h1]) (ev_pos (by omega) (ev_pos (by omega) (ev_pos (by omega) (ev_pos (by omega) (Ev.bind hr (ev_neg k ?_)))))), fun q => ?_⟩
   ·rw [wrap64_id (by omega), show (((i + 1 : Nat) : Int) + 1) = ((i + 1 + 1 : Nat) : Int) from by omega]
    exact hb
   ·have hp := hp q
    have e0 : l.drop i = l[i] :: l.drop (i + 1) := List.drop_eq_getElem_cons h0
    have e1 : l.drop (i + 1) = l[i + 1] :: l.drop (i + 1 + 1) := List.drop_eq_getElem_cons h1
    have r : Rl l[i] l[i + 1] := by have := ce_range l[i] l[i + 1]; unfold Rl; omega
    rw [e0]
    refine List.pairwise_cons.2 ⟨fun y hy => ?_, hp⟩
    rw [e1] at hy hp
    rcases List.mem_cons.1 hy with rfl | hy
    ·exact r
    ·exact ce_trans r ((List.pairwise_cons.1 hp).1 y hy)
theorem Ordered_ev (l : List E) (hs : ∀ e ∈ l, e.f0.size ≤ 140737488351232) (hl : l.length ≤ 140737488351232) : ∃ b, Ev (fun k => cornucopialaw5_Ordered.f k l) b ∧ (b = true → l.Pairwise Rl) := by
 by_cases h : l = []
 ·subst h
  exact ⟨true, Ev.congr (fun k => by rw [cornucopialaw5_Ordered.f]) (Ev.step (fun k => by rw [cornucopialaw5_Ordered.l0]) (ev_neg (by simp) (ev_const rfl))), fun _ => List.Pairwise.nil⟩
 ·have : 0 < l.length := List.length_pos_iff.2 h
  obtain ⟨b, hb, hp⟩ := Ordered_l0 l hs hl (l.length - 1) 0 (by omega)
  exact ⟨b, Ev.congr (fun k => by rw [cornucopialaw5_Ordered.f]; rfl) hb, by simpa using hp⟩
end Go.Proofs.YtchgpcgolgcfdaaGreat.PuOrd
end
section
namespace Go.Proofs.YtchgpcgolgcfdaaGreat.PuAl14
open Go Go.RowKit Go.Proofs.YtchgpcgolgcfdaaGreat.PNum Go.Proofs.YtchgpcgolgcfdaaGreat.PuIkC Go.Proofs.YtchgpcgolgcfdaaGreat.PuCut Go.Proofs.YtchgpcgolgcfdaaGreatW.PrintWords Go.Proofs.YtchgpcgolgcfdaaGreatW.PrintLast Go.Proofs.YtchgpcgolgcfdaaGreatW.PrintMore Go.Proofs.YtchgpcgolgcfdaaGreatW.Pu
theorem at_nat (l : List E) (i : Nat) (h : i < l.length) : rd_T32 l (i : Int) = l[i] := by
 simp [rd_T32, h]
theorem same_l (l : List E) (hl : l.length ≤ 1000000) : ∀ (d i : Nat), i + d = l.length → ∀ k, d < k → cornucopiabook_SameEntries.l0 k l l (i : Int) = some true
 | 0, i, hi, k, hk => by
  obtain ⟨k, rfl⟩ : ∃ m, k = m + 1 := ⟨k - 1, by omega⟩
  rw [cornucopiabook_SameEntries.l0, if_neg (by omega)]
 | d + 1, i, hi, k, hk => by
  obtain ⟨k, rfl⟩ : ∃ m, k = m + 1 := ⟨k - 1, by omega⟩
  rw [cornucopiabook_SameEntries.l0, if_pos (by omega), if_pos (by omega), if_pos (by omega), if_pos (by simp), wrap64_id (by omega)]
  exact same_l l hl d (i + 1) (by omega) k (by omega)
theorem Same_ev (l : List E) (hl : l.length ≤ 1000000) : Ev (fun k => cornucopiabook_SameEntries.f k l l) true :=
 ⟨l.length + 1, fun k hk => by
  show cornucopiabook_SameEntries.f k l l = some true
  rw [cornucopiabook_SameEntries.f, if_pos rfl]
  exact same_l l hl l.length 0 (by omega) k (by omega)⟩
theorem Cut_l0 (most : Int) (l : List E) (hl : l.length ≤ 1000000) (d : Nat) : ∀ (i p : Nat) (out : List (List E)), i + d = l.length → p ≤ i → out.length ≤ i →
  Ev (fun k => merge_Cut.l0 k most l out (p : Int) (l.length : Int) (i : Int)) (out ++ cutS (mx most 1) ((l.take i).drop p) (l.drop i)) := by
 induction d with
 | zero =>
  intro i p out hi hp ho
  have hn : l.drop i = [] := List.drop_of_length_le (by omega)
  rw [hn, cutS_nil, List.append_nil]
  exact Ev.step (fun k => by rw [merge_Cut.l0]) (ev_neg (by omega) (ev_const rfl))
 | succ d ih =>
  intro i p out hi hp ho
  have h0 : i < l.length := by omega
  have hw : wrap64 ((i : Int) + 1) = ((i + 1 : Nat) : Int) := by rw [wrap64_id (by omega)]; omega
  have hd : l.drop i = l[i] :: l.drop (i + 1) := List.drop_eq_getElem_cons h0
  have hpl : ((l.take i).drop p).length = i - p := by rw [List.length_drop, List.length_take]; omega
  have hpe : (l.take i).drop p ++ [l[i]] = (l.take (i + 1)).drop p := by
   rw [List.take_succ_eq_append_getElem h0, List.drop_append_of_le_length (by rw [List.length_take]; omega)]
  have hcl : ((l.take (i + 1)).drop p).length = i + 1 - p := by rw [List.length_drop, List.length_take]; omega
  have hnil : (l.take (i + 1)).drop (i + 1) = [] := List.drop_of_length_le (by rw [List.length_take]; omega)
  have hgo : ∀ (y : List E), y = (l.take (i + 1)).drop p → Ev (fun k => if ([] : List E).length + y.length < 2932031007402 then (if out.length < 5864062014805 then (merge_Cut.l0 k most l (out ++ [([] : List E) ++ y]) ((i + 1 : Nat) : Int) (l.length : Int) ((i + 1 : Nat) : Int)) else none) else none) (out ++ ((l.take (i + 1)).drop p) :: cutS (mx most 1) [] (l.drop (i + 1))) := by
   intro y hy
   subst hy
   refine ev_pos (by rw [hcl]; simp; omega) (ev_pos (by omega) ?_)
   have := ih (i + 1) (i + 1) (out ++ [([] : List E) ++ (l.take (i + 1)).drop p]) (by omega) (Nat.le_refl _) (by simp; omega)
   rw [hnil, List.nil_append, List.append_assoc] at this
   exact this
  refine Ev.step (fun k => by rw [merge_Cut.l0, hw]) (ev_pos (by omega) ?_)
  rw [hd, cutS, hpe]
  by_cases hend : i + 1 = l.length
  ·rw [if_pos (show ends (mx most 1) ((l.take i).drop p) l[i] (l.drop (i + 1)) from .inl (by rw [List.drop_of_length_le (by omega)]; rfl))]
   refine ev_pos (by omega) (ev_pos (by omega) (ev_pos (by omega) (ev_pos (by omega) (ev_some (hgo _ ?_)))))
   simp
  ·have h1 : i + 1 < l.length := by omega
   have hne : l.drop (i + 1) = l[i + 1] :: l.drop (i + 1 + 1) := List.drop_eq_getElem_cons h1
   have hws : wrap64 (((i + 1 : Nat) : Int) - (p : Int)) = ((i + 1 : Nat) : Int) - (p : Int) := wrap64_id (by omega)
   refine ev_neg (by omega) ?_
   rw [hws]
   have hstay : ¬ ends (mx most 1) ((l.take i).drop p) l[i] (l.drop (i + 1)) → Ev (fun k => merge_Cut.l0 k most l out (p : Int) (l.length : Int) ((i + 1 : Nat) : Int)) (out ++ (if ends (mx most 1) ((l.take i).drop p) l[i] (l.drop (i + 1)) then (l.take (i + 1)).drop p :: cutS (mx most 1) [] (l.drop (i + 1)) else cutS (mx most 1) ((l.take (i + 1)).drop p) (l.drop (i + 1)))) := by
    intro hn
    rw [if_neg hn]
    exact ih (i + 1) p out (by omega) (by omega) (by omega)
   have hhd : (l.drop (i + 1)).head?.map (·.f0) = some l[i + 1].f0 := by rw [hne]; rfl
   have hem : (l.drop (i + 1)).isEmpty = false := by rw [hne]; rfl
   by_cases hm : ((i + 1 : Nat) : Int) - (p : Int) ≥ mx most 1
   ·refine ev_pos hm (ev_pos (by omega) (ev_pos (by omega) (ev_pos (by omega) (ev_pos (by omega) ?_))))
    rw [at_nat l i h0, at_nat l (i + 1) h1]
    by_cases hk : l[i + 1].f0 = l[i].f0
    ·refine ev_pos (tl_ext.2 hk) (hstay ?_)
     rintro (q | q)
     ·rw [hem] at q; cases q
     ·exact q.2 (by rw [hhd, hk])
    ·refine ev_neg (fun q => hk (tl_ext.1 q)) (ev_pos (by omega) (ev_pos (by omega) (ev_pos (by omega) (ev_some ?_))))
     rw [if_pos (show ends (mx most 1) ((l.take i).drop p) l[i] (l.drop (i + 1)) from .inr ⟨by rw [hpl]; omega, by rw [hhd]; exact fun q => hk (Option.some.inj q)⟩)]
     refine hgo _ ?_
     simp
   ·refine ev_neg hm (hstay ?_)
    rintro (q | q)
    ·rw [hem] at q; cases q
    ·have := q.1
     rw [hpl] at this
     omega
theorem Cut_ev (most : Int) (l : List E) (hl : l.length ≤ 1000000) : Ev (fun k => merge_Cut.f k most l) (cutS (mx most 1) [] l) := by
 have := Cut_l0 most l hl l.length 0 0 [] (by omega) (Nat.le_refl _) (Nat.le_refl _)
 simp only [List.take_zero, List.drop_nil, List.drop_zero, List.nil_append] at this
 exact Ev.congr (fun k => by rw [merge_Cut.f]; rfl) this
abbrev ka : ByteArray := ⟨#[97]⟩
abbrev kb : ByteArray := ⟨#[98]⟩
abbrev kn : ByteArray := ⟨#[]⟩
theorem first_latest : merge_Latest.f 2 [[⟨ka, 3, 1, kn⟩], [⟨ka, 1, 2, kn⟩, ⟨kb, 2, 1, kn⟩]] = some [⟨kb, kn⟩] := by kernel_rfl
theorem first_all : merge_All.f [] = some [] := by kernel_rfl
theorem first_cut : cutS (mx 1 1) [] [⟨ka, 2, 0, kn⟩, ⟨ka, 1, 0, kn⟩, ⟨kb, 1, 0, kn⟩] = [[⟨ka, 2, 0, kn⟩, ⟨ka, 1, 0, kn⟩], [⟨kb, 1, 0, kn⟩]] := by kernel_rfl
theorem alive_ev : Ev (fun k => cornucopialaw14_alive.f k) true := by
 have hc := Cut_ev 1 [⟨ka, 2, 0, kn⟩, ⟨ka, 1, 0, kn⟩, ⟨kb, 1, 0, kn⟩] (by simp)
 rw [first_cut] at hc
 refine Ev.congr (fun k => by rw [cornucopialaw14_alive.f]) (ev_call first_latest (Ev.bind hc ?_))
 refine ev_pos rfl (ev_pos (by decide) (ev_pos (show kb.toList = [98] by rw [toList_data]) (ev_pos rfl (ev_pos (by decide) (ev_pos rfl (ev_call first_all (ev_const rfl)))))))
end Go.Proofs.YtchgpcgolgcfdaaGreat.PuAl14
end
section
namespace Go.Proofs.YtchgpcgolgcfdaaGreat.Mw
open Go Go.RowKit Go.Proofs.YtchgpcgolgcfdaaGreat.PNum Go.Proofs.YtchgpcgolgcfdaaGreat.BkW Go.Proofs.YtchgpcgolgcfdaaGreat.PuIkC Go.Proofs.YtchgpcgolgcfdaaGreat.PuLat Go.Proofs.YtchgpcgolgcfdaaGreat.Lt Go.Proofs.YtchgpcgolgcfdaaGreatW.PrintWords Go.Proofs.YtchgpcgolgcfdaaGreatW.PrintLast Go.Proofs.YtchgpcgolgcfdaaGreatW.PrintMore Go.Proofs.YtchgpcgolgcfdaaGreatW.Pu Go.Proofs.YtchgpcgolgcfdaaGreatW.PuMrg Go.Proofs.YtchgpcgolgcfdaaGreat.Hp
set_option linter.unusedVariables false
set_option linter.unusedSimpArgs false
abbrev E := S32
abbrev P := S184
def Sl (W : World) (v : Value) (l : List E) : Prop := ∃ A c, v = .slice A l.length c ∧ l.length ≤ c ∧ Kd.C k32 W A l.length l
def Sls (W : World) : List Value → List (List E) → Prop
 | [], [] => True
 | v :: vs, l :: ls => Sl W v l ∧ Sls W vs ls
 | _, _ => False
theorem Sls.len {W : World} : ∀ {vs : List Value} {ls : List (List E)}, Sls W vs ls → vs.length = ls.length
 | [], [], _ => rfl
 | v :: vs, l :: ls, h => by simp [Sls.len h.2]
 | [], l :: ls, h => h.elim
 | v :: vs, [], h => h.elim
theorem Sls.at_ {W : World} : ∀ {vs : List Value} {ls : List (List E)}, Sls W vs ls → ∀ (j : Nat) (l : List E), ls[j]? = some l → ∃ v, vs[j]? = some v ∧ Sl W v l
 | [], [], _, j, l, hj => by simp at hj
 | v :: vs, x :: ls, h, 0, l, hj => by
  simp at hj
  subst hj
  exact ⟨v, rfl, h.1⟩
 | v :: vs, x :: ls, h, j + 1, l, hj => by
  obtain ⟨u, h1, h2⟩ := Sls.at_ h.2 j l (by simpa using hj)
  exact ⟨u, by simpa using h1, h2⟩
 | [], l :: ls, h, _, _, _ => h.elim
 | v :: vs, [], h, _, _, _ => h.elim
theorem Sl.below {W W1 : World} {v : Value} {l : List E} (h : Sl W v l) (hb : Below W.heap.size W W1) : Sl W1 v l := by
 obtain ⟨A, c, e, hc, hC⟩ := h
 exact ⟨A, c, e, hc, Kd.C_below hC hb⟩
theorem Sls.below {W W1 : World} (hb : Below W.heap.size W W1) : ∀ {vs : List Value} {ls : List (List E)}, Sls W vs ls → Sls W1 vs ls
 | [], [], h => h
 | v :: vs, l :: ls, h => ⟨h.1.below hb, Sls.below hb h.2⟩
 | [], l :: ls, h => h.elim
 | v :: vs, [], h => h.elim
theorem Sl.of_rw {W : World} {A : Option Addr} {c : Nat} {l : List E} (h : Rw W 32 4 (.slice A l.length c) l.length (encL encE l)) (hc : l.length ≤ c) : Sl W (.slice A l.length c) l := ⟨A, c, rfl, hc, flatE.to_C h rfl⟩
def encP (x : P) : List Value := [.string x.f0, .string x.f1]
theorem flatP : Flat k184 encP := ⟨fun _ => rfl, fun h => k184_openM h, fun w x => k184_mk w x, fun h => k184_open h⟩
theorem alive_calls (w : World) : Calls Tryz.prog 30 #[] w fun e w' => e = .returned (.bool true) ∧ Below w.heap.size w w' := by
 obtain ⟨k, hk⟩ := Ev.rounds PuAl14.alive_ev
 exact cornucopialaw14_alive.calls k true w hk
theorem same_calls {w : World} {v u : Value} {l : List E} (h : Sl w v l) (h2 : Sl w u l) (hl : l.length ≤ 1000000) :
  Calls Tryz.prog 19 #[v, u] w fun e w' => e = .returned (.bool true) ∧ Below w.heap.size w w' := by
 obtain ⟨A, c, rfl, hc, hC⟩ := h
 obtain ⟨A2, c2, rfl, hc2, hC2⟩ := h2
 obtain ⟨k, hk⟩ := Ev.rounds (PuAl14.Same_ev l hl)
 exact (cornucopiabook_SameEntries.calls k A c l A2 c2 l true w hC hc hC2 hc2 hk).mono (fun e w' h => ⟨h.1, h.2.below⟩)
theorem small_calls {w : World} {v : Value} {l : List E} (h : Sl w v l) (b : Bool) (hb : Ev (fun k => cornucopialaw5_Small.f k l) b) :
  Calls Tryz.prog 9 #[v] w fun e w' => e = .returned (.bool b) ∧ Below w.heap.size w w' := by
 obtain ⟨A, c, rfl, hc, hC⟩ := h
 obtain ⟨k, hk⟩ := Ev.rounds hb
 exact cornucopialaw5_Small.calls k A c l b w hC hc hk
theorem ordered_calls {w : World} {v : Value} {l : List E} (h : Sl w v l) (b : Bool) (hb : Ev (fun k => cornucopialaw5_Ordered.f k l) b) :
  Calls Tryz.prog 31 #[v] w fun e w' => e = .returned (.bool b) ∧ Below w.heap.size w w' := by
 obtain ⟨A, c, rfl, hc, hC⟩ := h
 obtain ⟨k, hk⟩ := Ev.rounds hb
 exact cornucopialaw5_Ordered.calls k A c l b w hC hc hk
def wfE (e : E) : Prop := e.f0.size ≤ 140737488351232 ∧ e.f3.size ≤ 140737488351232 ∧ (Lit.int .u64 e.f1).wf = true
theorem fit_of {ls : List (List E)} (h1 : ls.length ≤ 800) (h2 : ∀ l ∈ ls, Srt ce l) (h3 : ∀ l ∈ ls, ∀ e ∈ l, wfE e) (h4 : ls.flatten.length ≤ 1000000) : merge_All.fit ls = true :=
 (merge_All.fit_iff ls).2 ⟨h1, h2, fun l hl e he => ⟨Nat.le_trans (h3 l hl e he).1 (by decide), (h3 l hl e he).2.2⟩, h4⟩
end Go.Proofs.YtchgpcgolgcfdaaGreat.Mw
end
section
namespace Go.Proofs.YtchgpcgolgcfdaaGreat.Ra
open Go Go.RowKit Go.Proofs.YtchgpcgolgcfdaaGreat.PNum Go.Proofs.YtchgpcgolgcfdaaGreat.BkW Go.Proofs.YtchgpcgolgcfdaaGreat.PuIkC Go.Proofs.YtchgpcgolgcfdaaGreat.PuLat Go.Proofs.YtchgpcgolgcfdaaGreat.RefIns Go.Proofs.YtchgpcgolgcfdaaGreatW.PrintWords Go.Proofs.YtchgpcgolgcfdaaGreatW.PrintLast Go.Proofs.YtchgpcgolgcfdaaGreatW.PrintMore Go.Proofs.YtchgpcgolgcfdaaGreatW.Pu Go.Proofs.YtchgpcgolgcfdaaGreatW.PuMrg
set_option linter.unusedVariables false
set_option linter.unusedSimpArgs false
abbrev P := S184
abbrev kP := k184
def sp (s : Int) (pv : Option E) (e : E) : Bool := match pv with | none => false | some d => decide (d.f0 = e.f0) && decide (d.f1 ≤ s)
def skp (s : Int) (pv : Option E) (e : E) : Bool := decide (s < e.f1) || sp s pv e
def latR (s : Int) : Option E → List E → List P
 | _, [] => []
 | pv, e :: l => if skp s pv e = true then latR s (some e) l else if e.f2 = 2 then latR s (some e) l else ⟨e.f0, e.f3⟩ :: latR s (some e) l
theorem mid {a b c : E} (h : ce a b = -1) (k : ce b c = -1) (q : a.f0 = c.f0) : b.f0 = c.f0 := by
 have r1 := cl_range a.f0.data.toList b.f0.data.toList
 have r2 := cl_range b.f0.data.toList c.f0.data.toList
 have z1 : cb a.f0 b.f0 = 0 ∨ cb a.f0 b.f0 = -1 := by
  unfold ce at h
  split at h
  ·exact .inl (by assumption)
  ·exact .inr h
 have z2 : cb b.f0 c.f0 = 0 ∨ cb b.f0 c.f0 = -1 := by
  unfold ce at k
  split at k
  ·exact .inl (by assumption)
  ·exact .inr k
 rcases z2 with z2 | z2
 ·exact (cb_zero _ _).1 z2
 ·rcases z1 with z1 | z1
  ·rw [← (cb_zero _ _).1 z1, q] at z2
   have := (cb_zero c.f0 c.f0).2 rfl
   omega
  ·have h3 : cb a.f0 c.f0 = -1 := cl_trans _ _ _ z1 z2
   rw [q] at h3
   have := (cb_zero c.f0 c.f0).2 rfl
   omega
theorem latR_eq (s : Int) : ∀ (l pre : List E) (seen : List ByteArray), Srt ce (pre ++ l) → (∀ k, k ∈ seen ↔ ∃ d ∈ pre, d.f0 = k ∧ d.f1 ≤ s) → latR s pre.getLast? l = lat s l seen
 | [], pre, seen, _, _ => by rw [latR, lat]
 | e :: l, pre, seen, hs, hk => by
  have hs2 : Srt ce ((pre ++ [e]) ++ l) := by rw [List.append_assoc]; exact hs
  have hlast : (pre ++ [e]).getLast? = some e := by simp
  have hpe : ∀ d ∈ pre, ce d e = -1 := fun d hd => (List.pairwise_append.1 hs).2.2 d hd e (by simp)
  rw [latR, lat]
  by_cases h1 : s < e.f1
  ·rw [if_pos (show skp s pre.getLast? e = true by unfold skp; rw [decide_eq_true h1]; rfl), if_pos h1, ← hlast]
   refine latR_eq s l (pre ++ [e]) seen hs2 (fun k => (hk k).trans ⟨fun ⟨d, hd, q⟩ => ⟨d, List.mem_append.2 (.inl hd), q⟩, fun ⟨d, hd, q1, q2⟩ => ?_⟩)
   rcases List.mem_append.1 hd with hd | hd
   ·exact ⟨d, hd, q1, q2⟩
   ·rw [List.mem_singleton.1 hd] at q2
    omega
  ·rw [if_neg h1]
   have hsk : skp s pre.getLast? e = seen.any (fun y => decide (e.f0 = y)) := by
    unfold skp
    rw [decide_eq_false h1, Bool.false_or, Bool.eq_iff_iff, any_mem, hk]
    constructor
    ·intro h
     unfold sp at h
     cases hp : pre.getLast? with
     | none => rw [hp] at h; cases h
     | some d =>
      rw [hp] at h
      simp only [Bool.and_eq_true, decide_eq_true_eq] at h
      exact ⟨d, List.mem_of_getLast? hp, h.1, h.2⟩
    ·rintro ⟨d, hd, q1, q2⟩
     obtain ⟨d', hp⟩ : ∃ d', pre.getLast? = some d' := by
      cases hp : pre.getLast? with
      | none => rw [List.getLast?_eq_none_iff.1 hp] at hd; simp at hd
      | some d' => exact ⟨d', rfl⟩
     unfold sp
     rw [hp]
     simp only [Bool.and_eq_true, decide_eq_true_eq]
     obtain ⟨ys, rfl⟩ := List.getLast?_eq_some_iff.1 hp
     rcases List.mem_append.1 hd with hd | hd
     ·have hdd : ce d d' = -1 := (List.pairwise_append.1 (List.pairwise_append.1 hs).1).2.2 d hd d' (by simp)
      have hm := mid hdd (hpe d' (by simp)) q1
      have := srt_seq hdd (q1.trans hm.symm)
      exact ⟨hm, by omega⟩
     ·rw [List.mem_singleton.1 hd] at q1 q2
      exact ⟨q1, q2⟩
   rw [hsk]
   by_cases h2 : seen.any (fun y => decide (e.f0 = y)) = true
   ·rw [if_pos h2, if_pos h2, ← hlast]
    refine latR_eq s l (pre ++ [e]) seen hs2 (fun k => (hk k).trans ⟨fun ⟨d, hd, q⟩ => ⟨d, List.mem_append.2 (.inl hd), q⟩, fun ⟨d, hd, q1, q2⟩ => ?_⟩)
    rcases List.mem_append.1 hd with hd | hd
    ·exact ⟨d, hd, q1, q2⟩
    ·rw [List.mem_singleton.1 hd] at q1
     rw [← q1]
     exact (hk e.f0).1 ((any_mem _ _).1 h2)
   ·rw [if_neg h2, if_neg h2, ← hlast]
    have hk2 : ∀ k, k ∈ seen ++ [e.f0] ↔ ∃ d ∈ pre ++ [e], d.f0 = k ∧ d.f1 ≤ s := fun k => by
     rw [List.mem_append, hk]
     constructor
     ·rintro (⟨d, hd, q⟩ | q)
      ·exact ⟨d, List.mem_append.2 (.inl hd), q⟩
      ·exact ⟨e, by simp, (List.mem_singleton.1 q).symm, by omega⟩
     ·rintro ⟨d, hd, q1, q2⟩
      rcases List.mem_append.1 hd with hd | hd
      ·exact .inl ⟨d, hd, q1, q2⟩
      ·rw [List.mem_singleton.1 hd] at q1
       exact .inr (by rw [q1]; simp)
    rw [latR_eq s l (pre ++ [e]) (seen ++ [e.f0]) hs2 hk2]
theorem latR_lat (s : Int) {l : List E} (hs : Srt ce l) : latR s none l = lat s l [] := latR_eq s l [] [] hs (fun k => by simp)
def pv (l : List E) (i : Nat) : Option E := (l.take i).getLast?
theorem pv_zero (l : List E) : pv l 0 = none := by unfold pv; simp
theorem pv_succ {l : List E} {i : Nat} (h : i < l.length) : pv l (i + 1) = some l[i] := by
 unfold pv
 rw [List.take_succ_eq_append_getElem h, List.getLast?_concat]
set_option maxHeartbeats 16000000 in
set_option maxRecDepth 100000 in
theorem latest12_calls (s : Int) (A0 : Option Addr) (c0 : Nat) (ls : List (List E)) (w : World) (hr0 : Kd.C (Kd.slice 32 k32) w A0 ls.length ls) (hc0 : ls.length ≤ c0) (hs : ∀ l ∈ ls, ∀ e ∈ l, e.f0.size ≤ 140737488351232) (hT : ls.flatten.length ≤ 1000000) (hn : ls.length ≤ 1000000) :
  Calls Tryz.prog 38 #[.int .u64 s, .slice A0 ls.length c0] w fun e w' => ∃ v, e = .returned v ∧ Kd.R kP 184 w' w.heap.size (fun _ => True) v (latR s none (mrg ce ls)) ∧ Below w.heap.size w w' := by
 have HALL := Aside0.mk (all12_calls A0 c0 ls w hr0 hc0 hs hT hn)
 obtain ⟨L, hL⟩ : ∃ L, L = mrg ce ls := ⟨_, rfl⟩
 rw [← hL] at HALL ⊢
 have HLL : Aside0 (L.length ≤ 1000000) := ⟨by rw [hL]; exact Nat.le_trans (mrg_len ce ls) hT⟩
 clear hL hr0 hc0 hs hT hn
 have hu29 := Tryz.underlying32
 go_enter Tryz.func38, Tryz.ntmps38
 go_wp2_with (first
  | (go_at_call 35; refine HALL.out.mono ?_; rintro e w1 ⟨v, rfl, ⟨A, c, rfl, hc, hr, hk⟩, hb⟩; have HR1 := Aside0.mk hr; have HB1 := Aside0.mk hb; clear hc hr hk hb))
 go_loopw [6, 7] (fun v6 v7 w' => ∃ (i : Nat) (out : List P), v7 = .int .i64 i ∧ i ≤ L.length ∧ Aside0 (out.length ≤ i) ∧ Aside0 (Rw w' 32 4 (.slice A L.length c) L.length (encL encE L)) ∧ Aside0 (Kd.R kP 184 w' w.heap.size (fun _ => True) v6 out) ∧ Aside0 (Below w.heap.size w w') ∧ Aside0 (out ++ latR s (pv L i) (L.drop i) = latR s none L)) (fun _ v7 _ => L.length - (intOf v7).toNat)
 case atStart => exact ⟨0, [], rfl, Nat.zero_le _, ⟨Nat.le_refl _⟩, HR1, ⟨Kd.R_nil _ _ _ _ _⟩, HB1, ⟨by rw [pv_zero]; rfl⟩⟩
 case round =>
  clear HR1 HB1 HALL
  obtain ⟨i, out, rfl, hi, HO, HR, HRo, HB, HA⟩ := hrel
  by_cases hlt : i < L.length
  ·have p0 : (0 : Int) ≤ (i : Int) := Int.natCast_nonneg _
   have q0 : (i : Int) < (L.length : Int) := Int.ofNat_lt.mpr hlt
   have t0 : decide ((i : Int) < (L.length : Int)) = true := decide_eq_true q0
   have hlen : (L.length : Int) ≤ 1000000 := by have := HLL.out; omega
   obtain ⟨ad, e0, y0, y1, y2, y3⟩ := at_T32 (flatE.to_C HR.out rfl) (i : Int) p0 q0
   cases e0
   have hx : rd_T32 L (i : Int) = L[i] := by simp [rd_T32, hlt]
   rw [hx] at y0 y1 y2 y3
   simp only [Int.toNat_natCast] at y0 y1 y2 y3
   have hdr : L.drop i = L[i] :: L.drop (i + 1) := List.drop_eq_getElem_cons hlt
   have HPS := Aside0.mk (pv_succ hlt)
   have HPV : Aside0 (∀ j, i = j + 1 → ∃ d, pv L i = some d ∧ ∀ V, Rw V 32 4 (.slice (some ad) L.length c) L.length (encL encE L) → V.cell? (ad.add (j * 4)) = some (.string d.f0) ∧ V.cell? ⟨(ad.add (j * 4)).block, (ad.add (j * 4)).off + 1, none⟩ = some (.int .u64 d.f1)) := ⟨fun j hj => by
    subst hj
    refine ⟨L[j], pv_succ (by omega), fun V hV => ?_⟩
    obtain ⟨ad1, e1, z0, z1, _, _⟩ := at_T32 (flatE.to_C hV rfl) (j : Int) (Int.natCast_nonneg _) (by omega)
    obtain rfl : ad = ad1 := by injection e1
    have hx2 : rd_T32 L (j : Int) = L[j]'(by omega) := by simp [rd_T32, show j < L.length by omega]
    rw [hx2] at z0 z1
    simp only [Int.toNat_natCast] at z0 z1
    exact ⟨z0, z1⟩⟩
   generalize L[i] = e at *
   have HDR := Aside0.mk hdr
   have HLT := Aside0.mk hlt
   clear hx hdr hlt
   go_wp2_with (fail)
   go_cut [50] (fun v50 wc => v50 = .bool (skp s (pv L i) e) ∧ Aside0 (Rw wc 32 4 (.slice (some ad) L.length c) L.length (encL encE L)) ∧ Aside0 (Kd.R kP 184 wc w.heap.size (fun _ => True) u6 out) ∧ Aside0 (Below w.heap.size w wc))
   case first =>
    by_cases h1 : s < e.f1
    ·have k1 : decide (s < e.f1) = true := decide_eq_true h1
     have HV : Aside0 (skp s (pv L i) e = true) := ⟨by unfold skp; rw [k1]; rfl⟩
     clear h1
     go_quiet (fail)
     go_wp2_with (fail)
     go_meet
     case rel => exact ⟨by rw [HV.out], ⟨HR.out.below (pw_below_drewN (Below.refl _ _) _)⟩, ⟨Kd.R_drewN HRo.out _⟩, ⟨pw_below_drewN HB.out _⟩⟩
    ·have k1 : decide (s < e.f1) = false := decide_eq_false h1
     have hv0 : skp s (pv L i) e = sp s (pv L i) e := by unfold skp; rw [k1]; rfl
     clear h1
     by_cases hz : i = 0
     ·have k2 : decide ((0 : Int) < (i : Int)) = false := decide_eq_false (by omega)
      have k2' : decide (0 < i) = false := decide_eq_false (by omega)
      have HV : Aside0 (skp s (pv L i) e = false) := ⟨by rw [hv0, hz, pv_zero]; rfl⟩
      clear hv0 hz
      go_quiet (fail)
      go_wp2_with (fail)
      go_meet
      case rel => exact ⟨by rw [HV.out], ⟨HR.out.below (pw_below_drewN (Below.refl _ _) _)⟩, ⟨Kd.R_drewN HRo.out _⟩, ⟨pw_below_drewN HB.out _⟩⟩
     ·have k2 : decide ((0 : Int) < (i : Int)) = true := decide_eq_true (by omega)
      have k2' : decide (0 < i) = true := decide_eq_true (by omega)
      obtain ⟨d, hd, hcell⟩ := HPV.out (i - 1) (by omega)
      obtain ⟨z0, z1⟩ := hcell wr HR.out
      replace hv0 : skp s (pv L i) e = sp s (some d) e := by rw [hv0, hd]
      have ej : ((i : Int) - 1).toNat = i - 1 := by omega
      have r1 : (0 : Int) ≤ (i : Int) - 1 := by omega
      have r2 : (i : Int) - 1 < (L.length : Int) := by omega
      clear hcell hd
      by_cases h3 : d.f0 = e.f0
      ·have k3 : (d.f0.toList == e.f0.toList) = true := by rw [tl_beq]; exact decide_eq_true h3
       by_cases h4 : d.f1 ≤ s
       ·have k4 : decide (d.f1 ≤ s) = true := decide_eq_true h4
        have HV : Aside0 (skp s (pv L i) e = true) := ⟨by rw [hv0]; unfold sp; simp only; rw [decide_eq_true h3, k4]; rfl⟩
        clear hv0 h3 h4
        go_quiet (fail)
        go_wp2_with (fail)
        go_meet
        case rel => exact ⟨by rw [HV.out], ⟨HR.out.below (pw_below_drewN (Below.refl _ _) _)⟩, ⟨Kd.R_drewN HRo.out _⟩, ⟨pw_below_drewN HB.out _⟩⟩
       ·have k4 : decide (d.f1 ≤ s) = false := decide_eq_false h4
        have HV : Aside0 (skp s (pv L i) e = false) := ⟨by rw [hv0]; unfold sp; simp only; rw [decide_eq_true h3, k4]; rfl⟩
        clear hv0 h3 h4
        go_quiet (fail)
        go_wp2_with (fail)
        go_meet
        case rel => exact ⟨by rw [HV.out], ⟨HR.out.below (pw_below_drewN (Below.refl _ _) _)⟩, ⟨Kd.R_drewN HRo.out _⟩, ⟨pw_below_drewN HB.out _⟩⟩
      ·have k3 : (d.f0.toList == e.f0.toList) = false := by rw [tl_beq]; exact decide_eq_false h3
       have HV : Aside0 (skp s (pv L i) e = false) := ⟨by rw [hv0]; unfold sp; simp only; rw [decide_eq_false h3]; rfl⟩
       clear hv0 h3
       go_quiet (fail)
       go_wp2_with (fail)
       go_meet
       case rel => exact ⟨by rw [HV.out], ⟨HR.out.below (pw_below_drewN (Below.refl _ _) _)⟩, ⟨Kd.R_drewN HRo.out _⟩, ⟨pw_below_drewN HB.out _⟩⟩
   case rest =>
   obtain ⟨rfl, HR2, HRo2, HB2⟩ := hcut
   clear HR HRo HB y0 y1 y2 y3 HPV
   obtain ⟨ad1, e1, y0, y1, y2, y3⟩ := at_T32 (flatE.to_C HR2.out rfl) (i : Int) p0 q0
   obtain rfl : ad = ad1 := by injection e1
   have hx : rd_T32 L (i : Int) = e := by
    have h1 := HDR.out
    rw [List.drop_eq_getElem_cons HLT.out] at h1
    have h2 := (List.cons.inj h1).1
    rw [← h2]
    simp [rd_T32, HLT.out]
   rw [hx] at y0 y1 y2 y3
   simp only [Int.toNat_natCast] at y0 y1 y2 y3
   clear hx e1
   generalize hsk : skp s (pv L i) e = sk at *
   have HSK := Aside0.mk hsk
   clear hsk
   cases sk
   ·by_cases hk : e.f2 = 2
    ·have k5 : (e.f2 != 2) = false := by rw [hk]; rfl
     have HK := Aside0.mk hk
     clear hk
     go_wp2_with (fail)
     go_roundw
     case rel => exact ⟨i + 1, out, by go_num, by have := HLT.out; omega, ⟨by have := HO.out; omega⟩, HR2, HRo2, HB2, ⟨by rw [← HA.out, HDR.out, latR, if_neg (by rw [HSK.out]; simp), if_pos HK.out, HPS.out]⟩⟩
     case measure => simp [intOf]; have := HLT.out; omega
    ·have k5 : (e.f2 != 2) = true := by rw [bne_iff_ne]; exact hk
     have HK := Aside0.mk hk
     clear hk
     go_wp2_with (fail)
     have HR3 : Aside0 (Rw wc.drew 32 4 (.slice (some ad) L.length c) L.length (encL encE L)) := ⟨HR2.out.below (below_drew1 (Below.refl _ _))⟩
     have HRo3 : Aside0 (Kd.R kP 184 wc.drew w.heap.size (fun _ => True) u6 out) := ⟨Kd.R_drew HRo2.out⟩
     have HB3 : Aside0 (Below w.heap.size w wc.drew) := ⟨below_drew1 HB2.out⟩
     go_region_law (first | (rw [show (wc.alloc (.cells #[.string e.f0, .string e.f3] 184)).drew = wc.drew.alloc (.cells #[.string e.f0, .string e.f3] 184) from rfl]; refine Kd.R_append_step kP (w0 := w) w.heap.size (by rfl) (.tmp 57) (.tmp 69) 79 184 (.agg #[(.string ⟨#[]⟩), (.string ⟨#[]⟩)]) 32 (by rfl) Tryz.underlying79 Lt.infoP rfl (by decide) (by omega) u6 out ⟨e.f0, e.f3⟩ [.string e.f0, .string e.f3] (fun _ => True) (fun _ => False) ?_ ?_ ?aP (fun _ hk => hk.elim) ?aF ?aO ?aB ?aS ?aL ?_; (next => first | rfl | (simp [Act.eval, Act.put]; done)); (next => first | rfl | (simp [Act.eval, Act.put]; done)); (case aP => exact k184_mkM _ _ _ _); (case aB => exact HB3.out); (case aF => exact (fun _ _ => trivial)); (case aO => exact HRo3.out); (case aS => exact below_size HB3.out); (case aL => have := HO.out; have := HLL.out; have := HLT.out; omega); intro v7 w7 ho hb hg hat; have HG := Aside0.mk hg; have HO7 := Aside0.mk ho; have HB7 := Aside0.mk hb; clear ho hb hg hat))
     all_goals
      go_wp2_with (fail)
      go_roundw
      case rel => exact ⟨i + 1, out ++ [⟨e.f0, e.f3⟩], by go_num, by have := HLT.out; omega, ⟨by have := HO.out; simp; omega⟩, ⟨HR3.out.grown HG.out (Lt.rw_other HR3.out HRo3.out (by decide))⟩, HO7, HB7, ⟨by rw [← HA.out, HDR.out, latR, if_neg (by rw [HSK.out]; simp), if_neg HK.out, HPS.out, List.append_assoc]; rfl⟩⟩
      case measure => simp [intOf]; have := HLT.out; omega
   ·go_wp2_with (fail)
    go_roundw
    case rel => exact ⟨i + 1, out, by go_num, by have := HLT.out; omega, ⟨by have := HO.out; omega⟩, HR2, HRo2, HB2, ⟨by rw [← HA.out, HDR.out, latR, if_pos HSK.out, HPS.out]⟩⟩
    case measure => simp [intOf]; have := HLT.out; omega
  ·obtain rfl : i = L.length := by omega
   have t0 : decide ((L.length : Int) < (L.length : Int)) = false := decide_eq_false (by omega)
   go_wp2
   go_ret
   exact ⟨_, rfl, by have := HA.out; rw [List.drop_length, latR, List.append_nil] at this; rw [← this]; exact HRo.out, HB.out⟩
end Go.Proofs.YtchgpcgolgcfdaaGreat.Ra
end
section
namespace Go.Proofs.YtchgpcgolgcfdaaGreat.Tw
open Go Go.RowKit Go.Proofs.YtchgpcgolgcfdaaGreat.PNum Go.Proofs.YtchgpcgolgcfdaaGreat.BkW Go.Proofs.YtchgpcgolgcfdaaGreat.BkAEntriesPairs Go.Proofs.YtchgpcgolgcfdaaGreat.PuIkC Go.Proofs.YtchgpcgolgcfdaaGreat.PuLat Go.Proofs.YtchgpcgolgcfdaaGreat.PuCut Go.Proofs.YtchgpcgolgcfdaaGreat.PuAl14 Go.Proofs.YtchgpcgolgcfdaaGreat.Lt Go.Proofs.YtchgpcgolgcfdaaGreat.Mw Go.Proofs.YtchgpcgolgcfdaaGreatW.PrintWords Go.Proofs.YtchgpcgolgcfdaaGreatW.PrintLast Go.Proofs.YtchgpcgolgcfdaaGreatW.PrintMore Go.Proofs.YtchgpcgolgcfdaaGreatW.Pu Go.Proofs.YtchgpcgolgcfdaaGreatW.PuMrg
set_option linter.unusedVariables false
set_option linter.unusedSimpArgs false
abbrev E := S32
abbrev P := S184
abbrev kE := k32
def markE : E := ⟨⟨#[109, 97, 114, 107]⟩, 0, 0, ⟨#[]⟩⟩
def LE (w : World) (A : Option Addr) (c : Nat) (l : List E) : Prop := l.length + 1 ≤ c ∧ Rw w 32 4 (.slice A (l.length + 1) c) (l.length + 1) (encL BkEntries.enc (l ++ [markE]))
section
variable {w w1 : World} {A : Option Addr} {c : Nat} {l : List E}
theorem LE.below (h : LE w A c l) (hb : Below w.heap.size w w1) : LE w1 A c l := ⟨h.1, h.2.below hb⟩
theorem LE.still {T : List TypeId} (h : LE w A c l) (hs : Still T w w1) (ht : 32 ∉ T) : LE w1 A c l := ⟨h.1, hs.rw_ h.2 ht⟩
theorem LE.cm (h : LE w A c l) : Lent.CM kE markE w A l.length l := by
 refine ⟨BkEntries.flat.to_C h.2 (by simp), ?_⟩
 have h1 := h.2.take (m := l.length) (by omega)
 refine BkEntries.flat.to_C (e := 32) (c := c) ?_ rfl
 have e : (encL BkEntries.enc (l ++ [markE])).take (l.length * 4) = encL BkEntries.enc l := by
  rw [encL_append, List.take_append_of_le_length (by rw [BkEntries.flat.lenL]; exact Nat.le_refl _)]
  exact List.take_of_length_le (by rw [BkEntries.flat.lenL]; exact Nat.le_refl _)
 rw [e] at h1
 exact h1
end
theorem lentE {w : World} {A : Option Addr} {c : Nat} {l : List E} (hC : Kd.C kE w A l.length l) (hc : l.length ≤ c) (hl : l.length ≤ 1000) :
  Calls Tryz.prog 32 #[.slice A l.length c] w fun e w' => ∃ A' c', e = .returned (.slice A' l.length c') ∧ LE w' A' c' l ∧ Below w.heap.size w w' := by
 have hf : cornucopiabook_LentEntries.f l = some l := by
  unfold cornucopiabook_LentEntries.f
  rw [if_pos (by simp; omega), Option.bind_some, if_pos (by simp; omega), Option.bind_some, if_pos (by omega), if_pos (by simp; omega)]
  simp
 refine (cornucopiabook_LentEntries.calls A c l l w hC hc hf).mono ?_
 rintro e w' ⟨v, rfl, ⟨A', c', rfl, hr⟩, hb⟩
 have h2 := (Kd.R_reads' hr).2.1
 have h3 := BkEntries.flat.of_R hr
 rw [List.length_append, List.length_singleton] at h3
 exact ⟨A', c', rfl, ⟨h2, h3⟩, hb⟩
theorem staysE {w : World} {A A0 : Option Addr} {c c0 : Nat} {l : List E} (h : LE w A c l) (hC : Kd.C kE w A0 l.length l) (hc : l.length ≤ c0) (hl : l.length ≤ 1000) :
  Calls Tryz.prog 41 #[.slice A l.length c, .slice A0 l.length c0] w fun e w' => e = .returned (.bool true) ∧ Below w.heap.size w w' := by
 have hf : cornucopiabook_StaysEntries.f (l.length + 1) l l = some true := by
  unfold cornucopiabook_StaysEntries.f
  rw [if_pos (by omega)]
  exact BkEntries.same_ev l (by omega) (Nat.lt_succ_self _)
 exact (cornucopiabook_StaysEntries.calls (l.length + 1) A c l A0 c0 l true w h.cm h.1 hC hc hf).mono (fun e w' h => ⟨h.1, h.2.below⟩)
theorem infoS : (Tryz.prog.info? 22).map (fun i => (i.zero, i.size, i.bytes)) = some (some (.slice none 0 0), 1, 24) := by kernel_rfl
def Lv (W : World) (v : Value) (l : List E) : Prop := ∃ A c, v = .slice A l.length c ∧ LE W A c l
def Lvs (W : World) : List Value → List (List E) → Prop
 | [], [] => True
 | v :: vs, l :: ls => Lv W v l ∧ Lvs W vs ls
 | _, _ => False
theorem Lv.sl {W : World} {v : Value} {l : List E} (h : Lv W v l) : Sl W v l := by
 obtain ⟨A, c, e, h⟩ := h
 exact ⟨A, c, e, by have := h.1; omega, h.cm.2⟩
theorem Lvs.sls {W : World} : ∀ {vs : List Value} {ls : List (List E)}, Lvs W vs ls → Sls W vs ls
 | [], [], _ => trivial
 | v :: vs, l :: ls, h => ⟨h.1.sl, Lvs.sls h.2⟩
 | [], l :: ls, h => h.elim
 | v :: vs, [], h => h.elim
theorem Lv.still {W W1 : World} {v : Value} {l : List E} {T : List TypeId} (h : Lv W v l) (hs : Still T W W1) (ht : 32 ∉ T) : Lv W1 v l := by
 obtain ⟨A, c, e, h⟩ := h
 exact ⟨A, c, e, h.still hs ht⟩
theorem Lvs.still {W W1 : World} {T : List TypeId} (hs : Still T W W1) (ht : 32 ∉ T) : ∀ {vs : List Value} {ls : List (List E)}, Lvs W vs ls → Lvs W1 vs ls
 | [], [], h => h
 | v :: vs, l :: ls, h => ⟨h.1.still hs ht, Lvs.still hs ht h.2⟩
 | [], l :: ls, h => h.elim
 | v :: vs, [], h => h.elim
theorem Lvs.below {W W1 : World} (hb : Below W.heap.size W W1) {vs : List Value} {ls : List (List E)} (h : Lvs W vs ls) : Lvs W1 vs ls := Lvs.still (T := []) (Still.of_below hb) (by simp) h
theorem Lvs.snoc {W : World} {v : Value} {l : List E} (hv : Lv W v l) : ∀ {vs : List Value} {ls : List (List E)}, Lvs W vs ls → Lvs W (vs ++ [v]) (ls ++ [l])
 | [], [], _ => ⟨hv, trivial⟩
 | u :: vs, x :: ls, h => ⟨h.1, Lvs.snoc hv h.2⟩
 | [], l :: ls, h => h.elim
 | v :: vs, [], h => h.elim
theorem Lvs.len {W : World} {vs : List Value} {ls : List (List E)} (h : Lvs W vs ls) : vs.length = ls.length := h.sls.len
theorem Lvs.at_ {W : World} : ∀ {vs : List Value} {ls : List (List E)}, Lvs W vs ls → ∀ (j : Nat) (l : List E), ls[j]? = some l → ∃ v, vs[j]? = some v ∧ Lv W v l
 | [], [], _, j, l, hj => by simp at hj
 | v :: vs, x :: ls, h, 0, l, hj => by
  simp at hj
  subst hj
  exact ⟨v, rfl, h.1⟩
 | v :: vs, x :: ls, h, j + 1, l, hj => by
  obtain ⟨u, h1, h2⟩ := Lvs.at_ h.2 j l (by simpa using hj)
  exact ⟨u, by simpa using h1, h2⟩
 | [], l :: ls, h, _, _, _ => h.elim
 | v :: vs, [], h, _, _, _ => h.elim
theorem rows_C {W : World} {A : Option Addr} {n c : Nat} {vs : List Value} {ls : List (List E)} (hr : Rw W 22 1 (.slice A n c) n vs) (h : Sls W vs ls) (hn : n = ls.length) : Kd.C (Kd.slice 32 kE) W A ls.length ls := by
 subst hn
 refine ⟨rfl, hr.max, fun h0 => ?_⟩
 obtain ⟨g, o, c2, e, _, _, hcell⟩ := hr.form h0
 injection e with e _ _
 subst e
 refine ⟨_, rfl, fun j l hj => ?_⟩
 obtain ⟨v, hv, A', c', e', hc', hC'⟩ := h.at_ j l hj
 refine ⟨[v], rfl, ⟨A', c', by rw [e'], hc', hC'⟩, fun i u hi => ?_⟩
 cases i with
 | zero =>
  have hvu : v = u := by simpa using hi
  subst hvu
  rw [add_at, Nat.add_zero]
  exact hcell _ _ (by rw [show (Kd.slice 32 kE).sz = 1 from rfl, Nat.mul_one]; exact hv)
 | succ i => simp at hi
theorem row_cell {W : World} {A : Option Addr} {n c : Nat} {vs : List Value} (hr : Rw W 22 1 (.slice A n c) n vs) {j : Nat} {v : Value} (hv : vs[j]? = some v) : ∃ ad, A = some ad ∧ W.cell? (ad.add j) = some v := by
 have hj : j < vs.length := (List.getElem?_eq_some_iff.1 hv).1
 have hl := hr.1
 obtain ⟨g, o, c2, e, _, _, hcell⟩ := hr.form (by omega)
 injection e with e _ _
 exact ⟨_, e, by rw [add_at]; exact hcell _ _ hv⟩
structure Pc (w : World) (base : Nat) (v : Value) (xs : List (List E)) (vs : List Value) : Prop where
 ln : vs.length = xs.length
 row : Rw w 22 1 v xs.length vs
 own : ∀ k, v.ownBlock = some k → base ≤ k
 el : ∀ (i : Nat) (u : Value) (x : List E), vs[i]? = some u → xs[i]? = some x → ∃ A c, u = .slice A x.length c ∧ x.length ≤ c ∧ Rw w 32 4 u x.length (encL encE x) ∧ ∀ k, u.ownBlock = some k → base ≤ k
 ap : ∀ (i j : Nat) (u u' : Value), vs[i]? = some u → vs[j]? = some u' → i ≠ j → BkW.ap u u'
theorem pc_of {w : World} {base : Nat} {v : Value} {xs : List (List E)} (h : Kd.S (Kd.slice 32 kE) 22 w base (fun _ => True) v xs) : ∃ vs, Pc w base v xs vs := by
 obtain ⟨f, h0, inner, ho, hr⟩ := h
 rw [List.length_zipIdx] at ho
 have hsz : (Kd.tag f (Kd.slice 32 kE)).sz = 1 := rfl
 rw [hsz] at ho hr
 have hlen : inner.length = xs.length := by have := hr.1; rw [List.length_zipIdx, Nat.mul_one] at this; exact this
 have hel : ∀ (i : Nat) (u : Value) (x : List E), inner[i]? = some u → xs[i]? = some x → Kd.R kE 32 w base (fun k => (True ∧ some k ≠ v.ownBlock) ∧ f k = i) u x := by
  intro i u x hu hx
  obtain ⟨v', hv', hR⟩ := hr.2 i (x, i) (Kd.zip_at hx)
  have h1 : (inner.drop (i * 1)).take 1 = [u] := by
   rw [Nat.mul_one]
   have hi := List.getElem?_eq_some_iff.1 hu
   obtain ⟨hi, hiu⟩ := hi
   rw [List.drop_eq_getElem_cons hi, hiu]
   rfl
  rw [h1] at hv'
  obtain rfl : u = v' := by simpa using hv'
  exact hR
 refine ⟨inner, hlen, Rw.of_own ho, fun k hk => own_base ho k hk, fun i u x hu hx => ?_, fun i j u u' hu hu' hne => ?_⟩
 ·have hR := hel i u x hu hx
  have h1 := flatE.of_R hR
  obtain ⟨A, c, rfl, hc⟩ := h1.slice
  exact ⟨A, c, rfl, hc, h1, fun k hk => by obtain ⟨_, ho2⟩ := Kd.R_own hR; exact own_base ho2 k hk⟩
 ·intro k hk hk2
  have hi : i < xs.length := by rw [← hlen]; exact (List.getElem?_eq_some_iff.1 hu).1
  have hj : j < xs.length := by rw [← hlen]; exact (List.getElem?_eq_some_iff.1 hu').1
  have h1 := (hel i u xs[i] hu (List.getElem?_eq_getElem hi)).1 k hk
  have h2 := (hel j u' xs[j] hu' (List.getElem?_eq_getElem hj)).1 k hk2
  exact hne (h1.2.symm.trans h2.2)
theorem RCut_l0 (most : Int) (l : List E) (hl : l.length ≤ 1000000) (d : Nat) : ∀ (i : Nat) (p : List E) (out : List (List E)), i + d = l.length → p.length ≤ i → out.length ≤ i →
  Ev (fun k => cornucopiaref12_Cut.l0 k most l out p (i : Int)) (out ++ cutS (mx most 1) p (l.drop i)) := by
 induction d with
 | zero =>
  intro i p out hi hp ho
  have hn : l.drop i = [] := List.drop_of_length_le (by omega)
  rw [hn, cutS_nil, List.append_nil]
  exact Ev.step (fun k => by rw [cornucopiaref12_Cut.l0]) (ev_neg (by omega) (ev_const rfl))
 | succ d ih =>
  intro i p out hi hp ho
  have h0 : i < l.length := by omega
  have hw : wrap64 ((i : Int) + 1) = ((i + 1 : Nat) : Int) := by rw [wrap64_id (by omega)]; omega
  have hw2 : wrap64 ((l.length : Int) - 1) = (l.length : Int) - 1 := wrap64_id (by omega)
  have hd : l.drop i = l[i] :: l.drop (i + 1) := List.drop_eq_getElem_cons h0
  refine Ev.step (fun k => by rw [cornucopiaref12_Cut.l0, hw, hw2, PuAl14.at_nat l i h0]) (ev_pos (by omega) (ev_pos (by omega) (ev_pos (by omega) (ev_some ?_))))
  rw [hd, cutS]
  have hcut : Ev (fun k => if out.length < 5864062014805 then cornucopiaref12_Cut.l0 k most l (out ++ [p ++ [(⟨l[i].f0, l[i].f1, l[i].f2, l[i].f3⟩ : E)]]) [] ((i + 1 : Nat) : Int) else none) (out ++ (p ++ [l[i]]) :: cutS (mx most 1) [] (l.drop (i + 1))) := by
   refine ev_pos (by omega) ?_
   have := ih (i + 1) [] (out ++ [p ++ [l[i]]]) (by omega) (by simp) (by simp; omega)
   rw [List.append_assoc] at this
   exact this
  by_cases hend : i + 1 = l.length
  ·rw [if_pos (show ends (mx most 1) p l[i] (l.drop (i + 1)) from .inl (by rw [List.drop_of_length_le (by omega)]; rfl))]
   exact ev_pos (by omega) hcut
  ·have h1 : i + 1 < l.length := by omega
   have hne : l.drop (i + 1) = l[i + 1] :: l.drop (i + 1 + 1) := List.drop_eq_getElem_cons h1
   have hhd : (l.drop (i + 1)).head?.map (·.f0) = some l[i + 1].f0 := by rw [hne]; rfl
   have hem : (l.drop (i + 1)).isEmpty = false := by rw [hne]; rfl
   have hmx : ∀ n : Nat, ((n + 1 : Nat) : Int) ≥ most ↔ mx most 1 ≤ (n : Int) + 1 := fun n => by unfold mx; split <;> omega
   have hstay : ¬ ends (mx most 1) p l[i] (l.drop (i + 1)) → Ev (fun k => cornucopiaref12_Cut.l0 k most l out (p ++ [(⟨l[i].f0, l[i].f1, l[i].f2, l[i].f3⟩ : E)]) ((i + 1 : Nat) : Int)) (out ++ (if ends (mx most 1) p l[i] (l.drop (i + 1)) then (p ++ [l[i]]) :: cutS (mx most 1) [] (l.drop (i + 1)) else cutS (mx most 1) (p ++ [l[i]]) (l.drop (i + 1)))) := by
    intro hn
    rw [if_neg hn]
    exact ih (i + 1) (p ++ [l[i]]) out (by omega) (by simp; omega) (by omega)
   refine ev_neg (by omega) ?_
   by_cases hm : most ≤ ((p.length + 1 : Nat) : Int)
   ·refine ev_pos (by rw [List.length_append]; simpa using hm) (ev_pos (by omega) (ev_pos (by omega) ?_))
    rw [PuAl14.at_nat l (i + 1) h1]
    by_cases hk : l[i + 1].f0 = l[i].f0
    ·refine ev_pos (tl_ext.2 hk) (hstay ?_)
     rintro (q | q)
     ·rw [hem] at q; cases q
     ·exact q.2 (by rw [hhd, hk])
    ·refine ev_neg (fun q => hk (tl_ext.1 q)) ?_
     rw [if_pos (show ends (mx most 1) p l[i] (l.drop (i + 1)) from .inr ⟨(hmx p.length).1 hm, by rw [hhd]; exact fun q => hk (Option.some.inj q)⟩)]
     exact hcut
   ·refine ev_neg (by rw [List.length_append]; simpa using hm) (hstay ?_)
    rintro (q | q)
    ·rw [hem] at q; cases q
    ·exact hm ((hmx p.length).2 q.1)
theorem RCut_ev (most : Int) (l : List E) (hl : l.length ≤ 1000000) : Ev (fun k => cornucopiaref12_Cut.f k most l) (cutS (mx most 1) [] l) := by
 have := RCut_l0 most l hl l.length 0 [] [] (by omega) (by simp) (by simp)
 simp only [List.drop_zero, List.nil_append] at this
 exact Ev.congr (fun k => by rw [cornucopiaref12_Cut.f]; rfl) this
theorem cut_calls {w : World} {v : Value} {l : List E} (h : Sl w v l) (most : Int) (hl : l.length ≤ 1000000) (X : List (List E)) (hX : X = cutS (mx most 1) [] l) :
  Calls Tryz.prog 39 #[.int .i64 most, v] w fun e w' => ∃ A c vs, e = .returned (.slice A X.length c) ∧ Pc w' w.heap.size (.slice A X.length c) X vs ∧ Below w.heap.size w w' := by
 subst hX
 obtain ⟨A, c, rfl, hc, hC⟩ := h
 obtain ⟨k, hk⟩ := Ev.rounds (Cut_ev most l hl)
 refine (merge_Cut.calls k most A c l _ w hC hc hk).mono ?_
 rintro e w' ⟨v, rfl, hS, hb⟩
 obtain ⟨A', c', rfl⟩ := Kd.R_slice (Kd.S_R hS)
 obtain ⟨vs, hp⟩ := pc_of hS
 exact ⟨A', c', vs, rfl, hp, hb⟩
theorem rcut_calls {w : World} {v : Value} {l : List E} (h : Sl w v l) (most : Int) (hl : l.length ≤ 1000000) (X : List (List E)) (hX : X = cutS (mx most 1) [] l) :
  Calls Tryz.prog 40 #[.int .i64 most, v] w fun e w' => ∃ A c vs, e = .returned (.slice A X.length c) ∧ Pc w' w.heap.size (.slice A X.length c) X vs ∧ Below w.heap.size w w' := by
 subst hX
 obtain ⟨A, c, rfl, hc, hC⟩ := h
 obtain ⟨k, hk⟩ := Ev.rounds (RCut_ev most l hl)
 refine (cornucopiaref12_Cut.calls k most A c l _ w hC hc hk).mono ?_
 rintro e w' ⟨v, rfl, hS, hb⟩
 obtain ⟨A', c', rfl⟩ := Kd.R_slice (Kd.S_R hS)
 obtain ⟨vs, hp⟩ := pc_of hS
 exact ⟨A', c', vs, rfl, hp, hb⟩
theorem sameP {w : World} {A A' : Option Addr} {n c n' c' : Nat} {xs : List P} (hn : n = xs.length) (hn' : n' = xs.length) (h1 : Rw w 184 2 (.slice A n c) n (encL encP xs)) (h2 : Rw w 184 2 (.slice A' n' c') n' (encL encP xs)) (hx : xs.length ≤ 1000000) :
  Calls Tryz.prog 37 #[.slice A n c, .slice A' n' c'] w fun e w' => e = .returned (.bool true) ∧ Below w.heap.size w w' := by
 subst hn
 subst hn'
 obtain ⟨_, _, e1, g1⟩ := h1.slice
 obtain ⟨_, _, e2, g2⟩ := h2.slice
 injection e1 with _ _ e1
 injection e2 with _ _ e2
 exact (cornucopiabook_SamePairs.calls (xs.length + 1) A c xs A' c' xs true w (flatP.to_C h1 rfl) (by omega) (flatP.to_C h2 rfl) (by omega) (BkPairs.same_ev xs hx (Nat.lt_succ_self _))).mono (fun e w' h => ⟨h.1, h.2.below⟩)
end Go.Proofs.YtchgpcgolgcfdaaGreat.Tw
end
section
namespace Go.Proofs.YtchgpcgolgcfdaaGreat.Tw
open Go Go.RowKit Go.Proofs.YtchgpcgolgcfdaaGreat.PNum Go.Proofs.YtchgpcgolgcfdaaGreat.BkW Go.Proofs.YtchgpcgolgcfdaaGreat.BkAEntriesPairs Go.Proofs.YtchgpcgolgcfdaaGreat.PuIkC Go.Proofs.YtchgpcgolgcfdaaGreat.PuLat Go.Proofs.YtchgpcgolgcfdaaGreat.PuCut Go.Proofs.YtchgpcgolgcfdaaGreat.PuAl14 Go.Proofs.YtchgpcgolgcfdaaGreat.Lt Go.Proofs.YtchgpcgolgcfdaaGreat.Mw Go.Proofs.YtchgpcgolgcfdaaGreatW.PrintWords Go.Proofs.YtchgpcgolgcfdaaGreatW.PrintLast Go.Proofs.YtchgpcgolgcfdaaGreatW.PrintMore Go.Proofs.YtchgpcgolgcfdaaGreatW.Pu Go.Proofs.YtchgpcgolgcfdaaGreatW.PuMrg
set_option linter.unusedVariables false
set_option linter.unusedSimpArgs false
def okL (l : List E) : Prop := l.length ≤ 60 ∧ Srt ce l
theorem flatten_len : ∀ (ls : List (List E)) (m : Nat), (∀ l ∈ ls, l.length ≤ m) → ls.flatten.length ≤ ls.length * m
 | [], m, _ => by simp
 | l :: ls, m, h => by
  rw [List.flatten_cons, List.length_append, List.length_cons, Nat.succ_mul]
  have h1 := flatten_len ls m (fun x hx => h x (List.mem_cons_of_mem _ hx))
  have h2 := h l (by simp)
  omega
theorem piece_len {X : List (List E)} {x : List E} (h : x ∈ X) : x.length ≤ X.flatten.length := by
 induction X with
 | nil => simp at h
 | cons a X ih =>
  rw [List.flatten_cons, List.length_append]
  rcases List.mem_cons.1 h with rfl | h
  ·omega
  ·have := ih h
   omega
theorem lat_rw {V : World} {A : Option Addr} {c : Nat} {ls : List (List E)} (s : Int) (hC : Kd.C (Kd.slice 32 kE) V A ls.length ls) (hc : ls.length ≤ c) (hg : merge_All.fit ls = true) (L : List P) (hL : L = lat s (mrg ce ls) []) :
  Calls Tryz.prog 34 #[.int .u64 s, .slice A ls.length c] V fun e w' => ∃ A' c', e = .returned (.slice A' L.length c') ∧ Rw w' 184 2 (.slice A' L.length c') L.length (encL encP L) ∧ (∀ k, (Value.slice A' L.length c').ownBlock = some k → V.heap.size ≤ k) ∧ Below V.heap.size V w' := by
 subst hL
 refine (latest_calls s A c ls V hC hc hg).mono ?_
 rintro e w' ⟨v, rfl, hR, hb⟩
 have h1 := flatP.of_R hR
 obtain ⟨A', c', rfl, hc'⟩ := h1.slice
 exact ⟨A', c', rfl, h1, fun k hk => by obtain ⟨_, ho⟩ := Kd.R_own hR; exact own_base ho k hk, hb⟩
theorem rlat_rw {V : World} {A : Option Addr} {c : Nat} {ls : List (List E)} (s : Int) (hC : Kd.C (Kd.slice 32 kE) V A ls.length ls) (hc : ls.length ≤ c) (hg : merge_All.fit ls = true) (hw : ∀ l ∈ ls, ∀ e ∈ l, wfE e) (L : List P) (hL : L = lat s (mrg ce ls) []) :
  Calls Tryz.prog 38 #[.int .u64 s, .slice A ls.length c] V fun e w' => ∃ A' c', e = .returned (.slice A' L.length c') ∧ Rw w' 184 2 (.slice A' L.length c') L.length (encL encP L) ∧ Below V.heap.size V w' := by
 have hg1 := (merge_All.fit_iff ls).1 hg
 have he : L = Ra.latR s none (mrg ce ls) := by rw [hL]; exact (Ra.latR_lat s (mrg_srt Hp.ordE hg1.2.1)).symm
 subst he
 refine (Ra.latest12_calls s A c ls V hC hc (fun l hl e he => ?_) hg1.2.2.2 (by have := hg1.1; omega)).mono ?_
 ·exact (hw l hl e he).1
 ·rintro e w' ⟨v, rfl, hR, hb⟩
  have h1 := flatP.of_R hR
  obtain ⟨A', c', rfl, hc'⟩ := h1.slice
  exact ⟨A', c', rfl, h1, hb⟩
structure St1 (w W0 V : World) (gk : Nat) (Am : Option Addr) (cm : Nat) (vsm : List Value) (ls : List (List E)) : Prop where
 bk : BkZ w V gk (fun k => k < W0.heap.size) (fun k => k < W0.heap.size)
 m : Rw V 22 1 (.slice Am ls.length cm) ls.length vsm
 mo : ∀ k, (Value.slice Am ls.length cm).ownBlock = some k → W0.heap.size ≤ k
 lv : Lvs V vsm ls
 bel : Below w.heap.size w V
 sz : W0.heap.size ≤ V.heap.size
theorem St1.below {w W0 V V1 : World} {gk : Nat} {Am : Option Addr} {cm : Nat} {vsm : List Value} {ls : List (List E)} (h : St1 w W0 V gk Am cm vsm ls) (hb : Below V.heap.size V V1) : St1 w W0 V1 gk Am cm vsm ls :=
 ⟨h.bk.below hb, h.m.below hb, h.mo, h.lv.below hb, below_step h.bel hb, Nat.le_trans h.sz hb.size⟩
theorem St1.mc {w W0 V : World} {gk : Nat} {Am : Option Addr} {cm : Nat} {vsm : List Value} {ls : List (List E)} (h : St1 w W0 V gk Am cm vsm ls) : ls.length ≤ cm := by
 obtain ⟨A, c, e, hc⟩ := h.m.slice
 injection e with _ _ e
 omega
structure St2 (w W0 W4 V : World) (gk : Nat) (Am : Option Addr) (cm : Nat) (vsm : List Value) (ls : List (List E)) : Prop where
 bk : BkZ w V gk (fun k => k < V.heap.size) (fun k => k < W0.heap.size ∨ (W4.heap.size ≤ k ∧ k < V.heap.size))
 m : Rw V 22 1 (.slice Am ls.length cm) ls.length vsm
 mo : ∀ k, (Value.slice Am ls.length cm).ownBlock = some k → W0.heap.size ≤ k ∧ k < W4.heap.size
 lv : Lvs V vsm ls
 bel : Below w.heap.size w V
 sz : W0.heap.size ≤ W4.heap.size ∧ W4.heap.size ≤ V.heap.size
theorem St2.below {w W0 W4 V V1 : World} {gk : Nat} {Am : Option Addr} {cm : Nat} {vsm : List Value} {ls : List (List E)} (h : St2 w W0 W4 V gk Am cm vsm ls) (hb : Below V.heap.size V V1) : St2 w W0 W4 V1 gk Am cm vsm ls :=
 ⟨(h.bk.below hb).mono (fun k hk => Nat.lt_of_lt_of_le hk hb.size) (fun k _ hk => hk.imp id (fun q => ⟨q.1, Nat.lt_of_lt_of_le q.2 hb.size⟩)), h.m.below hb, h.mo, h.lv.below hb, below_step h.bel hb, ⟨h.sz.1, Nat.le_trans h.sz.2 hb.size⟩⟩
theorem Pc.still {V V1 : World} {base : Nat} {v : Value} {xs : List (List E)} {vs : List Value} (h : Pc V base v xs vs) {T : List TypeId} (hs : Still T V V1) (ht : 32 ∉ T) (hm : ∀ k, v.ownBlock = some k → V1.heap[k]? = V.heap[k]?) : Pc V1 base v xs vs :=
 ⟨h.ln, h.row.move hm, h.own, fun i u x hu hx => by
  obtain ⟨A, c, e, hc, hr, hk⟩ := h.el i u x hu hx
  exact ⟨A, c, e, hc, hs.rw_ hr ht, hk⟩, h.ap⟩
theorem Pc.below {V V1 : World} {base : Nat} {v : Value} {xs : List (List E)} {vs : List Value} (h : Pc V base v xs vs) (hb : Below V.heap.size V V1) : Pc V1 base v xs vs :=
 h.still (T := []) (Still.of_below hb) (by simp) (fun k hk => hb.block k (h.row.lt k hk))
def P3 (W7 : World) (vsc : List Value) (i : Nat) (k : Nat) : Prop := k < W7.heap.size ∨ ∃ j u, j < i ∧ vsc[j]? = some u ∧ u.ownBlock = some k
def Q3 (W0 W4 W7 W9 : World) (k : Nat) : Prop := k < W0.heap.size ∨ (W4.heap.size ≤ k ∧ k < W7.heap.size) ∨ W9.heap.size ≤ k
structure St3 (w W0 W4 W7 W9 V : World) (gk : Nat) (Am : Option Addr) (cm : Nat) (vsm : List Value) (ls : List (List E)) (vc vd : Value) (X : List (List E)) (vsc vsd : List Value) (i : Nat) : Prop where
 bk : BkZ w V gk (P3 W7 vsc i) (Q3 W0 W4 W7 W9)
 m : Rw V 22 1 (.slice Am ls.length cm) ls.length vsm
 mo : ∀ k, (Value.slice Am ls.length cm).ownBlock = some k → W0.heap.size ≤ k ∧ k < W4.heap.size
 lv : Lvs V vsm ls
 pc : Pc V W7.heap.size vc X vsc
 pd : Pc V W7.heap.size vd X vsd
 oc : ∀ k, vc.ownBlock = some k → k < W9.heap.size
 od : ∀ k, vd.ownBlock = some k → k < W9.heap.size
 bel : Below w.heap.size w V
 s1 : W0.heap.size ≤ W4.heap.size
 s2 : W4.heap.size ≤ W7.heap.size
 s3 : W7.heap.size ≤ W9.heap.size
 s4 : W9.heap.size ≤ V.heap.size
section
variable {w W0 W4 W7 W9 V V1 : World} {gk : Nat} {Am : Option Addr} {cm : Nat} {vsm : List Value} {ls : List (List E)} {vc vd : Value} {X : List (List E)} {vsc vsd : List Value} {i : Nat}
theorem St3.below (h : St3 w W0 W4 W7 W9 V gk Am cm vsm ls vc vd X vsc vsd i) (hb : Below V.heap.size V V1) : St3 w W0 W4 W7 W9 V1 gk Am cm vsm ls vc vd X vsc vsd i :=
 ⟨h.bk.below hb, h.m.below hb, h.mo, h.lv.below hb, h.pc.below hb, h.pd.below hb, h.oc, h.od, below_step h.bel hb, h.s1, h.s2, h.s3, Nat.le_trans h.s4 hb.size⟩
theorem St3.keep (h : St3 w W0 W4 W7 W9 V gk Am cm vsm ls vc vd X vsc vsd i) (hg : gk < W0.heap.size) (hi : i < X.length) (hx : X[i].length ≤ 1000) : ∃ A c, vsc[i]? = some (.slice A X[i].length c) ∧
  Calls Tryz.prog 18 #[.pointer (some ⟨gk, 0, none⟩), .slice A X[i].length c] V fun e V1 => e = .returned (.tuple #[]) ∧ St3 w W0 W4 W7 W9 V1 gk Am cm vsm ls vc vd X vsc vsd (i + 1) := by
 have hiv : i < vsc.length := by rw [h.pc.ln]; exact hi
 have hu := List.getElem?_eq_getElem hiv
 obtain ⟨A, c, e, hc, hr, hk⟩ := h.pc.el i _ _ hu (List.getElem?_eq_getElem hi)
 rw [e] at hu hr hk
 refine ⟨A, c, hu, ?_⟩
 refine (h.bk.keepEntries (P' := P3 W7 vsc (i + 1)) hr (fun k hk2 => ⟨?_, .inr ⟨i, _, Nat.lt_succ_self i, hu, hk2⟩, ?_⟩) (fun k hk2 => hk2.imp id (fun ⟨j, u, h1, h2, h3⟩ => ⟨j, u, Nat.lt_succ_of_lt h1, h2, h3⟩)) hx).mono ?_
 ·rintro (q | ⟨j, u, h1, h2, h3⟩)
  ·have := hk k hk2
   omega
  ·exact h.pc.ap j i u _ h2 hu (by omega) k h3 hk2
 ·have h1 := hk k hk2
  have h2 := h.bk.bel.size
  have h3 := h.s1
  have h4 := h.s2
  have h5 : w.heap.size ≤ W0.heap.size := by
   obtain ⟨_, _, _, _, _, _, hbk, _⟩ := h.bk
   have := hbk.gb
   omega
  omega
 ·rintro e V1 ⟨rfl, hz, hfr, hst, hsz, hbl⟩
  have hnq : ∀ k, (W0.heap.size ≤ k ∧ k < W4.heap.size) ∨ (W7.heap.size ≤ k ∧ k < W9.heap.size) → V1.heap[k]? = V.heap[k]? := fun k hk3 => by
   have h1 := h.s1
   have h2 := h.s2
   have h3 := h.s3
   have h4 := h.s4
   refine hfr k (by omega) (by omega) ?_
   rintro (q | q | q) <;> omega
  exact ⟨rfl, hz.mono (fun _ q => q) (fun k hk3 q => q.elim id (fun q2 => .inr (.inr (Nat.le_trans h.s4 q2)))), h.m.move (fun k hk3 => hnq k (.inl (h.mo k hk3))), h.mo, Lvs.still hst (by decide) h.lv, h.pc.still hst (by decide) (fun k hk3 => hnq k (.inr ⟨h.pc.own k hk3, h.oc k hk3⟩)), h.pd.still hst (by decide) (fun k hk3 => hnq k (.inr ⟨h.pd.own k hk3, h.od k hk3⟩)), h.oc, h.od, hbl, h.s1, h.s2, h.s3, Nat.le_trans h.s4 hsz⟩
end
theorem St1.push {w W0 V w3 : World} {gk : Nat} {A : Option Addr} {c : Nat} {vs : List Value} {T : List (List E)} (h : St1 w W0 V gk A c vs T) (hw0 : w.heap.size ≤ W0.heap.size) {n : Nat} (hn : n = T.length) {v : Value} {l : List E} (hv : Lv V v l) {o : Obj} {v1 : Value} (hr1 : Rw w3 22 1 v1 (n + 1) (vs ++ [v])) (hg1 : (V.alloc o).grownBy w3 (Value.slice A n c).ownBlock) (hat1 : (∃ A' c', (Value.slice A n c) = .slice A' n c' ∧ v1 = .slice A' (n + 1) c') ∨ ∃ b, v1.ownBlock = some b ∧ (V.alloc o).heap.size ≤ b) :
  ∃ A3 c3, v1 = .slice A3 (n + 1) c3 ∧ St1 w W0 w3 gk A3 c3 (vs ++ [v]) (T ++ [l]) := by
 subst hn
 obtain ⟨A3, c3, rfl, hc3⟩ := hr1.slice
 have hba : Below V.heap.size V (V.alloc o) := below_alloc (Below.refl _ _) _
 have hrow := h.m.below hba
 have hst : Still [22] (V.alloc o) w3 := Still.of_grown hg1 (fun k hk => by
  obtain ⟨cur, hc⟩ := hrow.typed k hk
  exact ⟨cur, _, by simp, hc⟩)
 have hN : W0.heap.size ≤ (V.alloc o).heap.size := Nat.le_trans h.sz hba.size
 have hbel : Below w.heap.size w w3 := Below.grown (below_step h.bel hba) hg1 (below_step h.bel hba).size (fun k hk => Nat.le_trans hw0 (h.mo k hk))
 refine ⟨A3, c3, rfl, ?_, ?_, ?_, ?_, hbel, Nat.le_trans hN hg1.size⟩
 ·exact (h.bk.below hba).far hst (by decide) (by decide) (by decide) (fun k hk hq => hg1.block k hk (fun e => by have := h.mo k e.symm; omega)) hbel
 ·rw [List.length_append, List.length_singleton]
  exact hr1
 ·rw [List.length_append, List.length_singleton]
  exact RefIns.fresh_step hat1 h.mo hN
 ·exact Lvs.snoc ((hv.still (T := []) (Still.of_below hba) (by simp)).still hst (by decide)) (Lvs.still hst (by decide) (h.lv.below hba))
structure StA (w W0 W4 V : World) (gk : Nat) (Am : Option Addr) (cm : Nat) (vsm : List Value) (ls : List (List E)) (va : Value) : Prop where
 bk : BkZ w V gk (fun k => k < W0.heap.size ∨ va.ownBlock = some k) (fun k => k < W0.heap.size ∨ W4.heap.size ≤ k)
 m : Rw V 22 1 (.slice Am ls.length cm) ls.length vsm
 mo : ∀ k, (Value.slice Am ls.length cm).ownBlock = some k → W0.heap.size ≤ k ∧ k < W4.heap.size
 lv : Lvs V vsm ls
 bel : Below w.heap.size w V
 sz : W0.heap.size ≤ W4.heap.size ∧ W4.heap.size ≤ V.heap.size
theorem St1.keepA {w W0 V : World} {gk : Nat} {Am : Option Addr} {cm : Nat} {vsm : List Value} {ls : List (List E)} (h : St1 w W0 V gk Am cm vsm ls) (hg : gk < W0.heap.size) (hw0 : w.heap.size ≤ W0.heap.size) {A : Option Addr} {c : Nat} {L : List E} (hr : Rw V 32 4 (.slice A L.length c) L.length (encL encE L)) (hk : ∀ k, (Value.slice A L.length c).ownBlock = some k → W0.heap.size ≤ k) (hx : L.length ≤ 1000) :
  Calls Tryz.prog 18 #[.pointer (some ⟨gk, 0, none⟩), .slice A L.length c] V fun e V1 => e = .returned (.tuple #[]) ∧ StA w W0 V V1 gk Am cm vsm ls (.slice A L.length c) ∧ Still [56, 22] V V1 := by
 refine (h.bk.keepEntries (P' := fun k => k < W0.heap.size ∨ (Value.slice A L.length c).ownBlock = some k) hr (fun k hk2 => ⟨fun q => ?_, .inr hk2, ?_⟩) (fun k q => .inl q) hx).mono ?_
 ·have := hk k hk2
  omega
 ·have := hk k hk2
  omega
 ·rintro e V1 ⟨rfl, hz, hfr, hst, hsz, hbl⟩
  exact ⟨rfl, ⟨hz, h.m.move (fun k hk2 => hfr k (h.m.lt k hk2) (by have := h.mo k hk2; omega) (by have := h.mo k hk2; omega)), fun k hk2 => ⟨h.mo k hk2, h.m.lt k hk2⟩, Lvs.still hst (by decide) h.lv, hbl, ⟨h.sz, hsz⟩⟩, hst⟩
theorem StA.keepB {w W0 W4 V : World} {gk : Nat} {Am : Option Addr} {cm : Nat} {vsm : List Value} {ls : List (List E)} {va : Value} (h : StA w W0 W4 V gk Am cm vsm ls va) (hg : gk < W0.heap.size) (hw0 : w.heap.size ≤ W0.heap.size) (hva : ∀ k, va.ownBlock = some k → k < V.heap.size) {A : Option Addr} {c : Nat} {Y : List P} (hr : Rw V 184 2 (.slice A Y.length c) Y.length (encL encP Y)) (hk : ∀ k, (Value.slice A Y.length c).ownBlock = some k → W0.heap.size ≤ k ∧ va.ownBlock ≠ some k) (hx : Y.length ≤ 1000) :
  Calls Tryz.prog 36 #[.pointer (some ⟨gk, 0, none⟩), .slice A Y.length c] V fun e V1 => e = .returned (.tuple #[]) ∧ St2 w W0 W4 V1 gk Am cm vsm ls ∧ Still [56, 79] V V1 := by
 have h1 := h.sz.1
 have h2 := h.sz.2
 refine (h.bk.keepPairs (P' := fun k => k < V.heap.size) hr (fun k hk2 => ⟨?_, hr.lt k hk2, ?_⟩) (fun k q => q.elim (fun q => by omega) (hva k)) hx).mono ?_
 ·rintro (q | q)
  ·have := (hk k hk2).1
   omega
  ·exact (hk k hk2).2 q
 ·have := (hk k hk2).1
  omega
 ·rintro e V1 ⟨rfl, hz, hfr, hst, hsz, hbl⟩
  exact ⟨rfl, ⟨hz.mono (fun k q => Nat.lt_of_lt_of_le q hsz) (fun k hk2 q => by rcases q with (q | q) | q; exact .inl q; exact .inr ⟨q, hk2⟩; exact .inr ⟨by omega, hk2⟩), h.m.move (fun k hk2 => hfr k (h.m.lt k hk2) (by have := h.mo k hk2; omega) (by have := h.mo k hk2; rintro (q | q) <;> omega)), h.mo, Lvs.still hst (by decide) h.lv, hbl, ⟨h1, by omega⟩⟩, hst⟩
theorem Pc.lower {V : World} {base base' : Nat} {v : Value} {xs : List (List E)} {vs : List Value} (h : Pc V base v xs vs) (hb : base' ≤ base) : Pc V base' v xs vs :=
 ⟨h.ln, h.row, fun k hk => Nat.le_trans hb (h.own k hk), fun i u x hu hx => by
  obtain ⟨A, c, e, hc, hr, hk⟩ := h.el i u x hu hx
  exact ⟨A, c, e, hc, hr, fun k hk2 => Nat.le_trans hb (hk k hk2)⟩, h.ap⟩
theorem Pc.sl {V : World} {base : Nat} {v : Value} {xs : List (List E)} {vs : List Value} (h : Pc V base v xs vs) {i : Nat} {u : Value} {x : List E} (hu : vs[i]? = some u) (hx : xs[i]? = some x) : Sl V u x := by
 obtain ⟨A, c, rfl, hc, hr, _⟩ := h.el i u x hu hx
 exact Sl.of_rw hr hc
theorem rw_nn {W : World} {A A' : Option Addr} {n n' c c' : Nat} {e e' sz sz' : Nat} {xs ys : List Value} (h : Rw W e sz (.slice A n c) n xs) (h' : Rw W e' sz' (.slice A' n' c') n' ys) (hne : e ≠ e') (k : Nat) (hk : (Value.slice A' n' c').ownBlock = some k) : (Value.slice A n c).ownBlock ≠ some k := fun q => by
 obtain ⟨x, hx⟩ := h.typed k q
 obtain ⟨y, hy⟩ := h'.typed k hk
 rw [hx] at hy
 injection hy with hy
 injection hy with _ hy
 exact hne hy
theorem enc_sl (A : Option Addr) (n c : Nat) : ∀ u ∈ [Value.slice A n c], u.oneCell' = true := fun u hu => by rw [List.mem_singleton.1 hu]; rfl
theorem news_sl (W : World) (v : Value) : ∀ j u, [v][j]? = some u → (W.alloc (.cells #[v] 22)).cell? ((⟨W.heap.size, 0, none⟩ : Addr).add j) = some u := fun j u hj => by
 rw [add_at, Nat.zero_add]
 rw [blk_cell (blk_new W (.cells #[v] 22)) j, ← hj]
 cases j with
 | zero => rfl
 | succ j => simp
set_option maxHeartbeats 16000000 in
set_option maxRecDepth 100000 in
theorem tells_calls (A0 : Option Addr) (c0 : Nat) (ls : List (List E)) (s most : Int) (w : World) (hr0 : Kd.C (Kd.slice 32 kE) w A0 ls.length ls) (hc0 : ls.length ≤ c0) (hwf : ∀ l ∈ ls, ∀ e ∈ l, wfE e) :
  Calls Tryz.prog 4 #[.slice A0 ls.length c0, .int .u64 s, .int .i64 most] w fun e w' => e = .returned (.bool true) ∧ Below w.heap.size w w' := by
 have HR0 := Aside0.mk hr0
 have HC0 := Aside0.mk hc0
 have HWF := Aside0.mk hwf
 have HB := Aside0.mk (Below.refl w.heap.size w)
 clear hr0 hc0 hwf
 by_cases h8 : 8 < ls.length
 ·have t0 : decide ((8 : Int) < (ls.length : Int)) = true := decide_eq_true (by omega)
  have t0' : decide (8 < ls.length) = true := decide_eq_true h8
  clear h8
  go_enter Tryz.func4, Tryz.ntmps4
  go_wp2_with (first | (go_at_call 30; refine (alive_calls _).mono ?_; rintro e w9 ⟨rfl, hb⟩; have n0_ := Aside0.mk (below_step HB.out hb); clear HB; have HB := n0_; clear n0_ hb))
  go_ret
  exact ⟨rfl, HB.out⟩
 have t0 : decide ((8 : Int) < (ls.length : Int)) = false := decide_eq_false (by omega)
 have t0' : decide (8 < ls.length) = false := decide_eq_false h8
 have hn8 : ls.length ≤ 8 := by omega
 have HN8 := Aside0.mk hn8
 have hnI : (ls.length : Int) ≤ 8 := by omega
 go_enter Tryz.func4, Tryz.ntmps4
 go_wp2_with (fail)
 clear t0 t0' h8
 go_loopw [7] (fun v7 w' => ∃ i : Nat, v7 = .int .i64 i ∧ i ≤ ls.length ∧ Aside0 (Below w.heap.size w w') ∧ Aside0 (∀ j l, j < i → ls[j]? = some l → okL l)) (fun v7 _ => ls.length - (intOf v7).toNat)
 case atStart => exact ⟨0, rfl, Nat.zero_le _, HB, ⟨fun j l hj => by omega⟩⟩
 case round =>
  clear HB
  obtain ⟨i, rfl, hi, HB, HO⟩ := hrel
  by_cases hlt : i < ls.length
  ·have p0 : (0 : Int) ≤ (i : Int) := Int.natCast_nonneg _
   have q0 : (i : Int) < (ls.length : Int) := Int.ofNat_lt.mpr hlt
   have t1 : decide ((i : Int) < (ls.length : Int)) = true := decide_eq_true q0
   obtain ⟨ad, A', c', e0, hY, hcc, hC⟩ := Hp.lcells HR0.out hlt
   subst e0
   have HY := Aside0.mk hY
   have y0 := hY _ HB.out
   have HL : Aside0 (ls[i]? = some ls[i]) := ⟨List.getElem?_eq_getElem hlt⟩
   have HWL : Aside0 (∀ e ∈ ls[i], wfE e) := ⟨HWF.out _ (List.getElem_mem hlt)⟩
   generalize ls[i] = l at *
   have HSL : Aside0 (Sl w (.slice A' l.length c') l) := ⟨⟨A', c', rfl, hcc, hC⟩⟩
   have HLT := Aside0.mk hlt
   clear hY hcc hC
   obtain ⟨b1, hb1, hq1⟩ := PuSm.Small_ev l (fun e he => ⟨(HWL.out e he).1, (HWL.out e he).2.1⟩)
   have HB1 := Aside0.mk hb1
   clear hb1 hlt
   cases b1
   ·go_wp2_with (first | (go_at_call 9; refine (small_calls (HSL.out.below HB.out) false HB1.out).mono ?_; rintro e w1 ⟨rfl, hb⟩; have n0_ := Aside0.mk (below_step HB.out hb); clear HB y0; have HB := n0_; clear n0_ hb; have y0 := HY.out _ HB.out) | (go_at_call 30; refine (alive_calls _).mono ?_; rintro e w9 ⟨rfl, hb⟩; have n0_ := Aside0.mk (below_step HB.out hb); clear HB; have HB := n0_; clear n0_ hb))
    go_ret
    exact ⟨rfl, HB.out⟩
   ·by_cases h60 : 60 < l.length
    ·have t2 : decide ((60 : Int) < (l.length : Int)) = true := decide_eq_true (by omega)
     have t2' : decide (60 < l.length) = true := decide_eq_true h60
     go_wp2_with (first | (go_at_call 9; refine (small_calls (HSL.out.below HB.out) true HB1.out).mono ?_; rintro e w1 ⟨rfl, hb⟩; have n0_ := Aside0.mk (below_step HB.out hb); clear HB y0; have HB := n0_; clear n0_ hb; have y0 := HY.out _ HB.out) | (go_at_call 30; refine (alive_calls _).mono ?_; rintro e w9 ⟨rfl, hb⟩; have n0_ := Aside0.mk (below_step HB.out hb); clear HB; have HB := n0_; clear n0_ hb))
     go_ret
     exact ⟨rfl, HB.out⟩
    ·have t2 : decide ((60 : Int) < (l.length : Int)) = false := decide_eq_false (by omega)
     have t2' : decide (60 < l.length) = false := decide_eq_false h60
     obtain ⟨o, ho, hq⟩ := PuOrd.Ordered_ev l (fun e he => (HWL.out e he).1) (by omega)
     have HO1 := Aside0.mk ho
     clear ho
     cases o
     ·go_wp2_with (first | (go_at_call 9; refine (small_calls (HSL.out.below HB.out) true HB1.out).mono ?_; rintro e w1 ⟨rfl, hb⟩; have n0_ := Aside0.mk (below_step HB.out hb); clear HB y0; have HB := n0_; clear n0_ hb; have y0 := HY.out _ HB.out) | (go_at_call 31; refine (ordered_calls (HSL.out.below HB.out) false HO1.out).mono ?_; rintro e w2 ⟨rfl, hb⟩; have n0_ := Aside0.mk (below_step HB.out hb); clear HB; have HB := n0_; clear n0_ hb) | (go_at_call 30; refine (alive_calls _).mono ?_; rintro e w9 ⟨rfl, hb⟩; have n0_ := Aside0.mk (below_step HB.out hb); clear HB; have HB := n0_; clear n0_ hb))
      go_ret
      exact ⟨rfl, HB.out⟩
     ·have HSO : Aside0 (okL l) := ⟨⟨by omega, hq rfl⟩⟩
      go_wp2_with (first | (go_at_call 9; refine (small_calls (HSL.out.below HB.out) true HB1.out).mono ?_; rintro e w1 ⟨rfl, hb⟩; have n0_ := Aside0.mk (below_step HB.out hb); clear HB y0; have HB := n0_; clear n0_ hb; have y0 := HY.out _ HB.out) | (go_at_call 31; refine (ordered_calls (HSL.out.below HB.out) true HO1.out).mono ?_; rintro e w2 ⟨rfl, hb⟩; have n0_ := Aside0.mk (below_step HB.out hb); clear HB; have HB := n0_; clear n0_ hb))
      go_roundw
      case rel => exact ⟨i + 1, by go_num, by have := HLT.out; omega, HB, ⟨fun j x hj hx => by
       by_cases e : j = i
       ·subst e
        rw [HL.out] at hx
        obtain rfl := Option.some.inj hx
        exact HSO.out
       ·exact HO.out j x (by omega) hx⟩⟩
      case measure => simp [intOf]; have := HLT.out; omega
  ·obtain rfl : i = ls.length := by omega
   have t1 : decide ((ls.length : Int) < (ls.length : Int)) = false := decide_eq_false (by omega)
   have hok : ∀ l ∈ ls, okL l := fun l hl => by
    obtain ⟨j, hj⟩ := List.mem_iff_getElem?.1 hl
    exact HO.out j l (List.getElem?_eq_some_iff.1 hj).1 hj
   have htot : ls.flatten.length ≤ 480 := by
    have := flatten_len ls 60 (fun l hl => (hok l hl).1)
    omega
   have HF : Aside0 (merge_All.fit ls = true) := ⟨fit_of (by omega) (fun l hl => (hok l hl).2) HWF.out (by omega)⟩
   have HK60 : Aside0 (∀ l ∈ ls, l.length ≤ 60) := ⟨fun l hl => (hok l hl).1⟩
   have HTOT := Aside0.mk htot
   obtain ⟨L, hL⟩ : ∃ L, L = mrg ce ls := ⟨_, rfl⟩
   have hlL : L.length ≤ 480 := by rw [hL]; exact Nat.le_trans (mrg_len ce ls) htot
   obtain ⟨Y, hY⟩ : ∃ Y, Y = lat s (mrg ce ls) [] := ⟨_, rfl⟩
   have hlY : Y.length ≤ 480 := by rw [hY, ← hL]; exact Nat.le_trans (lat_len s L []) hlL
   obtain ⟨X, hX⟩ : ∃ X, X = cutS (mx most 1) [] L := ⟨_, rfl⟩
   have hlX : X.length ≤ 480 := by rw [hX]; exact Nat.le_trans (cutS_len _ L []) hlL
   have HXP : Aside0 (∀ (i : Nat) (h : i < X.length), X[i].length ≤ 480) := ⟨fun i h => by
    have h1 := piece_len (List.getElem_mem h)
    have hfl : X.flatten = L := by rw [hX]; exact cutS_all _ _
    rw [hfl] at h1
    omega⟩
   have HL := Aside0.mk hL
   have HYY := Aside0.mk hY
   have HXX := Aside0.mk hX
   have HLL := Aside0.mk hlL
   have HLY := Aside0.mk hlY
   have HLX := Aside0.mk hlX
   have hXI : (X.length : Int) ≤ 480 := by omega
   clear hok htot hL hY hX HO hi hlt hlL hlY hlX
   go_wp2_with (fail)
   have HP : Aside0 (BkZ w (wr.alloc (.cells #[.slice none 0 0, .slice none 0 0, .slice none 0 0, .slice none 0 0, .slice none 0 0, .slice none 0 0, .slice none 0 0, .slice none 0 0, .slice none 0 0, .slice none 0 0, .slice none 0 0, .slice none 0 0, .slice none 0 0, .slice none 0 0, .slice none 0 0, .slice none 0 0, .slice none 0 0, .slice none 0 0, .slice none 0 0, .slice none 0 0, .slice none 0 0, .slice none 0 0, .slice none 0 0, .slice none 0 0, .slice none 0 0, .slice none 0 0, .slice none 0 0, .slice none 0 0] 56)) wr.heap.size (fun k => k < (wr.alloc (.cells #[.slice none 0 0, .slice none 0 0, .slice none 0 0, .slice none 0 0, .slice none 0 0, .slice none 0 0, .slice none 0 0, .slice none 0 0, .slice none 0 0, .slice none 0 0, .slice none 0 0, .slice none 0 0, .slice none 0 0, .slice none 0 0, .slice none 0 0, .slice none 0 0, .slice none 0 0, .slice none 0 0, .slice none 0 0, .slice none 0 0, .slice none 0 0, .slice none 0 0, .slice none 0 0, .slice none 0 0, .slice none 0 0, .slice none 0 0, .slice none 0 0, .slice none 0 0] 56)).heap.size) (fun k => k < (wr.alloc (.cells #[.slice none 0 0, .slice none 0 0, .slice none 0 0, .slice none 0 0, .slice none 0 0, .slice none 0 0, .slice none 0 0, .slice none 0 0, .slice none 0 0, .slice none 0 0, .slice none 0 0, .slice none 0 0, .slice none 0 0, .slice none 0 0, .slice none 0 0, .slice none 0 0, .slice none 0 0, .slice none 0 0, .slice none 0 0, .slice none 0 0, .slice none 0 0, .slice none 0 0, .slice none 0 0, .slice none 0 0, .slice none 0 0, .slice none 0 0, .slice none 0 0, .slice none 0 0] 56)).heap.size)) := ⟨BkZ.new HB.out _ _⟩
   have HG0 : Aside0 (wr.heap.size < (wr.alloc (.cells #[.slice none 0 0, .slice none 0 0, .slice none 0 0, .slice none 0 0, .slice none 0 0, .slice none 0 0, .slice none 0 0, .slice none 0 0, .slice none 0 0, .slice none 0 0, .slice none 0 0, .slice none 0 0, .slice none 0 0, .slice none 0 0, .slice none 0 0, .slice none 0 0, .slice none 0 0, .slice none 0 0, .slice none 0 0, .slice none 0 0, .slice none 0 0, .slice none 0 0, .slice none 0 0, .slice none 0 0, .slice none 0 0, .slice none 0 0, .slice none 0 0, .slice none 0 0] 56)).heap.size) := ⟨by rw [World.size_alloc]; omega⟩
   obtain ⟨gk, hgk⟩ : ∃ gk, gk = wr.heap.size := ⟨_, rfl⟩
   rw [← hgk] at HP HG0 ⊢
   clear hgk HB
   go_loopw [9] (fun v9 w' => ∃ k : Nat, v9 = .int .i64 k ∧ k ≤ 2 ∧ Aside0 (gk < w'.heap.size) ∧ Aside0 (BkZ w w' gk (fun k => k < w'.heap.size) (fun k => k < w'.heap.size))) (fun v9 _ => 2 - (intOf v9).toNat)
   case atStart => exact ⟨0, rfl, by omega, HG0, HP⟩
   case round =>
    clear HP HG0
    obtain ⟨k, rfl, hk, HG, HP⟩ := hrel
    by_cases hlk : k < 2
    ·have t3 : decide ((k : Int) < 2) = true := decide_eq_true (by omega)
     have HLK := Aside0.mk hlk
     have HW : Aside0 (w.heap.size ≤ wr.heap.size) := ⟨HP.out.bel.size⟩
     obtain ⟨W0, hW0⟩ : ∃ W0, W0 = wr := ⟨_, rfl⟩
     rw [← hW0] at HP HG HW
     have HS : Aside0 (St1 w W0 wr gk none 0 [] (ls.take 0)) := ⟨by rw [← hW0]; exact ⟨HP.out, Rw.nil _ _ _, fun k hk => by simp [Value.ownBlock] at hk, trivial, HP.out.bel, Nat.le_refl _⟩⟩
     clear hW0 HP hlk
     go_wp2_with (fail)
     go_loopw [10, 11] (fun v10 v11 w' => ∃ (i : Nat) (vs : List Value) (A : Option Addr) (c : Nat), v11 = .int .i64 i ∧ v10 = .slice A i c ∧ i ≤ ls.length ∧ Aside0 (St1 w W0 w' gk A c vs (ls.take i))) (fun _ v11 _ => ls.length - (intOf v11).toNat)
     case atStart => exact ⟨0, [], none, 0, rfl, rfl, Nat.zero_le _, HS⟩
     case round =>
      clear HS
      obtain ⟨i, vs, Am, cm, rfl, rfl, hi, HS⟩ := hrel
      by_cases hlt : i < ls.length
      ·have p0 : (0 : Int) ≤ (i : Int) := Int.natCast_nonneg _
       have q0 : (i : Int) < (ls.length : Int) := Int.ofNat_lt.mpr hlt
       have t4 : decide ((i : Int) < (ls.length : Int)) = true := decide_eq_true q0
       obtain ⟨ad, A', c', e0, hY, hcc, hC⟩ := Hp.lcells HR0.out hlt
       subst e0
       have y0 := hY _ HS.out.bel
       have HL60 : Aside0 (ls[i].length ≤ 60) := ⟨HK60.out _ (List.getElem_mem hlt)⟩
       have HTK : Aside0 (ls.take (i + 1) = ls.take i ++ [ls[i]]) := ⟨List.take_succ_eq_append_getElem hlt⟩
       have HTN : Aside0 (i = (ls.take i).length) := ⟨by rw [List.length_take]; omega⟩
       have HTL : Aside0 (i ≤ 8) := ⟨by omega⟩
       generalize ls[i] = l at *
       have HCC := Aside0.mk hcc
       have HC := Aside0.mk hC
       have HLT := Aside0.mk hlt
       clear hY hcc hC hlt
       go_wp2_with (first
        | (go_at_call 32; refine (lentE (Kd.C_below HC.out HS.out.bel) HCC.out (by have := HL60.out; omega)).mono ?_; rintro e w2 ⟨Al, cl, rfl, hle, hb⟩; have HLE : Aside0 (Lv w2 (.slice Al l.length cl) l) := ⟨⟨Al, cl, rfl, hle⟩⟩; clear hle y0; have m0_ := Aside0.mk (HS.out.below hb); clear HS; have HS := m0_; clear m0_ hb)
        | ((with_reducible refine gate_builtin (b := .append) (xs := #[.tmp 64, .tmp 70]) rfl ?_); at_builtin; refine Hp.wp_append_raw rfl (.tmp 64) (.tmp 70) 44 22 (.slice none 0 0) 1 24 rfl Tryz.underlying44 infoS rfl (by decide) (.slice Am i cm) i vs ⟨w2.heap.size, 0, none⟩ 1 1 [.slice Al l.length cl] rfl rfl (by have h_ := HS.out.m.below (below_alloc (Below.refl _ _) (.cells #[.slice Al l.length cl] 22)); rw [← HTN.out] at h_; exact h_) rfl (news_sl w2 _) (enc_sl _ _ _) (by decide) (by have := HTL.out; omega) (by unfold maxLen; have := HTL.out; omega) ?_; intro v1 w3 hr1 hg1 hat1; obtain ⟨A3, c3, rfl, hs3⟩ := HS.out.push HW.out HTN.out HLE.out hr1 hg1 hat1; have HS3 := Aside0.mk hs3; clear hr1 hg1 hat1 hs3))
       go_roundw
       case rel => exact ⟨i + 1, _, A3, c3, by go_num, rfl, by have := HLT.out; omega, ⟨by rw [HTK.out]; exact HS3.out⟩⟩
       case measure => simp [intOf]; have := HLT.out; omega
      ·obtain rfl : i = ls.length := by omega
       have t4 : decide ((ls.length : Int) < (ls.length : Int)) = false := decide_eq_false (by omega)
       rw [List.take_length] at HS
       have hnX : ((X.length : Int) != (X.length : Int)) = false := bne_self_eq_false _
       clear hi hlt
       go_wp2_with (first
        | (go_at_call 33; refine (Lt.all_rw Am cm ls _ (rows_C HS.out.m HS.out.lv.sls rfl) HS.out.mc HF.out L HL.out _ (Below.refl _ _)).mono ?_; rintro e wa ⟨Aa, ca, rfl, hca, hra, hka, hb⟩; have HCA := Aside0.mk hca; have HRA := Aside0.mk hra; have HKA : Aside0 (∀ k, (Value.slice Aa L.length ca).ownBlock = some k → W0.heap.size ≤ k) := ⟨fun k hk => Nat.le_trans HS.out.sz (hka k hk)⟩; clear hca hra hka; have m0_ := Aside0.mk (HS.out.below hb); clear HS; have HS := m0_; clear m0_ hb)
        | (go_at_call 34; refine (lat_rw s (rows_C HS.out.m HS.out.lv.sls rfl) HS.out.mc HF.out Y HYY.out).mono ?_; rintro e wb ⟨Ab, cb_, rfl, hrb, hkb, hb⟩; have HRB := Aside0.mk hrb; have HKB : Aside0 (∀ k, (Value.slice Ab Y.length cb_).ownBlock = some k → W0.heap.size ≤ k) := ⟨fun k hk => Nat.le_trans HS.out.sz (hkb k hk)⟩; clear hrb hkb; have m0_ := Aside0.mk (HS.out.below hb); have m1_ := Aside0.mk (HRA.out.below hb); clear HS HRA; have HS := m0_; have HRA := m1_; clear m0_ m1_ hb)
        | (go_at_call 35; refine (Ra.all12_calls A0 c0 ls _ (Kd.C_below HR0.out HS.out.bel) HC0.out (fun l hl e he => (HWF.out l hl e he).1) (by have := HTOT.out; omega) (by omega)).mono ?_; rintro e wx ⟨v_, rfl, hro, hb⟩; rw [← HL.out] at hro; obtain ⟨Ax, cx, rfl, hcx, hrx, _⟩ := hro; have HCX := Aside0.mk hcx; have HRX : Aside0 (Rw wx 32 4 (.slice Ax L.length cx) L.length (encL encE L)) := ⟨hrx⟩; clear hcx hrx; have m0_ := Aside0.mk (HS.out.below hb); have m1_ := Aside0.mk (HRA.out.below hb); have m2_ := Aside0.mk (HRB.out.below hb); clear HS HRA HRB; have HS := m0_; have HRA := m1_; have HRB := m2_; clear m0_ m1_ m2_ hb)
        | (go_at_call 18; refine (HS.out.keepA HG.out HW.out HRA.out HKA.out (by have := HLL.out; omega)).mono ?_; rintro e wk ⟨rfl, hsa, hst⟩; have HVA : Aside0 (∀ k, (Value.slice Aa L.length ca).ownBlock = some k → k < wk.heap.size) := ⟨fun k hk => (hst.rw_ HRA.out (by decide)).lt k hk⟩; have m1_ := Aside0.mk (hst.rw_ HRA.out (by decide)); have m2_ := Aside0.mk (hst.rw_ HRB.out (by decide)); have m3_ := Aside0.mk (hst.rw_ HRX.out (by decide)); clear HS HRA HRB HRX; have HSA := Aside0.mk hsa; have HRA := m1_; have HRB := m2_; have HRX := m3_; clear m1_ m2_ m3_ hsa hst)
        | (go_at_call 36; refine (HSA.out.keepB HG.out HW.out HVA.out HRB.out (fun k hk => ⟨HKB.out k hk, rw_nn HRA.out HRB.out (by decide) k hk⟩) (by have := HLY.out; omega)).mono ?_; rintro e wp ⟨rfl, hs2, hst⟩; have m1_ := Aside0.mk (hst.rw_ HRA.out (by decide)); have m2_ := Aside0.mk (hst.rw_ HRB.out (by decide)); have m3_ := Aside0.mk (hst.rw_ HRX.out (by decide)); clear HSA HRA HRB HRX; have HT := Aside0.mk hs2; have HRA := m1_; have HRB := m2_; have HRX := m3_; clear m1_ m2_ m3_ hs2 hst)
        | (go_at_call 19; refine (same_calls (Sl.of_rw HRA.out HCA.out) (Sl.of_rw HRX.out HCX.out) (by have := HLL.out; omega)).mono ?_; rintro e ws ⟨rfl, hb⟩; have m0_ := Aside0.mk (HT.out.below hb); have m1_ := Aside0.mk (HRB.out.below hb); have m2_ := Aside0.mk (HRX.out.below hb); clear HT HRB HRX; have HT := m0_; have HRB := m1_; have HRX := m2_; clear m0_ m1_ m2_ hb)
        | (go_at_call 38; refine (rlat_rw s (Kd.C_below HR0.out HT.out.bel) HC0.out HF.out HWF.out Y HYY.out).mono ?_; rintro e wr_ ⟨Ar, cr, rfl, hrr, hb⟩; have HRR := Aside0.mk hrr; clear hrr; have m0_ := Aside0.mk (HT.out.below hb); have m1_ := Aside0.mk (HRB.out.below hb); have m2_ := Aside0.mk (HRX.out.below hb); clear HT HRB HRX; have HT := m0_; have HRB := m1_; have HRX := m2_; clear m0_ m1_ m2_ hb)
        | (go_at_call 37; refine (sameP rfl rfl HRB.out HRR.out (by have := HLY.out; omega)).mono ?_; rintro e w7 ⟨rfl, hb⟩; have m0_ := Aside0.mk (HT.out.below hb); have m1_ := Aside0.mk (HRX.out.below hb); clear HT HRX; have HT := m0_; have HRX := m1_; clear m0_ m1_ hb; have HT7 := HT)
        | (go_at_call 39; refine (cut_calls (Sl.of_rw HRX.out HCX.out) most (by have := HLL.out; omega) X HXX.out).mono ?_; rintro e w8 ⟨Ac, cc, vsc, rfl, hpc, hb⟩; have HPC := Aside0.mk hpc; have H78 := Aside0.mk hb; clear hpc; have m0_ := Aside0.mk (HRX.out.below hb); clear HRX; have HRX := m0_; clear m0_ hb)
        | (go_at_call 40; refine (rcut_calls (Sl.of_rw HRX.out HCX.out) most (by have := HLL.out; omega) X HXX.out).mono ?_; rintro e w9 ⟨Ad, cd, vsd, rfl, hpd, hb⟩; have HPD := Aside0.mk hpd; have H89 := Aside0.mk hb; clear hpd; have m0_ := Aside0.mk (HPC.out.below hb); clear HPC; have HPC := m0_; clear m0_ hb))
       have H79 : Aside0 (Below w7.heap.size w7 w9) := ⟨below_step H78.out H89.out⟩
       have HS3 : Aside0 (St3 w W0 wx w7 w9 w9 gk Am cm vs ls (.slice Ac X.length cc) (.slice Ad X.length cd) X vsc vsd 0) := ⟨(HT7.out.bk.below H79.out).mono (fun k q => .inl q) (fun k _ q => q.imp id .inl), HT7.out.m.below H79.out, HT7.out.mo, HT7.out.lv.below H79.out, HPC.out, HPD.out.lower H78.out.size, fun k hk => HPC.out.row.lt k hk, fun k hk => HPD.out.row.lt k hk, below_step HT7.out.bel H79.out, HT7.out.sz.1, HT7.out.sz.2, H79.out.size, Nat.le_refl _⟩
       clear HT7 H79 H78 H89 HPC HPD HRX HCX HCA HRA HRB HKA HKB HVA HRR HT
       go_loopw [17] (fun v17 w' => ∃ i : Nat, v17 = .int .i64 i ∧ i ≤ X.length ∧ Aside0 (St3 w W0 wx w7 w9 w' gk Am cm vs ls (.slice Ac X.length cc) (.slice Ad X.length cd) X vsc vsd i)) (fun v17 _ => X.length - (intOf v17).toNat)
       case atStart => exact ⟨0, rfl, Nat.zero_le _, HS3⟩
       case round =>
        clear HS3
        obtain ⟨i, rfl, hi, HS3⟩ := hrel
        by_cases hlt : i < X.length
        ·have p0 : (0 : Int) ≤ (i : Int) := Int.natCast_nonneg _
         have q0 : (i : Int) < (X.length : Int) := Int.ofNat_lt.mpr hlt
         have t5 : decide ((i : Int) < (X.length : Int)) = true := decide_eq_true q0
         obtain ⟨A', c', hu, hcall⟩ := HS3.out.keep HG.out hlt (by have := HXP.out i hlt; omega)
         have HXI : Aside0 (X[i]? = some X[i]) := ⟨List.getElem?_eq_getElem hlt⟩
         obtain ⟨u', hu'⟩ : ∃ u', vsd[i]? = some u' := ⟨_, List.getElem?_eq_getElem (by rw [HS3.out.pd.ln]; exact hlt)⟩
         obtain ⟨ad, e0, y0⟩ := row_cell HS3.out.pc.row hu
         subst e0
         have HXL : Aside0 (X[i].length ≤ 480) := ⟨HXP.out i hlt⟩
         generalize X[i] = x at *
         have HU := Aside0.mk hu
         have HU' := Aside0.mk hu'
         have HCL := Aside0.mk hcall
         have HLT := Aside0.mk hlt
         clear hu hu' hcall hlt
         go_wp2_with (first
          | (go_at_call 18; refine HCL.out.mono ?_; rintro e wk ⟨rfl, hs3⟩; clear HS3 y0; have HS3 := Aside0.mk hs3; clear hs3; obtain ⟨ad1, e1, y0⟩ := row_cell HS3.out.pc.row HU.out; obtain rfl := Option.some.inj e1; obtain ⟨ad2, e2, z0⟩ := row_cell HS3.out.pd.row HU'.out; subst e2))
         obtain ⟨uc, huc⟩ : ∃ uc, uc = Value.slice A' x.length c' := ⟨_, rfl⟩
         rw [← huc] at y0 HU
         clear huc
         have HCEL : Aside0 (∀ V, Below wk.heap.size wk V → V.cell? (ad.add i) = some uc ∧ V.cell? (ad2.add i) = some u') := ⟨fun V hV => ⟨pw_cell_below hV y0, pw_cell_below hV z0⟩⟩
         have HSAME : Aside0 (∀ V, Below wk.heap.size wk V → Calls Tryz.prog 19 #[uc, u'] V fun e w' => e = .returned (.bool true) ∧ Below V.heap.size V w') := ⟨fun V hV => same_calls ((HS3.out.pc.below hV).sl HU.out HXI.out) ((HS3.out.pd.below hV).sl HU'.out HXI.out) (by have := HXL.out; omega)⟩
         have HBK := Aside0.mk (Below.refl wk.heap.size wk)
         clear y0 z0
         go_region_held3 (fun V => V.cell? (ad.add i) = some uc ∧ V.cell? (ad2.add i) = some u') (exact HCEL.out _ (by repeat (first | exact HBK.out | apply below_drew1 | apply pw_below_drewN))) (first
          | (go_at_call 19; refine (HSAME.out _ (by repeat (first | exact HBK.out | apply below_drew1 | apply pw_below_drewN))).mono ?_; rintro e wq ⟨rfl, hb⟩; have n0_ := Aside0.mk (below_step (by repeat (first | exact HBK.out | apply below_drew1 | apply pw_below_drewN)) hb); clear HBK hb; have HBK := n0_; clear n0_))
         all_goals
          go_wp2_with (fail)
          go_roundw
          case rel => exact ⟨i + 1, by go_num, by have := HLT.out; omega, ⟨HS3.out.below HBK.out⟩⟩
          case measure => simp [intOf]; have := HLT.out; omega
        ·obtain rfl : i = X.length := by omega
         have t5 : decide ((X.length : Int) < (X.length : Int)) = false := decide_eq_false (by omega)
         clear hi hlt
         obtain ⟨W8, hW8⟩ : ∃ W8, W8 = wr := ⟨_, rfl⟩
         have HB8 : Aside0 (Below W8.heap.size W8 wr) := ⟨by rw [hW8]; exact Below.refl _ _⟩
         rw [← hW8] at HS3
         clear hW8
         go_wp2_with (fail)
         go_loopw [18] (fun v18 w' => ∃ i : Nat, v18 = .int .i64 i ∧ i ≤ ls.length ∧ Aside0 (Below W8.heap.size W8 w')) (fun v18 _ => ls.length - (intOf v18).toNat)
         case atStart => exact ⟨0, rfl, Nat.zero_le _, HB8⟩
         case round =>
          clear HB8
          obtain ⟨i, rfl, hi, HB8⟩ := hrel
          by_cases hlt : i < ls.length
          ·have p0 : (0 : Int) ≤ (i : Int) := Int.natCast_nonneg _
           have q0 : (i : Int) < (ls.length : Int) := Int.ofNat_lt.mpr hlt
           have t6 : decide ((i : Int) < (ls.length : Int)) = true := decide_eq_true q0
           obtain ⟨ad, A', c', e0, hY, hcc, hC⟩ := Hp.lcells HR0.out hlt
           subst e0
           have y0 := hY _ (below_step HS3.out.bel HB8.out)
           obtain ⟨v, hv, Al, cl, rfl, hle⟩ := HS3.out.lv.at_ i _ (List.getElem?_eq_getElem hlt)
           obtain ⟨ad2, e2, z0⟩ := row_cell (HS3.out.m.below HB8.out) hv
           subst e2
           have HL60 : Aside0 (ls[i].length ≤ 60) := ⟨HK60.out _ (List.getElem_mem hlt)⟩
           generalize ls[i] = l at *
           have HLE := Aside0.mk hle
           have HCC := Aside0.mk hcc
           have HC := Aside0.mk hC
           have HLT := Aside0.mk hlt
           clear hY hcc hC hv hle hlt
           go_wp2_with (fail)
           obtain ⟨W9, hW9⟩ : ∃ W9, W9 = wr := ⟨_, rfl⟩
           have HCEL : Aside0 (∀ V, Below wr.heap.size wr V → V.cell? (ad.add i) = some (.slice A' l.length c') ∧ V.cell? (ad2.add i) = some (.slice Al l.length cl)) := ⟨fun V hV => ⟨pw_cell_below hV y0, pw_cell_below hV z0⟩⟩
           have HSTAY : Aside0 (∀ V, Below wr.heap.size wr V → Calls Tryz.prog 41 #[.slice Al l.length cl, .slice A' l.length c'] V fun e w' => e = .returned (.bool true) ∧ Below V.heap.size V w') := ⟨fun V hV => staysE (HLE.out.below (below_step HB8.out hV)) (Kd.C_below HC.out (below_step HS3.out.bel (below_step HB8.out hV))) HCC.out (by have := HL60.out; omega)⟩
           have HBK := Aside0.mk (Below.refl wr.heap.size wr)
           rw [← hW9] at HCEL HSTAY HBK HB8 ⊢
           clear y0 z0 hW9
           go_region_held3 (fun V => V.cell? (ad.add i) = some (.slice A' l.length c') ∧ V.cell? (ad2.add i) = some (.slice Al l.length cl)) (exact HCEL.out _ (by repeat (first | exact HBK.out | apply below_drew1 | apply pw_below_drewN))) (first
            | (go_at_call 41; refine (HSTAY.out _ (by repeat (first | exact HBK.out | apply below_drew1 | apply pw_below_drewN))).mono ?_; rintro e wq ⟨rfl, hb⟩; have n0_ := Aside0.mk (below_step (by repeat (first | exact HBK.out | apply below_drew1 | apply pw_below_drewN)) hb); clear HBK hb; have HBK := n0_; clear n0_))
           all_goals
            go_wp2_with (fail)
            go_roundw
            case rel => exact ⟨i + 1, by go_num, by have := HLT.out; omega, ⟨below_step HB8.out HBK.out⟩⟩
            case measure => simp [intOf]; have := HLT.out; omega
          ·obtain rfl : i = ls.length := by omega
           have t6 : decide ((ls.length : Int) < (ls.length : Int)) = false := decide_eq_false (by omega)
           have HFIN : Aside0 (gk < wr.heap.size ∧ BkZ w wr gk (fun k => k < wr.heap.size) (fun k => k < wr.heap.size)) := ⟨by
            have h1 := HS3.out.s1
            have h2 := HS3.out.s2
            have h3 := HS3.out.s3
            have h4 := HS3.out.s4
            have h5 := HB8.out.size
            have h6 := HG.out
            refine ⟨by omega, (HS3.out.bk.below HB8.out).mono (fun k q => ?_) (fun k hk q => hk)⟩
            rcases q with q | ⟨j, u, _, hu, hk⟩
            ·omega
            ·have hjx : j < X.length := by rw [← HS3.out.pc.ln]; exact (List.getElem?_eq_some_iff.1 hu).1
             obtain ⟨A, c, rfl, _, hr, _⟩ := HS3.out.pc.el j u _ hu (List.getElem?_eq_getElem hjx)
             have := hr.lt k hk
             omega⟩
           clear hi hlt
           go_wp2_with (fail)
           go_roundw
           case rel => exact ⟨k + 1, by go_num, by have := HLK.out; omega, ⟨HFIN.out.1⟩, ⟨HFIN.out.2⟩⟩
           case measure => simp [intOf]; have := HLK.out; omega
    ·obtain rfl : k = 2 := by omega
     have t3 : decide (((2 : Nat) : Int) < 2) = false := decide_eq_false (by omega)
     have t3' : decide ((2 : Int) < 2) = false := decide_eq_false (by omega)
     have HB := Aside0.mk HP.out.bel
     go_wp2_with (first
      | (go_at_call 30; refine (alive_calls _).mono ?_; rintro e w9 ⟨rfl, hb⟩; have n0_ := Aside0.mk (HP.out.below hb); clear HP hb HB; have HP := n0_; clear n0_)
      | (go_at_call 29; refine (HP.out.toX.apart).mono ?_; rintro e w8 ⟨rfl, hb⟩; have HB := Aside0.mk hb; clear hb))
     go_ret
     exact ⟨rfl, HB.out⟩
end Go.Proofs.YtchgpcgolgcfdaaGreat.Tw
end
section
namespace Go.Proofs.YtchgpcgolgcfdaaGreat.PNum
open Go.RowKit Go.Proofs.YtchgpcgolgcfdaaGreatW.PrintWords Go.Proofs.YtchgpcgolgcfdaaGreatW.PrintLast Go.Proofs.YtchgpcgolgcfdaaGreatW.PrintMore
attribute [local go_sem] max2_int min2_int max_two min_two max_three min_three max_four min_four   -- for this text's walks alone
set_option linter.unusedVariables false
set_option linter.unusedSimpArgs false
def cornucopialaw14_MergeTells.wf (l : List S32) : Bool := l.all fun e => decide (e.f0.size ≤ 140737488351232 ∧ e.f3.size ≤ 140737488351232) && (Lit.int .u64 e.f1).wf
theorem cornucopialaw14_MergeTells.wf_iff (l : List S32) : cornucopialaw14_MergeTells.wf l = true ↔ ∀ e ∈ l, Go.Proofs.YtchgpcgolgcfdaaGreat.Mw.wfE e := by
 unfold cornucopialaw14_MergeTells.wf
 rw [List.all_eq_true]
 refine forall_congr' fun e => forall_congr' fun he => ?_
 simp only [Bool.and_eq_true, decide_eq_true_eq, and_assoc]
 rfl
def cornucopialaw14_MergeTells.f (l0 : List (List S32)) (a1 a2 : Int) : Option Bool := if l0.all cornucopialaw14_MergeTells.wf = true then some true else none
theorem cornucopialaw14_MergeTells.calls (A0 : Option Addr) (c0 : Nat) (l0 : List (List S32)) (a1 a2 : Int) (r : Bool) (w : World)
  (hr0 : Kd.C (Kd.slice 32 k32) w A0 l0.length l0) (hc0 : l0.length ≤ c0) (h : cornucopialaw14_MergeTells.f l0 a1 a2 = some r) :
  Calls Tryz.prog 4 #[.slice A0 l0.length c0, .int .u64 a1, .int .i64 a2] w fun e w' => e = .returned (.bool r) ∧ Below w.heap.size w w' := by
 unfold cornucopialaw14_MergeTells.f at h
 split at h
 case isFalse => cases h
 case isTrue hg =>
 obtain rfl : true = r := Option.some.inj h
 exact Go.Proofs.YtchgpcgolgcfdaaGreat.Tw.tells_calls A0 c0 l0 a1 a2 w hr0 hc0 (fun l hl => (cornucopialaw14_MergeTells.wf_iff l).1 (List.all_eq_true.1 hg l hl))
def cornucopialaw14_MergeTells.Pure : Prop := ∀ (l0 : List (List (S32))) (a1 : Int) (a2 : Int), l0.length * 24 ≤ 140737488351232 → (∀ x_ ∈ l0, x_.length * 48 ≤ 140737488351232 ∧ ∀ x__ ∈ x_, wfS32 x__) → (Lit.int .u64 a1).wf = true → (Lit.int .i64 a2).wf = true → cornucopialaw14_MergeTells.f l0 a1 a2 = some true
theorem cornucopialaw14_MergeTells.walk (P : cornucopialaw14_MergeTells.Pure) (A0 : Option Addr) (c0 : Nat) (l0 : List (List (S32))) (a1 : Int) (a2 : Int) (w : World) (hr0 : Kd.C (Kd.slice 32 k32) w A0 l0.length l0) (hc0 : l0.length ≤ c0) (w0_0 : l0.length * 24 ≤ 140737488351232) (w0_1 : (∀ x_ ∈ l0, x_.length * 48 ≤ 140737488351232 ∧ ∀ x__ ∈ x_, wfS32 x__)) (w1_0 : (Lit.int .u64 a1).wf = true) (w2_0 : (Lit.int .i64 a2).wf = true) :
  Calls Tryz.prog 4 #[.slice A0 l0.length c0, .int .u64 a1, .int .i64 a2] w fun e w' => e = .returned (.bool true) ∧ Below w.heap.size w w' := by
 have h := P l0 a1 a2 w0_0 w0_1 w1_0 w2_0
 refine (cornucopialaw14_MergeTells.calls _ _ l0 a1 a2 true w hr0 hc0 h).mono ?_
 rintro e w' ⟨rfl, hd⟩
 exact ⟨rfl, hd⟩
end Go.Proofs.YtchgpcgolgcfdaaGreat.PNum
end
section
namespace Go.Proofs.YtchgpcgolgcfdaaGreat.Pure
open Go Go.RowKit Go.Proofs.YtchgpcgolgcfdaaGreat.PNum
theorem MergeTells : cornucopialaw14_MergeTells.Pure := by
 intro l0 a1 a2 _ h0 _ _
 unfold cornucopialaw14_MergeTells.f
 exact if_pos (List.all_eq_true.2 fun l hl => (cornucopialaw14_MergeTells.wf_iff l).2 fun e he => ⟨((h0 l hl).2 e he).1, ((h0 l hl).2 e he).2.2.2, ((h0 l hl).2 e he).2.1⟩)
end Go.Proofs.YtchgpcgolgcfdaaGreat.Pure
end
