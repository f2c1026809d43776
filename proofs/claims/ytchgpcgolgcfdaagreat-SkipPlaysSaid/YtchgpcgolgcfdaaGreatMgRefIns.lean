/- Texts of this claim, put together and cut down to what is used (RefIns). -/
import Derived.Deep.RegionHeld3
import Derived.BigRegion
import Derived.Test.YtchgpcgolgcfdaaGreatMgBkW
import Derived.Test.YtchgpcgolgcfdaaGreatMgPuLess
import Derived.Test.YtchgpcgolgcfdaaGreatMgPNumx12
section
namespace Go.Proofs.YtchgpcgolgcfdaaGreat.RefIns
open Go Go.RowKit Go.Proofs.YtchgpcgolgcfdaaGreat.PNum Go.Proofs.YtchgpcgolgcfdaaGreat.BkW Go.Proofs.YtchgpcgolgcfdaaGreat.PuIkC Go.Proofs.YtchgpcgolgcfdaaGreat.PuLess Go.Proofs.YtchgpcgolgcfdaaGreatW.PrintWords Go.Proofs.YtchgpcgolgcfdaaGreatW.PrintLast Go.Proofs.YtchgpcgolgcfdaaGreatW.PrintMore Go.Proofs.YtchgpcgolgcfdaaGreatW.Pu
set_option linter.unusedVariables false
set_option linter.unusedSimpArgs false
def encE (x : E) : List Value := [.string x.f0, .int .u64 x.f1, .int .i64 x.f2, .string x.f3]
theorem flatE : Flat k32 encE := ⟨fun _ => rfl, fun h => k32_openM h, fun w x => k32_mk w x, fun h => k32_open h⟩
def insL (e : E) : List E → List E
  | [] => [e]
  | x :: r => if ce x e < 0 then x :: insL e r else if ce x e = 0 then x :: r else e :: x :: r
def insB (e : E) : List E → Bool
  | [] => true
  | x :: r => if ce x e < 0 then insB e r else decide (ce x e ≠ 0)
def pos (e : E) : List E → Nat
  | [] => 0
  | x :: r => if ce x e < 0 then pos e r + 1 else 0
theorem pos_le (e : E) : ∀ l : List E, pos e l ≤ l.length
  | [] => Nat.le_refl _
  | x :: r => by
    rw [pos]
    split
    · have := pos_le e r
      simpa using this
    · exact Nat.zero_le _
theorem pos_lt (e : E) : ∀ (l : List E) (j : Nat) (x : E), l[j]? = some x → j < pos e l → ce x e < 0
  | [], j, x, h, _ => by simp at h
  | y :: r, j, x, h, hj => by
    rw [pos] at hj
    split at hj
    · cases j with
      | zero =>
        have : y = x := by simpa using h
        subst this
        assumption
      | succ j => exact pos_lt e r j x (by simpa using h) (by omega)
    · omega
theorem pos_at (e : E) : ∀ (l : List E) (x : E), l[pos e l]? = some x → ¬ ce x e < 0
  | [], x, h => by simp at h
  | y :: r, x, h => by
    rw [pos] at h
    split at h
    · exact pos_at e r x (by simpa using h)
    · have : y = x := by simpa using h
      subst this
      assumption
theorem ins_yes (e : E) : ∀ (l : List E), insB e l = true → insL e l = l.take (pos e l) ++ e :: l.drop (pos e l)
  | [], _ => rfl
  | x :: r, h => by
    rw [insB] at h
    rw [insL, pos]
    split
    · rename_i h1
      rw [if_pos h1] at h
      rw [ins_yes e r h]
      rfl
    · rename_i h1
      rw [if_neg h1] at h
      rw [if_neg (of_decide_eq_true h)]
      rfl
theorem ins_no (e : E) : ∀ (l : List E), insB e l = false → insL e l = l ∧ ∃ x, l[pos e l]? = some x ∧ ce x e = 0
  | [], h => by cases h
  | x :: r, h => by
    rw [insB] at h
    rw [insL, pos]
    split
    · rename_i h1
      rw [if_pos h1] at h
      obtain ⟨h2, y, h3, h4⟩ := ins_no e r h
      exact ⟨by rw [h2], y, by simpa using h3, h4⟩
    · rename_i h1
      rw [if_neg h1] at h
      have h2 : ce x e = 0 := by simpa using h
      rw [if_pos h2]
      exact ⟨rfl, x, rfl, h2⟩
theorem ins_hit (e : E) : ∀ (l : List E), insB e l = true → ∀ x, l[pos e l]? = some x → ce x e ≠ 0
  | [], _, x, h => by simp at h
  | y :: r, h, x, hx => by
    rw [insB] at h
    rw [pos] at hx
    split at hx
    · rename_i h1
      rw [if_pos h1] at h
      exact ins_hit e r h x (by simpa using hx)
    · rename_i h1
      rw [if_neg h1] at h
      have : y = x := by simpa using hx
      subst this
      exact of_decide_eq_true h
theorem infoE : (Tryz.prog.info? 32).map (fun i => (i.zero, i.size, i.bytes)) = some (some (.agg #[.string ⟨#[]⟩, .int .u64 0, .int .i64 0, .string ⟨#[]⟩]), 4, 48) := by kernel_rfl
def Ask (V : World) (ad : Addr) (m : Nat) (x : E) (eb : Nat) (e : E) : Prop := V.cell? (ad.add m) = some (.string x.f0) ∧ V.cell? ⟨(ad.add m).block, (ad.add m).off + 1, none⟩ = some (.int .u64 x.f1) ∧ V.cell? ⟨(ad.add m).block, (ad.add m).off + 2, none⟩ = some (.int .i64 x.f2) ∧ V.cell? ⟨(ad.add m).block, (ad.add m).off + 3, none⟩ = some (.string x.f3) ∧ V.cell? ⟨eb, 0, none⟩ = some (.string e.f0) ∧ V.cell? ⟨eb, 1, none⟩ = some (.int .u64 e.f1) ∧ V.cell? ⟨eb, 2, none⟩ = some (.int .i64 e.f2) ∧ V.cell? ⟨eb, 3, none⟩ = some (.string e.f3)
theorem Ask.below {V V1 : World} {ad : Addr} {m eb : Nat} {x e : E} (h : Ask V ad m x eb e) (hb : Below V.heap.size V V1) : Ask V1 ad m x eb e := by
  obtain ⟨a, b, c, d, a', b', c', d'⟩ := h
  exact ⟨pw_cell_below hb a, pw_cell_below hb b, pw_cell_below hb c, pw_cell_below hb d, pw_cell_below hb a', pw_cell_below hb b', pw_cell_below hb c', pw_cell_below hb d'⟩
theorem Ask.mk_ {V : World} {A : Option Addr} {l : List E} {k eb : Nat} {e : E} (hC : Kd.C k32 V A l.length l) (hk : k < l.length) (hX : V.heap[eb]? = some (.cells #[.string e.f0, .int .u64 e.f1, .int .i64 e.f2, .string e.f3] 32 (0, 0))) : ∃ ad, A = some ad ∧ Ask V ad (k * 4) l[k] eb e := by
  obtain ⟨ad, e0, y0, y1, y2, y3⟩ := at_T32 hC (k : Int) (Int.natCast_nonneg _) (Int.ofNat_lt.mpr hk)
  have hx : rd_T32 l (k : Int) = l[k] := by simp [rd_T32, hk]
  rw [hx] at y0 y1 y2 y3
  simp only [Int.toNat_natCast] at y0 y1 y2 y3
  exact ⟨ad, e0, y0, y1, y2, y3, (blk_cell hX 0).trans rfl, (blk_cell hX 1).trans rfl, (blk_cell hX 2).trans rfl, (blk_cell hX 3).trans rfl⟩
theorem rw_box (V : World) (e : E) : Rw (V.alloc (.cells #[.string e.f0, .int .u64 e.f1, .int .i64 e.f2, .string e.f3] 32)) 32 4 (.slice (some ⟨V.heap.size, 0, none⟩) 1 1) 1 (encL encE [e]) :=
  ⟨rfl, .inr ⟨V.heap.size, 0, 1, _, rfl, blk_new V _, Nat.le_refl _, by unfold maxLen; omega, by simp, rfl⟩⟩
theorem fresh_of {v1 : Value} {W : World} {n m N : Nat} (hat : (∃ A' c', (Value.slice none 0 0) = .slice A' n c' ∧ v1 = .slice A' m c') ∨ ∃ b, v1.ownBlock = some b ∧ W.heap.size ≤ b) (hN : N ≤ W.heap.size) : ∀ q, v1.ownBlock = some q → N ≤ q := fun q hq => by
  rcases hat with ⟨A', c', h1, h2⟩ | ⟨b, hb, hle⟩
  · injection h1 with h1 _ _
    subst h1; subst h2
    simp [Value.ownBlock] at hq
  · rw [hb] at hq
    injection hq with hq
    omega
theorem fresh_step {v v1 : Value} {W : World} {n m N : Nat} (hat : (∃ A' c', v = .slice A' n c' ∧ v1 = .slice A' m c') ∨ ∃ b, v1.ownBlock = some b ∧ W.heap.size ≤ b) (h0 : ∀ q, v.ownBlock = some q → N ≤ q) (hN : N ≤ W.heap.size) : ∀ q, v1.ownBlock = some q → N ≤ q := fun q hq => by
  rcases hat with ⟨A', c', h1, h2⟩ | ⟨b, hb, hle⟩
  · subst h1; subst h2
    exact h0 q ((own_sl A' n c' m c').trans hq)
  · rw [hb] at hq
    injection hq with hq
    omega
set_option maxHeartbeats 8000000 in
set_option maxRecDepth 100000 in
theorem insert_calls (w : World) (A : Option Addr) (c : Nat) (l : List E) (e : E) (hC : Kd.C k32 w A l.length l) (hc : l.length ≤ c) (hl : l.length ≤ 1000000) (hs : ∀ x ∈ l, x.f0.size ≤ 140737488351232) (he : e.f0.size ≤ 140737488351232) :
    Calls Tryz.prog 13 #[.slice A l.length c, .agg #[.string e.f0, .int .u64 e.f1, .int .i64 e.f2, .string e.f3]] w fun ee w' => Below w.heap.size w w' ∧ ((insB e l = false ∧ ee = .returned (.tuple #[.slice A l.length c, .bool false])) ∨ (insB e l = true ∧ ∃ A' c', ee = .returned (.tuple #[.slice A' (insL e l).length c', .bool true]) ∧ Rw w' 32 4 (.slice A' (insL e l).length c') (insL e l).length (encL encE (insL e l)) ∧ ∀ k, (Value.slice A' (insL e l).length c').ownBlock = some k → w.heap.size ≤ k)) := by
  have HC := Aside0.mk hC
  have HCC := Aside0.mk hc
  have HL := Aside0.mk hl
  have HS := Aside0.mk hs
  have HE := Aside0.mk he
  have hlen : l.length ≤ 9223372036854775807 := by omega
  clear hC hc hs he
  go_enter Tryz.func13, Tryz.ntmps13
  go_wp2_with (fail)
  have HX : Aside0 ((w.alloc (.cells #[.string e.f0, .int .u64 e.f1, .int .i64 e.f2, .string e.f3] 32)).heap[w.heap.size]? = some (.cells #[.string e.f0, .int .u64 e.f1, .int .i64 e.f2, .string e.f3] 32 (0, 0))) := ⟨blk_new w _⟩
  have HB := Aside0.mk (below_alloc (Below.refl w.heap.size w) (.cells #[.string e.f0, .int .u64 e.f1, .int .i64 e.f2, .string e.f3] 32))
  obtain ⟨eb, heb⟩ : ∃ eb, eb = w.heap.size := ⟨_, rfl⟩
  rw [← heb] at HX ⊢
  have HEB : Aside0 (w.heap.size ≤ eb) := ⟨by omega⟩
  clear heb
  go_loopw [6] (fun v6 w' => ∃ k : Nat, v6 = .int .i64 k ∧ k ≤ pos e l ∧ Aside0 (w'.heap[eb]? = some (.cells #[.string e.f0, .int .u64 e.f1, .int .i64 e.f2, .string e.f3] 32 (0, 0))) ∧ Aside0 (Below w.heap.size w w')) (fun v6 _ => l.length - (intOf v6).toNat)
  case atStart => exact ⟨0, rfl, Nat.zero_le _, HX, HB⟩
  case round =>
    clear HX HB
    obtain ⟨k, rfl, hk, HX, HB⟩ := hrel
    have hpl := pos_le e l
    have HCR := Aside0.mk (Kd.C_below HC.out HB.out)
    by_cases hlt : k < l.length
    · have p0 : (0 : Int) ≤ (k : Int) := Int.natCast_nonneg _
      have q0 : (k : Int) < (l.length : Int) := Int.ofNat_lt.mpr hlt
      have t0 : decide ((k : Int) < (l.length : Int)) = true := decide_eq_true q0
      obtain ⟨ad, ea, hask⟩ := Ask.mk_ HCR.out hlt HX.out
      subst ea
      have HPA : Aside0 (¬ k < pos e l → ¬ ce l[k] e < 0) := ⟨fun hn => pos_at e l _ (by rw [show pos e l = k from by omega]; exact List.getElem?_eq_getElem hlt)⟩
      have HPL : Aside0 (k < pos e l → ce l[k] e < 0) := ⟨fun h => pos_lt e l k _ (List.getElem?_eq_getElem hlt) h⟩
      obtain ⟨kk, hkk⟩ := RefCompare_ev l[k] e (HS.out _ (List.getElem_mem hlt)) HE.out
      have HKK := Aside0.mk (hkk kk (Nat.le_refl _))
      have HLK := Aside0.mk (List.getElem?_eq_getElem hlt)
      have HASK := Aside0.mk hask
      have hlt' : k < l.length := hlt
      clear hkk hask
      generalize l[k] = x at *
      have HPK := Aside0.mk hpl
      clear hpl
      by_cases hkp : k < pos e l
      · have hce := HPL.out hkp
        have u0 : decide (ce x e < 0) = true := decide_eq_true hce
        have HKP := Aside0.mk hkp
        have HCE := Aside0.mk hce
        clear hkp hce
        generalize ce x e = r at *
        go_wp2_with (fail)
        go_region_held3 (fun V => V.cell? (ad.add (k * 4)) = some (.string x.f0) ∧ V.cell? ⟨(ad.add (k * 4)).block, (ad.add (k * 4)).off + 1, none⟩ = some (.int .u64 x.f1) ∧ V.cell? ⟨(ad.add (k * 4)).block, (ad.add (k * 4)).off + 2, none⟩ = some (.int .i64 x.f2) ∧ V.cell? ⟨(ad.add (k * 4)).block, (ad.add (k * 4)).off + 3, none⟩ = some (.string x.f3) ∧ V.cell? ⟨eb, 0, none⟩ = some (.string e.f0) ∧ V.cell? ⟨eb, 1, none⟩ = some (.int .u64 e.f1) ∧ V.cell? ⟨eb, 2, none⟩ = some (.int .i64 e.f2) ∧ V.cell? ⟨eb, 3, none⟩ = some (.string e.f3)) (first | exact HASK.out | exact HASK.out.below (below_drew (Below.refl _ _)) | exact (HASK.out.below (below_drew (Below.refl _ _))).below hb) (first | (go_at_call 48; refine (cornucopiaref5_Compare.calls kk x.f0 x.f1 x.f2 x.f3 e.f0 e.f1 e.f2 e.f3 r _ HKK.out).mono ?_; rintro ee w3 ⟨rfl, hb⟩))
        go_wp2_with (fail)
        go_roundw
        case rel => exact ⟨k + 1, by go_num, by have := HKP.out; omega, ⟨blk_below (blk_drew HX.out) hb⟩, ⟨below_step (below_drew HB.out) hb⟩⟩
        case measure => simp [intOf]; omega
      · have hce := HPA.out hkp
        have u0 : decide (ce x e < 0) = false := decide_eq_false hce
        have HKE : Aside0 (k = pos e l) := ⟨by omega⟩
        have HCE := Aside0.mk hce
        have HINB : Aside0 (insB e l = decide (ce x e ≠ 0)) := ⟨by
          have h1 := HLK.out
          rw [HKE.out] at h1
          cases hb : insB e l with
          | true => exact (decide_eq_true (ins_hit e l hb x h1)).symm
          | false =>
            obtain ⟨_, y, h2, h3⟩ := ins_no e l hb
            rw [h1] at h2
            injection h2 with h2
            subst h2
            simp [h3]⟩
        clear hkp hce HPL HPA
        generalize ce x e = r at *
        go_wp2_with (fail)
        go_region_held3 (fun V => V.cell? (ad.add (k * 4)) = some (.string x.f0) ∧ V.cell? ⟨(ad.add (k * 4)).block, (ad.add (k * 4)).off + 1, none⟩ = some (.int .u64 x.f1) ∧ V.cell? ⟨(ad.add (k * 4)).block, (ad.add (k * 4)).off + 2, none⟩ = some (.int .i64 x.f2) ∧ V.cell? ⟨(ad.add (k * 4)).block, (ad.add (k * 4)).off + 3, none⟩ = some (.string x.f3) ∧ V.cell? ⟨eb, 0, none⟩ = some (.string e.f0) ∧ V.cell? ⟨eb, 1, none⟩ = some (.int .u64 e.f1) ∧ V.cell? ⟨eb, 2, none⟩ = some (.int .i64 e.f2) ∧ V.cell? ⟨eb, 3, none⟩ = some (.string e.f3)) (first | exact HASK.out | exact HASK.out.below (below_drew (Below.refl _ _)) | exact (HASK.out.below (below_drew (Below.refl _ _))).below hb) (first | (go_at_call 48; refine (cornucopiaref5_Compare.calls kk x.f0 x.f1 x.f2 x.f3 e.f0 e.f1 e.f2 e.f3 r _ HKK.out).mono ?_; rintro ee w3 ⟨rfl, hb⟩))
        have HXV := Aside0.mk (blk_below (blk_drew HX.out) hb)
        have HBV := Aside0.mk (below_step (below_drew HB.out) hb)
        have HASK3 := Aside0.mk ((HASK.out.below (below_drew (Below.refl _ _))).below hb)
        clear hb HX HB HASK HCR
        by_cases hr0 : r = 0
        · have u1 : (r == 0) = true := beq_iff_eq.mpr hr0
          have HNB : Aside0 (insB e l = false) := ⟨by rw [HINB.out, hr0]; rfl⟩
          clear hr0 HINB
          go_wp2_with (fail)
          go_region_held3 (fun V => V.cell? (ad.add (k * 4)) = some (.string x.f0) ∧ V.cell? ⟨(ad.add (k * 4)).block, (ad.add (k * 4)).off + 1, none⟩ = some (.int .u64 x.f1) ∧ V.cell? ⟨(ad.add (k * 4)).block, (ad.add (k * 4)).off + 2, none⟩ = some (.int .i64 x.f2) ∧ V.cell? ⟨(ad.add (k * 4)).block, (ad.add (k * 4)).off + 3, none⟩ = some (.string x.f3) ∧ V.cell? ⟨eb, 0, none⟩ = some (.string e.f0) ∧ V.cell? ⟨eb, 1, none⟩ = some (.int .u64 e.f1) ∧ V.cell? ⟨eb, 2, none⟩ = some (.int .i64 e.f2) ∧ V.cell? ⟨eb, 3, none⟩ = some (.string e.f3)) (first | exact HASK3.out | exact HASK3.out.below (below_drew (Below.refl _ _)) | exact (HASK3.out.below (below_drew (Below.refl _ _))).below hb) (first | (go_at_call 48; refine (cornucopiaref5_Compare.calls kk x.f0 x.f1 x.f2 x.f3 e.f0 e.f1 e.f2 e.f3 r _ HKK.out).mono ?_; rintro ee w4 ⟨rfl, hb⟩))
          go_wp2_with (fail)
          go_ret2
          exact ⟨below_step (below_drew HBV.out) hb, Or.inl ⟨HNB.out, rfl⟩⟩
        · have u1 : (r == 0) = false := beq_eq_false_iff_ne.mpr hr0
          have HINS : Aside0 (insB e l = true) := ⟨by rw [HINB.out]; exact decide_eq_true hr0⟩
          clear hr0 HINB
          go_wp2_with (fail)
          go_region_held3 (fun V => V.cell? (ad.add (k * 4)) = some (.string x.f0) ∧ V.cell? ⟨(ad.add (k * 4)).block, (ad.add (k * 4)).off + 1, none⟩ = some (.int .u64 x.f1) ∧ V.cell? ⟨(ad.add (k * 4)).block, (ad.add (k * 4)).off + 2, none⟩ = some (.int .i64 x.f2) ∧ V.cell? ⟨(ad.add (k * 4)).block, (ad.add (k * 4)).off + 3, none⟩ = some (.string x.f3) ∧ V.cell? ⟨eb, 0, none⟩ = some (.string e.f0) ∧ V.cell? ⟨eb, 1, none⟩ = some (.int .u64 e.f1) ∧ V.cell? ⟨eb, 2, none⟩ = some (.int .i64 e.f2) ∧ V.cell? ⟨eb, 3, none⟩ = some (.string e.f3)) (first | exact HASK3.out | exact HASK3.out.below (below_drew (Below.refl _ _)) | exact (HASK3.out.below (below_drew (Below.refl _ _))).below hb) (first | (go_at_call 48; refine (cornucopiaref5_Compare.calls kk x.f0 x.f1 x.f2 x.f3 e.f0 e.f1 e.f2 e.f3 r _ HKK.out).mono ?_; rintro ee w4 ⟨rfl, hb⟩))
          have n0_ := Aside0.mk (blk_below (blk_drew HXV.out) hb)
          have n1_ := Aside0.mk (below_step (below_drew HBV.out) hb)
          clear hb HXV HBV HASK3
          have HXV := n0_
          have HBV := n1_
          clear n0_ n1_
          obtain ⟨A, hA⟩ : ∃ A, A = some ad := ⟨_, rfl⟩
          rw [← hA] at HC ⊢
          clear hA
          go_wp2_with (fail)
          have HC6 := Aside0.mk (Kd.C_below HC.out (below_drew HBV.out))
          have e0 : w4.cell? ⟨eb, 0, none⟩ = some (.string e.f0) := (blk_cell HXV.out 0).trans rfl
          have e1 : w4.cell? ⟨eb, 1, none⟩ = some (.int .u64 e.f1) := (blk_cell HXV.out 1).trans rfl
          have e2 : w4.cell? ⟨eb, 2, none⟩ = some (.int .i64 e.f2) := (blk_cell HXV.out 2).trans rfl
          have e3 : w4.cell? ⟨eb, 3, none⟩ = some (.string e.f3) := (blk_cell HXV.out 3).trans rfl
          have hebl : eb < w4.heap.size := blk_lt HXV.out
          obtain ⟨i0, hi0, _, hsz0, _⟩ := info_parts infoE
          have hcut1 := cut_to (P := Tryz.prog) 22 32 .i64 Tryz.underlying22 hi0 A l.length c (k : Int) (Int.natCast_nonneg _) (by have := HKE.out; have := pos_le e l; omega) HCC.out
          have hcut2 := cut_from (P := Tryz.prog) 22 32 .i64 Tryz.underlying22 hi0 4 hsz0 A l.length c (k : Int) (Int.natCast_nonneg _) (by have := HKE.out; have := pos_le e l; omega)
          simp only [Int.toNat_natCast] at hcut1 hcut2
          have HKL : Aside0 (k ≤ l.length) := ⟨by have := HKE.out; have := pos_le e l; omega⟩
          have HCD : Aside0 (Kd.C k32 w (if c = k then A else A.map (·.add (k * 4))) (l.drop k).length (l.drop k)) := ⟨Kd.C_drop HC.out HKL.out HCC.out⟩
          rw [List.length_drop] at HCD
          obtain ⟨A2, hA2⟩ : ∃ A2, A2 = (if c = k then A else A.map (·.add (k * 4))) := ⟨_, rfl⟩
          obtain ⟨m2, hm2⟩ : ∃ m2, m2 = l.length - k := ⟨_, rfl⟩
          rw [← hA2, ← hm2] at HCD hcut2
          have HM2 := Aside0.mk hm2
          have HCT : Aside0 (Kd.C k32 w A k (l.take k)) := ⟨by have h := Kd.C_take (m := k) HC.out HKL.out; have e : (l.take k).length = k := (by rw [List.length_take]; have := HKL.out; omega); rw [e] at h; exact h⟩
          have HBD := Aside0.mk (below_drew HBV.out)
          have HBR : Aside0 (∃ V', V' = w4.drew) := ⟨_, rfl⟩
          clear hA2 hm2 hi0 hsz0
          go_region_law (first
            | (refine step_append_rw flatE (by rfl) (.const (.slice none 0 0)) (.tmp 38) 22 32 (.agg #[.string ⟨#[]⟩, .int .u64 0, .int .i64 0, .string ⟨#[]⟩]) 48 (by rfl) Tryz.underlying22 infoE rfl (by decide) (.slice none 0 0) [] (l.take k) A k c ?_ ?_ (Rw.nil _ _ _) ?_ ?_ ?_ ?_; (next => first | rfl | (simp [Act.eval, Act.put]; done)); (next => first | rfl | (simp [Act.eval, Act.put]; done)); (next => first | exact Kd.C_below HCT.out HBD.out | exact Kd.C_below HCT.out (below_alloc HBD.out _)); (next => rw [List.length_nil]; have := HKL.out; have := HL.out; omega); (next => rw [List.length_nil]; unfold maxLen; have := HKL.out; have := HL.out; omega); intro v39 w6 hr39 _ hg6 hat6; rw [List.nil_append] at hr39; obtain ⟨A39, c39, ev39, _⟩ := hr39.slice; rw [List.length_take, Nat.min_eq_left HKL.out] at ev39; subst ev39; have HR39 := Aside0.mk hr39; have HF39 : Aside0 (∀ q, (Value.slice A39 k c39).ownBlock = some q → w.heap.size ≤ q) := ⟨fresh_of hat6 (by first | exact HBD.out.size | exact (below_alloc HBD.out _).size)⟩; have HB6 : Aside0 (Below w.heap.size w w6) := ⟨by first | exact HBD.out.grown hg6 HBD.out.size (fun q hq => by simp [Value.ownBlock] at hq) | exact (below_alloc HBD.out _).grown hg6 (below_alloc HBD.out _).size (fun q hq => by simp [Value.ownBlock] at hq)⟩; have hx6 : w6.heap[eb]? = some (.cells #[.string e.f0, .int .u64 e.f1, .int .i64 e.f2, .string e.f3] 32 (0, 0)) := (by first | exact (hg6.block eb (blk_lt (blk_drew HXV.out)) (by simp [Value.ownBlock])).trans (blk_drew HXV.out) | exact (hg6.block eb (blk_lt (blk_alloc (blk_drew HXV.out) _)) (by simp [Value.ownBlock])).trans (blk_alloc (blk_drew HXV.out) _)); have hebl6 := blk_lt hx6; have z0 := (blk_cell hx6 0).trans (rfl : _ = some (Value.string e.f0)); have z1 := (blk_cell hx6 1).trans (rfl : _ = some (Value.int .u64 e.f1)); have z2 := (blk_cell hx6 2).trans (rfl : _ = some (Value.int .i64 e.f2)); have z3 := (blk_cell hx6 3).trans (rfl : _ = some (Value.string e.f3)); (try (have HBX := Aside0.mk ((rw_box w4.drew e).grown hg6 (Or.inr (by simp [Value.ownBlock]))))); clear hr39 hg6 hat6 hx6)
            | (refine step_append_rw flatE (by rfl) (.tmp 39) (.tmp 41) 22 32 (.agg #[.string ⟨#[]⟩, .int .u64 0, .int .i64 0, .string ⟨#[]⟩]) 48 (by rfl) Tryz.underlying22 infoE rfl (by decide) (.slice A39 k c39) (l.take k) [e] (some ⟨w6.heap.size, 0, none⟩) 1 1 ?_ ?_ ?_ ?_ ?_ ?_ ?_; (next => first | rfl | (simp [Act.eval, Act.put]; done)); (next => first | rfl | (simp [Act.eval, Act.put]; done)); (next => first | exact HR39.out | exact HR39.out.below (below_alloc (Below.refl _ _) _)); (next => exact flatE.to_C (rw_box w6 e) rfl); (next => rw [List.length_take]; have := HKL.out; have := HL.out; omega); (next => rw [List.length_take]; unfold maxLen; have := HKL.out; have := HL.out; omega); intro v42 w7 hr42 _ hg7 hat7; obtain ⟨A42, c42, ev42, _⟩ := hr42.slice; rw [List.length_append, List.length_take, Nat.min_eq_left HKL.out] at ev42; subst ev42; have HR42 := Aside0.mk hr42; have HF42 : Aside0 (∀ q, (Value.slice A42 (k + [e].length) c42).ownBlock = some q → w.heap.size ≤ q) := ⟨fresh_step hat7 HF39.out (by first | exact HB6.out.size | exact (below_alloc HB6.out _).size)⟩; have HB7 : Aside0 (Below w.heap.size w w7) := ⟨by first | exact HB6.out.grown hg7 HB6.out.size HF39.out | exact (below_alloc HB6.out _).grown hg7 (below_alloc HB6.out _).size HF39.out⟩; clear hr42 hg7 hat7)
            | (refine step_append_rw flatE (by rfl) (.tmp 39) (.tmp 41) 22 32 (.agg #[.string ⟨#[]⟩, .int .u64 0, .int .i64 0, .string ⟨#[]⟩]) 48 (by rfl) Tryz.underlying22 infoE rfl (by decide) (.slice A39 k c39) (l.take k) [e] (some ⟨w4.drew.heap.size, 0, none⟩) 1 1 ?_ ?_ ?_ ?_ ?_ ?_ ?_; (next => first | rfl | (simp [Act.eval, Act.put]; done)); (next => first | rfl | (simp [Act.eval, Act.put]; done)); (next => first | exact HR39.out | exact HR39.out.below (below_alloc (Below.refl _ _) _)); (next => exact flatE.to_C HBX.out rfl); (next => rw [List.length_take]; have := HKL.out; have := HL.out; omega); (next => rw [List.length_take]; unfold maxLen; have := HKL.out; have := HL.out; omega); intro v42 w7 hr42 _ hg7 hat7; obtain ⟨A42, c42, ev42, _⟩ := hr42.slice; rw [List.length_append, List.length_take, Nat.min_eq_left HKL.out] at ev42; subst ev42; have HR42 := Aside0.mk hr42; have HF42 : Aside0 (∀ q, (Value.slice A42 (k + [e].length) c42).ownBlock = some q → w.heap.size ≤ q) := ⟨fresh_step hat7 HF39.out (by first | exact HB6.out.size | exact (below_alloc HB6.out _).size)⟩; have HB7 : Aside0 (Below w.heap.size w w7) := ⟨by first | exact HB6.out.grown hg7 HB6.out.size HF39.out | exact (below_alloc HB6.out _).grown hg7 (below_alloc HB6.out _).size HF39.out⟩; clear hr42 hg7 hat7)
            | (refine step_append_rw flatE (by rfl) (.tmp 42) (.tmp 45) 22 32 (.agg #[.string ⟨#[]⟩, .int .u64 0, .int .i64 0, .string ⟨#[]⟩]) 48 (by rfl) Tryz.underlying22 infoE rfl (by decide) (.slice A42 (k + [e].length) c42) (l.take k ++ [e]) (l.drop k) A2 m2 (c - k) ?_ ?_ HR42.out (Kd.C_below HCD.out HB7.out) ?_ ?_ ?_; (next => first | rfl | (simp [Act.eval, Act.put]; done)); (next => first | rfl | (simp [Act.eval, Act.put]; done)); (next => rw [List.length_append, List.length_take]; have := HKL.out; have := HL.out; have := HM2.out; simp only [List.length_singleton]; omega); (next => rw [List.length_append, List.length_take]; unfold maxLen; have := HKL.out; have := HL.out; have := HM2.out; simp only [List.length_singleton]; omega); intro v46 w8 hr46 _ hg8 hat8; have HR46 := Aside0.mk hr46; have HF46 := Aside0.mk (fresh_step hat8 HF42.out HB7.out.size); have HB8 := Aside0.mk (HB7.out.grown hg8 HB7.out.size HF42.out); clear hr46 hg8 hat8))
          all_goals
            obtain ⟨A46, c46, ev46, _⟩ := HR46.out.slice
            subst ev46
            go_wp2_with (fail)
            go_ret2
            have hfin : (l.take k ++ [e]) ++ l.drop k = insL e l := by rw [ins_yes e l HINS.out, ← HKE.out, List.append_assoc]; rfl
            have hR := HR46.out
            have hF := HF46.out
            rw [hfin] at hR hF ⊢
            exact ⟨HB8.out, Or.inr ⟨HINS.out, A46, c46, rfl, hR, hF⟩⟩
    · have hkl : k = l.length := by omega
      have HKE : Aside0 (k = pos e l) := ⟨by omega⟩
      have HINS : Aside0 (insB e l = true) := ⟨by
        cases hb : insB e l with
        | true => rfl
        | false =>
          obtain ⟨_, y, h2, h3⟩ := ins_no e l hb
          have := (List.getElem?_eq_some_iff.1 h2).1
          omega⟩
      have t0 : decide ((k : Int) < (l.length : Int)) = false := decide_eq_false (by omega)
      have t0' : decide (k < l.length) = false := decide_eq_false (by omega)
      clear hkl hpl hlt
      go_wp2_with (fail)
      go_quiet (fail)
      go_wp2_with (fail)
      have n0_ := Aside0.mk (blk_drewN HX.out nq)
      have n1_ := Aside0.mk (pw_below_drewN HB.out nq)
      clear HX HB HCR
      generalize wr.drewN nq = w3 at *
      go_quiet (fail)
      have HXV := Aside0.mk (blk_drewN n0_.out nq)
      have HBV := Aside0.mk (pw_below_drewN n1_.out nq)
      clear n0_ n1_
      generalize w3.drewN nq = w4 at *
      go_wp2_with (fail)
      have HC6 := Aside0.mk (Kd.C_below HC.out (below_drew HBV.out))
      have e0 : w4.cell? ⟨eb, 0, none⟩ = some (.string e.f0) := (blk_cell HXV.out 0).trans rfl
      have e1 : w4.cell? ⟨eb, 1, none⟩ = some (.int .u64 e.f1) := (blk_cell HXV.out 1).trans rfl
      have e2 : w4.cell? ⟨eb, 2, none⟩ = some (.int .i64 e.f2) := (blk_cell HXV.out 2).trans rfl
      have e3 : w4.cell? ⟨eb, 3, none⟩ = some (.string e.f3) := (blk_cell HXV.out 3).trans rfl
      have hebl : eb < w4.heap.size := blk_lt HXV.out
      obtain ⟨i0, hi0, _, hsz0, _⟩ := info_parts infoE
      have hcut1 := cut_to (P := Tryz.prog) 22 32 .i64 Tryz.underlying22 hi0 A l.length c (k : Int) (Int.natCast_nonneg _) (by have := HKE.out; have := pos_le e l; omega) HCC.out
      have hcut2 := cut_from (P := Tryz.prog) 22 32 .i64 Tryz.underlying22 hi0 4 hsz0 A l.length c (k : Int) (Int.natCast_nonneg _) (by have := HKE.out; have := pos_le e l; omega)
      simp only [Int.toNat_natCast] at hcut1 hcut2
      have HKL : Aside0 (k ≤ l.length) := ⟨by have := HKE.out; have := pos_le e l; omega⟩
      have HCD : Aside0 (Kd.C k32 w (if c = k then A else A.map (·.add (k * 4))) (l.drop k).length (l.drop k)) := ⟨Kd.C_drop HC.out HKL.out HCC.out⟩
      rw [List.length_drop] at HCD
      obtain ⟨A2, hA2⟩ : ∃ A2, A2 = (if c = k then A else A.map (·.add (k * 4))) := ⟨_, rfl⟩
      obtain ⟨m2, hm2⟩ : ∃ m2, m2 = l.length - k := ⟨_, rfl⟩
      rw [← hA2, ← hm2] at HCD hcut2
      have HM2 := Aside0.mk hm2
      have HCT : Aside0 (Kd.C k32 w A k (l.take k)) := ⟨by have h := Kd.C_take (m := k) HC.out HKL.out; have e : (l.take k).length = k := (by rw [List.length_take]; have := HKL.out; omega); rw [e] at h; exact h⟩
      have HBD := Aside0.mk (below_drew HBV.out)
      have HBR : Aside0 (∃ V', V' = w4.drew) := ⟨_, rfl⟩
      clear hA2 hm2 hi0 hsz0
      go_region_law (first
        | (refine step_append_rw flatE (by rfl) (.const (.slice none 0 0)) (.tmp 38) 22 32 (.agg #[.string ⟨#[]⟩, .int .u64 0, .int .i64 0, .string ⟨#[]⟩]) 48 (by rfl) Tryz.underlying22 infoE rfl (by decide) (.slice none 0 0) [] (l.take k) A k c ?_ ?_ (Rw.nil _ _ _) ?_ ?_ ?_ ?_; (next => first | rfl | (simp [Act.eval, Act.put]; done)); (next => first | rfl | (simp [Act.eval, Act.put]; done)); (next => first | exact Kd.C_below HCT.out HBD.out | exact Kd.C_below HCT.out (below_alloc HBD.out _)); (next => rw [List.length_nil]; have := HKL.out; have := HL.out; omega); (next => rw [List.length_nil]; unfold maxLen; have := HKL.out; have := HL.out; omega); intro v39 w6 hr39 _ hg6 hat6; rw [List.nil_append] at hr39; obtain ⟨A39, c39, ev39, _⟩ := hr39.slice; rw [List.length_take, Nat.min_eq_left HKL.out] at ev39; subst ev39; have HR39 := Aside0.mk hr39; have HF39 : Aside0 (∀ q, (Value.slice A39 k c39).ownBlock = some q → w.heap.size ≤ q) := ⟨fresh_of hat6 (by first | exact HBD.out.size | exact (below_alloc HBD.out _).size)⟩; have HB6 : Aside0 (Below w.heap.size w w6) := ⟨by first | exact HBD.out.grown hg6 HBD.out.size (fun q hq => by simp [Value.ownBlock] at hq) | exact (below_alloc HBD.out _).grown hg6 (below_alloc HBD.out _).size (fun q hq => by simp [Value.ownBlock] at hq)⟩; have hx6 : w6.heap[eb]? = some (.cells #[.string e.f0, .int .u64 e.f1, .int .i64 e.f2, .string e.f3] 32 (0, 0)) := (by first | exact (hg6.block eb (blk_lt (blk_drew HXV.out)) (by simp [Value.ownBlock])).trans (blk_drew HXV.out) | exact (hg6.block eb (blk_lt (blk_alloc (blk_drew HXV.out) _)) (by simp [Value.ownBlock])).trans (blk_alloc (blk_drew HXV.out) _)); have hebl6 := blk_lt hx6; have z0 := (blk_cell hx6 0).trans (rfl : _ = some (Value.string e.f0)); have z1 := (blk_cell hx6 1).trans (rfl : _ = some (Value.int .u64 e.f1)); have z2 := (blk_cell hx6 2).trans (rfl : _ = some (Value.int .i64 e.f2)); have z3 := (blk_cell hx6 3).trans (rfl : _ = some (Value.string e.f3)); (try (have HBX := Aside0.mk ((rw_box w4.drew e).grown hg6 (Or.inr (by simp [Value.ownBlock]))))); clear hr39 hg6 hat6 hx6)
        | (refine step_append_rw flatE (by rfl) (.tmp 39) (.tmp 41) 22 32 (.agg #[.string ⟨#[]⟩, .int .u64 0, .int .i64 0, .string ⟨#[]⟩]) 48 (by rfl) Tryz.underlying22 infoE rfl (by decide) (.slice A39 k c39) (l.take k) [e] (some ⟨w6.heap.size, 0, none⟩) 1 1 ?_ ?_ ?_ ?_ ?_ ?_ ?_; (next => first | rfl | (simp [Act.eval, Act.put]; done)); (next => first | rfl | (simp [Act.eval, Act.put]; done)); (next => first | exact HR39.out | exact HR39.out.below (below_alloc (Below.refl _ _) _)); (next => exact flatE.to_C (rw_box w6 e) rfl); (next => rw [List.length_take]; have := HKL.out; have := HL.out; omega); (next => rw [List.length_take]; unfold maxLen; have := HKL.out; have := HL.out; omega); intro v42 w7 hr42 _ hg7 hat7; obtain ⟨A42, c42, ev42, _⟩ := hr42.slice; rw [List.length_append, List.length_take, Nat.min_eq_left HKL.out] at ev42; subst ev42; have HR42 := Aside0.mk hr42; have HF42 : Aside0 (∀ q, (Value.slice A42 (k + [e].length) c42).ownBlock = some q → w.heap.size ≤ q) := ⟨fresh_step hat7 HF39.out (by first | exact HB6.out.size | exact (below_alloc HB6.out _).size)⟩; have HB7 : Aside0 (Below w.heap.size w w7) := ⟨by first | exact HB6.out.grown hg7 HB6.out.size HF39.out | exact (below_alloc HB6.out _).grown hg7 (below_alloc HB6.out _).size HF39.out⟩; clear hr42 hg7 hat7)
        | (refine step_append_rw flatE (by rfl) (.tmp 39) (.tmp 41) 22 32 (.agg #[.string ⟨#[]⟩, .int .u64 0, .int .i64 0, .string ⟨#[]⟩]) 48 (by rfl) Tryz.underlying22 infoE rfl (by decide) (.slice A39 k c39) (l.take k) [e] (some ⟨w4.drew.heap.size, 0, none⟩) 1 1 ?_ ?_ ?_ ?_ ?_ ?_ ?_; (next => first | rfl | (simp [Act.eval, Act.put]; done)); (next => first | rfl | (simp [Act.eval, Act.put]; done)); (next => first | exact HR39.out | exact HR39.out.below (below_alloc (Below.refl _ _) _)); (next => exact flatE.to_C HBX.out rfl); (next => rw [List.length_take]; have := HKL.out; have := HL.out; omega); (next => rw [List.length_take]; unfold maxLen; have := HKL.out; have := HL.out; omega); intro v42 w7 hr42 _ hg7 hat7; obtain ⟨A42, c42, ev42, _⟩ := hr42.slice; rw [List.length_append, List.length_take, Nat.min_eq_left HKL.out] at ev42; subst ev42; have HR42 := Aside0.mk hr42; have HF42 : Aside0 (∀ q, (Value.slice A42 (k + [e].length) c42).ownBlock = some q → w.heap.size ≤ q) := ⟨fresh_step hat7 HF39.out (by first | exact HB6.out.size | exact (below_alloc HB6.out _).size)⟩; have HB7 : Aside0 (Below w.heap.size w w7) := ⟨by first | exact HB6.out.grown hg7 HB6.out.size HF39.out | exact (below_alloc HB6.out _).grown hg7 (below_alloc HB6.out _).size HF39.out⟩; clear hr42 hg7 hat7)
        | (refine step_append_rw flatE (by rfl) (.tmp 42) (.tmp 45) 22 32 (.agg #[.string ⟨#[]⟩, .int .u64 0, .int .i64 0, .string ⟨#[]⟩]) 48 (by rfl) Tryz.underlying22 infoE rfl (by decide) (.slice A42 (k + [e].length) c42) (l.take k ++ [e]) (l.drop k) A2 m2 (c - k) ?_ ?_ HR42.out (Kd.C_below HCD.out HB7.out) ?_ ?_ ?_; (next => first | rfl | (simp [Act.eval, Act.put]; done)); (next => first | rfl | (simp [Act.eval, Act.put]; done)); (next => rw [List.length_append, List.length_take]; have := HKL.out; have := HL.out; have := HM2.out; simp only [List.length_singleton]; omega); (next => rw [List.length_append, List.length_take]; unfold maxLen; have := HKL.out; have := HL.out; have := HM2.out; simp only [List.length_singleton]; omega); intro v46 w8 hr46 _ hg8 hat8; have HR46 := Aside0.mk hr46; have HF46 := Aside0.mk (fresh_step hat8 HF42.out HB7.out.size); have HB8 := Aside0.mk (HB7.out.grown hg8 HB7.out.size HF42.out); clear hr46 hg8 hat8))
      all_goals
        obtain ⟨A46, c46, ev46, _⟩ := HR46.out.slice
        subst ev46
        go_wp2_with (fail)
        go_ret2
        have hfin : (l.take k ++ [e]) ++ l.drop k = insL e l := by rw [ins_yes e l HINS.out, ← HKE.out, List.append_assoc]; rfl
        have hR := HR46.out
        have hF := HF46.out
        rw [hfin] at hR hF ⊢
        exact ⟨HB8.out, Or.inr ⟨HINS.out, A46, c46, rfl, hR, hF⟩⟩
end Go.Proofs.YtchgpcgolgcfdaaGreat.RefIns
end
