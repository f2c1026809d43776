/- Texts of this claim, put together and cut down to what is used (SkPlay). -/
import Derived.Deep.DeepCutAuto
import Derived.Deep.QuietTactic
import Derived.Test.YtchgpcgolgcfdaaGreatMgSk20
import Derived.Test.YtchgpcgolgcfdaaGreatMgRefIns
import Derived.Test.YtchgpcgolgcfdaaGreatMgPuRef5
import Derived.Test.YtchgpcgolgcfdaaGreatMgBkAEntriesInts
import Derived.Test.YtchgpcgolgcfdaaGreatMgPNumx12
import Derived.Test.YtchgpcgolgcfdaaGreatMgPNumx13
import Derived.Test.YtchgpcgolgcfdaaGreatMgPNumx14
import Derived.Test.YtchgpcgolgcfdaaGreatMgPNumx15
import Derived.Test.YtchgpcgolgcfdaaGreatMgPNumx16
import Derived.Test.YtchgpcgolgcfdaaGreatMgPNumx8
import Derived.Test.YtchgpcgolgcfdaaGreatMgPNumx9
section
namespace Go.Proofs.YtchgpcgolgcfdaaGreat.SkPlay
open Go Go.RowKit Go.Proofs.YtchgpcgolgcfdaaGreat.PNum Go.Proofs.YtchgpcgolgcfdaaGreat.SkM Go.Proofs.YtchgpcgolgcfdaaGreat.Sk Go.Proofs.YtchgpcgolgcfdaaGreat.BkW Go.Proofs.YtchgpcgolgcfdaaGreat.PuSkP Go.Proofs.YtchgpcgolgcfdaaGreat.BkAEntriesInts Go.Proofs.YtchgpcgolgcfdaaGreatW.PrintWords Go.Proofs.YtchgpcgolgcfdaaGreatW.PrintLast Go.Proofs.YtchgpcgolgcfdaaGreatW.PrintMore
open PuIkC Go.Proofs.YtchgpcgolgcfdaaGreatW.Pu RefIns
set_option linter.unusedVariables false
set_option linter.unusedSimpArgs false
abbrev E := S32
def encT (t : Tw) : List Value := [.string t.f0.f0, .int .u64 t.f0.f1, .int .i64 t.f0.f2, .string t.f0.f3, .int .i64 t.f1]
theorem flatT : Flat k62 encT := ⟨fun _ => rfl, fun h => k62_openM h, fun w x => k62_mk w x, fun h => k62_open h⟩
theorem infoT : (Tryz.prog.info? 62).map (fun i => (i.zero, i.size, i.bytes)) = some (some (.agg #[.string ⟨#[]⟩, .int .u64 0, .int .i64 0, .string ⟨#[]⟩, .int .i64 0]), 5, 56) := by kernel_rfl
theorem insL_eq (e : E) : ∀ l : List E, insL e l = Sk.ins e l
  | [] => rfl
  | x :: r => by
    rw [insL, Sk.ins, insL_eq e r]
theorem insB_all (e : E) : ∀ (l : List E), l.Pairwise (fun x y => ce x y = -1) → insB e l = l.all fun x => ce x e != 0
  | [], _ => rfl
  | x :: r, h => by
    have h2 := List.pairwise_cons.1 h
    rw [insB, List.all_cons]
    by_cases h1 : ce x e < 0
    · rw [if_pos h1, insB_all e r h2.2]
      have : (ce x e != 0) = true := by simp; omega
      rw [this, Bool.true_and]
    · rw [if_neg h1]
      by_cases h3 : ce x e = 0
      · simp [h3]
      · have h4 : ce x e = 1 := by rcases ce_range x e with q | q | q <;> omega
        have h5 : ce e x = -1 := by have := ce_neg x e; omega
        have h6 : (r.all fun y => ce y e != 0) = true := List.all_eq_true.2 (fun y hy => by
          have h7 := ce_trans h5 (h2.1 y hy)
          have h8 := ce_neg y e
          simp
          omega)
        rw [h6]
        simp [h4]
theorem dropw {p : E → Bool} : ∀ {l : List E}, l.Pairwise (fun x y => ce x y = -1) → (∀ x y, ce x y = -1 → p y = true → p x = true) → l.filter (fun x => !p x) = l.dropWhile p
  | [], _, _ => rfl
  | x :: r, h, hp => by
    have h2 := List.pairwise_cons.1 h
    by_cases h1 : p x = true
    · rw [List.filter_cons, if_neg (by simp [h1]), List.dropWhile_cons, if_pos h1]
      exact dropw h2.2 hp
    · have h1' : p x = false := by simpa using h1
      rw [List.filter_cons, if_pos (by simp [h1']), List.dropWhile_cons, if_neg h1]
      congr 1
      refine List.filter_eq_self.2 (fun y hy => ?_)
      cases h3 : p y with
      | false => rfl
      | true =>
        have := hp x y (h2.1 y hy) h3
        rw [h1'] at this
        cases this
theorem range_from (key : ByteArray) (R : List E) (hS : R.Pairwise (fun x y => ce x y = -1)) : R.filter (PuRef5.inR key ⟨#[]⟩) = fromL key R := by
  unfold fromL
  rw [← dropw hS (lt_down key)]
  refine List.filter_congr (fun x _ => ?_)
  unfold PuRef5.inR
  rw [lt_cb]
  simp
theorem pick_eq (key : ByteArray) (s : Int) : ∀ R : List E, PuRef5.pick1 key s R = pickL key s R
  | [] => rfl
  | x :: r => by rw [PuRef5.pick1, pickL, pick_eq key s r]
theorem insert_no {w : World} {A : Option Addr} {c n : Nat} {l : List E} {e : E} (hn : n = l.length) (hC : Rw w 32 4 (.slice A n c) n (encL encE l)) (hl : l.length ≤ 1000000) (hs : ∀ x ∈ l, x.f0.size ≤ 140737488351232) (he : e.f0.size ≤ 140737488351232) (hb : insB e l = false) :
    Calls Tryz.prog 13 #[.slice A n c, .agg #[.string e.f0, .int .u64 e.f1, .int .i64 e.f2, .string e.f3]] w fun ee w' => ee = .returned (.tuple #[.slice A n c, .bool false]) ∧ Below w.heap.size w w' := by
  subst hn
  obtain ⟨A', c', e1, h1⟩ := hC.slice
  injection e1 with _ _ e1
  refine (insert_calls w A c l e (flatE.to_C hC rfl) (by omega) hl hs he).mono ?_
  rintro ee w' ⟨h2, ⟨h3, h4⟩ | ⟨h3, _⟩⟩
  · exact ⟨h4, h2⟩
  · rw [hb] at h3; cases h3
theorem insert_yes {w : World} {A : Option Addr} {c n : Nat} {l : List E} {e : E} (hn : n = l.length) (hC : Rw w 32 4 (.slice A n c) n (encL encE l)) (hl : l.length ≤ 1000000) (hs : ∀ x ∈ l, x.f0.size ≤ 140737488351232) (he : e.f0.size ≤ 140737488351232) (hb : insB e l = true) :
    Calls Tryz.prog 13 #[.slice A n c, .agg #[.string e.f0, .int .u64 e.f1, .int .i64 e.f2, .string e.f3]] w fun ee w' => ∃ A' n' c', ee = .returned (.tuple #[.slice A' n' c', .bool true]) ∧ n' = (Sk.ins e l).length ∧ Rw w' 32 4 (.slice A' n' c') n' (encL encE (Sk.ins e l)) ∧ Below w.heap.size w w' := by
  subst hn
  obtain ⟨A', c', e1, h1⟩ := hC.slice
  injection e1 with _ _ e1
  refine (insert_calls w A c l e (flatE.to_C hC rfl) (by omega) hl hs he).mono ?_
  rintro ee w' ⟨h2, ⟨h3, h4⟩ | ⟨h3, A2, c2, h4, h5, _⟩⟩
  · rw [hb] at h3; cases h3
  · rw [insL_eq] at h4 h5
    exact ⟨A2, _, c2, h4, rfl, h5, h2⟩
theorem insert_any {w : World} {A : Option Addr} {c n : Nat} {l : List E} {e : E} (hn : n = l.length) (hC : Rw w 32 4 (.slice A n c) n (encL encE l)) (hl : l.length ≤ 1000000) (hs : ∀ x ∈ l, x.f0.size ≤ 140737488351232) (he : e.f0.size ≤ 140737488351232) :
    Calls Tryz.prog 13 #[.slice A n c, .agg #[.string e.f0, .int .u64 e.f1, .int .i64 e.f2, .string e.f3]] w fun ee w' => ∃ A' n' c', ee = .returned (.tuple #[.slice A' n' c', .bool (insB e l)]) ∧ n' = (insL e l).length ∧ Rw w' 32 4 (.slice A' n' c') n' (encL encE (insL e l)) ∧ Below w.heap.size w w' := by
  cases hb : insB e l with
  | false =>
    refine (insert_no hn hC hl hs he hb).mono ?_
    rintro ee w' ⟨rfl, h2⟩
    rw [(ins_no e l hb).1]
    exact ⟨A, n, c, rfl, hn, hC.below h2, h2⟩
  | true =>
    refine (insert_yes hn hC hl hs he hb).mono ?_
    rintro ee w' ⟨A', n', c', h1, h2, h3, h4⟩
    rw [insL_eq]
    exact ⟨A', n', c', h1, h2, h3, h4⟩
theorem fresh_eq {e : E} {l : List E} (h : l.Pairwise (fun x y => ce x y = -1)) : fresh e l = (insB e l && valid e.f0 e.f2 e.f3) := by
  unfold fresh
  rw [insB_all e l h, Bool.and_comm]
theorem insV_eq {e : E} {l : List E} (h : valid e.f0 e.f2 e.f3 = true) : insV e l = insL e l := by
  unfold insV
  rw [if_pos h, insL_eq]
theorem refValid_ev (e : E) : cornucopiaref5_Valid.f e.f0 e.f1 e.f2 e.f3 = some (valid e.f0 e.f2 e.f3) := by
  unfold cornucopiaref5_Valid.f valid
  by_cases h1 : (e.f0.size : Int) ≤ 300
  · by_cases h2 : (e.f3.size : Int) ≤ 60000
    · by_cases h3 : e.f2 = 1
      · simp [h1, h2, h3]
      · by_cases h4 : e.f2 = 2
        · have : (e.f3.toList == ([] : List UInt8)) = decide (e.f3 = ⟨#[]⟩) := by
            have := PuIkC.tl_beq e.f3 ⟨#[]⟩
            rw [PuIkC.nil_toList] at this
            exact this
          simp [h1, h2, h4, this]
        · simp [h1, h2, h3, h4]
    · simp [h1, h2]
  · simp [h1]
structure Lp (w w' : World) (g gk : Nat) (ns : List Nd) (T : Nat) (TL : List Tw) (Ar : Option Addr) (nr cr : Nat) (At : Option Addr) (nt ct i : Nat) : Prop where
  ok : OkT w w' g ns T
  bk : BkX w w' gk (fun k => k < w'.heap.size)
  r : Rw w' 32 4 (.slice Ar nr cr) nr (encL encE (ns.map (·.e)))
  t : w'.ownsRow w.heap.size 62 5 (.slice At nt ct) nt (encL encT TL)
  nr_ : nr = (ns.map (·.e)).length
  nt_ : nt = TL.length
  pm : (ns.map tw).Perm TL
  hm : hmT TL = T
  ln : ns.length ≤ i
  sz : ∀ t ∈ TL, t.f0.f0.size ≤ 140737488351232 ∧ 1 ≤ t.f1 ∧ t.f1 ≤ 8
  bel : Below w.heap.size w w'
section
variable {w w' w1 : World} {g gk T nr cr nt ct i : Nat} {ns : List Nd} {TL : List Tw} {Ar At : Option Addr}
theorem Lp.still (h : Lp w w' g gk ns T TL Ar nr cr At nt ct i) {L : List TypeId} (hs : Still L w' w1) (hz : w'.heap.size ≤ w1.heap.size) (hb : Below w.heap.size w w1) (h1 : 38 ∉ L) (h2 : 36 ∉ L) (h3 : 56 ∉ L) (h4 : 22 ∉ L) (h5 : 32 ∉ L) (h6 : 23 ∉ L) (h7 : 3 ∉ L) (h8 : 62 ∉ L) : Lp w w1 g gk ns T TL Ar nr cr At nt ct i :=
  ⟨h.ok.still hs h1 h2, (h.bk.still hs h3 h4 h5 h6 h7 hb).mono (fun k hk => Nat.lt_of_lt_of_le hk hz), hs.rw_ h.r h5, hs.own h.t h8, h.nr_, h.nt_, h.pm, h.hm, h.ln, h.sz, hb⟩
theorem Lp.below (h : Lp w w' g gk ns T TL Ar nr cr At nt ct i) (hb : Below w'.heap.size w' w1) : Lp w w1 g gk ns T TL Ar nr cr At nt ct i :=
  h.still (L := []) (Still.of_below hb) hb.size (below_step h.bel hb) (by simp) (by simp) (by simp) (by simp) (by simp) (by simp) (by simp) (by simp)
theorem Lp.szE (h : Lp w w' g gk ns T TL Ar nr cr At nt ct i) : ∀ x ∈ ns.map (·.e), x.f0.size ≤ 140737488351232 := fun x hx => by
  obtain ⟨y, hy, rfl⟩ := List.mem_map.1 hx
  exact (h.sz (tw y) (h.pm.mem_iff.1 (List.mem_map.2 ⟨y, hy, rfl⟩))).1
theorem Lp.srt (h : Lp w w' g gk ns T TL Ar nr cr At nt ct i) : (ns.map (·.e)).Pairwise (fun x y => ce x y = -1) := srt_map h.ok.srt
theorem Lp.lnE (h : Lp w w' g gk ns T TL Ar nr cr At nt ct i) : (ns.map (·.e)).length ≤ i := by rw [List.length_map]; exact h.ln
end
theorem ycells {w : World} {A1 : Option Addr} {l1 : List E} (hC : Kd.C k32 w A1 l1.length l1) {i : Nat} (hi : i < l1.length) : ∃ ad, A1 = some ad ∧ ∀ V, Below w.heap.size w V → V.cell? (ad.add (i * 4)) = some (.string l1[i].f0) ∧ V.cell? ⟨(ad.add (i * 4)).block, (ad.add (i * 4)).off + 1, none⟩ = some (.int .u64 l1[i].f1) ∧ V.cell? ⟨(ad.add (i * 4)).block, (ad.add (i * 4)).off + 2, none⟩ = some (.int .i64 l1[i].f2) ∧ V.cell? ⟨(ad.add (i * 4)).block, (ad.add (i * 4)).off + 3, none⟩ = some (.string l1[i].f3) := by
  obtain ⟨ad, e0, y0, y1, y2, y3⟩ := at_T32 hC (i : Int) (Int.natCast_nonneg _) (Int.ofNat_lt.mpr hi)
  have hx : rd_T32 l1 (i : Int) = l1[i] := by simp [rd_T32, hi]
  rw [hx] at y0 y1 y2 y3
  simp only [Int.toNat_natCast] at y0 y1 y2 y3
  exact ⟨ad, e0, fun V hb => ⟨pw_cell_below hb y0, pw_cell_below hb y1, pw_cell_below hb y2, pw_cell_below hb y3⟩⟩
structure Mp (w w' : World) (g gk : Nat) (ns : List Nd) (TL : List Tw) (At : Option Addr) (nt ct : Nat) (A7 : Option Addr) (n7 c7 : Nat) (Ar : Option Addr) (nr cr i : Nat) (x : E) (lv : Int) (ns2 : List Nd) (T2 : Nat) : Prop where
  ok : OkT w w' g ns2 T2
  bk : BkX w w' gk (fun k => k < w'.heap.size)
  r : Rw w' 32 4 (.slice Ar nr cr) nr (encL encE (ns.map (·.e)))
  r7 : Rw w' 32 4 (.slice A7 n7 c7) n7 (encL encE (insL x (ns.map (·.e))))
  n7_ : n7 = (insL x (ns.map (·.e))).length
  nr_ : nr = (ns.map (·.e)).length
  t : w'.ownsRow w.heap.size 62 5 (.slice At nt ct) nt (encL encT TL)
  nt_ : nt = TL.length
  pm : (ns.map tw).Perm TL
  mp : ns2.map (·.e) = insV x (ns.map (·.e))
  ln : ns.length ≤ i
  sz : ∀ t ∈ TL, t.f0.f0.size ≤ 140737488351232 ∧ 1 ≤ t.f1 ∧ t.f1 ≤ 8
  sx : x.f0.size ≤ 140737488351232
  bel : Below w.heap.size w w'
  cs : (fresh x (ns.map (·.e)) = false ∧ ns2 = ns ∧ hmT TL = T2) ∨ (fresh x (ns.map (·.e)) = true ∧ ∃ h : Nat, (h : Int) = min (max lv 1) 8 ∧ (ns2.map tw).Perm (ns.map tw ++ [⟨x, (h : Int)⟩]) ∧ T2 = max (hmT TL) h)
theorem put_mp {w w' : World} {g gk T nr cr nt ct i n7 c7 : Nat} {ns : List Nd} {TL : List Tw} {Ar At A7 : Option Addr} {x : E} (h : Lp w w' g gk ns T TL Ar nr cr At nt ct i) (h7 : Rw w' 32 4 (.slice A7 n7 c7) n7 (encL encE (insL x (ns.map (·.e))))) (hn7 : n7 = (insL x (ns.map (·.e))).length) (s0 : x.f0.size ≤ 140737488351232) (s3 : x.f3.size ≤ 140737488351232) (lv : Int) (hi : i ≤ 150) :
    Calls Tryz.prog 15 #[.pointer (some ⟨g, 0, none⟩), .agg #[.string (x).f0, .int .u64 (x).f1, .int .i64 (x).f2, .string (x).f3], .int .i64 lv] w' fun ee w3 => ee = .returned (.bool (fresh x (ns.map (·.e)))) ∧ ∃ ns2 T2, Mp w w3 g gk ns TL At nt ct A7 n7 c7 Ar nr cr i x lv ns2 T2 := by
  refine (put_tow w w' g ns T x lv h.ok h.bel (by have := h.ln; omega) s0 s3).mono ?_
  rintro ee w3 ⟨rfl, hz, ns2, T2, h1, h2, h3, h4, h5, h6⟩
  have hs := h.ok.stays h4
  refine ⟨rfl, ns2, T2, h1, (h.bk.still hs (by decide) (by decide) (by decide) (by decide) (by decide) h3).mono (fun k hk => Nat.lt_of_lt_of_le hk hz), hs.rw_ h.r (by decide), hs.rw_ h7 (by decide), hn7, h.nr_, hs.own h.t (by decide), h.nt_, h.pm, h2, h.ln, h.sz, s0, h3, ?_⟩
  rcases h6 with ⟨q1, q2, q3⟩ | ⟨q1, hh, q2, q3, q4⟩
  · exact .inl ⟨q1, q2, h.hm.trans q3.symm⟩
  · exact .inr ⟨q1, hh, q2, q3, by rw [h.hm]; exact q4⟩
theorem Mp.no {w w' : World} {g gk nr cr nt ct i n7 c7 : Nat} {ns ns2 : List Nd} {TL : List Tw} {Ar At A7 : Option Addr} {x : E} {lv : Int} {T2 : Nat} (h : Mp w w' g gk ns TL At nt ct A7 n7 c7 Ar nr cr i x lv ns2 T2) (hf : fresh x (ns.map (·.e)) = false) : Lp w w' g gk ns2 T2 TL Ar nr cr At nt ct (i + 1) := by
  rcases h.cs with ⟨_, q2, q3⟩ | ⟨q1, _⟩
  · subst q2
    exact ⟨h.ok, h.bk, h.r, h.t, h.nr_, h.nt_, h.pm, q3, Nat.le_succ_of_le h.ln, h.sz, h.bel⟩
  · rw [hf] at q1; cases q1
theorem Mp.yes {w w' w4 : World} {g gk nr cr nt ct i n7 c7 c1 : Nat} {ns ns2 : List Nd} {TL : List Tw} {Ar At A7 A1 : Option Addr} {x : E} {lv : Int} {T2 : Nat} (h : Mp w w' g gk ns TL At nt ct A7 n7 c7 Ar nr cr i x lv ns2 T2) (hf : fresh x (ns.map (·.e)) = true)
    (ho : w4.ownsRow w.heap.size 62 5 (.slice A1 (nt + 1) c1) (nt + 1) (encL encT TL ++ [.string x.f0, .int .u64 x.f1, .int .i64 x.f2, .string x.f3, .int .i64 (min (max lv 1) 8)])) (hg : w'.grownBy w4 (Value.slice At nt ct).ownBlock) :
    Lp w w4 g gk ns2 T2 (TL ++ [⟨x, min (max lv 1) 8⟩]) A7 n7 c7 A1 (nt + 1) c1 (i + 1) := by
  rcases h.cs with ⟨q1, _⟩ | ⟨q1, hh, q2, q3, q4⟩
  · rw [hf] at q1; cases q1
  · have hst : Still [62] w' w4 := Still.of_grown hg (fun k hk => by obtain ⟨cur, hc⟩ := own_typed h.t k hk; exact ⟨cur, _, by simp, hc⟩)
    have hB : Below w.heap.size w w4 := h.bel.grown hg h.bel.size (fun k hk => own_base h.t k hk)
    have hv : valid x.f0 x.f2 x.f3 = true := by
      unfold fresh at q1
      exact (Bool.and_eq_true_iff.1 q1).1
    have hmp : ns2.map (·.e) = insL x (ns.map (·.e)) := by rw [h.mp, insV_eq hv]
    rw [q2] at q3
    have hpm : (ns2.map tw).Perm (TL ++ [⟨x, min (max lv 1) 8⟩]) := q3.trans (h.pm.append_right _)
    have hln : ns2.length ≤ i + 1 := by
      have h1 := hpm.length_eq
      have h2 := h.pm.length_eq
      have h3 := h.ln
      simp only [List.length_map, List.length_append, List.length_singleton] at h1 h2
      omega
    refine ⟨h.ok.still hst (by decide) (by decide), (h.bk.still hst (by decide) (by decide) (by decide) (by decide) (by decide) hB).mono (fun k hk => Nat.lt_of_lt_of_le hk hg.size), ?_, ?_, ?_, ?_, hpm, ?_, hln, ?_, hB⟩
    · rw [hmp]
      exact hst.rw_ h.r7 (by decide)
    · rw [encL_append]
      exact ho
    · rw [hmp]
      exact h.n7_
    · rw [List.length_append, List.length_singleton, h.nt_]
    · rw [hmT_snoc, q4, ← q2]
      rfl
    · refine mem_snoc_imp h.sz ⟨h.sx, ?_, ?_⟩
      · show 1 ≤ min (max lv 1) 8
        omega
      · show min (max lv 1) 8 ≤ 8
        omega
structure Lq (w w' : World) (g : Nat) (ns : List Nd) (T : Nat) (TL : List Tw) (Ar : Option Addr) (nr cr : Nat) (At : Option Addr) (nt ct i : Nat) : Prop where
  ok : OkT w w' g ns T
  r : Rw w' 32 4 (.slice Ar nr cr) nr (encL encE (ns.map (·.e)))
  t : w'.ownsRow w.heap.size 62 5 (.slice At nt ct) nt (encL encT TL)
  nr_ : nr = (ns.map (·.e)).length
  nt_ : nt = TL.length
  pm : (ns.map tw).Perm TL
  hm : hmT TL = T
  ln : ns.length ≤ i
  sz : ∀ t ∈ TL, t.f0.f0.size ≤ 140737488351232 ∧ 1 ≤ t.f1 ∧ t.f1 ≤ 8
  bel : Below w.heap.size w w'
section
variable {w w' w1 : World} {g gk T nr cr nt ct i : Nat} {ns : List Nd} {TL : List Tw} {Ar At : Option Addr}
theorem Lp.q (h : Lp w w' g gk ns T TL Ar nr cr At nt ct i) : Lq w w' g ns T TL Ar nr cr At nt ct i := ⟨h.ok, h.r, h.t, h.nr_, h.nt_, h.pm, h.hm, h.ln, h.sz, h.bel⟩
theorem Lq.p (h : Lq w w' g ns T TL Ar nr cr At nt ct i) (hb : BkX w w' gk (fun k => k < w'.heap.size)) : Lp w w' g gk ns T TL Ar nr cr At nt ct i := ⟨h.ok, hb, h.r, h.t, h.nr_, h.nt_, h.pm, h.hm, h.ln, h.sz, h.bel⟩
theorem Lq.still (h : Lq w w' g ns T TL Ar nr cr At nt ct i) {L : List TypeId} (hs : Still L w' w1) (hb : Below w.heap.size w w1) (h1 : 38 ∉ L) (h2 : 36 ∉ L) (h5 : 32 ∉ L) (h8 : 62 ∉ L) : Lq w w1 g ns T TL Ar nr cr At nt ct i :=
  ⟨h.ok.still hs h1 h2, hs.rw_ h.r h5, hs.own h.t h8, h.nr_, h.nt_, h.pm, h.hm, h.ln, h.sz, hb⟩
theorem Lq.below (h : Lq w w' g ns T TL Ar nr cr At nt ct i) (hb : Below w'.heap.size w' w1) : Lq w w1 g ns T TL Ar nr cr At nt ct i := h.still (L := []) (Still.of_below hb) (below_step h.bel hb) (by simp) (by simp) (by simp) (by simp)
theorem Lq.lnE (h : Lq w w' g ns T TL Ar nr cr At nt ct i) : (ns.map (·.e)).length ≤ i := by rw [List.length_map]; exact h.ln
theorem Lq.szE (h : Lq w w' g ns T TL Ar nr cr At nt ct i) : ∀ x ∈ ns.map (·.e), x.f0.size ≤ 140737488351232 := fun x hx => by
  obtain ⟨y, hy, rfl⟩ := List.mem_map.1 hx
  exact (h.sz (tw y) (h.pm.mem_iff.1 (List.mem_map.2 ⟨y, hy, rfl⟩))).1
theorem Lq.srt (h : Lq w w' g ns T TL Ar nr cr At nt ct i) : (ns.map (·.e)).Pairwise (fun x y => ce x y = -1) := srt_map h.ok.srt
end
structure Kp (w wc : World) (L : Nat) (g gk : Nat) (ns : List Nd) (T : Nat) (TL : List Tw) (Ar : Option Addr) (nr cr : Nat) (At : Option Addr) (nt ct i : Nat) (key : ByteArray) (Aa : Option Addr) (na ca : Nat) (Ab : Option Addr) (nb cb_ : Nat) : Prop where
  q : Lq w wc g ns T TL Ar nr cr At nt ct i
  bk : BkX w wc gk (fun k => k < L)
  lw : w.heap.size ≤ L
  lz : L ≤ wc.heap.size
  a : Rw wc 32 4 (.slice Aa na ca) na (encL encE (ns.map (·.e)))
  b : Rw wc 32 4 (.slice Ab nb cb_) nb (encL encE (fromL key (ns.map (·.e))))
  na_ : na = (ns.map (·.e)).length
  nb_ : nb = (fromL key (ns.map (·.e))).length
  fa : ∀ k, (Value.slice Aa na ca).ownBlock = some k → L ≤ k
  fb : ∀ k, (Value.slice Ab nb cb_).ownBlock = some k → L ≤ k
  ab : ap (.slice Aa na ca) (.slice Ab nb cb_)
theorem Kp.mkA {w wc W wa wb : World} {g gk T nr cr nt ct i : Nat} {ns : List Nd} {TL : List Tw} {Ar At : Option Addr} {key : ByteArray} {va vb : Value} (h : Lp w wc g gk ns T TL Ar nr cr At nt ct i) (hW : Below wc.heap.size wc W)
    (hra : Kd.R k32 32 wa W.heap.size (fun _ => True) va (ns.map (·.e))) (hba : Below W.heap.size W wa) (hrb : Kd.R k32 32 wb wa.heap.size (fun _ => True) vb (fromL key (ns.map (·.e)))) (hbb : Below wa.heap.size wa wb) :
    ∃ (L : Nat) (Aa : Option Addr) (na ca : Nat) (Ab : Option Addr) (nb cb_ : Nat), va = .slice Aa na ca ∧ vb = .slice Ab nb cb_ ∧ Aside0 (Kp w wb L g gk ns T TL Ar nr cr At nt ct i key Aa na ca Ab nb cb_) := by
  obtain ⟨Aa, ca, rfl⟩ := Kd.R_slice hra
  obtain ⟨Ab, cb_, rfl⟩ := Kd.R_slice hrb
  have hb1 : Below wc.heap.size wc wa := below_step hW hba
  have hb2 : Below wc.heap.size wc wb := below_step hb1 hbb
  have ha := flatE.of_R hra
  refine ⟨wc.heap.size, Aa, _, ca, Ab, _, cb_, rfl, rfl, ⟨⟨h.q.below hb2, h.bk.below hb2, h.bel.size, hb2.size, ha.below hbb, flatE.of_R hrb, rfl, rfl, fun k hk => ?_, fun k hk => ?_, fun k hk hk2 => ?_⟩⟩⟩
  · exact Nat.le_trans hW.size (Kd.R_base hra k hk)
  · exact Nat.le_trans hb1.size (Kd.R_base hrb k hk)
  · have h1 := ha.lt k hk
    have h2 := Kd.R_base hrb k hk2
    omega
theorem Kp.mkB {w wc W wa wb : World} {g gk T nr cr nt ct i : Nat} {ns : List Nd} {TL : List Tw} {Ar At : Option Addr} {key : ByteArray} {va vb : Value} (h : Lp w wc g gk ns T TL Ar nr cr At nt ct i) (hW : Below wc.heap.size wc W)
    (hrb : Kd.R k32 32 wb W.heap.size (fun _ => True) vb (fromL key (ns.map (·.e)))) (hbb : Below W.heap.size W wb) (hra : Kd.R k32 32 wa wb.heap.size (fun _ => True) va (ns.map (·.e))) (hba : Below wb.heap.size wb wa) :
    ∃ (L : Nat) (Aa : Option Addr) (na ca : Nat) (Ab : Option Addr) (nb cb_ : Nat), va = .slice Aa na ca ∧ vb = .slice Ab nb cb_ ∧ Aside0 (Kp w wa L g gk ns T TL Ar nr cr At nt ct i key Aa na ca Ab nb cb_) := by
  obtain ⟨Aa, ca, rfl⟩ := Kd.R_slice hra
  obtain ⟨Ab, cb_, rfl⟩ := Kd.R_slice hrb
  have hb1 : Below wc.heap.size wc wb := below_step hW hbb
  have hb2 : Below wc.heap.size wc wa := below_step hb1 hba
  have hb := flatE.of_R hrb
  refine ⟨wc.heap.size, Aa, _, ca, Ab, _, cb_, rfl, rfl, ⟨⟨h.q.below hb2, h.bk.below hb2, h.bel.size, hb2.size, flatE.of_R hra, hb.below hba, rfl, rfl, fun k hk => ?_, fun k hk => ?_, fun k hk hk2 => ?_⟩⟩⟩
  · exact Nat.le_trans hb1.size (Kd.R_base hra k hk)
  · exact Nat.le_trans hW.size (Kd.R_base hrb k hk)
  · have h1 := hb.lt k hk2
    have h2 := Kd.R_base hra k hk
    omega
theorem len_from (key : ByteArray) (l : List E) : (fromL key l).length ≤ l.length := (List.dropWhile_sublist _).length_le
theorem keepE {w0 w : World} {g : Nat} {P P' : Nat → Prop} (h : BkX w0 w g P) {A : Option Addr} {n c : Nat} {xs : List E} (hn : n = xs.length) (hv : Rw w 32 4 (.slice A n c) n (encL encE xs)) (hvk : ∀ k, (Value.slice A n c).ownBlock = some k → ¬ P k ∧ P' k ∧ w0.heap.size ≤ k) (hNN : ∀ k, P k → P' k) (hx : xs.length ≤ 1000) :
    Calls Tryz.prog 18 #[.pointer (some ⟨g, 0, none⟩), .slice A n c] w fun e w' => e = .returned (.tuple #[]) ∧ BkX w0 w' g P' ∧ Still [56, 22] w w' ∧ w.heap.size ≤ w'.heap.size ∧ Below w0.heap.size w0 w' := by
  subst hn
  exact h.keepEntries hv hvk hNN hx
theorem keepI {w0 w : World} {g : Nat} {P P' : Nat → Prop} (h : BkX w0 w g P) {A : Option Addr} {n c : Nat} {xs : List Int} (hn : n = xs.length) (hv : Rw w 3 1 (.slice A n c) n (encL BkInts.enc xs)) (hvk : ∀ k, (Value.slice A n c).ownBlock = some k → ¬ P k ∧ P' k ∧ w0.heap.size ≤ k) (hNN : ∀ k, P k → P' k) (hx : xs.length ≤ 1000) :
    Calls Tryz.prog 25 #[.pointer (some ⟨g, 0, none⟩), .slice A n c] w fun e w' => e = .returned (.tuple #[]) ∧ BkX w0 w' g P' ∧ Still [56, 23] w w' ∧ w.heap.size ≤ w'.heap.size ∧ Below w0.heap.size w0 w' := by
  subst hn
  exact h.keepInts hv hvk hNN hx
theorem sameE {w : World} {A A' : Option Addr} {n c n' c' : Nat} {xs : List E} (hn : n = xs.length) (hn' : n' = xs.length) (h1 : Rw w 32 4 (.slice A n c) n (encL encE xs)) (h2 : Rw w 32 4 (.slice A' n' c') n' (encL encE xs)) (hx : xs.length ≤ 1000000) :
    Calls Tryz.prog 19 #[.slice A n c, .slice A' n' c'] w fun e w' => e = .returned (.bool true) ∧ Below w.heap.size w w' := by
  subst hn
  subst hn'
  obtain ⟨_, _, e1, g1⟩ := h1.slice
  obtain ⟨_, _, e2, g2⟩ := h2.slice
  injection e1 with _ _ e1
  injection e2 with _ _ e2
  exact (cornucopiabook_SameEntries.calls (xs.length + 1) A c xs A' c' xs true w (flatE.to_C h1 rfl) (by omega) (flatE.to_C h2 rfl) (by omega) (BkEntries.same_ev xs hx (Nat.lt_succ_self _))).mono (fun e w' h => ⟨h.1, h.2.below⟩)
theorem sameI {w : World} {A A' : Option Addr} {n c n' c' : Nat} {xs : List Int} (hn : n = xs.length) (hn' : n' = xs.length) (h1 : Rw w 3 1 (.slice A n c) n (encL BkInts.enc xs)) (h2 : Rw w 3 1 (.slice A' n' c') n' (encL BkInts.enc xs)) (hx : xs.length ≤ 1000000) :
    Calls Tryz.prog 26 #[.slice A n c, .slice A' n' c'] w fun e w' => e = .returned (.bool true) ∧ Below w.heap.size w w' := by
  subst hn
  subst hn'
  obtain ⟨_, _, e1, g1⟩ := h1.slice
  obtain ⟨_, _, e2, g2⟩ := h2.slice
  injection e1 with _ _ e1
  injection e2 with _ _ e2
  exact (cornucopiabook_SameInts.calls (xs.length + 1) A c xs A' c' xs true w (BkInts.flat.to_C h1 rfl) (by omega) (BkInts.flat.to_C h2 rfl) (by omega) (BkInts.same_ev xs hx (Nat.lt_succ_self _))).mono (fun e w' h => ⟨h.1, h.2.below⟩)
theorem rangeE {w : World} {A : Option Addr} {n c : Nat} {xs : List E} (key : ByteArray) (hn : n = xs.length) (h1 : Rw w 32 4 (.slice A n c) n (encL encE xs)) (hx : xs.length ≤ 1000000) (hs : ∀ x ∈ xs, x.f0.size ≤ 140737488351232) (hk : key.size ≤ 140737488351232) (hS : xs.Pairwise (fun x y => ce x y = -1)) :
    Calls Tryz.prog 20 #[.slice A n c, .string key, .string ⟨#[]⟩] w fun e w' => ∃ A' n' c', e = .returned (.slice A' n' c') ∧ n' = (fromL key xs).length ∧ Rw w' 32 4 (.slice A' n' c') n' (encL encE (fromL key xs)) ∧ Below w.heap.size w w' := by
  subst hn
  obtain ⟨_, _, e1, g1⟩ := h1.slice
  injection e1 with _ _ e1
  obtain ⟨k, hk2⟩ := PuRef5.Range_ev xs key ⟨#[]⟩ hs hk (by decide) hx
  refine (cornucopiaref5_Range.calls k A c xs key ⟨#[]⟩ _ w (flatE.to_C h1 rfl) (by omega) (hk2 k (Nat.le_refl _))).mono ?_
  rintro e w' ⟨v, rfl, hr, hb⟩
  rw [range_from key xs hS] at hr
  obtain ⟨A', c', rfl⟩ := Kd.R_slice hr
  exact ⟨A', _, c', rfl, rfl, flatE.of_R hr, hb⟩
theorem lenE {w0 w : World} {g : Nat} {ns : List Nd} {T nr : Nat} (h : OkT w0 w g ns T) (hn : nr = (ns.map (·.e)).length) : Calls Tryz.prog 21 #[.pointer (some ⟨g, 0, none⟩)] w fun e w' => e = .returned (.int .i64 (nr : Int)) ∧ w' = w := by
  rw [hn, List.length_map]
  exact len_ok w0 w g ns h.okl
theorem neqE (V : World) (e : E) : (binOp BinOp.neq 32 (.agg #[.string (e).f0, .int .u64 (e).f1, .int .i64 (e).f2, .string (e).f3]) (.agg #[.string (e).f0, .int .u64 (e).f1, .int .i64 (e).f2, .string (e).f3])).run Tryz.prog V = .ok (.bool false) V := by
  go_simp
theorem pickE {w : World} {A : Option Addr} {n c : Nat} {xs : List E} (key : ByteArray) (s : Int) (hn : n = xs.length) (h1 : Rw w 32 4 (.slice A n c) n (encL encE xs)) (hx : xs.length ≤ 1000000) (hS : xs.Pairwise (fun x y => ce x y = -1)) (p : E) (ok : Bool) (hp : p = (pickL key s xs).getD Sk.zE) (ho : ok = (pickL key s xs).isSome) :
    Calls Tryz.prog 23 #[.slice A n c, .string key, .int .u64 s] w fun e w' => e = .returned (.tuple #[.agg #[.string p.f0, .int .u64 p.f1, .int .i64 p.f2, .string p.f3], .bool ok]) ∧ Below w.heap.size w w' := by
  subst hn hp ho
  obtain ⟨_, _, e1, g1⟩ := h1.slice
  injection e1 with _ _ e1
  obtain ⟨k, hk⟩ := PuRef5.Pick_ev xs key s hS hx
  rw [← pick_eq]
  exact cornucopiaref5_Pick.calls k A c xs key s _ _ _ _ _ w (flatE.to_C h1 rfl) (by omega) (hk k (Nat.le_refl _))
theorem getE {w0 w : World} {g : Nat} {ns : List Nd} {T : Nat} (h : OkT w0 w g ns T) (key : ByteArray) (s : Int) (p : E) (ok : Bool) (hp : p = (pickL key s (ns.map (·.e))).getD Sk.zE) (ho : ok = (pickL key s (ns.map (·.e))).isSome) :
    Calls Tryz.prog 22 #[.pointer (some ⟨g, 0, none⟩), .string key, .int .u64 s] w fun e w' => e = .returned (.tuple #[.agg #[.string p.f0, .int .u64 p.f1, .int .i64 p.f2, .string p.f3], .bool ok]) ∧ Below w.heap.size w w' := by
  subst hp ho
  exact get_ok w0 w g ns key s h.okl
theorem pathLE {w0 w : World} {g : Nat} {ns : List Nd} {T : Nat} (h : OkT w0 w g ns T) (key : ByteArray) (hT : T ≤ 8) (hl : ns.length < 1000000) :
    Calls Tryz.prog 24 #[.pointer (some ⟨g, 0, none⟩), .string key] w fun e w' => ∃ A n c, e = .returned (.slice A n c) ∧ n = (pathL key ns T).length ∧ Rw w' 3 1 (.slice A n c) n (encL BkInts.enc (pathL key ns T)) ∧ (∀ k, (Value.slice A n c).ownBlock = some k → w.heap.size ≤ k) ∧ Below w.heap.size w w' := by
  refine (path_calls w0 w g ns _ T key h.isl hT hl).mono ?_
  rintro e w' ⟨v, rfl, hr, hb⟩
  obtain ⟨A, c, rfl⟩ := Kd.R_slice hr
  exact ⟨A, _, c, rfl, rfl, BkInts.flat.of_R hr, fun k hk => Kd.R_base hr k hk, hb⟩
theorem pathRE {w : World} {A : Option Addr} {n c : Nat} {xs : List Tw} {b : Nat} (key : ByteArray) (hn : n = xs.length) (h1 : w.ownsRow b 62 5 (.slice A n c) n (encL encT xs)) (hx : xs.length ≤ 1000000) (hs : ∀ t ∈ xs, t.f0.f0.size ≤ 140737488351232 ∧ 1 ≤ t.f1 ∧ t.f1 ≤ 8) (hk : key.size ≤ 140737488351232) (L : List Int) (hL : L = pathT key xs (hmT xs)) :
    Calls Tryz.prog 27 #[.slice A n c, .string key] w fun e w' => ∃ A' n' c', e = .returned (.slice A' n' c') ∧ n' = L.length ∧ Rw w' 3 1 (.slice A' n' c') n' (encL BkInts.enc L) ∧ Below w.heap.size w w' := by
  subst hn hL
  have h2 := Rw.of_own h1
  obtain ⟨_, _, e1, g1⟩ := h2.slice
  injection e1 with _ _ e1
  obtain ⟨k, hk2⟩ := Path_ev xs key (fun t ht => (hs t ht).1) hk hx (fun t ht => ⟨by have := (hs t ht).2.1; omega, (hs t ht).2.2⟩)
  refine (cornucopiaref5_Path.calls k A c xs key _ w (flatT.to_C h2 rfl) (by omega) (hk2 k (Nat.le_refl _))).mono ?_
  rintro e w' ⟨v, rfl, hr, hb⟩
  obtain ⟨A', c', rfl⟩ := Kd.R_slice hr
  exact ⟨A', _, c', rfl, rfl, BkInts.flat.of_R hr, hb⟩
theorem Lq.T8 {w w' : World} {g T nr cr nt ct i : Nat} {ns : List Nd} {TL : List Tw} {Ar At : Option Addr} (h : Lq w w' g ns T TL Ar nr cr At nt ct i) : T ≤ 8 := by
  rw [← h.hm]
  have : ∀ (q : List Tw) (m : Nat), m ≤ 8 → (∀ t ∈ q, 1 ≤ t.f1 ∧ t.f1 ≤ 8) → q.foldl (fun m t => max m t.f1.toNat) m ≤ 8 := by
    intro q
    induction q with
    | nil => intro m hm _; exact hm
    | cons t r ih =>
      intro m hm hq
      rw [List.foldl_cons]
      have := hq t (by simp)
      exact ih _ (by omega) (fun x hx => hq x (by simp [hx]))
  exact this TL 0 (by omega) (fun t ht => (h.sz t ht).2)
theorem Lq.ntE {w w' : World} {g T nr cr nt ct i : Nat} {ns : List Nd} {TL : List Tw} {Ar At : Option Addr} (h : Lq w w' g ns T TL Ar nr cr At nt ct i) : TL.length ≤ i := by
  have h1 := h.pm.length_eq
  have h2 := h.ln
  simp only [List.length_map] at h1
  omega
theorem Lq.path {w w' : World} {g T nr cr nt ct i : Nat} {ns : List Nd} {TL : List Tw} {Ar At : Option Addr} (h : Lq w w' g ns T TL Ar nr cr At nt ct i) (key : ByteArray) : pathL key ns T = pathT key TL (hmT TL) := by
  rw [h.hm]
  exact path_eq h.ok.srt h.pm T
theorem scells {w : World} {A : Option Addr} {l : List ByteArray} (hC : Kd.C Kd.string w A l.length l) {i : Nat} (hi : i < l.length) : ∃ ad, A = some ad ∧ ∀ V, Below w.heap.size w V → V.cell? (ad.add i) = some (.string l[i]) := by
  obtain ⟨ad, e0, y0⟩ := Kd.at_string hC (i : Int) (Int.natCast_nonneg _) (Int.ofNat_lt.mpr hi)
  have hx : rdOf ByteArray.empty l (i : Int) = l[i] := by simp [rdOf, hi]
  rw [hx] at y0
  simp only [Int.toNat_natCast] at y0
  exact ⟨ad, e0, fun V hb => pw_cell_below hb y0⟩
set_option maxHeartbeats 16000000 in
set_option maxRecDepth 100000 in
theorem calls (a0 : Bool) (A1 : Option Addr) (c1 : Nat) (l1 : List E) (A2 : Option Addr) (c2 : Nat) (l2 : List Int) (A3 : Option Addr) (c3 : Nat) (l3 : List ByteArray) (a4 : Int) (w : World)
    (hr1 : Kd.C k32 w A1 l1.length l1) (hc1 : l1.length ≤ c1) (hr2 : Kd.C (Kd.int .i64) w A2 l2.length l2) (hc2 : l2.length ≤ c2) (hr3 : Kd.C Kd.string w A3 l3.length l3) (hc3 : l3.length ≤ c3)
    (hz1 : ∀ e ∈ l1, e.f0.size ≤ 140737488351232 ∧ e.f3.size ≤ 140737488351232) (hz3 : ∀ s ∈ l3, s.size ≤ 140737488351232) :
    Calls Tryz.prog 3 #[.bool a0, .slice A1 l1.length c1, .slice A2 l2.length c2, .slice A3 l3.length c3, .int .u64 a4] w fun e w' => e = .returned (.bool true) ∧ Below w.heap.size w w' := by
  obtain ⟨sb, ⟨ks, hks⟩, hsm⟩ := PuSm.Small_ev l1 hz1
  have HKS := Aside0.mk (hks ks (Nat.le_refl _))
  obtain ⟨tb, ⟨kt, hkt⟩, htm⟩ := Short_ev l3 60 3000 hz3 (by decide) (by decide)
  have HKT := Aside0.mk (hkt kt (Nat.le_refl _))
  have HR1 := Aside0.mk hr1
  have HC1 := Aside0.mk hc1
  have HR2 := Aside0.mk hr2
  have HC2 := Aside0.mk hc2
  have HR3 := Aside0.mk hr3
  have HC3 := Aside0.mk hc3
  have HZ1 := Aside0.mk hz1
  have HZ3 := Aside0.mk hz3
  clear hks hkt hr1 hc1 hr2 hc2 hr3 hc3 hz1 hz3
  have HB := Aside0.mk (Below.refl w.heap.size w)
  by_cases hcond : sb = true ∧ l2.length ≤ 200 ∧ tb = true
  case neg =>
    have al : ∀ (b1 b2 b3 : Bool), sb = !b1 → tb = !b3 → decide (200 < (l2.length : Int)) = b2 → decide (200 < l2.length) = b2 → (b1 || b2 || b3) = true → Calls Tryz.prog 3 #[.bool a0, .slice A1 l1.length c1, .slice A2 l2.length c2, .slice A3 l3.length c3, .int .u64 a4] w fun e w' => e = .returned (.bool true) ∧ Below w.heap.size w w' := by
      intro b1 b2 b3 h1 h2 h3 h4 h5
      subst h1
      subst h2
      clear hcond hsm htm
      cases b1
      case true =>
        clear h3 h4 h5
        have HKS2 : Aside0 (cornucopialaw5_Small.f ks l1 = some false) := HKS
        go_enter Tryz.func3, Tryz.ntmps3
        go_wp2_with (first | (go_at_call 9; refine (cornucopialaw5_Small.calls ks _ _ l1 false _ HR1.out HC1.out HKS2.out).mono ?_; rintro e w1 ⟨rfl, hb⟩; have n0_ := Aside0.mk (below_step HB.out hb); clear HB; have HB := n0_; clear n0_; clear hb) | (go_at_call 11; refine (alive_calls _).mono ?_; rintro e w9 ⟨rfl, hb⟩; have n0_ := Aside0.mk (below_step HB.out hb); clear HB; have HB := n0_; clear n0_; clear hb))
        go_ret
        exact ⟨rfl, HB.out⟩
      case false =>
        have HKS2 : Aside0 (cornucopialaw5_Small.f ks l1 = some true) := HKS
        cases b2
        case true =>
          clear h5
          go_enter Tryz.func3, Tryz.ntmps3
          go_wp2_with (first | (go_at_call 9; refine (cornucopialaw5_Small.calls ks _ _ l1 true _ HR1.out HC1.out HKS2.out).mono ?_; rintro e w1 ⟨rfl, hb⟩; have n0_ := Aside0.mk (below_step HB.out hb); clear HB; have HB := n0_; clear n0_; clear hb) | (go_at_call 11; refine (alive_calls _).mono ?_; rintro e w9 ⟨rfl, hb⟩; have n0_ := Aside0.mk (below_step HB.out hb); clear HB; have HB := n0_; clear n0_; clear hb))
          go_ret
          exact ⟨rfl, HB.out⟩
        case false =>
          cases b3
          case true =>
            clear h5
            have HKT2 : Aside0 (cornucopiabook_Short.f kt 60 3000 l3 = some false) := HKT
            go_enter Tryz.func3, Tryz.ntmps3
            go_wp2_with (first | (go_at_call 9; refine (cornucopialaw5_Small.calls ks _ _ l1 true _ HR1.out HC1.out HKS2.out).mono ?_; rintro e w1 ⟨rfl, hb⟩; have n0_ := Aside0.mk (below_step HB.out hb); clear HB; have HB := n0_; clear n0_; clear hb) | (go_at_call 10; refine (cornucopiabook_Short.calls kt 60 3000 _ _ l3 false _ (Kd.C_below HR3.out HB.out) HC3.out HKT2.out).mono ?_; rintro e w1 ⟨rfl, hb⟩; have n0_ := Aside0.mk (below_step HB.out hb); clear HB; have HB := n0_; clear n0_; clear hb) | (go_at_call 11; refine (alive_calls _).mono ?_; rintro e w9 ⟨rfl, hb⟩; have n0_ := Aside0.mk (below_step HB.out hb); clear HB; have HB := n0_; clear n0_; clear hb))
            go_ret
            exact ⟨rfl, HB.out⟩
          case false => cases h5
    refine al (!sb) (decide (200 < (l2.length : Int))) (!tb) (by simp) (by simp) rfl (decide_eq_decide.2 (by omega)) ?_
    cases sb
    · rfl
    · cases tb
      · simp
      · have h2 : 200 < (l2.length : Int) := by
          by_cases h3 : l2.length ≤ 200
          · exact absurd ⟨rfl, h3, rfl⟩ hcond
          · omega
        simp [h2]
  case pos =>
  obtain ⟨rfl, hl2, rfl⟩ := hcond
  have hl1 : l1.length ≤ 150 := hsm rfl
  have hl3 : l3.length ≤ 60 := htm rfl
  clear hsm htm
  have s1 : decide (200 < (l2.length : Int)) = false := decide_eq_false (by omega)
  have s1' : decide (200 < l2.length) = false := decide_eq_false (by omega)
  have HL1 := Aside0.mk hl1
  have HL2 := Aside0.mk hl2
  have HL3 := Aside0.mk hl3
  clear hl1 hl2 hl3
  go_enter Tryz.func3, Tryz.ntmps3
  go_upto_if 44 with (first
    | (go_at_call 9; refine (cornucopialaw5_Small.calls ks _ _ l1 true _ HR1.out HC1.out HKS.out).mono ?_; rintro e w1 ⟨rfl, hb⟩; have n0_ := Aside0.mk (below_step HB.out hb); clear HB; have HB := n0_; clear n0_; clear hb)
    | (go_at_call 10; refine (cornucopiabook_Short.calls kt 60 3000 _ _ l3 true _ (Kd.C_below HR3.out HB.out) HC3.out HKT.out).mono ?_; rintro e w1 ⟨rfl, hb⟩; have n0_ := Aside0.mk (below_step HB.out hb); clear HB; have HB := n0_; clear n0_; clear hb)
    | (go_at_call 12; refine (new_tow w _ HB.out).mono ?_; rintro e w1 ⟨g, rfl, hi, hb⟩; have HI := Aside0.mk hi; have n0_ := Aside0.mk (below_step HB.out hb); clear hi hb HB; have HB := n0_; clear n0_))
  go_cut [11] (fun v11 wc => ∃ g : Nat, v11 = .pointer (some ⟨g, 0, none⟩) ∧ Aside0 (OkT w wc g [] 0) ∧ Aside0 (Below w.heap.size w wc))
  case first =>
    cases a0
    · go_wp2_with (fail)
      go_meet
      case rel => exact ⟨g, rfl, HI, HB⟩
    · go_wp2_with (fail)
      go_meet
      case rel => exact ⟨_, rfl, ⟨zero_tow w w1 HB.out⟩, ⟨below_alloc HB.out _⟩⟩
  case rest =>
  clear HI HB
  obtain ⟨g, rfl, HI, HB⟩ := hcut
  go_wp2_with (fail)
  have HP : Aside0 (Lp w (wc.alloc (.cells #[.slice none 0 0, .slice none 0 0, .slice none 0 0, .slice none 0 0, .slice none 0 0, .slice none 0 0, .slice none 0 0, .slice none 0 0, .slice none 0 0, .slice none 0 0, .slice none 0 0, .slice none 0 0, .slice none 0 0, .slice none 0 0, .slice none 0 0, .slice none 0 0, .slice none 0 0, .slice none 0 0, .slice none 0 0, .slice none 0 0, .slice none 0 0, .slice none 0 0, .slice none 0 0, .slice none 0 0, .slice none 0 0, .slice none 0 0, .slice none 0 0, .slice none 0 0] 56)) g wc.heap.size [] 0 [] none 0 0 none 0 0 0) := ⟨⟨HI.out.below (below_alloc (Below.refl _ wc) _), BkX.new HB.out _, Rw.nil _ _ _, own_nil _ _ _ _, rfl, rfl, List.Perm.nil, rfl, Nat.le_refl _, (fun t ht => by cases ht), below_alloc HB.out _⟩⟩
  obtain ⟨gk, hgk⟩ : ∃ gk, gk = wc.heap.size := ⟨_, rfl⟩
  rw [← hgk] at HP ⊢
  clear hgk HI HB
  go_loopw [12, 13, 15] (fun v12 v13 v15 w' => ∃ (i : Nat) (ns : List Nd) (T : Nat) (TL : List Tw) (Ar : Option Addr) (nr cr : Nat) (At : Option Addr) (nt ct : Nat), v12 = .slice Ar nr cr ∧ v13 = .slice At nt ct ∧ v15 = .int .i64 i ∧ i ≤ l1.length ∧ Aside0 (Lp w w' g gk ns T TL Ar nr cr At nt ct i)) (fun _ _ v15 _ => l1.length - (intOf v15).toNat)
  case atStart => exact ⟨0, [], 0, [], none, 0, 0, none, 0, 0, rfl, rfl, rfl, Nat.zero_le _, HP⟩
  case round =>
    clear HP
    obtain ⟨i, ns, T, TL, Ar, nr, cr, At, nt, ct, rfl, rfl, rfl, hi, HP⟩ := hrel
    have hi2 : i ≤ 150 := by have := HL1.out; omega
    by_cases hlt : i < l1.length
    · have p0 : (0 : Int) ≤ (i : Int) := Int.natCast_nonneg _
      have q0 : (i : Int) < (l1.length : Int) := Int.ofNat_lt.mpr hlt
      have t0 : decide ((i : Int) < (l1.length : Int)) = true := decide_eq_true q0
      have HLT := Aside0.mk hlt
      go_upto_if 60 with (fail)
      go_cut [16] (fun v16 wc => ∃ lv : Int, v16 = .int .i64 lv ∧ Aside0 (Lp w wc g gk ns T TL Ar nr cr At nt ct i))
      case first =>
        by_cases h2 : i < l2.length
        · have q2 : (i : Int) < (l2.length : Int) := Int.ofNat_lt.mpr h2
          have t2 : decide ((i : Int) < (l2.length : Int)) = true := decide_eq_true q2
          have t2' : decide (i < l2.length) = true := decide_eq_true h2
          obtain ⟨ad2, e2, z0⟩ := Kd.at_int (Kd.C_below HR2.out HP.out.bel) (i : Int) p0 q2
          subst e2
          simp only [Int.toNat_natCast] at z0
          generalize rd l2 (i : Int) = lv at *
          clear h2
          go_wp2_with (fail)
          go_meet
          case rel => exact ⟨lv, rfl, HP⟩
        · have t2 : decide ((i : Int) < (l2.length : Int)) = false := decide_eq_false (by omega)
          have t2' : decide (i < l2.length) = false := decide_eq_false h2
          have h3 : l2.length ≤ i := by omega
          go_wp2_with (fail)
          go_meet
          case rel => exact ⟨1, rfl, HP⟩
      case rest =>
      clear HP
      obtain ⟨lv, rfl, HP⟩ := hcut
      obtain ⟨ad, ea, hY⟩ := ycells HR1.out hlt
      subst ea
      have HSX : Aside0 (l1[i].f0.size ≤ 140737488351232 ∧ l1[i].f3.size ≤ 140737488351232) := ⟨HZ1.out _ (List.getElem_mem hlt)⟩
      generalize l1[i] = x at *
      have HY := Aside0.mk hY
      clear hY
      obtain ⟨y0, y1, y2, y3⟩ := HY.out _ HP.out.bel
      go_upto_region 18 with (first
        | (go_at_call 13; refine (insert_any HP.out.nr_ HP.out.r (Nat.le_trans HP.out.lnE (by omega)) HP.out.szE HSX.out.1).mono ?_; rintro e w1 ⟨A7, n7, c7, rfl, hn7, hr7, hb⟩; have n0_ := Aside0.mk (HP.out.below hb); have HR7 := Aside0.mk hr7; have HN7 := Aside0.mk hn7; clear hr7 hn7 y0 y1 y2 y3 HP hb; have HP := n0_; clear n0_; obtain ⟨y0, y1, y2, y3⟩ := HY.out _ HP.out.bel))
      go_cut [18] (fun v18 wc => v18 = .bool (fresh x (ns.map (·.e))) ∧ Aside0 (Lp w wc g gk ns T TL Ar nr cr At nt ct i) ∧ Aside0 (Rw wc 32 4 (.slice A7 n7 c7) n7 (encL encE (insL x (ns.map (·.e))))))
      case first =>
        have HFE := Aside0.mk (fresh_eq (e := x) HP.out.srt)
        generalize insB x (ns.map (·.e)) = b1 at *
        cases b1
        · go_wp2_with (fail)
          go_meet
          case rel => exact ⟨by rw [HFE.out]; rfl, HP, HR7⟩
        · have HV := Aside0.mk (refValid_ev x)
          go_wp2_with (first
            | (go_at_call 14; refine (cornucopiaref5_Valid.calls x.f0 x.f1 x.f2 x.f3 _ _ HV.out).mono ?_; rintro e w2 ⟨rfl, hb⟩; have n0_ := Aside0.mk (HP.out.below hb); have n1_ := Aside0.mk (HR7.out.below hb); clear HP HR7 hb; have HP := n0_; have HR7 := n1_; clear n0_ n1_))
          go_meet
          case rel => exact ⟨by rw [HFE.out]; rfl, HP, HR7⟩
      case rest =>
      clear HP HR7 y0 y1 y2 y3
      obtain ⟨rfl, HP, HR7⟩ := hcut
      obtain ⟨y0, y1, y2, y3⟩ := HY.out _ HP.out.bel
      obtain ⟨fb, hfb⟩ : ∃ fb, fb = fresh x (ns.map (·.e)) := ⟨_, rfl⟩
      rw [← hfb]
      have HFB := Aside0.mk hfb
      clear hfb
      have hne : (fb != fb) = false := bne_self_eq_false fb
      go_upto_if 91 with (first
        | (go_at_call 15; refine (put_mp HP.out HR7.out HN7.out HSX.out.1 HSX.out.2 lv hi2).mono ?_; rintro e w3 ⟨rfl, ns2, T2, hm⟩; rw [← HFB.out]; have HM := Aside0.mk hm; clear hm HP HR7 y0 y1 y2 y3; obtain ⟨y0, y1, y2, y3⟩ := HY.out _ HM.out.bel))
      go_cut [12, 13] (fun v12 v13 wc => ∃ (TL3 : List Tw) (Ar3 : Option Addr) (nr3 cr3 : Nat) (At3 : Option Addr) (nt3 ct3 : Nat), v12 = .slice Ar3 nr3 cr3 ∧ v13 = .slice At3 nt3 ct3 ∧ Aside0 (Lp w wc g gk ns2 T2 TL3 Ar3 nr3 cr3 At3 nt3 ct3 (i + 1)))
      case first =>
        cases fb
        · go_wp2_with (fail)
          go_meet
          case rel => exact ⟨TL, Ar, nr, cr, At, nt, ct, rfl, rfl, ⟨HM.out.no HFB.out.symm⟩⟩
        · go_wp2_with (first
            | ((with_reducible refine gate_builtin (b := .append) (xs := #[.tmp 93, .tmp 102]) rfl ?_); at_builtin; refine print_append_cells (w0 := w) w.heap.size rfl (.tmp 93) (.tmp 102) 39 62 (.agg #[.string ⟨#[]⟩, .int .u64 0, .int .i64 0, .string ⟨#[]⟩, .int .i64 0]) 5 56 rfl Tryz.underlying39 infoT rfl ?b1 ?b2 (.slice At nt ct) nt (encL encT TL) [.string x.f0, .int .u64 x.f1, .int .i64 x.f2, .string x.f3, .int .i64 (min (max lv 1) 8)] rfl rfl rfl ?b3 HM.out.t HM.out.bel HM.out.bel.size ?bL ?_; (case b1 => decide); (case b2 => decide); (case b3 => simp [Value.oneCell']); (case bL => have h1 := HM.out.nt_; have h2 := HM.out.pm.length_eq; have h3 := HM.out.ln; simp only [List.length_map] at h2; omega); intro t1 w4 ho4 hb4 hg4 hat4; obtain ⟨A4, c4, rfl⟩ := own_slice ho4; have HN4 := Aside0.mk (HM.out.yes HFB.out.symm ho4 hg4); clear ho4 hb4 hg4 hat4))
          go_meet
          case rel => exact ⟨_, A7, n7, c7, A4, nt + 1, c4, rfl, rfl, HN4⟩
      case rest =>
      clear HM y0 y1 y2 y3 HN7 HFB
      obtain ⟨TL3, Ar3, nr3, cr3, At3, nt3, ct3, rfl, rfl, HP⟩ := hcut
      obtain ⟨y0, y1, y2, y3⟩ := HY.out _ HP.out.bel
      go_upto_region 24 with (fail)
      go_cut [19, 20] (fun v19 v20 wd => ∃ (L : Nat) (Aa : Option Addr) (na ca : Nat) (Ab : Option Addr) (nb cb_ : Nat), v19 = .slice Aa na ca ∧ v20 = .slice Ab nb cb_ ∧ Aside0 (Kp w wd L g gk ns2 T2 TL3 Ar3 nr3 cr3 At3 nt3 ct3 (i + 1) x.f0 Aa na ca Ab nb cb_))
      case first =>
        go_region_held3 (fun V => V.cell? (ad.add (i * 4)) = some (.string x.f0)) (first | exact y0 | exact (HY.out _ (below_drew HP.out.bel)).1 | exact (HY.out _ (below_step (below_drew HP.out.bel) hba)).1 | exact (HY.out _ (below_step (below_drew HP.out.bel) hbb)).1 | exact (HY.out _ (below_step (below_step (below_drew HP.out.bel) hba) hbb)).1 | exact (HY.out _ (below_step (below_step (below_drew HP.out.bel) hbb) hba)).1) (first
          | (go_at_call 16; refine (all_ok w _ g ns2 ?_ ?_).mono ?_; (next => first | exact (HP.out.ok.below (below_drew (Below.refl _ _))).okl | exact ((HP.out.ok.below (below_drew (Below.refl _ _))).below hbb).okl); (next => have := HP.out.ln; omega); rintro e wa ⟨va, rfl, hra, hba⟩)
          | (go_at_call 17; refine (from_ok w _ g ns2 x.f0 ?_ ?_).mono ?_; (next => first | exact (HP.out.ok.below (below_drew (Below.refl _ _))).okl | exact ((HP.out.ok.below (below_drew (Below.refl _ _))).below hba).okl); (next => have := HP.out.ln; omega); rintro e wb ⟨vb, rfl, hrb, hbb⟩))
        all_goals
          have HKP : Aside0 _ := (by first | exact Aside0.mk (Kp.mkA HP.out (below_drew (Below.refl _ wc)) hra hba hrb hbb) | exact Aside0.mk (Kp.mkB HP.out (below_drew (Below.refl _ wc)) hrb hbb hra hba))
          obtain ⟨⟨L, Aa, na, ca, Ab, nb, cb_, rfl, rfl, HK⟩⟩ := HKP
          go_wp2_with (fail)
          go_meet
          case rel => exact ⟨L, Aa, na, ca, Ab, nb, cb_, rfl, rfl, HK⟩
      case rest =>
      clear HP y0 y1 y2 y3
      obtain ⟨L, Aa, na, ca, Ab, nb, cb_, rfl, rfl, HK⟩ := hcut
      have TKA := Aside0.mk True.intro
      go_wp2_with (first
        | (go_at_call 18; have t_ := TKA; refine (keepE (P' := fun k => k < L ∨ (Value.slice Aa na ca).ownBlock = some k) HK.out.bk HK.out.na_ HK.out.a ?_ ?_ ?_).mono ?_; (next => exact fun k hk => ⟨by have := HK.out.fa k hk; omega, Or.inr hk, Nat.le_trans HK.out.lw (HK.out.fa k hk)⟩); (next => exact fun k hk => Or.inl hk); (next => have := HK.out.q.lnE; omega); rintro e w5 ⟨rfl, hbk, hs, hz, hB⟩; have HBK := Aside0.mk hbk; have HQ := Aside0.mk (HK.out.q.still hs hB (by decide) (by decide) (by decide) (by decide)); have HRA := Aside0.mk (hs.rw_ HK.out.a (by decide)); have HRB := Aside0.mk (hs.rw_ HK.out.b (by decide)); have HLW : Aside0 (L ≤ w5.heap.size) := ⟨Nat.le_trans HK.out.lz hz⟩; clear t_ TKA hbk hs hz hB; have TKB := Aside0.mk True.intro)
        | (go_at_call 18; have t_ := TKB; refine (keepE (P' := fun k => k < w5.heap.size) HBK.out HK.out.nb_ HRB.out ?_ ?_ ?_).mono ?_; (next => exact fun k hk => ⟨fun hp => (by rcases hp with hp | hp; exact absurd (HK.out.fb k hk) (by omega); exact HK.out.ab k hp hk), HRB.out.lt k hk, Nat.le_trans HK.out.lw (HK.out.fb k hk)⟩); (next => exact fun k hk => (by rcases hk with hk | hk; exact Nat.lt_of_lt_of_le hk HLW.out; exact HRA.out.lt k hk)); (next => have h1 := HK.out.q.lnE; have h2 := len_from x.f0 (ns2.map (·.e)); omega); rintro e w6 ⟨rfl, hbk, hs, hz, hB⟩; have n0_ := Aside0.mk (hbk.mono (fun k hk => Nat.lt_of_lt_of_le hk hz)); have n1_ := Aside0.mk (HQ.out.still hs hB (by decide) (by decide) (by decide) (by decide)); have n2_ := Aside0.mk (hs.rw_ HRA.out (by decide)); have n3_ := Aside0.mk (hs.rw_ HRB.out (by decide)); clear t_ TKB hbk hs hz hB HBK HQ HRA HRB HLW; have HQP := Aside0.mk (n1_.out.p n0_.out); have HRA := n2_; have HRB := n3_; clear n0_ n1_ n2_ n3_; have TKC := Aside0.mk True.intro)
        | (go_at_call 19; have t_ := TKC; refine (sameE HK.out.na_ HQP.out.nr_ HRA.out HQP.out.r (Nat.le_trans HK.out.q.lnE (by omega))).mono ?_; rintro e w7 ⟨rfl, hb⟩; have n0_ := Aside0.mk (HQP.out.below hb); have n3_ := Aside0.mk (HRB.out.below hb); clear t_ TKC hb HQP HRA HRB; have HQP := n0_; have HRB := n3_; clear n0_ n3_; obtain ⟨y0, y1, y2, y3⟩ := HY.out _ HQP.out.bel)
        | (go_at_call 20; refine (rangeE x.f0 HQP.out.nr_ HQP.out.r (Nat.le_trans HK.out.q.lnE (by omega)) HQP.out.q.szE HSX.out.1 HQP.out.q.srt).mono ?_; rintro e w8 ⟨Ag, ng, cg, rfl, hng, hrg, hb⟩; have n0_ := Aside0.mk (HQP.out.below hb); have n3_ := Aside0.mk (HRB.out.below hb); have HRG := Aside0.mk hrg; have HNG := Aside0.mk hng; clear hb HQP HRB y0 y1 y2 y3 hrg hng; have HQP := n0_; have HRB := n3_; clear n0_ n3_; have TKD := Aside0.mk True.intro)
        | (go_at_call 19; have t_ := TKD; refine (sameE HK.out.nb_ HNG.out HRB.out HRG.out (Nat.le_trans (len_from x.f0 _) (Nat.le_trans HK.out.q.lnE (by omega)))).mono ?_; rintro e w9 ⟨rfl, hb⟩; have n0_ := Aside0.mk (HQP.out.below hb); clear t_ TKD hb HQP HRB HRG; have HQP := n0_; clear n0_)
        | (go_at_call 21; refine (lenE HQP.out.ok HQP.out.nr_).mono ?_; rintro e w10 ⟨rfl, rfl⟩))
      go_roundw
      case rel => exact ⟨i + 1, ns2, T2, TL3, Ar3, nr3, cr3, At3, nt3, ct3, rfl, rfl, by go_num, by have := HLT.out; omega, HQP⟩
      case measure => simp [intOf]; have := HLT.out; omega
    · obtain rfl : i = l1.length := by omega
      have t0 : decide ((l1.length : Int) < (l1.length : Int)) = false := decide_eq_false (by omega)
      have HI2 := Aside0.mk hi2
      clear hlt hi2 hi
      go_wp2_with (fail)
      go_loop [21, 22] (fun v21 v22 => ∃ j : Nat, v22 = .int .i64 j ∧ j ≤ nt ∧ v21 = .int .i64 ((hmT (TL.take j) : Nat) : Int)) (fun _ v22 => nt - (intOf v22).toNat)
      case atStart => exact ⟨0, rfl, Nat.zero_le _, rfl⟩
      case round =>
        obtain ⟨j, rfl, hj, rfl⟩ := hrel
        have hj150 : j ≤ 150 := by have h1 := HP.out.nt_; have h2 := HP.out.q.ntE; have h3 := HL1.out; omega
        by_cases hjl : j < nt
        · have pj : (0 : Int) ≤ (j : Int) := Int.natCast_nonneg _
          have qj : (j : Int) < (nt : Int) := Int.ofNat_lt.mpr hjl
          have tj : decide ((j : Int) < (nt : Int)) = true := decide_eq_true qj
          have hjT : j < TL.length := by have := HP.out.nt_; omega
          obtain ⟨ad, e0, z0, z1, z2, z3, z4⟩ := at_T62 (flatT.to_C (Rw.of_own HP.out.t) HP.out.nt_.symm) (j : Int) pj qj
          subst e0
          rw [rdT hjT] at z4
          simp only [Int.toNat_natCast] at z4
          have HM : Aside0 (((hmT (TL.take (j + 1)) : Nat) : Int) = max ((hmT (TL.take j) : Nat) : Int) TL[j].f1) := ⟨by
            rw [List.take_succ_eq_append_getElem hjT, hmT_snoc]
            have := HP.out.sz _ (List.getElem_mem hjT)
            omega⟩
          have hb8 : ((hmT (TL.take j) : Nat) : Int) ≤ 1000000 := by
            have h1 : ∀ (q : List Tw) (m : Nat), m ≤ 8 → (∀ t ∈ q, t.f1 ≤ 8) → q.foldl (fun m t => max m t.f1.toNat) m ≤ 8 := by
              intro q
              induction q with
              | nil => intro m hm _; exact hm
              | cons t r ih =>
                intro m hm hq
                rw [List.foldl_cons]
                have := hq t (by simp)
                exact ih _ (by omega) (fun x hx => hq x (by simp [hx]))
            have h2 := h1 (TL.take j) 0 (by omega) (fun t ht => (HP.out.sz t (List.mem_of_mem_take ht)).2.2)
            have h3 : hmT (TL.take j) ≤ 8 := h2
            omega
          generalize TL[j].f1 = lj at *
          clear z0 z1 z2 z3 hjT hb8
          go_wp2_with (fail)
          go_round
          case rel => exact ⟨j + 1, by go_num, by omega, by rw [HM.out]⟩
          case measure => simp [intOf]; omega
        · obtain rfl : j = nt := by omega
          have tj : decide ((j : Int) < (j : Int)) = false := decide_eq_false (by omega)
          have HHM : Aside0 (hmT (TL.take j) = T) := ⟨by rw [List.take_of_length_le (by have := HP.out.nt_; omega)]; exact HP.out.hm⟩
          obtain ⟨T0, hT0⟩ : ∃ T0, T0 = hmT (TL.take j) := ⟨_, rfl⟩
          rw [← hT0] at HHM ⊢
          clear hT0
          obtain rfl : T0 = T := HHM.out
          clear HHM hjl hj
          go_wp2_with (fail)
          go_loopw [23] (fun v23 w' => ∃ q : Nat, v23 = .int .i64 q ∧ q ≤ l3.length ∧ Aside0 (Lp w w' g gk ns T0 TL Ar nr cr At j ct l1.length)) (fun v23 _ => l3.length - (intOf v23).toNat)
          case atStart => exact ⟨0, rfl, Nat.zero_le _, HP⟩
          case round =>
            clear HP
            obtain ⟨q, rfl, hq, HP⟩ := hrel
            have hq60 : q ≤ 60 := by have := HL3.out; omega
            by_cases hql : q < l3.length
            · have pq : (0 : Int) ≤ (q : Int) := Int.natCast_nonneg _
              have qq : (q : Int) < (l3.length : Int) := Int.ofNat_lt.mpr hql
              have tq : decide ((q : Int) < (l3.length : Int)) = true := decide_eq_true qq
              obtain ⟨ad3, e3, hS⟩ := scells HR3.out hql
              subst e3
              have HKZ : Aside0 (l3[q].size ≤ 140737488351232) := ⟨HZ3.out _ (List.getElem_mem hql)⟩
              generalize l3[q] = key at *
              have HS := Aside0.mk hS
              clear hS
              have s0 := HS.out _ HP.out.bel
              obtain ⟨pk, hpk⟩ : ∃ pk, pk = (pickL key a4 (ns.map (·.e))).getD Sk.zE := ⟨_, rfl⟩
              obtain ⟨ok, hok⟩ : ∃ ok, ok = (pickL key a4 (ns.map (·.e))).isSome := ⟨_, rfl⟩
              have HPK := Aside0.mk hpk
              have HOK := Aside0.mk hok
              clear hpk hok
              have hnq := fun V => neqE V pk
              have hno : (ok != ok) = false := bne_self_eq_false ok
              have HQL := Aside0.mk hql
              go_wp2_with (first
                | (go_at_call 22; refine (getE HP.out.ok key a4 pk ok HPK.out HOK.out).mono ?_; rintro e w1 ⟨rfl, hb⟩; have n0_ := Aside0.mk (HP.out.below (below_alloc hb (.cells #[.string pk.f0, .int .u64 pk.f1, .int .i64 pk.f2, .string pk.f3] 32))); have HX := Aside0.mk (blk_new w1 (.cells #[.string pk.f0, .int .u64 pk.f1, .int .i64 pk.f2, .string pk.f3] 32)); clear HP hb s0; have HP := n0_; clear n0_; have s0 := HS.out _ HP.out.bel)
                | (go_at_call 23; refine (pickE key a4 HP.out.nr_ HP.out.r (Nat.le_trans HP.out.lnE (by have := HL1.out; omega)) HP.out.srt pk ok HPK.out HOK.out).mono ?_; rintro e w2 ⟨rfl, hb⟩; have n0_ := Aside0.mk (HP.out.below (below_alloc hb (.cells #[.string pk.f0, .int .u64 pk.f1, .int .i64 pk.f2, .string pk.f3] 32))); have HX2 := Aside0.mk (blk_new w2 (.cells #[.string pk.f0, .int .u64 pk.f1, .int .i64 pk.f2, .string pk.f3] 32)); have n1_ := Aside0.mk (blk_alloc (blk_below HX.out hb) (.cells #[.string pk.f0, .int .u64 pk.f1, .int .i64 pk.f2, .string pk.f3] 32)); clear HP hb s0 HX; have HP := n0_; have HX := n1_; clear n0_ n1_; have s0 := HS.out _ HP.out.bel)
                | (go_at_call 24; refine (pathLE HP.out.ok key HP.out.q.T8 (by have := HP.out.ln; have := HL1.out; omega)).mono ?_; rintro e w3 ⟨Ap, np, cp, rfl, hnp, hrp, hfp, hb⟩; have HNP := Aside0.mk hnp; have HRP := Aside0.mk hrp; have HFP := Aside0.mk hfp; have HQ := Aside0.mk (HP.out.q.below hb); have HBK := Aside0.mk (HP.out.bk.below hb); have n1_ := Aside0.mk (blk_below HX.out hb); have n2_ := Aside0.mk (blk_below HX2.out hb); have HBZ := Aside0.mk hb.size; have HBS := Aside0.mk HP.out.bel.size; clear HP hb s0 HX HX2 hnp hrp hfp; have HX := n1_; have HX2 := n2_; clear n1_ n2_)
                | (go_at_call 25; refine (keepI (P' := fun k => k < w3.heap.size) HBK.out HNP.out HRP.out ?_ ?_ ?_).mono ?_; (next => exact fun k hk => ⟨fun hp => absurd (HFP.out k hk) (by omega), HRP.out.lt k hk, Nat.le_trans HBS.out (HFP.out k hk)⟩); (next => exact fun k hk => Nat.lt_of_lt_of_le hk HBZ.out); (next => rw [pathL_len]; have := HQ.out.T8; omega); rintro e w4 ⟨rfl, hbk, hs, hz, hB⟩; have n0_ := Aside0.mk ((HQ.out.still hs hB (by decide) (by decide) (by decide) (by decide)).p (hbk.mono (fun k hk => Nat.lt_of_lt_of_le hk hz))); have n1_ := Aside0.mk (hs.blk HX.out (by decide)); have n2_ := Aside0.mk (hs.blk HX2.out (by decide)); have n3_ := Aside0.mk (hs.rw_ HRP.out (by decide)); clear HQ HBK HX HX2 HRP hbk hs hz hB; have HP := n0_; have HX := n1_; have HX2 := n2_; have HRP := n3_; clear n0_ n1_ n2_ n3_; have s0 := HS.out _ HP.out.bel; have b0 := (blk_cell HX.out 0).trans (rfl : _ = some (Value.string pk.f0)); have b1 := (blk_cell HX.out 1).trans (rfl : _ = some (Value.int .u64 pk.f1)); have b2 := (blk_cell HX.out 2).trans (rfl : _ = some (Value.int .i64 pk.f2)); have b3 := (blk_cell HX.out 3).trans (rfl : _ = some (Value.string pk.f3)); have d0 := (blk_cell HX2.out 0).trans (rfl : _ = some (Value.string pk.f0)); have d1 := (blk_cell HX2.out 1).trans (rfl : _ = some (Value.int .u64 pk.f1)); have d2 := (blk_cell HX2.out 2).trans (rfl : _ = some (Value.int .i64 pk.f2)); have d3 := (blk_cell HX2.out 3).trans (rfl : _ = some (Value.string pk.f3)))
                | (go_at_call 27; refine (pathRE key HP.out.nt_ HP.out.t (Nat.le_trans HP.out.q.ntE (by have := HL1.out; omega)) HP.out.sz HKZ.out (pathL key ns T0) (HP.out.q.path key)).mono ?_; rintro e w5 ⟨Ag, ng, cg, rfl, hng, hrg, hb⟩; have n0_ := Aside0.mk (HP.out.below hb); have n3_ := Aside0.mk (HRP.out.below hb); have HRG := Aside0.mk hrg; have HNG := Aside0.mk hng; clear hb HP HRP s0 hrg hng b0 b1 b2 b3 d0 d1 d2 d3; have HP := n0_; have HRP := n3_; clear n0_ n3_)
                | (go_at_call 26; refine (sameI HNP.out HNG.out HRP.out HRG.out (by rw [pathL_len]; have := HP.out.q.T8; omega)).mono ?_; rintro e w6 ⟨rfl, hb⟩; have n0_ := Aside0.mk (HP.out.below hb); clear hb HP HRP HRG; have HP := n0_; clear n0_))
              go_roundw
              case rel => exact ⟨q + 1, by go_num, by have := HQL.out; omega, HP⟩
              case measure => simp [intOf]; have := HQL.out; omega
            · obtain rfl : q = l3.length := by omega
              have tq : decide ((l3.length : Int) < (l3.length : Int)) = false := decide_eq_false (by omega)
              have teq : ((T0 : Int) == (T0 : Int)) = true := beq_self_eq_true _
              go_wp2_with (first
                | (go_at_call 11; refine (alive_calls _).mono ?_; rintro e w1 ⟨rfl, hb⟩; have n0_ := Aside0.mk (HP.out.below hb); clear HP hb; have HP := n0_; clear n0_)
                | (go_at_call 28; refine (height_calls w _ g ns _ (T0 : Int) HP.out.ok.isl).mono ?_; rintro e w2 ⟨rfl, rfl⟩)
                | (go_at_call 29; refine (HP.out.bk.apart).mono ?_; rintro e w3 ⟨rfl, hb⟩))
              go_ret
              exact ⟨rfl, hb⟩
end Go.Proofs.YtchgpcgolgcfdaaGreat.SkPlay
end
