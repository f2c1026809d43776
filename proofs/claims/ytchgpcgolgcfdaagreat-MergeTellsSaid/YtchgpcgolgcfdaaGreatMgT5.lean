/- Texts of this claim, put together and cut down to what is used (T5). -/
import Derived.Deep.RegionHeld3
import Derived.BigRegion
import Derived.Test.YtchgpcgolgcfdaaGreatMgT3
import Derived.Test.YtchgpcgolgcfdaaGreatMgT1
import Derived.Test.YtchgpcgolgcfdaaGreatMgT4
section
namespace Go.Proofs.YtchgpcgolgcfdaaGreat.BkPairs
open Go Go.RowKit Go.Proofs.YtchgpcgolgcfdaaGreat.PNum Go.Proofs.YtchgpcgolgcfdaaGreat.BkW Go.Proofs.YtchgpcgolgcfdaaGreatW.PrintWords Go.Proofs.YtchgpcgolgcfdaaGreatW.PrintLast Go.Proofs.YtchgpcgolgcfdaaGreatW.PrintMore Go.Proofs.YtchgpcgolgcfdaaGreatW.Pu
set_option linter.unusedVariables false
set_option linter.unusedSimpArgs false
abbrev S := S184
def enc (x : S) : List Value := [.string x.f0, .string x.f1]
theorem flat : Flat k184 enc := ⟨fun _ => rfl, fun h => k184_openM h, fun w x => k184_mk w x, fun h => k184_open h⟩
def nm (i k : Int) : ByteArray := (cornucopiabook_name.f i k).getD ⟨#[]⟩
theorem nm_ev (i k : Int) : cornucopiabook_name.f i k = some (nm i k) := by unfold nm cornucopiabook_name.f; rfl
def mk (i k : Int) : S := ⟨nm i k, ⟨#[]⟩⟩
def marks (i f : Int) (n : Nat) : List S := (List.range' 0 n).map fun j : Nat => mk i (f + (j : Int))
theorem marks_len (i f : Int) (n : Nat) : (marks i f n).length = n := by simp [marks]
theorem marks_at {i f : Int} {n j : Nat} (h : j < n) : (marks i f n)[j]? = some (mk i (f + (j : Int))) := by simp [marks, h]
theorem marks_add (i : Int) (n m : Nat) : marks i 0 n ++ marks i (n : Int) m = marks i 0 (n + m) := by
 apply List.ext_getElem?
 intro j
 by_cases h1 : j < n
 ·rw [List.getElem?_append_left (by rw [marks_len]; exact h1), marks_at h1, marks_at (by omega)]
 ·rw [List.getElem?_append_right (by rw [marks_len]; omega), marks_len]
  by_cases h2 : j < n + m
  ·rw [marks_at (by omega), marks_at h2]
   congr 2
   omega
  ·rw [List.getElem?_eq_none (by rw [marks_len]; omega), List.getElem?_eq_none (by rw [marks_len]; omega)]
theorem mark_l (i f : Int) (n : Nat) (hf : 0 ≤ f ∧ f + n ≤ 1000000000) : ∀ (d j : Nat) (acc : List S), j + d = n → acc.length = j → ∀ k, d < k → cornucopiabook_markPairs.l0 k i f n acc (f + (j : Int)) = some (acc ++ (List.range' j d).map fun q : Nat => mk i (f + (q : Int)))
 | 0, j, acc, hj, ha, k, hk => by
  obtain ⟨k, rfl⟩ : ∃ m, k = m + 1 := ⟨k - 1, by omega⟩
  rw [cornucopiabook_markPairs.l0, if_neg (by rw [wrap64_id (by omega)]; omega)]
  simp
 | d + 1, j, acc, hj, ha, k, hk => by
  obtain ⟨k, rfl⟩ : ∃ m, k = m + 1 := ⟨k - 1, by omega⟩
  rw [cornucopiabook_markPairs.l0, if_pos (by rw [wrap64_id (by omega)]; omega)]
  rw [nm_ev]; simp only [Option.bind_some]; rw [if_pos (by omega), wrap64_id (x := f + (j : Int) + 1) (by omega)]
  have ih := mark_l i f n hf d (j + 1) (acc ++ [mk i (f + (j : Int))]) (by omega) (by simp [ha]) k (by omega)
  rw [show f + (j : Int) + 1 = f + ((j + 1 : Nat) : Int) from by omega]
  refine Eq.trans ih ?_
  rw [List.append_assoc, List.range'_succ]
  rfl
theorem mark_ev (i f : Int) (n : Nat) (hf : 0 ≤ f ∧ f + n ≤ 1000000000) {k : Nat} (hk : n < k) : cornucopiabook_markPairs.f k i f n = some (marks i f n) := by
 have h := mark_l i f n hf n 0 [] (by omega) rfl k hk
 rw [show f + ((0 : Nat) : Int) = f from by omega, List.nil_append] at h
 exact h
theorem same_l (l : List S) (hl : l.length ≤ 1000000) : ∀ (d i : Nat), i + d = l.length → ∀ k, d < k → cornucopiabook_SamePairs.l0 k l l (i : Int) = some true
 | 0, i, hi, k, hk => by
  obtain ⟨k, rfl⟩ : ∃ m, k = m + 1 := ⟨k - 1, by omega⟩
  rw [cornucopiabook_SamePairs.l0, if_neg (by omega)]
 | d + 1, i, hi, k, hk => by
  obtain ⟨k, rfl⟩ : ∃ m, k = m + 1 := ⟨k - 1, by omega⟩
  rw [cornucopiabook_SamePairs.l0, if_pos (by omega), if_pos (by omega), if_pos (by omega), if_pos (by simp), wrap64_id (by omega)]
  exact same_l l hl d (i + 1) (by omega) k (by omega)
theorem same_ev (l : List S) (hl : l.length ≤ 1000000) {k : Nat} (hk : l.length < k) : cornucopiabook_SamePairs.f k l l = some true := by
 rw [cornucopiabook_SamePairs.f, if_pos rfl]
 exact same_l l hl l.length 0 (by omega) k hk
theorem copy_ev (l : List S) (hl : l.length ≤ 1000000) : cornucopiabook_copyPairs.f l = some l := by
 unfold cornucopiabook_copyPairs.f
 rw [if_pos (by simp; omega)]
 simp
theorem marked_l (ls : List (List S)) (N : Nat) (hl : ls.length ≤ 1000000) (hm : ∀ (j : Nat) (l : List S), ls[j]? = some l → l.length ≤ N ∧ l = marks j 0 l.length) (hN : N ≤ 1000000) : ∀ (d i : Nat), i + d = ls.length → ∀ k, N + d < k → cornucopiabook_markedPairs.l0 k ls (i : Int) = some true
 | 0, i, hi, k, hk => by
  obtain ⟨k, rfl⟩ : ∃ m, k = m + 1 := ⟨k - 1, by omega⟩
  rw [cornucopiabook_markedPairs.l0, if_neg (by omega)]
 | d + 1, i, hi, k, hk => by
  obtain ⟨k, rfl⟩ : ∃ m, k = m + 1 := ⟨k - 1, by omega⟩
  have hi2 : i < ls.length := by omega
  have e : rd_L19 ls (i : Int) = ls[i] := by
   unfold rd_L19
   simp [hi2]
  obtain ⟨h1, h2⟩ := hm i _ (List.getElem?_eq_getElem hi2)
  rw [cornucopiabook_markedPairs.l0, if_pos (by omega), if_pos (by omega), e, mark_ev (i : Int) 0 ls[i].length (by omega) (by omega)]
  simp only [Option.bind_some]
  rw [← h2, same_ev _ (by omega) (by omega)]
  simp only [Option.bind_some]
  rw [if_pos trivial, wrap64_id (by omega)]
  exact marked_l ls N hl hm hN d (i + 1) (by omega) k (by omega)
theorem marked_ev (ls : List (List S)) (N : Nat) (hl : ls.length ≤ 1000000) (hm : ∀ (j : Nat) (l : List S), ls[j]? = some l → l.length ≤ N ∧ l = marks j 0 l.length) (hN : N ≤ 1000000) : cornucopiabook_markedPairs.f (N + ls.length + 1) ls = some true := marked_l ls N hl hm hN ls.length 0 (by omega) _ (by omega)
theorem one_slice (A : Option Addr) (n c : Nat) : ∀ u ∈ [Value.slice A n c], u.oneCell' = true := by simp [Value.oneCell']
theorem infoS : (Tryz.prog.info? 79).map (fun i => (i.zero, i.size, i.bytes)) = some (some (.slice none 0 0), 1, 24) := by kernel_rfl
theorem infoE : (Tryz.prog.info? 184).map (fun i => (i.zero, i.size, i.bytes)) = some (some (.agg #[.string ⟨#[]⟩, .string ⟨#[]⟩]), 2, 32) := by kernel_rfl
theorem neSE : (79 : TypeId) ≠ 184 := by decide
theorem neBS : (56 : TypeId) ≠ 79 := by decide
theorem neBE : (56 : TypeId) ≠ 184 := by decide
theorem ne_of {w : World} {g : Nat} {cs : Array Value} {t e : TypeId} {v : Value} {base n sz : Nat} {ys : List Value} (hg : w.heap[g]? = some (.cells cs t (0, 0))) (h : w.ownsRow base e sz v n ys) (hne : t ≠ e) : some g ≠ v.ownBlock := own_ne h hg (fun z => hne z.symm)
set_option maxHeartbeats 8000000 in
set_option maxRecDepth 100000 in
theorem keep_calls (w0 w : World) (g : Nat) (cs : Array Value) (p q : Value) (es : List (Ent S)) (A : Option Addr) (c : Nat) (xs : List S)
  (hg : w.heap[g]? = some (.cells cs 56 (0, 0))) (hp : cs[8]? = some p) (hq : cs[9]? = some q) (hK : Kept enc 2 79 184 w w0.heap.size p q es) (hB : Below w0.heap.size w0 w) (hgb : w0.heap.size ≤ g)
  (hv : Rw w 184 2 (.slice A xs.length c) xs.length (encL enc xs)) (hvb : ∀ k, (Value.slice A xs.length c).ownBlock = some k → w0.heap.size ≤ k) (hva : ∀ x ∈ es, ap x.v (.slice A xs.length c)) (hx : xs.length ≤ 1000000) (hn : es.length < 250) :
  Calls Tryz.prog 36 #[.pointer (some ⟨g, 0, none⟩), .slice A xs.length c] w fun e w' => e = .returned (.tuple #[]) ∧ ∃ p' q' u, w'.heap[g]? = some (.cells ((cs.setIfInBounds 8 p').setIfInBounds 9 q') 56 (0, 0)) ∧ Kept enc 2 79 184 w' w0.heap.size p' q' (es ++ [⟨.slice A xs.length c, u, xs⟩]) ∧ Below w0.heap.size w0 w' ∧ Still [56, 79] w w' ∧ w.heap.size ≤ w'.heap.size ∧ Frm w w' g p q ∧ NewOr w p p' ∧ NewOr w q q' := by
 obtain ⟨Ap, cp, rfl⟩ := own_slice hK.rp
 obtain ⟨Aq, cq, rfl⟩ := own_slice hK.rq
 have HG := Aside0.mk hg
 have HQ := Aside0.mk hq
 have HK := Aside0.mk hK
 have HB := Aside0.mk hB
 have HGB := Aside0.mk hgb
 have HV := Aside0.mk hv
 have HVB := Aside0.mk hvb
 have HVA := Aside0.mk hva
 have HX := Aside0.mk hx
 have hlt : g < w.heap.size := blk_lt hg
 have c6 : w.cell? ⟨g, 8, none⟩ = some (.slice Ap es.length cp) := (blk_cell hg 8).trans hp
 have f6 : w.frozen? ⟨g, 8, none⟩ = false := blk_frozen hg 8
 have t0 : decide ((es.length : Int) < 250) = true := decide_eq_true (by omega)
 have HN := Aside0.mk hn
 have HNb : Aside0 ((es.length + 1) * 24 ≤ 140737488355328) := ⟨by omega⟩
 have HP := Aside0.mk hp
 clear hg hq hK hB hgb hv hvb hva hx hn hp
 go_enter Tryz.func36, Tryz.ntmps36
 go_wp2_with (first
  | ((with_reducible refine gate_builtin (b := .append) (xs := #[.tmp 14, .tmp 16]) rfl ?_); at_builtin; refine print_append_cells (w0 := w0) w0.heap.size rfl (.tmp 14) (.tmp 16) 45 79 (.slice none 0 0) 1 24 rfl Tryz.underlying45 infoS rfl ?a1 ?a2 (.slice Ap es.length cp) es.length (es.map (·.v)) [.slice A xs.length c] rfl rfl rfl ?a3 HK.out.rp HB.out HB.out.size ?aL ?_; (case a1 => decide); (case a2 => decide); (case a3 => exact one_slice _ _ _); (case aL => have := HN.out; omega); intro p1 w1 ho1 hb1 hg1 hat1; obtain ⟨A1, c1, rfl⟩ := own_slice ho1; have hblk1 := (hg1.block g hlt (ne_of HG.out HK.out.rp neBS)).trans HG.out; have HBL1 := Aside0.mk hblk1; have c6' : w1.cell? ⟨g, 8, none⟩ = some (.slice Ap es.length cp) := (blk_cell hblk1 8).trans HP.out; have f6' : w1.frozen? ⟨g, 8, none⟩ = false := blk_frozen hblk1 8; have HH1 := Aside0.mk (HK.out.step1 neSE HV.out HVB.out HVA.out ho1 hg1 hat1); have HB1 := Aside0.mk hb1; have HS1 : Aside0 (Still [56, 79] w w1) := ⟨Still.of_grown hg1 (fun k hk => by obtain ⟨cur, hc⟩ := own_typed HK.out.rp k hk; exact ⟨cur, 79, by simp, hc⟩)⟩; have HZ1 := Aside0.mk hg1.size; have HF1 : Aside0 (Frm w w1 g (.slice Ap es.length cp) (.slice Aq es.length cq)) := ⟨Frm.start hg1⟩; have HN1 : Aside0 (NewOr w (.slice Ap es.length cp) (.slice A1 (es.length + 1) c1)) := ⟨NewOr.of hat1⟩; clear ho1 hb1 hg1 hat1 hblk1 c6 f6))
 have HBL2 : Aside0 ((w1.setCell ⟨g, 8, none⟩ (.slice A1 (es.length + 1) c1)).heap[g]? = some (.cells (cs.setIfInBounds 8 (.slice A1 (es.length + 1) c1)) 56 (0, 0))) := ⟨blk_set HBL1.out _ _⟩
 have HH2 : Aside0 (Half enc 2 79 184 (w1.setCell ⟨g, 8, none⟩ (.slice A1 (es.length + 1) c1)) w0.heap.size (.slice A1 (es.length + 1) c1) (.slice Aq es.length cq) es (.slice A xs.length c) xs) := ⟨HH1.out.still (T := [56]) (Still.of_far (g := g) (fun k hk => Below.heap_setCell _ _ _ k hk) ⟨_, _, by simp, HBL1.out⟩) (by simp [neBS.symm]) (by simp [neBE.symm])⟩
 have HB2 : Aside0 (Below w0.heap.size w0 (w1.setCell ⟨g, 8, none⟩ (.slice A1 (es.length + 1) c1))) := ⟨HB1.out.setCell HGB.out _⟩
 have HS2 : Aside0 (Still [56, 79] w (w1.setCell ⟨g, 8, none⟩ (.slice A1 (es.length + 1) c1))) := ⟨HS1.out.trans HZ1.out (Still.of_far (g := g) (fun k hk => Below.heap_setCell _ _ _ k hk) ⟨_, 56, by simp, HBL1.out⟩)⟩
 have HZ2 : Aside0 (w.heap.size ≤ (w1.setCell ⟨g, 8, none⟩ (.slice A1 (es.length + 1) c1)).heap.size) := ⟨by rw [World.size_setCell]; exact HZ1.out⟩
 have HQ2 : Aside0 ((cs.setIfInBounds 8 (.slice A1 (es.length + 1) c1))[9]? = some (.slice Aq es.length cq)) := ⟨by rw [Array.getElem?_setIfInBounds_ne (by decide)]; exact HQ.out⟩
 have HF2 : Aside0 (Frm w (w1.setCell ⟨g, 8, none⟩ (.slice A1 (es.length + 1) c1)) g (.slice Ap es.length cp) (.slice Aq es.length cq)) := ⟨HF1.out.far (fun k hk => Below.heap_setCell _ _ _ k hk)⟩
 clear HF1 HH1 HB1 HS1 HZ1 HBL1 c6' f6'
 generalize w1.setCell ⟨g, 8, none⟩ (.slice A1 (es.length + 1) c1) = w2 at *
 have hC2 : Aside0 (Kd.C k184 w2.drew A xs.length xs) := ⟨flat.to_C (HH2.out.below (below_drew (Below.refl _ w2))).ev.1 rfl⟩
 have hcc : Aside0 (xs.length ≤ c) := ⟨by obtain ⟨A', c', e, h⟩ := HV.out.slice; injection e with _ _ e; omega⟩
 have c7 : w2.cell? ⟨g, 9, none⟩ = some (.slice Aq es.length cq) := (blk_cell HBL2.out 9).trans HQ2.out
 have f7 : w2.frozen? ⟨g, 9, none⟩ = false := blk_frozen HBL2.out 9
 go_region_law (first
  | (refine goes_ Tryz.func163 (by kernel_rfl) rfl #[.slice A xs.length c] (by rfl) rfl rfl ?_ ?_; (next => first | rfl | (simp [Act.eval, Act.put]; done)); refine (cornucopiabook_copyPairs.calls A c xs xs _ hC2.out hcc.out (copy_ev xs HX.out)).mono ?_; rintro e w3 ⟨u, rfl, hr, hb⟩; refine ⟨_, rfl, ?_⟩; obtain ⟨Au, cu, rfl⟩ := Kd.R_slice hr; have HBL3 := Aside0.mk (blk_below (blk_drew HBL2.out) hb); have HU3 := Aside0.mk (flat.of_R hr); have HH3 := Aside0.mk ((HH2.out.below (below_drew (Below.refl _ w2))).below hb); have HB3 := Aside0.mk (below_step (below_drew HB2.out) hb); have HS3 := Aside0.mk ((HS2.out.below HZ2.out (below_drew (Below.refl _ w2))).below HZ2.out hb); have HZ3 := Aside0.mk hb.size; have HF3 := Aside0.mk ((HF2.out.below HZ2.out (below_drew (Below.refl _ w2))).below HZ2.out hb); have hlt3 : g < w3.heap.size := blk_lt HBL3.out; have c73 : w3.cell? ⟨g, 9, none⟩ = some (.slice Aq es.length cq) := (blk_cell HBL3.out 9).trans HQ2.out; have f73 : w3.frozen? ⟨g, 9, none⟩ = false := blk_frozen HBL3.out 9; clear hr hb)
  | (refine step_append_cells (w0 := w0) w0.heap.size (by rfl) (.tmp 24) (.tmp 27) 45 79 (.slice none 0 0) 1 24 (by rfl) Tryz.underlying45 infoS rfl (by decide) (by decide) (.slice Aq es.length cq) es.length (es.map (·.u)) [.slice Au xs.length cu] ?_ ?_ rfl (one_slice _ _ _) HH3.out.rq HB3.out HB3.out.size HNb.out ?_; (next => first | rfl | (simp [Act.eval, Act.put]; done)); (next => first | rfl | (simp [Act.eval, Act.put]; done)); intro q1 w4 ho4 hb4 hg4 hat4; obtain ⟨A4, c4, rfl⟩ := own_slice ho4; have HBL4 := Aside0.mk ((hg4.block g (blk_lt HBL3.out) (ne_of HBL3.out HH3.out.rq neBS)).trans HBL3.out); have c74 : w4.cell? ⟨g, 9, none⟩ = some (.slice Aq es.length cq) := (blk_cell HBL4.out 9).trans HQ2.out; have f74 : w4.frozen? ⟨g, 9, none⟩ = false := blk_frozen HBL4.out 9; have HK4 := Aside0.mk (HH3.out.step2 neSE HU3.out ho4 hg4 hat4); have HB4 := Aside0.mk hb4; have HS4 : Aside0 (Still [56, 79] w w4) := ⟨HS3.out.trans (Nat.le_trans HZ2.out HZ3.out) (Still.of_grown hg4 (fun k hk => by obtain ⟨cur, hc⟩ := own_typed HH3.out.rq k hk; exact ⟨cur, 79, by simp, hc⟩))⟩; have HZ4 : Aside0 (w.heap.size ≤ w4.heap.size) := ⟨Nat.le_trans (Nat.le_trans HZ2.out HZ3.out) hg4.size⟩; have HF4 : Aside0 (Frm w w4 g (.slice Ap es.length cp) (.slice Aq es.length cq)) := ⟨HF3.out.grown (Nat.le_trans HZ2.out HZ3.out) hg4⟩; have HN4 : Aside0 (NewOr w (.slice Aq es.length cq) (.slice A4 (es.length + 1) c4)) := ⟨(NewOr.of hat4).mono (Nat.le_trans HZ2.out HZ3.out)⟩; clear ho4 hg4 hb4 hat4))
 all_goals
  go_end0
  exact ⟨rfl, _, _, _, blk_set HBL4.out _ _, HK4.out.still (T := [56]) (Still.of_far (g := g) (fun k hk => Below.heap_setCell _ _ _ k hk) ⟨_, _, by simp, HBL4.out⟩) (by simp [neBS.symm]) (by simp [neBE.symm]), HB4.out.setCell HGB.out _, HS4.out.trans HZ4.out (Still.of_far (g := g) (fun k hk => Below.heap_setCell _ _ _ k hk) ⟨_, 56, by simp, HBL4.out⟩), by rw [World.size_setCell]; exact HZ4.out, HF4.out.far (fun k hk => Below.heap_setCell _ _ _ k hk), HN1.out, HN4.out⟩
set_option maxHeartbeats 8000000 in
set_option maxRecDepth 100000 in
theorem keep_full (w : World) (g : Nat) (cs : Array Value) (v : Value) (Ap : Option Addr) (n cp : Nat) (hg : w.heap[g]? = some (.cells cs 56 (0, 0))) (hp : cs[8]? = some (.slice Ap n cp)) (hn : ¬ n < 250) :
  Calls Tryz.prog 36 #[.pointer (some ⟨g, 0, none⟩), v] w fun e w' => e = .returned (.tuple #[]) ∧ w' = w := by
 have hlt : g < w.heap.size := blk_lt hg
 have c6 : w.cell? ⟨g, 8, none⟩ = some (.slice Ap n cp) := (blk_cell hg 8).trans hp
 have t0 : decide ((n : Int) < 250) = false := decide_eq_false (by omega)
 have t1 : decide (n < 250) = false := decide_eq_false hn
 clear hg hp hn
 go_enter Tryz.func36, Tryz.ntmps36
 go_wp2_with (fail)
 go_end0
 exact ⟨rfl, rfl⟩
theorem row_at {w : World} {base n j : Nat} {v : Value} {xs : List Value} (h : w.ownsRow base 79 1 v n xs) (hj : j < n) : ∃ gp c, v = .slice (some ⟨gp, 0, none⟩) n c ∧ (∃ cur, w.heap[gp]? = some (.cells cur 79 (0, 0))) ∧ ∀ u, xs[j]? = some u → w.cell? ⟨gp, j, none⟩ = some u := by
 rcases h.2 with ⟨_, h0⟩ | ⟨gp, c, cur, hv, _, hh, _, _, _, ht⟩
 ·omega
 ·refine ⟨gp, c, hv, ⟨cur, hh⟩, fun u hu => ?_⟩
  rw [blk_cell hh, ← Array.getElem?_toList]
  rw [← ht, List.getElem?_take] at hu
  split at hu
  ·exact hu
  ·cases hu
theorem same_quiet (V : World) (n : Nat) (A : Option Addr) (c : Nat) (xs : List S) (A' : Option Addr) (c' : Nat) (h1 : Kd.C k184 (V.drewN n) A xs.length xs) (hc1 : xs.length ≤ c) (h2 : Kd.C k184 (V.drewN n) A' xs.length xs) (hc2 : xs.length ≤ c') (hx : xs.length ≤ 1000000) :
  Calls Tryz.prog 37 #[.slice A xs.length c, .slice A' xs.length c'] (V.drewN n) fun e w'' => e = .returned (.bool true) ∧ ∃ m, w'' = V.drewN m :=
 Calls.quiet_of ((cornucopiabook_SamePairs.calls (xs.length + 1) A c xs A' c' xs true _ h1 hc1 h2 hc2 (same_ev xs hx (Nat.lt_succ_self _))).mono (fun e w' hh => ⟨hh.1, by obtain ⟨_, nd, h3⟩ := hh; exact ⟨nd, h3⟩⟩))
set_option maxHeartbeats 8000000 in
set_option maxRecDepth 100000 in
theorem still_calls (w : World) (base g : Nat) (cs : Array Value) (p q : Value) (es : List (Ent S)) (hg : w.heap[g]? = some (.cells cs 56 (0, 0))) (hp : cs[8]? = some p) (hq : cs[9]? = some q)
  (hK : Kept enc 2 79 184 w base p q es) (hx : ∀ x ∈ es, x.xs.length ≤ 1000000) (hn : es.length ≤ 1000000) :
  Calls Tryz.prog 108 #[.pointer (some ⟨g, 0, none⟩)] w fun e w' => e = .returned (.bool true) ∧ Drawn0 w w' := by
 obtain ⟨Ap, cp, rfl⟩ := own_slice hK.rp
 obtain ⟨Aq, cq, rfl⟩ := own_slice hK.rq
 have HG := Aside0.mk hg
 have HP := Aside0.mk hp
 have HQ := Aside0.mk hq
 have HK := Aside0.mk hK
 have HX := Aside0.mk hx
 clear hg hp hq hK hx
 go_enter Tryz.func108, Tryz.ntmps108
 go_wp2_with (fail)
 go_loopw [3] (fun v3 w' => ∃ j : Nat, v3 = .int .i64 j ∧ j ≤ es.length ∧ Aside0 (Drawn0 w w')) (fun v3 _ => es.length - (intOf v3).toNat)
 case atStart => exact ⟨0, rfl, Nat.zero_le _, ⟨Drawn0.refl w⟩⟩
 case round =>
  obtain ⟨j, rfl, hj, HD⟩ := hrel
  have HGR : Aside0 (wr.heap[g]? = some (.cells cs 56 (0, 0))) := ⟨blk_below HG.out HD.out.below⟩
  have HKR : Aside0 (Kept enc 2 79 184 wr base (.slice Ap es.length cp) (.slice Aq es.length cq) es) := ⟨HK.out.below HD.out.below⟩
  have c6 : wr.cell? ⟨g, 8, none⟩ = some (.slice Ap es.length cp) := (blk_cell HGR.out 8).trans HP.out
  have c7 : wr.cell? ⟨g, 9, none⟩ = some (.slice Aq es.length cq) := (blk_cell HGR.out 9).trans HQ.out
  by_cases hlt : j < es.length
  ·have p0 : (0 : Int) ≤ (j : Int) := Int.natCast_nonneg _
   have q0 : (j : Int) < (es.length : Int) := Int.ofNat_lt.mpr hlt
   have t0 : decide ((j : Int) < (es.length : Int)) = true := decide_eq_true q0
   obtain ⟨gp, cp', e1, _, hp1⟩ := row_at HKR.out.rp hlt
   obtain ⟨gq, cq', e2, _, hq1⟩ := row_at HKR.out.rq hlt
   injection e1 with e1 _ _
   injection e2 with e2 _ _
   subst e1; subst e2
   have hem := List.getElem_mem hlt
   obtain ⟨A1, c1, ev, hc1⟩ := (HKR.out.el _ hem).1.slice
   obtain ⟨A2, c2, eu, hc2⟩ := (HKR.out.el _ hem).2.1.slice
   have y1 : wr.cell? ⟨gp, j, none⟩ = some (.slice A1 es[j].xs.length c1) := by rw [← ev]; exact hp1 _ (by rw [List.getElem?_map, List.getElem?_eq_getElem hlt]; rfl)
   have y2 : wr.cell? ⟨gq, j, none⟩ = some (.slice A2 es[j].xs.length c2) := by rw [← eu]; exact hq1 _ (by rw [List.getElem?_map, List.getElem?_eq_getElem hlt]; rfl)
   have HC1 : Aside0 (Kd.C k184 wr A1 es[j].xs.length es[j].xs) := ⟨flat.to_C (by rw [← ev]; exact (HKR.out.el _ hem).1) rfl⟩
   have HC2 : Aside0 (Kd.C k184 wr A2 es[j].xs.length es[j].xs) := ⟨flat.to_C (by rw [← eu]; exact (HKR.out.el _ hem).2.1) rfl⟩
   have HL1 := Aside0.mk hc1
   have HL2 := Aside0.mk hc2
   have HLX := Aside0.mk (HX.out _ hem)
   clear hp1 hq1 hem ev eu hc1 hc2
   generalize es[j].xs = xs at *
   go_wp2_with (fail)
   go_quiet ((go_at_call 37; exact same_quiet wr _ _ _ _ _ _ (Kd.C_drewN HC1.out _) HL1.out (Kd.C_drewN HC2.out _) HL2.out HLX.out))
   go_wp2_with (fail)
   go_roundw
   case rel => exact ⟨j + 1, by go_num, by omega, ⟨HD.out.step _⟩⟩
   case measure => simp [intOf]; omega
  ·obtain rfl : j = es.length := by omega
   have t0 : decide ((es.length : Int) < (es.length : Int)) = false := decide_eq_false (by omega)
   go_wp2_with (fail)
   go_ret
   exact ⟨rfl, HD.out⟩
def stg (X : Nat → List S) (j : Nat) : Nat → List S := fun i => if i < j then marks i 0 (X i).length else X i
theorem stg_len (X : Nat → List S) (j i : Nat) : (stg X j i).length = (X i).length := by
 unfold stg
 split
 ·rw [marks_len]
 ·rfl
def amid (X : Nat → List S) (j m : Nat) : Nat → List S := fun i => if i = j then (marks j 0 (X j).length).take m ++ (X j).drop m else stg X j i
theorem amid_zero (X : Nat → List S) (j i : Nat) : amid X j 0 i = stg X j i := by
 unfold amid
 split
 ·rename_i h
  subst h
  simp [stg]
 ·rfl
theorem amid_full (X : Nat → List S) (j i : Nat) : amid X j (X j).length i = stg X (j + 1) i := by
 unfold amid
 by_cases h : i = j
 ·subst h
  rw [if_pos rfl, List.take_of_length_le (by rw [marks_len]; exact Nat.le_refl _), List.drop_length]
  simp [stg]
 ·rw [if_neg h]
  unfold stg
  by_cases h2 : i < j
  ·rw [if_pos h2, if_pos (by omega)]
  ·rw [if_neg h2, if_neg (by omega)]
theorem amid_len (X : Nat → List S) (j m i : Nat) (hm : m ≤ (X j).length) : (amid X j m i).length = (X i).length := by
 unfold amid
 split
 ·rename_i h
  subst h
  rw [List.length_append, List.length_take, marks_len, List.length_drop]
  omega
 ·exact stg_len X j i
theorem amid_step (X : Nat → List S) (j m i : Nat) (hm : m < (X j).length) : (if i = j then (amid X j m j).set m (mk (j : Int) (m : Int)) else amid X j m i) = amid X j (m + 1) i := by
 by_cases h : i = j
 ·subst h
  rw [if_pos rfl]
  unfold amid
  rw [if_pos rfl, if_pos rfl]
  have hl : ((marks i 0 (X i).length).take m).length = m := by rw [List.length_take, marks_len]; omega
  rw [List.set_append_right _ _ (by omega), hl, Nat.sub_self, List.drop_eq_getElem_cons hm, List.set_cons_zero]
  have h2 := marks_at (i := (i : Int)) (f := 0) hm
  obtain ⟨h3, h4⟩ := List.getElem?_eq_some_iff.1 h2
  rw [List.take_succ_eq_append_getElem h3, h4, List.append_assoc]
  simp
 ·rw [if_neg h]
  unfold amid
  rw [if_neg h, if_neg h]
set_option maxHeartbeats 8000000 in
set_option maxRecDepth 100000 in
theorem put_calls (w0 w : World) (g : Nat) (cs : Array Value) (p : Value) (vs : List Value) (X : Nat → List S) (hg : w.heap[g]? = some (.cells cs 56 (0, 0))) (hp : cs[8]? = some p)
  (hH : Held enc 2 79 184 w w0.heap.size p vs X) (hB : Below w0.heap.size w0 w) (hx : ∀ i, i < vs.length → (X i).length ≤ 1000000) (hn : vs.length ≤ 1000000) :
  Calls Tryz.prog 124 #[.pointer (some ⟨g, 0, none⟩)] w fun e w' => e = .returned (.tuple #[]) ∧ Held enc 2 79 184 w' w0.heap.size p vs (fun i => marks i 0 (X i).length) ∧ Below w0.heap.size w0 w' ∧ Still [184] w w' ∧ w.heap.size ≤ w'.heap.size := by
 obtain ⟨Ap, cp, rfl⟩ := own_slice hH.rp
 have HG := Aside0.mk hg
 have HP := Aside0.mk hp
 have HX := Aside0.mk hx
 have HH : Aside0 (Held enc 2 79 184 w w0.heap.size (.slice Ap vs.length cp) vs (stg X 0)) := ⟨hH.congr (fun i _ => by simp [stg])⟩
 have HB := Aside0.mk hB
 have HS : Aside0 (Still [184] w w) := ⟨Still.refl _ _⟩
 have HZ : Aside0 (w.heap.size ≤ w.heap.size) := ⟨Nat.le_refl _⟩
 clear hg hp hx hH hB
 go_enter Tryz.func124, Tryz.ntmps124
 go_wp2_with (fail)
 go_loopw [2] (fun v2 w' => ∃ j : Nat, v2 = .int .i64 j ∧ j ≤ vs.length ∧ Aside0 (Held enc 2 79 184 w' w0.heap.size (.slice Ap vs.length cp) vs (stg X j)) ∧ Aside0 (Below w0.heap.size w0 w') ∧ Aside0 (Still [184] w w') ∧ Aside0 (w.heap.size ≤ w'.heap.size)) (fun v2 _ => vs.length - (intOf v2).toNat)
 case atStart => exact ⟨0, rfl, Nat.zero_le _, HH, HB, HS, HZ⟩
 case round =>
  clear HH HB HS HZ
  obtain ⟨j, rfl, hj, HH, HB, HS, HZ⟩ := hrel
  have HGR : Aside0 (wr.heap[g]? = some (.cells cs 56 (0, 0))) := ⟨HS.out.blk HG.out (by simp [neBE])⟩
  have c6 : wr.cell? ⟨g, 8, none⟩ = some (.slice Ap vs.length cp) := (blk_cell HGR.out 8).trans HP.out
  by_cases hlt : j < vs.length
  ·have p0 : (0 : Int) ≤ (j : Int) := Int.natCast_nonneg _
   have q0 : (j : Int) < (vs.length : Int) := Int.ofNat_lt.mpr hlt
   have t0 : decide ((j : Int) < (vs.length : Int)) = true := decide_eq_true q0
   obtain ⟨gp, cp_, e1, _, hp1⟩ := row_at HH.out.rp hlt
   injection e1 with e1 _ e3
   subst e1; subst e3
   have hvj := List.getElem?_eq_getElem hlt
   have hrj := (HH.out.el _ _ hvj).1
   rw [stg_len] at hrj
   obtain ⟨A1, c1, ev, hc1⟩ := hrj.slice
   have y1 : wr.cell? ⟨gp, j, none⟩ = some (.slice A1 (X j).length c1) := by rw [← ev]; exact hp1 _ hvj
   rw [ev] at hvj
   have HVJ := Aside0.mk hvj
   have HLX := Aside0.mk (HX.out j hlt)
   have HLT := Aside0.mk hlt
   have hpn : (X j).length ≤ 9223372036854775807 := by have := HLX.out; omega
   clear hp1 hrj ev hc1 hvj
   go_wp2_with (first
    | (go_at_call 220; refine (cornucopiabook_markPairs.calls ((X j).length + 1) (j : Int) 0 ((X j).length : Int) _ _ (mark_ev (j : Int) 0 (X j).length (by have := HLX.out; omega) (Nat.lt_succ_self _))).mono ?_; rintro e w1 ⟨m, rfl, hr, hb⟩; obtain ⟨Am, cm, em⟩ := Kd.R_slice hr; rw [marks_len] at em; subst em; have hrw := flat.of_R hr; rw [marks_len] at hrw; have HM1 := Aside0.mk hrw; clear hrw; have HMB : Aside0 (ap (Value.slice Am (X j).length cm) (.slice A1 (X j).length c1)) := ⟨fun k hk1 hk2 => by have h1 := Kd.R_base hr k hk1; have h2 := (HH.out.el _ _ HVJ.out).1.lt k hk2; omega⟩; have n0_ := Aside0.mk (HH.out.below hb); have n1_ := Aside0.mk (below_step HB.out hb); have n2_ := Aside0.mk (HS.out.below HZ.out hb); have n3_ := Aside0.mk (Nat.le_trans HZ.out hb.size); clear hr hb HH HB HS HZ; have HH := n0_; have HB := n1_; have HS := n2_; have HZ := n3_; clear n0_ n1_ n2_ n3_))
   have HH1 : Aside0 (Held enc 2 79 184 w1 w0.heap.size (.slice (some ⟨gp, 0, none⟩) vs.length cp) vs (amid X j 0)) := ⟨HH.out.congr (fun i _ => (amid_zero X j i).symm)⟩
   clear HH c6 y1
   go_loopw [4] (fun v4 w' => ∃ q : Nat, v4 = .int .i64 q ∧ q ≤ (X j).length ∧ Aside0 (Held enc 2 79 184 w' w0.heap.size (.slice (some ⟨gp, 0, none⟩) vs.length cp) vs (amid X j q)) ∧ Aside0 (Rw w' 184 2 (.slice Am (X j).length cm) (X j).length (encL enc (marks (j : Int) 0 (X j).length))) ∧ Aside0 (Below w0.heap.size w0 w') ∧ Aside0 (Still [184] w w') ∧ Aside0 (w.heap.size ≤ w'.heap.size)) (fun v4 _ => (X j).length - (intOf v4).toNat)
   case atStart => exact ⟨0, rfl, Nat.zero_le _, HH1, HM1, HB, HS, HZ⟩
   case round =>
    clear HH1 HM1 HB HS HZ HGR
    obtain ⟨q, rfl, hq, HH, HM, HB, HS, HZ⟩ := hrel
    have HGR : Aside0 (wr.heap[g]? = some (.cells cs 56 (0, 0))) := ⟨HS.out.blk HG.out (by simp [neBE])⟩
    have c6 : wr.cell? ⟨g, 8, none⟩ = some (.slice (some ⟨gp, 0, none⟩) vs.length cp) := (blk_cell HGR.out 8).trans HP.out
    by_cases hql : q < (X j).length
    ·have pq : (0 : Int) ≤ (q : Int) := Int.natCast_nonneg _
     have qq : (q : Int) < ((X j).length : Int) := Int.ofNat_lt.mpr hql
     have t1 : decide ((q : Int) < ((X j).length : Int)) = true := decide_eq_true qq
     obtain ⟨gp2, cp2, e2, _, hp2⟩ := row_at HH.out.rp hlt
     injection e2 with e2 _ e4
     injection e2 with e2
     injection e2 with e2
     subst e2; subst e4
     have y1 : wr.cell? ⟨gp, j, none⟩ = some (.slice A1 (X j).length c1) := hp2 _ HVJ.out
     have hrv := (HH.out.el _ _ HVJ.out).1
     have hal := amid_len X j q j hq
     rw [hal] at hrv
     obtain ⟨gv, ov, cv, ev, hcv, hfv, hcells⟩ := hrv.form (by omega)
     injection ev with ev _ ev2
     subst ev; subst ev2
     obtain ⟨gm, om, cm2, em, hcm, hfm, hmcells⟩ := HM.out.form (by omega)
     injection em with em _ em2
     subst em; subst em2
     have hx0 : (amid X j q j)[q]? = some ((amid X j q j)[q]'(by omega)) := List.getElem?_eq_getElem (by omega)
     have hm0 := marks_at (i := (j : Int)) (f := 0) hql
     rw [Int.zero_add] at hm0
     generalize (amid X j q j)[q]'(by omega) = x0 at hx0
     have zv0 : wr.cell? ⟨gv, ov + q * 2, none⟩ = some (.string x0.f0) := by have h := hcells (q * 2 + 0) _ (flat.cell hx0 (i := 0) rfl); simpa [Nat.add_assoc] using h
     have zf0 : wr.frozen? ⟨gv, ov + q * 2, none⟩ = false := hfv _
     have zm0 : wr.cell? ⟨gm, om + q * 2, none⟩ = some (.string (mk (j : Int) (q : Int)).f0) := by have h := hmcells (q * 2 + 0) _ (flat.cell hm0 (i := 0) rfl); simpa [Nat.add_assoc] using h
     have zv1 : wr.cell? ⟨gv, ov + q * 2 + 1, none⟩ = some (.string x0.f1) := by have h := hcells (q * 2 + 1) _ (flat.cell hx0 (i := 1) rfl); simpa [Nat.add_assoc] using h
     have zf1 : wr.frozen? ⟨gv, ov + q * 2 + 1, none⟩ = false := hfv _
     have zm1 : wr.cell? ⟨gm, om + q * 2 + 1, none⟩ = some (.string (mk (j : Int) (q : Int)).f1) := by have h := hmcells (q * 2 + 1) _ (flat.cell hm0 (i := 1) rfl); simpa [Nat.add_assoc] using h
     clear hcells hmcells hx0 hm0 hp2 hrv hal
     have HQL := Aside0.mk hql
     go_wp2_with (fail)
     go_region
     have hW : ((wr).setCell ⟨gv, ov + q * 2, none⟩ (.string (mk (j : Int) (q : Int)).f0)).setCell ⟨gv, ov + q * 2 + 1, none⟩ (.string (mk (j : Int) (q : Int)).f1) = wr.setCells gv (ov + q * 2) (enc (mk (j : Int) (q : Int))) := rfl
     rw [hW]
     clear hW zv0 zf0 zm0 zv1 zf1 zm1 c6 y1
     have HBV : Aside0 (w0.heap.size ≤ gv) := ⟨(HH.out.el _ _ HVJ.out).2 gv rfl⟩
     have HTV : Aside0 (∃ cur, wr.heap[gv]? = some (.cells cur 184 (0, 0))) := ⟨(HH.out.el _ _ HVJ.out).1.typed gv rfl⟩
     have n0_ : Aside0 (Held enc 2 79 184 (wr.setCells gv (ov + q * 2) (enc (mk (j : Int) (q : Int)))) w0.heap.size (.slice (some ⟨gp, 0, none⟩) vs.length cp) vs (amid X j (q + 1))) := ⟨(HH.out.put flat neSE HVJ.out (by rw [amid_len X j q j (Nat.le_of_lt HQL.out)]; exact HQL.out) (mk (j : Int) (q : Int))).congr (fun i _ => amid_step X j q i HQL.out)⟩
     have n1_ : Aside0 (Rw (wr.setCells gv (ov + q * 2) (enc (mk (j : Int) (q : Int)))) 184 2 (.slice (some ⟨gm, om, none⟩) (X j).length cm) (X j).length (encL enc (marks (j : Int) 0 (X j).length))) := ⟨HM.out.move (fun k hk => setCells_far _ _ k (fun e => HMB.out k hk (by rw [e]; rfl)))⟩
     have n2_ := Aside0.mk (below_setCells (o := ov + q * 2) (vs := enc (mk (j : Int) (q : Int))) HB.out HBV.out)
     have n3_ : Aside0 (Still [184] w (wr.setCells gv (ov + q * 2) (enc (mk (j : Int) (q : Int))))) := ⟨by obtain ⟨cur, hc⟩ := HTV.out; exact HS.out.trans HZ.out (still_setCells hc (by simp))⟩
     have n4_ : Aside0 (w.heap.size ≤ (wr.setCells gv (ov + q * 2) (enc (mk (j : Int) (q : Int)))).heap.size) := ⟨by rw [size_setCells]; exact HZ.out⟩
     clear HH HM HB HS HZ HBV HTV HGR
     generalize wr.setCells gv (ov + q * 2) (enc (mk (j : Int) (q : Int))) = w5 at *
     go_wp2_with (fail)
     go_roundw
     case rel => exact ⟨q + 1, by go_num, by omega, ⟨n0_.out.below (below_drew (Below.refl _ w5))⟩, ⟨n1_.out.below (below_drew (Below.refl _ w5))⟩, ⟨below_drew n2_.out⟩, ⟨n3_.out.below n4_.out (below_drew (Below.refl _ w5))⟩, n4_⟩
     case measure => simp [intOf]; omega
    ·obtain rfl : q = (X j).length := by omega
     have t1 : decide (((X j).length : Int) < ((X j).length : Int)) = false := decide_eq_false (by omega)
     go_wp2_with (fail)
     go_roundw
     case rel => exact ⟨j + 1, by go_num, by omega, ⟨by have h := HH.out.congr (fun i _ => amid_full X j i); exact h⟩, HB, HS, HZ⟩
     case measure => simp [intOf]; omega
  ·obtain rfl : j = vs.length := by omega
   have t0 : decide ((vs.length : Int) < (vs.length : Int)) = false := decide_eq_false (by omega)
   go_wp2_with (fail)
   go_end0
   exact ⟨rfl, HH.out.congr (fun i hi => by unfold stg; rw [if_pos hi]), HB.out, HS.out, HZ.out⟩
abbrev grown (X : Nat → List S) (i : Nat) : List S := marks i 0 ((X i).length + 72)
structure GrO (w : World) (base b0 : Nat) (p : Value) (vs : List Value) (X : Nat → List S) (out : Value) (ws : List Value) : Prop where
 H : Held enc 2 79 184 w base p vs X
 o : w.ownsRow b0 79 1 out ws.length ws
 W : ∀ (i : Nat) (u : Value), ws[i]? = some u → Rw w 184 2 u (grown X i).length (encL enc (grown X i)) ∧ ∀ k, u.ownBlock = some k → base ≤ k
 wv : ∀ (i : Nat) (u : Value) (m : Nat) (v : Value), ws[i]? = some u → vs[m]? = some v → ws.length ≤ m → ap u v
 op : ∀ k, p.ownBlock = some k → k < b0
structure Grw (w : World) (base b0 : Nat) (p : Value) (vs : List Value) (X : Nat → List S) (out : Value) (ws : List Value) (l : Value) (n : Nat) : Prop where
 H : Held enc 2 79 184 w base p vs X
 o : w.ownsRow b0 79 1 out ws.length ws
 W : ∀ (i : Nat) (u : Value), ws[i]? = some u → Rw w 184 2 u (grown X i).length (encL enc (grown X i)) ∧ ∀ k, u.ownBlock = some k → base ≤ k
 L : Rw w 184 2 l (marks ws.length 0 n).length (encL enc (marks ws.length 0 n)) ∧ ∀ k, l.ownBlock = some k → base ≤ k
 ln : (X ws.length).length ≤ n
 lv : ∀ v, vs[ws.length]? = some v → ap l v ∨ ∃ A c, v = .slice A (X ws.length).length c ∧ l = .slice A n c
 lo : ∀ (m : Nat) (v : Value), m ≠ ws.length → vs[m]? = some v → ap v l
 lw : ∀ (i : Nat) (u : Value), ws[i]? = some u → ap u l
 wv : ∀ (i : Nat) (u : Value) (m : Nat) (v : Value), ws[i]? = some u → vs[m]? = some v → ws.length < m → ap u v
 op : ∀ k, p.ownBlock = some k → k < b0
section
variable {w w1 : World} {base b0 n : Nat} {p out l l1 : Value} {vs ws : List Value} {X : Nat → List S}
theorem GrO.still (h : GrO w base b0 p vs X out ws) {T : List TypeId} (hs : Still T w w1) (h1 : 79 ∉ T) (h2 : 184 ∉ T) : GrO w1 base b0 p vs X out ws :=
 ⟨h.H.still hs h1 h2, hs.own h.o h1, fun i u hu => ⟨hs.rw_ (h.W i u hu).1 h2, (h.W i u hu).2⟩, h.wv, h.op⟩
theorem GrO.below (h : GrO w base b0 p vs X out ws) (hb : Below w.heap.size w w1) : GrO w1 base b0 p vs X out ws := h.still (T := []) (Still.of_below hb) (by simp) (by simp)
theorem Grw.below (h : Grw w base b0 p vs X out ws l n) (hb : Below w.heap.size w w1) : Grw w1 base b0 p vs X out ws l n :=
 ⟨h.H.below hb, pw_own_below h.o hb, fun i u hu => ⟨(h.W i u hu).1.below hb, (h.W i u hu).2⟩, ⟨h.L.1.below hb, h.L.2⟩, h.ln, h.lv, h.lo, h.lw, h.wv, h.op⟩
theorem GrO.start (h : GrO w base b0 p vs X out ws) (hX : ∀ i, i < vs.length → X i = marks i 0 (X i).length) {v : Value} (hv : vs[ws.length]? = some v) : Grw w base b0 p vs X out ws v (X ws.length).length := by
 have hlt := (List.getElem?_eq_some_iff.1 hv).1
 have hx := hX _ hlt
 obtain ⟨hr, hb⟩ := h.H.el _ _ hv
 obtain ⟨A, c, e, _⟩ := hr.slice
 refine ⟨h.H, h.o, h.W, ⟨?_, hb⟩, Nat.le_refl _, fun v' hv' => ?_, fun m v' hm hv' => ap_of h.H.dv hv' hv hm, fun i u hu => h.wv i u _ v hu hv (Nat.le_refl _), fun i u m v' hu hv' hm => h.wv i u m v' hu hv' (Nat.le_of_lt hm), h.op⟩
 ·rw [← hx]
  exact hr
 ·rw [hv] at hv'
  injection hv' with hv'
  subst hv'
  exact .inr ⟨A, c, e, e⟩
theorem ap_fresh {v : Value} {m : Nat} {cs : List Value} (h : Rw w 184 2 v m cs) (hat : ∃ b, l1.ownBlock = some b ∧ w.heap.size ≤ b) : ap v l1 := fun k hk hk2 => by
 obtain ⟨b, hb, hle⟩ := hat
 have := h.lt k hk
 rw [hb] at hk2
 injection hk2 with hk2
 omega
theorem Grw.step (h : Grw w base b0 p vs X out ws l n) {m : Nat} (hbase : base ≤ w.heap.size) (h1 : Rw w1 184 2 l1 (marks ws.length 0 n ++ marks ws.length (n : Int) m).length (encL enc (marks ws.length 0 n ++ marks ws.length (n : Int) m)))
  (h2 : Rw w1 184 2 l (marks ws.length 0 n).length (encL enc (marks ws.length 0 n))) (hg : w.grownBy w1 l.ownBlock) (hat : (∃ A c, l = .slice A (marks ws.length 0 n).length c ∧ l1 = .slice A ((marks ws.length 0 n).length + m) c) ∨ ∃ b, l1.ownBlock = some b ∧ w.heap.size ≤ b)
  (hX : ∀ i, i < vs.length → X i = marks i 0 (X i).length) : Grw w1 base b0 p vs X out ws l1 (n + m) := by
 rw [marks_add] at h1
 rw [marks_len] at hat
 have apl : ∀ {v : Value} {q : Nat} {cs : List Value}, Rw w 184 2 v q cs → ap v l → ap v l1 := by
  intro v q cs hv ha
  rcases hat with ⟨A, c, e1, e2⟩ | hat
  ·subst e1; subst e2
   exact fun k hk hk2 => ha k hk ((own_sl A n c (n + m) c).trans hk2)
  ·exact ap_fresh hv hat
 have rp' : ∀ {b q : Nat} {v : Value} {ys : List Value}, w.ownsRow b 79 1 v q ys → w1.ownsRow b 79 1 v q ys := by
  intro b q v ys hv
  refine own_other hv hg ?_
  cases e : v.ownBlock with
  | none => exact .inl rfl
  | some k =>
   right
   intro e2
   obtain ⟨c1, hc1⟩ := own_typed hv k e
   obtain ⟨c2, hc2⟩ := h.L.1.typed k e2.symm
   rw [hc1] at hc2
   injection hc2 with hc2
   injection hc2 with _ hc2
   exact neSE hc2
 refine ⟨⟨rp' h.H.rp, fun i v hv => ⟨?_, (h.H.el i v hv).2⟩, h.H.dv⟩, rp' h.o, fun i u hu => ⟨(h.W i u hu).1.grown hg (h.lw i u hu).ne, (h.W i u hu).2⟩, ⟨h1, fun k hk => ?_⟩, Nat.le_trans h.ln (Nat.le_add_right _ _), fun v hv => ?_, fun q v hq hv => apl (h.H.el q v hv).1 (h.lo q v hq hv), fun i u hu => apl (h.W i u hu).1 (h.lw i u hu), h.wv, h.op⟩
 ·by_cases hi : i = ws.length
  ·subst hi
   rcases h.lv v hv with ha | ⟨A, c, e1, e2⟩
   ·exact (h.H.el _ v hv).1.grown hg ha.symm.ne
   ·subst e1
    rw [e2] at h2
    rw [marks_len] at h2
    have h3 := h2.take h.ln
    have h4 : (encL enc (marks ws.length 0 n)).take ((X ws.length).length * 2) = encL enc (X ws.length) := by
     have h5 := marks_add ws.length (X ws.length).length (n - (X ws.length).length)
     rw [show (X ws.length).length + (n - (X ws.length).length) = n from by have := h.ln; omega] at h5
     rw [← h5, encL_append, ← hX _ (List.getElem?_eq_some_iff.1 hv).1]
     exact List.take_left' (flat.lenL _)
    rw [h4] at h3
    exact h3
  ·exact (h.H.el i v hv).1.grown hg (h.lo i v hi hv).ne
 ·rcases hat with ⟨A, c, e1, e2⟩ | ⟨b, hb, hle⟩
  ·subst e1; subst e2
   exact h.L.2 k ((own_sl A n c (n + m) c).trans hk)
  ·rw [hb] at hk
   injection hk with hk
   omega
 ·rcases hat with ⟨A, c, e1, e2⟩ | hat
  ·subst e2
   rcases h.lv v hv with ha | ⟨A', c', e3, e4⟩
   ·subst e1
    exact .inl (fun k hk hk2 => ha k ((own_sl A n c (n + m) c).trans hk) hk2)
   ·right
    rw [e4] at e1
    injection e1 with e5 _ e6
    subst e5; subst e6
    exact ⟨A', c', e3, rfl⟩
  ·exact .inl (ap_fresh (h.H.el _ v hv).1 hat).symm
theorem Grw.fin (h : Grw w base b0 p vs X out ws l ((X ws.length).length + 72)) {out1 : Value} (ho : w1.ownsRow b0 79 1 out1 (ws.length + 1) (ws ++ [l])) (hg : w.grownBy w1 out.ownBlock) : GrO w1 base b0 p vs X out1 (ws ++ [l]) := by
 have hne : p.ownBlock = none ∨ p.ownBlock ≠ out.ownBlock := by
  cases e : p.ownBlock with
  | none => exact .inl rfl
  | some k =>
   right
   intro e2
   have h1 := h.op k e
   have h2 := own_base h.o k e2.symm
   omega
 refine ⟨⟨own_other h.H.rp hg hne, fun i v hv => ⟨rw_over (h.H.el i v hv).1 h.o hg neSE, (h.H.el i v hv).2⟩, h.H.dv⟩, by simpa using ho, fun i u hu => ?_, fun i u m v hu hv hm => ?_, h.op⟩
 ·by_cases hi : i < ws.length
  ·rw [List.getElem?_append_left hi] at hu
   exact ⟨rw_over (h.W i u hu).1 h.o hg neSE, (h.W i u hu).2⟩
  ·have hi2 : i = ws.length := by
    have := (List.getElem?_eq_some_iff.1 hu).1
    simp at this
    omega
   subst hi2
   have hu2 : l = u := by simpa using hu
   subst hu2
   exact ⟨rw_over h.L.1 h.o hg neSE, h.L.2⟩
 ·rw [List.length_append, List.length_singleton] at hm
  by_cases hi : i < ws.length
  ·rw [List.getElem?_append_left hi] at hu
   exact h.wv i u m v hu hv (by omega)
  ·have hi2 : i = ws.length := by
    have := (List.getElem?_eq_some_iff.1 hu).1
    simp at this
    omega
   subst hi2
   have hu2 : l = u := by simpa using hu
   subst hu2
   exact (h.lo m v (by omega) hv).symm
end
set_option maxHeartbeats 8000000 in
set_option maxRecDepth 100000 in
theorem grow_calls (w0 w : World) (g : Nat) (cs : Array Value) (p : Value) (vs : List Value) (X : Nat → List S) (hg : w.heap[g]? = some (.cells cs 56 (0, 0))) (hp : cs[8]? = some p)
  (hH : Held enc 2 79 184 w w0.heap.size p vs X) (hX : ∀ i, i < vs.length → X i = marks i 0 (X i).length) (hB : Below w0.heap.size w0 w) (hx : ∀ i, i < vs.length → (X i).length ≤ 1000000) (hn : vs.length ≤ 1000000) :
  Calls Tryz.prog 136 #[.pointer (some ⟨g, 0, none⟩)] w fun e w' => ∃ out ws, e = .returned out ∧ ws.length = vs.length ∧ GrO w' w0.heap.size w.heap.size p vs X out ws ∧ Below w0.heap.size w0 w' ∧ Still [184] w w' ∧ w.heap.size ≤ w'.heap.size := by
 obtain ⟨Ap, cp, rfl⟩ := own_slice hH.rp
 have HG := Aside0.mk hg
 have HP := Aside0.mk hp
 have HX := Aside0.mk hx
 have HXM := Aside0.mk hX
 have HO : Aside0 (GrO w w0.heap.size w.heap.size (.slice Ap vs.length cp) vs X (.slice none 0 0) []) := ⟨⟨hH, own_nil _ _ _ _, fun i u hu => by simp at hu, fun i u m v hu => by simp at hu, fun k hk => own_lt hH.rp k hk⟩⟩
 have HB := Aside0.mk hB
 have HB00 := Aside0.mk hB
 have HS : Aside0 (Still [184] w w) := ⟨Still.refl _ _⟩
 have HZ : Aside0 (w.heap.size ≤ w.heap.size) := ⟨Nat.le_refl _⟩
 clear hg hp hx hH hB hX
 go_enter Tryz.func136, Tryz.ntmps136
 go_wp2_with (fail)
 go_loopw [3, 4] (fun v3 v4 w' => ∃ (j : Nat) (ws : List Value) (Ao : Option Addr) (co : Nat), v3 = .slice Ao j co ∧ v4 = .int .i64 j ∧ Aside0 (ws.length = j) ∧ j ≤ vs.length ∧ Aside0 (GrO w' w0.heap.size w.heap.size (.slice Ap vs.length cp) vs X (.slice Ao j co) ws) ∧ Aside0 (Below w0.heap.size w0 w') ∧ Aside0 (Still [184] w w') ∧ Aside0 (w.heap.size ≤ w'.heap.size)) (fun _ v4 _ => vs.length - (intOf v4).toNat)
 case atStart => exact ⟨0, [], none, 0, rfl, rfl, ⟨rfl⟩, Nat.zero_le _, HO, HB, HS, HZ⟩
 case round =>
  clear HO HB HS HZ
  obtain ⟨j, ws, Ao, co, rfl, rfl, HWL, hj, HO, HB, HS, HZ⟩ := hrel
  have HGR : Aside0 (wr.heap[g]? = some (.cells cs 56 (0, 0))) := ⟨HS.out.blk HG.out (by simp [neBE])⟩
  have c6 : wr.cell? ⟨g, 8, none⟩ = some (.slice Ap vs.length cp) := (blk_cell HGR.out 8).trans HP.out
  by_cases hlt : j < vs.length
  ·have p0 : (0 : Int) ≤ (j : Int) := Int.natCast_nonneg _
   have q0 : (j : Int) < (vs.length : Int) := Int.ofNat_lt.mpr hlt
   have t0 : decide ((j : Int) < (vs.length : Int)) = true := decide_eq_true q0
   obtain ⟨gp, cp_, e1, _, hp1⟩ := row_at HO.out.H.rp hlt
   injection e1 with e1 _ e3
   subst e1; subst e3
   have hvj := List.getElem?_eq_getElem hlt
   obtain ⟨A1, c1, ev, hc1⟩ := (HO.out.H.el _ _ hvj).1.slice
   have y1 : wr.cell? ⟨gp, j, none⟩ = some (.slice A1 (X j).length c1) := by rw [← ev]; exact hp1 _ hvj
   rw [ev] at hvj
   obtain ⟨nj, hnj⟩ : ∃ nj, nj = (X j).length := ⟨_, rfl⟩
   have HNJ := Aside0.mk hnj
   have HLT := Aside0.mk hlt
   have HNV := Aside0.mk hn
   have HLX : Aside0 (nj ≤ 1000000) := ⟨by rw [hnj]; exact HX.out j hlt⟩
   have HGW : Aside0 (Grw wr w0.heap.size w.heap.size (.slice (some ⟨gp, 0, none⟩) vs.length cp) vs X (.slice Ao j co) ws (.slice A1 nj c1) nj) := ⟨by have h := HO.out.start HXM.out (v := .slice A1 (X j).length c1) (by rw [HWL.out]; exact hvj); rw [HWL.out, ← hnj] at h; exact h⟩
   rw [← hnj] at y1
   clear hp1 ev hc1 hvj hnj HO
   go_wp2_with (fail)
   go_loopw [5, 6] (fun v5 v6 w' => ∃ (t n : Nat) (Al : Option Addr) (cl : Nat), v5 = .slice Al n cl ∧ v6 = .int .i64 t ∧ t ≤ 12 ∧ Aside0 (n = nj + t) ∧ Aside0 (Grw w' w0.heap.size w.heap.size (.slice (some ⟨gp, 0, none⟩) vs.length cp) vs X (.slice Ao j co) ws (.slice Al n cl) n) ∧ Aside0 (Below w0.heap.size w0 w') ∧ Aside0 (Still [184] w w') ∧ Aside0 (w.heap.size ≤ w'.heap.size)) (fun _ v6 _ => 12 - (intOf v6).toNat)
   case atStart => exact ⟨0, nj, A1, c1, rfl, rfl, Nat.zero_le _, ⟨rfl⟩, HGW, HB, HS, HZ⟩
   case round =>
    clear HGW HB HS HZ HGR c6 y1
    obtain ⟨t, n, Al, cl, rfl, rfl, ht, HN, HGW, HB, HS, HZ⟩ := hrel
    by_cases ht2 : t < 12
    ·have t1 : decide ((t : Int) < 12) = true := decide_eq_true (by omega)
     have HT := Aside0.mk ht2
     have hn2 : n ≤ 9223372036854775807 := by have := HN.out; have := HLX.out; omega
     clear ht2
     go_wp2_with (first
      | (go_at_call 220; refine (cornucopiabook_markPairs.calls 2 (j : Int) (n : Int) 1 _ _ (mark_ev (j : Int) (n : Int) 1 (by have := HN.out; have := HLX.out; have := HT.out; omega) (by omega))).mono ?_; rintro e w1 ⟨m, rfl, hr, hb⟩; obtain ⟨Am, cm, em⟩ := Kd.R_slice hr; rw [marks_len] at em; subst em; have HM1 := Aside0.mk (Kd.R_reads' hr).2.2; have n0_ := Aside0.mk (HGW.out.below hb); have n1_ := Aside0.mk (below_step HB.out hb); have n2_ := Aside0.mk (HS.out.below HZ.out hb); have n3_ := Aside0.mk (Nat.le_trans HZ.out hb.size); clear hr hb HGW HB HS HZ; have HGW := n0_; have HB := n1_; have HS := n2_; have HZ := n3_; clear n0_ n1_ n2_ n3_)
      | ((with_reducible refine gate_builtin (b := .append) (xs := #[.tmp 27, .tmp 31]) rfl ?_); at_builtin; refine wp_append_rw flat rfl (.tmp 27) (.tmp 31) 79 184 (.agg #[.string ⟨#[]⟩, .string ⟨#[]⟩]) 32 rfl Tryz.underlying79 infoE ?a1 ?a2 (.slice Al n cl) (marks ws.length 0 n) (marks (j : Int) (n : Int) 1) Am 1 cm rfl rfl ?a3 ?a4 ?a5 ?a6 ?a7 ?_; (case a1 => rfl); (case a2 => decide); (case a3 => exact HGW.out.L.1); (case a4 => have h := HM1.out; rw [marks_len] at h; exact h); (case a5 => decide); (case a6 => rw [marks_len]; have := HN.out; have := HLX.out; have := HT.out; omega); (case a7 => rw [marks_len]; unfold maxLen; have := HN.out; have := HLX.out; have := HT.out; omega); intro l1 w2 hl1 hl0 hgr hat; have g0 := HGW.out.step (m := 1) (l1 := l1) (w1 := w2) HB.out.size (by have h := hl1; rw [show (j : Int) = (ws.length : Int) from by rw [HWL.out]] at h; exact h) hl0 hgr hat HXM.out; obtain ⟨Al2, cl2, el, _⟩ := g0.L.1.slice; rw [marks_len] at el; subst el; have n0_ := Aside0.mk g0; have n1_ := Aside0.mk (HB.out.grown hgr HB.out.size (fun k hk => HGW.out.L.2 k hk)); have n2_ : Aside0 (Still [184] w w2) := ⟨HS.out.trans HZ.out (Still.of_grown hgr (fun k hk => by obtain ⟨cur, hc⟩ := HGW.out.L.1.typed k hk; exact ⟨cur, 184, by simp, hc⟩))⟩; have n3_ := Aside0.mk (Nat.le_trans HZ.out hgr.size); clear hl1 hl0 hgr hat g0 HGW HB HS HZ HM1; have HGW := n0_; have HB := n1_; have HS := n2_; have HZ := n3_; clear n0_ n1_ n2_ n3_))
     go_roundw
     case rel => exact ⟨t + 1, n + 1, Al2, cl2, rfl, by go_num, by have := HT.out; omega, ⟨by have := HN.out; omega⟩, HGW, HB, HS, HZ⟩
     case measure => simp [intOf]; have := HT.out; omega
    ·obtain rfl : t = 12 := by omega
     have t1 : decide ((12 : Int) < 12) = false := by decide
     have t1' : decide (((12 : Nat) : Int) < 12) = false := by decide
     have HT := Aside0.mk ht
     have hn2 : n ≤ 9223372036854775807 := by have := HN.out; have := HLX.out; omega
     have HTI := Aside0.mk q0
     clear ht2 ht
     go_wp2_with (first
      | (go_at_call 220; refine (cornucopiabook_markPairs.calls 61 (j : Int) (n : Int) 60 _ _ (mark_ev (j : Int) (n : Int) 60 (by have := HN.out; have := HLX.out; have := HT.out; omega) (by omega))).mono ?_; rintro e w1 ⟨m, rfl, hr, hb⟩; obtain ⟨Am, cm, em⟩ := Kd.R_slice hr; rw [marks_len] at em; subst em; have HM1 := Aside0.mk (Kd.R_reads' hr).2.2; have n0_ := Aside0.mk (HGW.out.below hb); have n1_ := Aside0.mk (below_step HB.out hb); have n2_ := Aside0.mk (HS.out.below HZ.out hb); have n3_ := Aside0.mk (Nat.le_trans HZ.out hb.size); clear hr hb HGW HB HS HZ; have HGW := n0_; have HB := n1_; have HS := n2_; have HZ := n3_; clear n0_ n1_ n2_ n3_)
      | ((with_reducible refine gate_builtin (b := .append) (xs := #[.tmp 34, .tmp 38]) rfl ?_); at_builtin; refine wp_append_rw flat rfl (.tmp 34) (.tmp 38) 79 184 (.agg #[.string ⟨#[]⟩, .string ⟨#[]⟩]) 32 rfl Tryz.underlying79 infoE ?a1 ?a2 (.slice Al n cl) (marks ws.length 0 n) (marks (j : Int) (n : Int) 60) Am 60 cm rfl rfl ?a3 ?a4 ?a5 ?a6 ?a7 ?_; (case a1 => rfl); (case a2 => decide); (case a3 => exact HGW.out.L.1); (case a4 => have h := HM1.out; rw [marks_len] at h; exact h); (case a5 => decide); (case a6 => rw [marks_len]; have := HN.out; have := HLX.out; have := HT.out; omega); (case a7 => rw [marks_len]; unfold maxLen; have := HN.out; have := HLX.out; have := HT.out; omega); intro l1 w2 hl1 hl0 hgr hat; have g0 := HGW.out.step (m := 60) (l1 := l1) (w1 := w2) HB.out.size (by have h := hl1; rw [show (j : Int) = (ws.length : Int) from by rw [HWL.out]] at h; exact h) hl0 hgr hat HXM.out; obtain ⟨Al2, cl2, el, _⟩ := g0.L.1.slice; rw [marks_len] at el; subst el; have n0_ := Aside0.mk g0; have n1_ := Aside0.mk (HB.out.grown hgr HB.out.size (fun k hk => HGW.out.L.2 k hk)); have n2_ : Aside0 (Still [184] w w2) := ⟨HS.out.trans HZ.out (Still.of_grown hgr (fun k hk => by obtain ⟨cur, hc⟩ := HGW.out.L.1.typed k hk; exact ⟨cur, 184, by simp, hc⟩))⟩; have n3_ := Aside0.mk (Nat.le_trans HZ.out hgr.size); clear hl1 hl0 hgr hat g0 HGW HB HS HZ HM1; have HGW := n0_; have HB := n1_; have HS := n2_; have HZ := n3_; clear n0_ n1_ n2_ n3_)
      | ((with_reducible refine gate_builtin (b := .append) (xs := #[.tmp 33, .tmp 40]) rfl ?_); at_builtin; refine print_append_cells w.heap.size rfl (.tmp 33) (.tmp 40) 45 79 (.slice none 0 0) 1 24 rfl Tryz.underlying45 infoS rfl ?b1 ?b2 (.slice Ao j co) ws.length ws [.slice Al2 (n + 60) cl2] rfl rfl rfl ?b3 HGW.out.o (Below.refl _ _) HZ.out ?bL ?_; (case b1 => decide); (case b2 => decide); (case b3 => exact one_slice _ _ _); (case bL => rw [HWL.out]; have := HLT.out; have := HNV.out; omega); intro out1 w3 ho1 hb1 hg1 hat1; have ho2 := ho1; rw [HWL.out] at ho2; obtain ⟨A3, c3, rfl⟩ := own_slice ho2; have h1 := HN.out; have h2 := HNJ.out; have e72 : n + 60 = (X ws.length).length + 72 := (by rw [HWL.out]; omega); clear h1 h2; have h9 := HGW.out; rw [e72] at h9 ho1; have n0_ := Aside0.mk (h9.fin ho1 hg1); have n1_ := Aside0.mk (HB.out.grown hg1 HB.out.size (fun k hk => Nat.le_trans HB00.out.size (own_base h9.o k hk))); have n2_ := Aside0.mk (HS.out.grown_new HZ.out hg1 (fun k hk => own_base h9.o k hk)); have n3_ := Aside0.mk (Nat.le_trans HZ.out hg1.size); clear ho1 ho2 hb1 hg1 hat1 e72 h9 HGW HB HS HZ; have HGW := n0_; have HB := n1_; have HS := n2_; have HZ := n3_; clear n0_ n1_ n2_ n3_))
     go_roundw
     case rel => exact ⟨j + 1, _, A3, c3, rfl, by go_num, ⟨by rw [List.length_append, HWL.out]; rfl⟩, by have := HLT.out; omega, HGW, HB, HS, HZ⟩
     case measure => simp [intOf]; have := HLT.out; omega
  ·obtain rfl : j = vs.length := by omega
   have t0 : decide ((vs.length : Int) < (vs.length : Int)) = false := decide_eq_false (by omega)
   go_wp2_with (fail)
   go_ret
   exact ⟨_, ws, rfl, HWL.out, HO.out, HB.out, HS.out, HZ.out⟩
end Go.Proofs.YtchgpcgolgcfdaaGreat.BkPairs
end
