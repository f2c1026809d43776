/- The contracts of batch.Batch: a batch is told by the list of all writes that were put into it. -/
import Derived.Test.YtnaojalieecaeaaBatM
import Derived.Test.YtnaojalieecaeaaShelf
import Derived.Test.YtnaojalieecaeaaWN
import Derived.Test.YtnaojalieecaeaaWAt
import Derived.WalkKit
import Derived.Deep.RegionHeld3
import Derived.StillTailTactics
import Derived.Carry
import Derived.WideKeyArgs2
namespace Go.Proofs.Ytnaojalieecaeaa.Bat
open Go Go.RowKit Go.Maps Go.Proofs.Ytnaojalieecaeaa.PBat Go.Proofs.Ytnaojalieecaeaa.BatM Go.Proofs.YtnaojalieecaeaaW.PrintWords Go.Proofs.YtnaojalieecaeaaW.PrintLast Go.Proofs.YtnaojalieecaeaaW.PrintMore
set_option linter.unusedVariables false
set_option linter.unusedSimpArgs false
theorem law : Keyed Try.prog 9 := string_keyed Try.underlying9
theorem cmp_nil (w : World) : (binOp BinOp.eql 37 (.map none) (.map none)).run Try.prog w = .ok (.bool true) w := by kernel_rfl
theorem cmp_some (b : Nat) (w : World) : (binOp BinOp.eql 37 (.map (some b)) (.map none)).run Try.prog w = .ok (.bool false) w := by rfl
theorem zero27 (w : World) : (zeroValue 27).run Try.prog w = .ok (.agg #[.string ⟨#[]⟩, .string ⟨#[]⟩, .bool false]) w := by kernel_rfl
/-- Block b holds the last write of each key. -/
def Own (V : World) (b : Nat) (l : List S27) : Prop := V.ownsMap Try.prog 9 RW b l.length (D l)
theorem Own.below {V V1 : World} {b : Nat} {l : List S27} (h : Own V b l) (hb : Below V.heap.size V V1) : Own V1 b l := World.ownsMap.kept h (grown_of_below hb none) (by simp)
theorem Own.ne {V : World} {b g : Nat} {l : List S27} (h : Own V b l) {cs : Array Value} {t : TypeId} {fr : Nat × Nat} (hg : V.heap[g]? = some (.cells cs t fr)) : b ≠ g := by
  rintro rfl
  obtain ⟨es, c, hb, _⟩ := h
  rw [hb] at hg
  cases hg
theorem Own.far {V : World} {b g i : Nat} {l : List S27} (h : Own V b l) {cs : Array Value} {t : TypeId} {fr : Nat × Nat} (hg : V.heap[g]? = some (.cells cs t fr)) (u : Value) : Own (V.setCell ⟨g, i, none⟩ u) b l := World.ownsMap.setCell h (h.ne hg) u
/-- What is no batch stays. -/
def Keeps (w w' : World) : Prop := ∀ (k : Nat) (cs : Array Value) (t : TypeId) (fr : Nat × Nat), t ≠ 39 → w.heap[k]? = some (.cells cs t fr) → w'.heap[k]? = some (.cells cs t fr)
theorem Keeps.refl (w : World) : Keeps w w := fun _ _ _ _ _ h => h
theorem Keeps.trans {a b c : World} (h : Keeps a b) (k : Keeps b c) : Keeps a c := fun i cs t fr ht hi => k i cs t fr ht (h i cs t fr ht hi)
theorem Keeps.below {a b c : World} (h : Keeps a b) (k : Below b.heap.size b c) : Keeps a c := fun i cs t fr ht hi => (k.block i (blk_lt (h i cs t fr ht hi))).trans (h i cs t fr ht hi)
theorem Keeps.set {a b : World} {g i : Nat} {cs : Array Value} {fr : Nat × Nat} (h : Keeps a b) (hg : b.heap[g]? = some (.cells cs 39 fr)) (u : Value) : Keeps a (b.setCell ⟨g, i, none⟩ u) := fun k cs' t fr' ht hk => by
  have h1 := h k cs' t fr' ht hk
  refine (Below.heap_setCell b ⟨g, i, none⟩ u k ?_).trans h1
  show k ≠ g
  rintro rfl
  rw [hg] at h1
  injection h1 with h1
  injection h1 with _ h2
  exact ht h2.symm
theorem Keeps.map {a b c : World} {m : Nat} {l : List S27} (h : Keeps a b) (hm : Own b m l) (hg : b.grownBy c (some m)) : Keeps a c := fun k cs' t fr' ht hk => by
  have h1 := h k cs' t fr' ht hk
  refine (hg.block k (blk_lt h1) ?_).trans h1
  intro e
  injection e with e
  exact hm.ne h1 e.symm
/-- The batch at block g. -/
def IsB (w0 V : World) (g : Nat) (l : List S27) : Prop := w0.heap.size ≤ g ∧ ((V.heap[g]? = some (.cells #[.map none] 39 (0, 0)) ∧ l = []) ∨ (∃ b, V.heap[g]? = some (.cells #[.map (some b)] 39 (0, 0)) ∧ w0.heap.size ≤ b ∧ Own V b l))
theorem IsB.below {w0 V V1 : World} {g : Nat} {l : List S27} (h : IsB w0 V g l) (hb : Below V.heap.size V V1) : IsB w0 V1 g l := by
  obtain ⟨h0, h | ⟨b, h1, h2, h3⟩⟩ := h
  · exact ⟨h0, .inl ⟨blk_below h.1 hb, h.2⟩⟩
  · exact ⟨h0, .inr ⟨b, blk_below h1 hb, h2, h3.below hb⟩⟩
theorem IsB.blk {w0 V : World} {g : Nat} {l : List S27} (h : IsB w0 V g l) : ∃ m, V.heap[g]? = some (.cells #[.map m] 39 (0, 0)) := by
  obtain ⟨h0, h | ⟨b, h1, h2, h3⟩⟩ := h
  · exact ⟨_, h.1⟩
  · exact ⟨_, h1⟩
theorem IsB.far {w0 V : World} {g k i : Nat} {l : List S27} (h : IsB w0 V g l) {cs : Array Value} {t : TypeId} {fr : Nat × Nat} (hk : V.heap[k]? = some (.cells cs t fr)) (ht : t ≠ 39) (u : Value) : IsB w0 (V.setCell ⟨k, i, none⟩ u) g l := by
  have hne : g ≠ k := by
    rintro rfl
    obtain ⟨m, hm⟩ := h.blk
    rw [hm] at hk
    injection hk with hk
    injection hk with _ h2
    exact ht h2.symm
  obtain ⟨h0, h | ⟨b, h1, h2, h3⟩⟩ := h
  · exact ⟨h0, .inl ⟨blk_far h.1 hne u, h.2⟩⟩
  · exact ⟨h0, .inr ⟨b, blk_far h1 hne u, h2, h3.far hk u⟩⟩
/-- Amid set: the box, the batch and its map. -/
structure J (w0 w V : World) (g p b : Nat) (l : List S27) (x : S27) : Prop where
  box : V.heap[p]? = some (.cells #[.string x.f0, .string x.f1, .bool x.f2] 27 (0, 0))
  fld : V.heap[g]? = some (.cells #[.map (some b)] 39 (0, 0))
  own : Own V b l
  bel : Below w0.heap.size w0 V
  kp : Keeps w V
  gg : w0.heap.size ≤ g
  gb : w0.heap.size ≤ b
  gp : w0.heap.size ≤ p
theorem J.below {w0 w V V1 : World} {g p b : Nat} {l : List S27} {x : S27} (h : J w0 w V g p b l x) (hb : Below V.heap.size V V1) : J w0 w V1 g p b l x := ⟨blk_below h.box hb, blk_below h.fld hb, h.own.below hb, below_step h.bel hb, h.kp.below hb, h.gg, h.gb, h.gp⟩
theorem J.same {w0 w V : World} {g p b i : Nat} {l : List S27} {x : S27} (h : J w0 w V g p b l x) {u : Value} (hu : (#[.string x.f0, .string x.f1, .bool x.f2] : Array Value).setIfInBounds i u = #[.string x.f0, .string x.f1, .bool x.f2]) : J w0 w (V.setCell ⟨p, i, none⟩ u) g p b l x := by
  have hne : g ≠ p := by
    rintro rfl
    have := h.box.symm.trans h.fld
    simp at this
  refine ⟨blk_put h.box i u hu, blk_far h.fld hne u, h.own.far h.box u, below_set h.bel h.gp, ?_, h.gg, h.gb, h.gp⟩
  intro k cs t fr ht hk
  have h1 := h.kp k cs t fr ht hk
  by_cases e : k = p
  · subst e
    exact (blk_put h.box i u hu).trans (h1.symm.trans h.box).symm
  · exact (Below.heap_setCell V ⟨p, i, none⟩ u k e).trans h1
theorem J.set0 {w0 w V : World} {g p b : Nat} {l : List S27} {x : S27} (h : J w0 w V g p b l x) : J w0 w (V.setCell ⟨p, 0, none⟩ (.string x.f0)) g p b l x := h.same rfl
theorem J.set1 {w0 w V : World} {g p b : Nat} {l : List S27} {x : S27} (h : J w0 w V g p b l x) : J w0 w (V.setCell ⟨p, 1, none⟩ (.string x.f1)) g p b l x := h.same rfl
theorem J.drew {w0 w V : World} {g p b : Nat} {l : List S27} {x : S27} (h : J w0 w V g p b l x) : J w0 w V.drew g p b l x := h.below ⟨rfl, rfl, rfl, Nat.le_refl _, fun _ _ => rfl⟩
/-- What the operations of the copying statement ask of a world. -/
theorem J.out {w0 w V : World} {g p b : Nat} {l : List S27} {x : S27} (h : J w0 w V g p b l x) : V.cell? ⟨p, 0, none⟩ = some (.string x.f0) ∧ V.cell? ⟨p, 1, none⟩ = some (.string x.f1) ∧ V.frozen? ⟨p, 0, none⟩ = false ∧ V.frozen? ⟨p, 1, none⟩ = false ∧ Aside0 (J w0 w V g p b l x) :=
  ⟨(blk_cell h.box 0).trans rfl, (blk_cell h.box 1).trans rfl, blk_frozen h.box 0, blk_frozen h.box 1, ⟨h⟩⟩
def CJ (w0 w V : World) (g p b : Nat) (l : List S27) (x : S27) : Prop := V.cell? ⟨p, 0, none⟩ = some (.string x.f0) ∧ V.cell? ⟨p, 1, none⟩ = some (.string x.f1) ∧ V.frozen? ⟨p, 0, none⟩ = false ∧ V.frozen? ⟨p, 1, none⟩ = false ∧ Aside0 (J w0 w V g p b l x)
theorem J.stepD {w0 w V V1 : World} {g p b : Nat} {l : List S27} {x : S27} (h : J w0 w V g p b l x) (hb : Below V.drew.heap.size V.drew V1) : CJ w0 w V1 g p b l x := (h.drew.below hb).out
theorem J.stepB {w0 w V V1 : World} {g p b : Nat} {l : List S27} {x : S27} (hb : Below V.heap.size V V1) (h : CJ w0 w V g p b l x) : CJ w0 w V1 g p b l x := (h.2.2.2.2.out.below hb).out
theorem J.stepS0 {w0 w V : World} {g p b : Nat} {l : List S27} {x : S27} (h : CJ w0 w V g p b l x) : CJ w0 w (V.setCell ⟨p, 0, none⟩ (.string x.f0)) g p b l x := h.2.2.2.2.out.set0.out
theorem J.stepS1 {w0 w V : World} {g p b : Nat} {l : List S27} {x : S27} (h : CJ w0 w V g p b l x) : CJ w0 w (V.setCell ⟨p, 1, none⟩ (.string x.f1)) g p b l x := h.2.2.2.2.out.set1.out
set_option maxHeartbeats 8000000 in
set_option maxRecDepth 100000 in
theorem clone_calls (s : ByteArray) (w : World) (hs : s.size ≤ 140737488355328) : Calls Try.prog 18 #[.string s] w fun e w' => e = .returned (.string s) ∧ Below w.heap.size w w' := by
  go_enter Try.func18, Try.ntmps18
  go_wp2_with (first | (go_at_call 22; refine (Try.stringslite_Clone s _ (by omega)).mono ?_; rintro e w1 ⟨rfl, hb⟩))
  go_ret
  exact ⟨rfl, hb⟩
set_option maxHeartbeats 8000000 in
set_option maxRecDepth 100000 in
theorem set_calls (w0 w : World) (g : Nat) (l : List S27) (x : S27) (hI : IsB w0 w g l) (hB : Below w0.heap.size w0 w) (h0 : x.f0.size ≤ 140737488355328) (h1 : x.f1.size ≤ 140737488355328) (hl : l.length < 1000000) :
    Calls Try.prog 15 #[.pointer (some ⟨g, 0, none⟩), .agg #[.string x.f0, .string x.f1, .bool x.f2]] w fun e w' => e = .returned (.tuple #[]) ∧ IsB w0 w' g (l ++ [x]) ∧ Below w0.heap.size w0 w' ∧ Keeps w w' := by
  have hmm := @run_makeMap Try.prog
  have hm0 := cmp_nil
  have hm1 := cmp_some
  have H0 := Aside0.mk h0
  have H1 := Aside0.mk h1
  have HL := Aside0.mk hl
  have HB := Aside0.mk hB
  clear h0 h1 hl hB
  have hlt : g < w.heap.size := by
    obtain ⟨m, hm⟩ := hI.blk
    exact blk_lt hm
  obtain ⟨hg, hc | ⟨b, hc, hb0, hown⟩⟩ := hI
  · obtain ⟨hc, rfl⟩ := hc
    have c0 : w.cell? ⟨g, 0, none⟩ = some (.map none) := (blk_cell hc 0).trans rfl
    have f0 : w.frozen? ⟨g, 0, none⟩ = false := blk_frozen hc 0
    have HC := Aside0.mk hc
    have HG := Aside0.mk hg
    clear hc hg
    go_enter Try.func15, Try.ntmps15
    go_wp2_with (fail)
    generalize hV : World.alloc (World.alloc _ _) _ = V
    have hj : J w0 w V g w.heap.size (w.heap.size + 1) [] x := by
      subst hV
      have hs := HB.out.size
      have hz : (w.setCell ⟨g, 0, none⟩ (.map (some (w.heap.size + 1)))).heap.size = w.heap.size := by simp
      generalize hw1 : w.setCell ⟨g, 0, none⟩ (.map (some (w.heap.size + 1))) = wc
      rw [hw1] at hz
      have h2 : wc.heap[g]? = some (.cells #[.map (some (w.heap.size + 1))] 39 (0, 0)) := by
        rw [← hw1]
        exact blk_put HC.out 0 _ rfl
      have hk : Keeps w wc := by
        rw [← hw1]
        exact Keeps.set (Keeps.refl w) HC.out _
      have hb : Below w0.heap.size w0 wc := by
        rw [← hw1]
        exact below_set HB.out HG.out
      have h3 : Own ((wc.alloc (.cells #[.string x.f0, .string x.f1, .bool x.f2] 27)).alloc (.map #[] 0)) (w.heap.size + 1) [] := by
        have e1 : (wc.alloc (.cells #[.string x.f0, .string x.f1, .bool x.f2] 27)).heap.size = w.heap.size + 1 := by simp [hz]
        rw [← e1]
        exact World.ownsMap_made _ _ _ _
      have h4 := blk_alloc (blk_new wc (.cells #[.string x.f0, .string x.f1, .bool x.f2] 27)) (.map #[] 0)
      rw [hz] at h4
      exact ⟨h4, blk_alloc (blk_alloc h2 _) _, h3, below_alloc (below_alloc hb _) _, hk.below (below_alloc (below_alloc (Below.refl _ wc) _) _), HG.out, by omega, hs⟩
    clear hV hm0 hm1 hmm c0 f0 HC hlt
    generalize w.heap.size = p at *
    generalize p + 1 = b at *
    have HJ := Aside0.mk hj
    clear hj
    go_region_held3 (fun V => V.cell? ⟨p, 0, none⟩ = some (.string x.f0) ∧ V.cell? ⟨p, 1, none⟩ = some (.string x.f1) ∧ V.frozen? ⟨p, 0, none⟩ = false ∧ V.frozen? ⟨p, 1, none⟩ = false ∧ Aside0 (J w0 w V g p b ([] : List S27) x)) (first | exact J.out HJ.out | exact J.out (J.drew HJ.out) | exact J.stepD HJ.out hb | exact J.stepB hb (by assumption) | exact J.stepS0 (by assumption) | exact J.stepS1 (by assumption)) (first | (go_at_call 18; refine (clone_calls x.f0 _ H0.out).mono ?_; rintro e w1 ⟨rfl, hb⟩) | (go_at_call 18; refine (clone_calls x.f1 _ H1.out).mono ?_; rintro e w1 ⟨rfl, hb⟩))
    have hj : J w0 w ((w1.setCell ⟨p, 0, none⟩ (.string x.f0)).setCell ⟨p, 1, none⟩ (.string x.f1)) g p b ([] : List S27) x := (show CJ w0 w ((w1.setCell ⟨p, 0, none⟩ (.string x.f0)).setCell ⟨p, 1, none⟩ (.string x.f1)) g p b ([] : List S27) x from by unfold CJ; assumption).2.2.2.2.out
    generalize hV2 : World.setCell (World.setCell w1 _ _) _ _ = V2 at *
    have c1 : V2.cell? ⟨g, 0, none⟩ = some (.map (some b)) := (blk_cell hj.fld 0).trans rfl
    have c2 : V2.cell? ⟨p, 0, none⟩ = some (.string x.f0) := (blk_cell hj.box 0).trans rfl
    have c3 : V2.cell? ⟨p, 1, none⟩ = some (.string x.f1) := (blk_cell hj.box 1).trans rfl
    have c4 : V2.cell? ⟨p, 2, none⟩ = some (.bool x.f2) := (blk_cell hj.box 2).trans rfl
    have HJ2 := Aside0.mk hj
    clear hj hb
    go_wp2_with (fail)
    go_still_tail 7, (by kernel_rfl)
    change wpList _ _ _ _ _ V2.drew
    have HJ3 : Aside0 (J w0 w V2.drew g p b ([] : List S27) x) := ⟨HJ2.out.drew⟩
    have HKY : Aside0 (keyOf Try.prog 9 (.string x.f0) = some (ky (bs x.f0))) := ⟨WideMaps.keyOf_string_mk Try.underlying9 (by have := H0.out; unfold maxLen; omega)⟩
    generalize V2.drew = V3 at *
    clear c1 c2 c3 c4 HJ2
    at_mapUpdate
    refine wpList_mapUpdate_own _ rfl _ _ _ 37 rfl 9 27 law Try.underlying37 RW b _ (D ([] : List S27)) rfl HJ3.out.own (by have := HL.out; unfold maxLen; omega) _ _ (ky (bs x.f0)) rfl rfl HKY.out (dW x) [] (RW_mk x) ?_
    intro V4 hown4 hgrow4
    go_wp2_with (fail)
    go_end0
    have HJ := HJ3.out
    exact ⟨rfl, ⟨HJ.gg, .inr ⟨b, (hgrow4.block g (blk_lt HJ.fld) (fun e => HJ.own.ne HJ.fld (Option.some.inj e).symm)).trans HJ.fld, HJ.gb, by have h5 := hown4; rw [← D_snoc] at h5; unfold Own; simpa using h5⟩⟩, Below.grown HJ.bel hgrow4 HJ.bel.size (fun k h => by cases h; exact HJ.gb), HJ.kp.map HJ.own hgrow4⟩
  · have c0 : w.cell? ⟨g, 0, none⟩ = some (.map (some b)) := (blk_cell hc 0).trans rfl
    have HC := Aside0.mk hc
    have HG := Aside0.mk hg
    have HO := Aside0.mk hown
    have HB0 := Aside0.mk hb0
    clear hc hg hown hb0
    go_enter Try.func15, Try.ntmps15
    go_wp2_with (fail)
    generalize hV : World.alloc _ _ = V
    have hj : J w0 w V g w.heap.size b l x := by
      subst hV
      exact ⟨blk_new w _, blk_alloc HC.out _, HO.out.below (below_alloc (Below.refl _ w) _), below_alloc HB.out _, Keeps.below (Keeps.refl w) (below_alloc (Below.refl _ w) _), HG.out, HB0.out, HB.out.size⟩
    clear hV hm0 hm1 hmm c0 HC hlt HO
    generalize w.heap.size = p at *
    have HJ := Aside0.mk hj
    clear hj
    go_region_held3 (fun V => V.cell? ⟨p, 0, none⟩ = some (.string x.f0) ∧ V.cell? ⟨p, 1, none⟩ = some (.string x.f1) ∧ V.frozen? ⟨p, 0, none⟩ = false ∧ V.frozen? ⟨p, 1, none⟩ = false ∧ Aside0 (J w0 w V g p b l x)) (first | exact J.out HJ.out | exact J.out (J.drew HJ.out) | exact J.stepD HJ.out hb | exact J.stepB hb (by assumption) | exact J.stepS0 (by assumption) | exact J.stepS1 (by assumption)) (first | (go_at_call 18; refine (clone_calls x.f0 _ H0.out).mono ?_; rintro e w1 ⟨rfl, hb⟩) | (go_at_call 18; refine (clone_calls x.f1 _ H1.out).mono ?_; rintro e w1 ⟨rfl, hb⟩))
    have hj : J w0 w ((w1.setCell ⟨p, 0, none⟩ (.string x.f0)).setCell ⟨p, 1, none⟩ (.string x.f1)) g p b l x := (show CJ w0 w ((w1.setCell ⟨p, 0, none⟩ (.string x.f0)).setCell ⟨p, 1, none⟩ (.string x.f1)) g p b l x from by unfold CJ; assumption).2.2.2.2.out
    generalize hV2 : World.setCell (World.setCell w1 _ _) _ _ = V2 at *
    have c1 : V2.cell? ⟨g, 0, none⟩ = some (.map (some b)) := (blk_cell hj.fld 0).trans rfl
    have c2 : V2.cell? ⟨p, 0, none⟩ = some (.string x.f0) := (blk_cell hj.box 0).trans rfl
    have c3 : V2.cell? ⟨p, 1, none⟩ = some (.string x.f1) := (blk_cell hj.box 1).trans rfl
    have c4 : V2.cell? ⟨p, 2, none⟩ = some (.bool x.f2) := (blk_cell hj.box 2).trans rfl
    have HJ2 := Aside0.mk hj
    clear hj hb
    go_wp2_with (fail)
    go_still_tail 7, (by kernel_rfl)
    change wpList _ _ _ _ _ V2.drew
    have HJ3 : Aside0 (J w0 w V2.drew g p b l x) := ⟨HJ2.out.drew⟩
    have HKY : Aside0 (keyOf Try.prog 9 (.string x.f0) = some (ky (bs x.f0))) := ⟨WideMaps.keyOf_string_mk Try.underlying9 (by have := H0.out; unfold maxLen; omega)⟩
    generalize V2.drew = V3 at *
    clear c1 c2 c3 c4 HJ2
    at_mapUpdate
    refine wpList_mapUpdate_own _ rfl _ _ _ 37 rfl 9 27 law Try.underlying37 RW b _ (D l) rfl HJ3.out.own (by have := HL.out; unfold maxLen; omega) _ _ (ky (bs x.f0)) rfl rfl HKY.out (dW x) [] (RW_mk x) ?_
    intro V4 hown4 hgrow4
    go_wp2_with (fail)
    go_end0
    have HJ := HJ3.out
    exact ⟨rfl, ⟨HJ.gg, .inr ⟨b, (hgrow4.block g (blk_lt HJ.fld) (fun e => HJ.own.ne HJ.fld (Option.some.inj e).symm)).trans HJ.fld, HJ.gb, by have h5 := hown4; rw [← D_snoc] at h5; unfold Own; simpa using h5⟩⟩, Below.grown HJ.bel hgrow4 HJ.bel.size (fun k h => by cases h; exact HJ.gb), HJ.kp.map HJ.own hgrow4⟩
end Go.Proofs.Ytnaojalieecaeaa.Bat
