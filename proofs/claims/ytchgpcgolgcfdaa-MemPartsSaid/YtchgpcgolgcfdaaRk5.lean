/- Put of a skip list: the walks. -/
import Derived.Test.YtchgpcgolgcfdaaRk4
namespace Go.Proofs.Ytchgpcgolgcfdaa.Rk
open Go Go.RowKit Go.Proofs.Ytchgpcgolgcfdaa.PNum Go.Proofs.Ytchgpcgolgcfdaa.RkM Go.Proofs.YtchgpcgolgcfdaaW.PrintWords Go.Proofs.YtchgpcgolgcfdaaW.PrintLast Go.Proofs.YtchgpcgolgcfdaaW.PrintMore
attribute [local go_sem] max2_int min2_int max_two min_two max_three min_three max_four min_four
set_option linter.unusedVariables false
set_option linter.unusedSimpArgs false
theorem idx0' (v0 v1 v2 v3 v4 v5 v6 v7 : Value) (V : World) : (Instr.index 85 (.agg #[v0, v1, v2, v3, v4, v5, v6, v7]) (.int .i64 0)).run Try.prog V = .ok v0 V := idx0 _ _ _ _ _ _ _ _ V
/-- What a put leaves as it was. -/
def Fr (w V : World) (g : Nat) (pre : List Nd) : Prop := ∀ k, k < w.heap.size → k ≠ g → k ∉ blocks pre → V.heap[k]? = w.heap[k]?
theorem Fr.refl (w : World) (g : Nat) (pre : List Nd) : Fr w w g pre := fun _ _ _ _ => rfl
theorem Fr.below {w V V1 : World} {g : Nat} {pre : List Nd} (h : Fr w V g pre) (hs : w.heap.size ≤ V.heap.size) (hb : Below V.heap.size V V1) : Fr w V1 g pre := fun k h1 h2 h3 => (hb.block k (by omega)).trans (h k h1 h2 h3)
/-- Amid a put: the list, the box of the version, the places that were found. -/
structure J (R : Root) (w0 w V : World) (g eb a : Nat) (pre post : List Nd) (n t : Int) (e : E) : Prop where
  li : IsL R w0 V g (pre ++ post) n t
  box : V.heap[eb]? = some (.cells #[.string (e).f0, .int .u64 (e).f1, .int .i64 (e).f2, .string (e).f3] 29 (0, 0))
  arr : V.heap[a]? = some (.cells (outs g pre) 85 (0, 0))
  bel : Below w0.heap.size w0 V
  fr : Fr w V g pre
  sz : w.heap.size ≤ V.heap.size
  ge : w0.heap.size ≤ eb
  lo : w.heap.size ≤ eb
  la : w.heap.size ≤ a
theorem J.below {R : Root} {w0 w V V1 : World} {g eb a : Nat} {pre post : List Nd} {n t : Int} {e : E} (h : J R w0 w V g eb a pre post n t e) (hb : Below V.heap.size V V1) : J R w0 w V1 g eb a pre post n t e :=
  ⟨h.li.below hb, blk_below h.box hb, blk_below h.arr hb, below_step h.bel hb, h.fr.below h.sz hb, Nat.le_trans h.sz hb.size, h.ge, h.lo, h.la⟩
theorem J.drew {R : Root} {w0 w V : World} {g eb a : Nat} {pre post : List Nd} {n t : Int} {e : E} (h : J R w0 w V g eb a pre post n t e) : J R w0 w V.drew g eb a pre post n t e := h.below ⟨rfl, rfl, rfl, Nat.le_refl _, fun _ _ => rfl⟩
theorem J.same {R : Root} {w0 w V : World} {g eb a i : Nat} {pre post : List Nd} {n t : Int} {e : E} (h : J R w0 w V g eb a pre post n t e) {u : Value} (hu : (#[.string (e).f0, .int .u64 (e).f1, .int .i64 (e).f2, .string (e).f3] : Array Value).setIfInBounds i u = #[.string (e).f0, .int .u64 (e).f1, .int .i64 (e).f2, .string (e).f3]) : J R w0 w (V.setCell ⟨eb, i, none⟩ u) g eb a pre post n t e := by
  have same : ∀ k, (V.setCell ⟨eb, i, none⟩ u).heap[k]? = V.heap[k]? := fun k => by
    by_cases hk : k = eb
    · subst hk
      exact (blk_put h.box i u hu).trans h.box.symm
    · exact Below.heap_setCell V ⟨eb, i, none⟩ u k hk
  exact ⟨⟨(same g).trans h.li.hd, h.li.ch.congr (fun x _ => same x.b), h.li.nd, h.li.gg, h.li.gb⟩, (same eb).trans h.box, (same a).trans h.arr, below_set h.bel h.ge, fun k h1 h2 h3 => (same k).trans (h.fr k h1 h2 h3), by have := h.sz; simpa using this, h.ge, h.lo, h.la⟩
def CJ (R : Root) (w0 w V : World) (g eb a : Nat) (pre post : List Nd) (n t : Int) (e : E) : Prop := V.cell? ⟨eb, 0, none⟩ = some (.string e.f0) ∧ V.cell? ⟨eb, 3, none⟩ = some (.string e.f3) ∧ V.frozen? ⟨eb, 0, none⟩ = false ∧ V.frozen? ⟨eb, 3, none⟩ = false ∧ Aside0 (J R w0 w V g eb a pre post n t e)
theorem J.out {R : Root} {w0 w V : World} {g eb a : Nat} {pre post : List Nd} {n t : Int} {e : E} (h : J R w0 w V g eb a pre post n t e) : CJ R w0 w V g eb a pre post n t e := ⟨(blk_cell h.box 0).trans rfl, (blk_cell h.box 3).trans rfl, blk_frozen h.box 0, blk_frozen h.box 3, ⟨h⟩⟩
theorem J.stepD {R : Root} {w0 w V : World} {g eb a : Nat} {pre post : List Nd} {n t : Int} {e : E} {V1 : World} (h : J R w0 w V g eb a pre post n t e) (hb : Below V.drew.heap.size V.drew V1) : CJ R w0 w V1 g eb a pre post n t e := (h.drew.below hb).out
theorem J.stepB {R : Root} {w0 w V : World} {g eb a : Nat} {pre post : List Nd} {n t : Int} {e : E} {V1 : World} (hb : Below V.heap.size V V1) (h : CJ R w0 w V g eb a pre post n t e) : CJ R w0 w V1 g eb a pre post n t e := (h.2.2.2.2.out.below hb).out
theorem J.stepS0 {R : Root} {w0 w V : World} {g eb a : Nat} {pre post : List Nd} {n t : Int} {e : E} (h : CJ R w0 w V g eb a pre post n t e) : CJ R w0 w (V.setCell ⟨eb, 0, none⟩ (.string e.f0)) g eb a pre post n t e := (h.2.2.2.2.out.same rfl).out
theorem J.stepS3 {R : Root} {w0 w V : World} {g eb a : Nat} {pre post : List Nd} {n t : Int} {e : E} (h : CJ R w0 w V g eb a pre post n t e) : CJ R w0 w (V.setCell ⟨eb, 3, none⟩ (.string e.f3)) g eb a pre post n t e := (h.2.2.2.2.out.same rfl).out
def CY (R : Root) (w0 w V : World) (g eb a : Nat) (pre : List Nd) (y : Nd) (r : List Nd) (n t : Int) (e : E) : Prop := V.cell? ⟨y.b, 0, none⟩ = some (.string y.e.f0) ∧ V.cell? ⟨y.b, 1, none⟩ = some (.int .u64 y.e.f1) ∧ V.cell? ⟨y.b, 2, none⟩ = some (.int .i64 y.e.f2) ∧ V.cell? ⟨y.b, 3, none⟩ = some (.string y.e.f3) ∧ V.cell? ⟨eb, 0, none⟩ = some (.string e.f0) ∧ V.cell? ⟨eb, 1, none⟩ = some (.int .u64 e.f1) ∧ V.cell? ⟨eb, 2, none⟩ = some (.int .i64 e.f2) ∧ V.cell? ⟨eb, 3, none⟩ = some (.string e.f3) ∧ Aside0 (J R w0 w V g eb a pre (y :: r) n t e)
theorem J.outY {R : Root} {w0 w V : World} {g eb a : Nat} {pre r : List Nd} {y : Nd} {n t : Int} {e : E} (h : J R w0 w V g eb a pre (y :: r) n t e) : CY R w0 w V g eb a pre y r n t e :=
  ⟨(blk_cell h.li.ch.blk 0).trans rfl, (blk_cell h.li.ch.blk 1).trans rfl, (blk_cell h.li.ch.blk 2).trans rfl, (blk_cell h.li.ch.blk 3).trans rfl, (blk_cell h.box 0).trans rfl, (blk_cell h.box 1).trans rfl, (blk_cell h.box 2).trans rfl, (blk_cell h.box 3).trans rfl, ⟨h⟩⟩
set_option maxHeartbeats 8000000 in
set_option maxRecDepth 100000 in
theorem put_bad (R : Root) (w0 w : World) (g : Nat) (pre post : List Nd) (n t : Int) (e : E) (lv : Int) (hI : IsL R w0 w g (pre ++ post) n t) (hB : Below w0.heap.size w0 w) (hv : PuIkC.valid e.f0 e.f2 e.f3 = false) :
    Calls Try.prog 37 #[.pointer (some ⟨g, 0, none⟩), .agg #[.string (e).f0, .int .u64 (e).f1, .int .i64 (e).f2, .string (e).f3], .int .i64 lv] w fun ee w' => ee = .returned (.bool false) ∧ Below w.heap.size w w' := by
  have HI := Aside0.mk hI
  have HBB := Aside0.mk hB
  have HB := Aside0.mk (below_alloc (Below.refl w.heap.size w) (.cells #[.string (e).f0, .int .u64 (e).f1, .int .i64 (e).f2, .string (e).f3] 29))
  obtain ⟨kv, hkv⟩ := PuIkC.Valid_ev e.f0 e.f1 e.f2 e.f3
  have HKV := Aside0.mk (hkv kv (Nat.le_refl _))
  have HX := Aside0.mk (blk_new w (.cells #[.string (e).f0, .int .u64 (e).f1, .int .i64 (e).f2, .string (e).f3] 29))
  clear hI hB hkv
  have HV := Aside0.mk hv
  clear hv
  go_enter Try.func37, Try.ntmps37
  go_wp2_with (first | (go_at_call 61; refine (ikey_Valid.calls kv _ _ _ _ _ _ HKV.out).mono ?_; rintro ee w1 ⟨rfl, hb⟩; rw [HV.out]; have n0_ := Aside0.mk (below_step HB.out hb); have n1_ := Aside0.mk (blk_below HX.out hb); clear HB HX hb; have HB := n0_; have HX := n1_; clear n0_ n1_))
  go_ret
  exact ⟨rfl, HB.out⟩
set_option maxHeartbeats 8000000 in
set_option maxRecDepth 100000 in
theorem put_same (R : Root) (w0 w : World) (g : Nat) (pre r : List Nd) (y : Nd) (n t : Int) (e : E) (lv : Int) (hI : IsL R w0 w g (pre ++ y :: r) n t) (hB : Below w0.heap.size w0 w) (hp : ∀ x ∈ pre, decide (PuIkC.ce x.e e < 0) = true) (hq : ∀ x ∈ y :: r, decide (PuIkC.ce x.e e < 0) = false) (hv : PuIkC.valid e.f0 e.f2 e.f3 = true) (hne : PuIkC.ce y.e e = 0) (h1 : 1 ≤ y.h) :
    Calls Try.prog 37 #[.pointer (some ⟨g, 0, none⟩), .agg #[.string (e).f0, .int .u64 (e).f1, .int .i64 (e).f2, .string (e).f3], .int .i64 lv] w fun ee w' => ee = .returned (.bool false) ∧ Below w.heap.size w w' := by
  have HI := Aside0.mk hI
  have HBB := Aside0.mk hB
  have HB := Aside0.mk (below_alloc (Below.refl w.heap.size w) (.cells #[.string (e).f0, .int .u64 (e).f1, .int .i64 (e).f2, .string (e).f3] 29))
  obtain ⟨kv, hkv⟩ := PuIkC.Valid_ev e.f0 e.f1 e.f2 e.f3
  have HKV := Aside0.mk (hkv kv (Nat.le_refl _))
  have HX := Aside0.mk (blk_new w (.cells #[.string (e).f0, .int .u64 (e).f1, .int .i64 (e).f2, .string (e).f3] 29))
  clear hI hB hkv

  have HV := Aside0.mk hv
  have HP := Aside0.mk hp
  have HQ := Aside0.mk hq
  have HNE := Aside0.mk hne
  have HY := Aside0.mk h1
  clear hv hp hq hne h1
  have hix := idx0'
  go_enter Try.func37, Try.ntmps37
  go_upto_region 4 with (first | (go_at_call 61; refine (ikey_Valid.calls kv _ _ _ _ _ _ HKV.out).mono ?_; rintro ee w1 ⟨rfl, hb⟩; rw [HV.out]; have n0_ := Aside0.mk (below_step HB.out hb); have n1_ := Aside0.mk (blk_below HX.out hb); clear HB HX hb; have HB := n0_; have HX := n1_; clear n0_ n1_) | (go_at_call 62; have HF : Aside0 (∀ (V : World) (x : Nd), Below w1.heap.size w1 V → x ∈ pre ++ y :: r → Calls Try.prog 63 #[.agg #[.string (x.e).f0, .int .u64 (x.e).f1, .int .i64 (x.e).f2, .string (x.e).f3], .pointer (some ⟨w.heap.size, 0, none⟩)] V fun ee w' => ee = .returned (.bool (decide (PuIkC.ce x.e e < 0))) ∧ Below V.heap.size V w') := ⟨fun V x hV _ => put1 V _ e x.e (blk_below HX.out hV)⟩; refine (before_put R w0 w1 g w.heap.size pre (y :: r) n t (fun x => decide (PuIkC.ce x e < 0)) (HI.out.below HB.out) HP.out HQ.out HF.out).mono ?_; rintro ee w2 ⟨rfl, hb⟩; have n0_ := Aside0.mk (below_step HB.out hb); have n1_ := Aside0.mk (blk_below HX.out hb); clear HB HX HF hb; have HB := n0_; have HX := n1_; clear n0_ n1_; unfold outs))
  have hj : J R w0 w (w2.alloc (.cells (outs g pre) 85)) g w.heap.size w2.heap.size pre (y :: r) n t e := ⟨HI.out.below (below_alloc HB.out _), blk_alloc HX.out _, blk_new w2 _, below_step HBB.out (below_alloc HB.out _), (Fr.refl w g pre).below (Nat.le_refl _) (below_alloc HB.out _), (below_alloc HB.out _).size, HBB.out.size, Nat.le_refl _, HB.out.size⟩
  have HJ := Aside0.mk hj
  have HBW := Aside0.mk (below_alloc HB.out (.cells (outs g pre) 85))
  clear hj HB HX HI HBB hix
  unfold outs at HJ HBW
  generalize World.alloc w2 _ = V at *
  generalize w2.heap.size = a at *
  have c0 : V.cell? ⟨a, 0, none⟩ = some (.pointer (some ⟨(lastAt pre 0).getD g, 0, none⟩)) := (blk_cell HJ.out.arr 0).trans rfl
  have y0 := HJ.out.li.nextLast (L := 0) (by omega)
  have y1 : V.cell? ⟨(lastAt pre 0).getD g, 4, none⟩ = some (.pointer (some ⟨y.b, 0, none⟩)) := by
    rw [first_cons HY.out] at y0
    exact y0
  clear y0
  obtain ⟨kc, hkc⟩ := PuIkC.Compare_ev y.e e
  have HKC := Aside0.mk (hkc kc (Nat.le_refl _))
  have kne : (PuIkC.ce y.e e == 0) = true := beq_iff_eq.mpr HNE.out
  clear hkc
  go_wp2_with (fail)
  go_region_held3 (fun V => V.cell? ⟨y.b, 0, none⟩ = some (.string y.e.f0) ∧ V.cell? ⟨y.b, 1, none⟩ = some (.int .u64 y.e.f1) ∧ V.cell? ⟨y.b, 2, none⟩ = some (.int .i64 y.e.f2) ∧ V.cell? ⟨y.b, 3, none⟩ = some (.string y.e.f3) ∧ V.cell? ⟨w.heap.size, 0, none⟩ = some (.string e.f0) ∧ V.cell? ⟨w.heap.size, 1, none⟩ = some (.int .u64 e.f1) ∧ V.cell? ⟨w.heap.size, 2, none⟩ = some (.int .i64 e.f2) ∧ V.cell? ⟨w.heap.size, 3, none⟩ = some (.string e.f3) ∧ Aside0 (J R w0 w V g w.heap.size a pre (y :: r) n t e)) (first | exact J.outY HJ.out | exact J.outY (J.drew HJ.out) | exact J.outY (HJ.out.drew.below hb)) (first | (go_at_call 64; refine (ikey_Compare.calls kc _ _ _ _ _ _ _ _ _ _ HKC.out).mono ?_; rintro ee w3 ⟨rfl, hb⟩))
  have HB3 := Aside0.mk (below_step (below_drew HBW.out) hb)
  clear hb
  go_wp2_with (fail)
  go_ret
  exact ⟨rfl, HB3.out⟩
end Go.Proofs.Ytchgpcgolgcfdaa.Rk
