/- What a skip list tells. -/
import Derived.Test.YtchgpcgolgcfdaaRk1
import Derived.Test.YtchgpcgolgcfdaaPuIkC
import Derived.Test.YtchgpcgolgcfdaaPNumx10
namespace Go.Proofs.Ytchgpcgolgcfdaa.Rk
open Go Go.RowKit Go.Proofs.Ytchgpcgolgcfdaa.PNum Go.Proofs.Ytchgpcgolgcfdaa.RkM Go.Proofs.YtchgpcgolgcfdaaW.PrintWords Go.Proofs.YtchgpcgolgcfdaaW.PrintLast Go.Proofs.YtchgpcgolgcfdaaW.PrintMore
set_option linter.unusedVariables false
set_option linter.unusedSimpArgs false
theorem lastAt_split {pre : List Nd} {L b : Nat} (h : lastAt pre L = some b) : ∃ d x r, pre = d ++ x :: r ∧ x.b = b ∧ L < x.h ∧ first r L = none := by
  induction pre with
  | nil => simp [lastAt] at h
  | cons y r ih =>
    rw [lastAt] at h
    cases hr : lastAt r L with
    | some c =>
      rw [hr] at h
      obtain ⟨d, x, r', rfl, h1, h2, h3⟩ := ih (by rw [hr]; exact h)
      exact ⟨y :: d, x, r', rfl, h1, h2, h3⟩
    | none =>
      rw [hr] at h
      simp only at h
      split at h
      · exact ⟨[], y, r, rfl, Option.some.inj h, by assumption, (first_none_iff r L).2 hr⟩
      · cases h
theorem IsL.nextLast {R : Root} {w0 V : World} {g : Nat} {pre post : List Nd} {n t : Int} (h : IsL R w0 V g (pre ++ post) n t) {L : Nat} (hL : L < 8) : V.cell? ⟨(lastAt pre L).getD g, 4 + L, none⟩ = some (ptr (first post L)) := by
  cases hl : lastAt pre L with
  | none =>
    have h2 := cellL h.hd hL
    rw [first_app, (first_none_iff pre L).2 hl] at h2
    exact h2
  | some b =>
    obtain ⟨d, x, r, rfl, rfl, hx, hr⟩ := lastAt_split hl
    have h2 := h.ch
    rw [List.append_assoc] at h2
    have h3 : V.cell? ⟨x.b, 4 + L, none⟩ = some (ptr (first (r ++ post) L)) := cellN h2.blk hL hx
    rw [first_app, hr] at h3
    exact h3
theorem idx0 (v0 v1 v2 v3 v4 v5 v6 v7 : Value) (V : World) : (Instr.index 85 (.agg #[v0, v1, v2, v3, v4, v5, v6, v7]) (.int .i64 0)).run Try.prog V = .ok v0 V := by kernel_rfl
def lt (key : ByteArray) (e : E) : Bool := Op.bytesLess e.f0.toList key.toList
set_option maxHeartbeats 8000000 in
set_option maxRecDepth 100000 in
theorem first1 (w : World) (cb : Nat) (key : ByteArray) (x : E) (hc : w.heap[cb]? = some (.cells #[.string key] 9 (0, 0))) :
    Calls Try.prog 83 #[.agg #[.string (x).f0, .int .u64 (x).f1, .int .i64 (x).f2, .string (x).f3], .pointer (some ⟨cb, 0, none⟩)] w fun e w' => e = .returned (.bool (lt key x)) ∧ Below w.heap.size w w' := by
  have hlt := blk_lt hc
  have c0 : w.cell? ⟨cb, 0, none⟩ = some (.string key) := (blk_cell hc 0).trans rfl
  clear hc
  go_enter Try.func83, Try.ntmps83
  go_wp2_with (fail)
  go_ret
  exact ⟨rfl, below_alloc (Below.refl _ w) _⟩
set_option maxHeartbeats 8000000 in
set_option maxRecDepth 100000 in
theorem put1 (w : World) (cb : Nat) (y x : E) (hc : w.heap[cb]? = some (.cells #[.string y.f0, .int .u64 y.f1, .int .i64 y.f2, .string y.f3] 29 (0, 0))) :
    Calls Try.prog 63 #[.agg #[.string (x).f0, .int .u64 (x).f1, .int .i64 (x).f2, .string (x).f3], .pointer (some ⟨cb, 0, none⟩)] w fun e w' => e = .returned (.bool (decide (PuIkC.ce x y < 0))) ∧ Below w.heap.size w w' := by
  have hlt := blk_lt hc
  have c0 : w.cell? ⟨cb, 0, none⟩ = some (.string y.f0) := (blk_cell hc 0).trans rfl
  have c1 : w.cell? ⟨cb, 1, none⟩ = some (.int .u64 y.f1) := (blk_cell hc 1).trans rfl
  have c2 : w.cell? ⟨cb, 2, none⟩ = some (.int .i64 y.f2) := (blk_cell hc 2).trans rfl
  have c3 : w.cell? ⟨cb, 3, none⟩ = some (.string y.f3) := (blk_cell hc 3).trans rfl
  obtain ⟨k, hk⟩ := PuIkC.Compare_ev x y
  have HK := Aside0.mk (hk k (Nat.le_refl _))
  have HB := Aside0.mk (below_alloc (Below.refl w.heap.size w) (.cells #[.string x.f0, .int .u64 x.f1, .int .i64 x.f2, .string x.f3] 29))
  clear hc hk
  go_enter Try.func63, Try.ntmps63
  go_wp2_with (first | (go_at_call 64; refine (ikey_Compare.calls k _ _ _ _ _ _ _ _ _ _ HK.out).mono ?_; rintro e w1 ⟨rfl, hb⟩; have n0_ := Aside0.mk (below_step HB.out hb); clear HB hb; have HB := n0_; clear n0_))
  go_ret
  exact ⟨rfl, HB.out⟩
set_option maxHeartbeats 8000000 in
set_option maxRecDepth 100000 in
theorem first_calls (R : Root) (w0 w : World) (g : Nat) (pre post : List Nd) (n t : Int) (key : ByteArray) (hI : IsL R w0 w g (pre ++ post) n t) (hp : ∀ x ∈ pre, lt key x.e = true) (hq : ∀ x ∈ post, lt key x.e = false) :
    Calls Try.prog 66 #[.pointer (some ⟨g, 0, none⟩), .string key] w fun e w' => e = .returned (ptr (first post 0)) ∧ Below w.heap.size w w' := by
  have HI := Aside0.mk hI
  have HP := Aside0.mk hp
  have HQ := Aside0.mk hq
  clear hI hp hq
  have HB := Aside0.mk (below_alloc (Below.refl w.heap.size w) (.cells #[.string key] 9))
  have HI1 := Aside0.mk (HI.out.below HB.out)
  have HF : Aside0 (∀ (V : World) (x : Nd), Below (w.alloc (.cells #[.string key] 9)).heap.size (w.alloc (.cells #[.string key] 9)) V → x ∈ pre ++ post → Calls Try.prog 83 #[.agg #[.string (x.e).f0, .int .u64 (x.e).f1, .int .i64 (x.e).f2, .string (x.e).f3], .pointer (some ⟨w.heap.size, 0, none⟩)] V fun e w' => e = .returned (.bool (lt key x.e)) ∧ Below V.heap.size V w') := ⟨fun V x hV _ => first1 V _ key x.e (blk_below (blk_new w _) hV)⟩
  have hix := idx0
  go_enter Try.func66, Try.ntmps66
  go_wp2_with (first | (go_at_call 62; refine (before_first R w0 _ g w.heap.size pre post n t (lt key) HI1.out HP.out HQ.out HF.out).mono ?_; rintro e w1 ⟨rfl, hb⟩; have n0_ := Aside0.mk (below_step HB.out hb); have y0 := (HI1.out.below hb).nextLast (L := 0) (by omega); clear HB HI1 HF hb; have HB := n0_; clear n0_; unfold outs))
  go_ret
  exact ⟨rfl, HB.out⟩
set_option maxHeartbeats 8000000 in
set_option maxRecDepth 100000 in
theorem first_nil (w : World) (key : ByteArray) :
    Calls Try.prog 66 #[.pointer none, .string key] w fun e w' => e = .returned (.pointer none) ∧ Below w.heap.size w w' := by
  go_enter Try.func66, Try.ntmps66
  go_wp2_with (fail)
  go_ret
  exact ⟨rfl, below_alloc (Below.refl _ w) _⟩
set_option maxHeartbeats 8000000 in
set_option maxRecDepth 100000 in
theorem len_calls (R : Root) (w0 w : World) (g : Nat) (ns : List Nd) (n t : Int) (hI : IsL R w0 w g ns n t) :
    Calls Try.prog 58 #[.pointer (some ⟨g, 0, none⟩)] w fun e w' => e = .returned (.int .i64 n) ∧ w' = w := by
  have c0 : w.cell? ⟨g, 12, none⟩ = some (.int .i64 n) := (blk_cell hI.hd 12).trans rfl
  clear hI
  go_enter Try.func58, Try.ntmps58
  go_wp2_with (fail)
  go_ret
  exact ⟨rfl, rfl⟩
set_option maxHeartbeats 8000000 in
set_option maxRecDepth 100000 in
theorem len_nil (w : World) :
    Calls Try.prog 58 #[.pointer none] w fun e w' => e = .returned (.int .i64 0) ∧ w' = w := by
  go_enter Try.func58, Try.ntmps58
  go_wp2_with (fail)
  go_ret
  exact ⟨rfl, rfl⟩
end Go.Proofs.Ytchgpcgolgcfdaa.Rk
