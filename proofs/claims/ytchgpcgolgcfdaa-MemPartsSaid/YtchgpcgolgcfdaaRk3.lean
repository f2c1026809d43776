/- What a skip list tells, version by version. -/
import Derived.Test.YtchgpcgolgcfdaaRk2
namespace Go.Proofs.Ytchgpcgolgcfdaa.Rk
open Go Go.RowKit Go.Proofs.Ytchgpcgolgcfdaa.PNum Go.Proofs.Ytchgpcgolgcfdaa.RkM Go.Proofs.YtchgpcgolgcfdaaW.PrintWords Go.Proofs.YtchgpcgolgcfdaaW.PrintLast Go.Proofs.YtchgpcgolgcfdaaW.PrintMore
set_option linter.unusedVariables false
set_option linter.unusedSimpArgs false
theorem infoE : (Try.prog.info? 29).map (fun i => (i.zero, i.size, i.bytes)) = some (some (.agg #[(.string ⟨#[]⟩), (.int .u64 0), (.int .i64 0), (.string ⟨#[]⟩)]), 4, 48) := by kernel_rfl
def getL (key : ByteArray) (s : Int) : List Nd → Option E
  | [] => none
  | x :: r => if x.e.f0.toList = key.toList then (if x.e.f1 ≤ s then some x.e else getL key s r) else none
def zE : E := ⟨⟨#[]⟩, 0, 0, ⟨#[]⟩⟩
theorem IsL.cellsAt {R : Root} {w0 V : World} {g : Nat} {a q : List Nd} {x : Nd} {n t : Int} (h : IsL R w0 V g (a ++ x :: q) n t) : V.heap[x.b]? = some (.cells (cellsN x q) 87 (0, 0)) := h.ch.blk
theorem first_cons {x : Nd} {q : List Nd} (h : 1 ≤ x.h) : ptr (first (x :: q) 0) = .pointer (some ⟨x.b, 0, none⟩) := by
  rw [first, if_pos (by omega)]
  rfl
set_option maxHeartbeats 8000000 in
set_option maxRecDepth 100000 in
theorem get_calls (R : Root) (w0 w : World) (g : Nat) (pre post : List Nd) (n t : Int) (key : ByteArray) (hI : IsL R w0 w g (pre ++ post) n t) (hp : ∀ x ∈ pre, lt key x.e = true) (hq : ∀ x ∈ post, lt key x.e = false) (hh : ∀ x ∈ pre ++ post, 1 ≤ x.h) (s : Int) :
    Calls Try.prog 57 #[.pointer (some ⟨g, 0, none⟩), .string key, .int .u64 s] w fun e w' => e = .returned (.tuple #[.agg #[.string ((getL key s post).getD zE).f0, .int .u64 ((getL key s post).getD zE).f1, .int .i64 ((getL key s post).getD zE).f2, .string ((getL key s post).getD zE).f3], .bool (getL key s post).isSome]) ∧ Below w.heap.size w w' := by
  have HI := Aside0.mk hI
  have HP := Aside0.mk hp
  have HQ := Aside0.mk hq
  have HH := Aside0.mk hh
  clear hI hp hq hh
  have HB := Aside0.mk (below_alloc (Below.refl w.heap.size w) (.cells #[.string ⟨#[]⟩, .int .u64 0, .int .i64 0, .string ⟨#[]⟩] 29))
  have HA : Aside0 ((w.alloc (.cells #[.string ⟨#[]⟩, .int .u64 0, .int .i64 0, .string ⟨#[]⟩] 29)).heap[w.heap.size]? = some (.cells #[.string ⟨#[]⟩, .int .u64 0, .int .i64 0, .string ⟨#[]⟩] 29 (0, 0))) := ⟨blk_new w _⟩
  have HI1 := Aside0.mk (HI.out.below HB.out)
  obtain ⟨rr, hrr⟩ : ∃ rr, rr = getL key s post := ⟨_, rfl⟩
  rw [← hrr]
  have HRR := Aside0.mk hrr
  clear hrr
  go_enter Try.func57, Try.ntmps57
  go_wp2_with (first | (go_at_call 66; refine (first_calls R w0 _ g pre post n t key HI1.out HP.out HQ.out).mono ?_; rintro e w1 ⟨rfl, hb⟩; have n0_ := Aside0.mk (below_step HB.out hb); have n1_ := Aside0.mk (blk_below HA.out hb); clear HB HA hb; have HB := n0_; have HA := n1_; clear n0_ n1_))
  go_loopg [8] post.length (fun kq v8 w' => ∃ (d q : List Nd), v8 = ptr (first q 0) ∧ Aside0 (q.length ≤ kq) ∧ Aside0 (post = d ++ q) ∧ Aside0 (rr = getL key s q) ∧ Aside0 (w'.heap[w.heap.size]? = some (.cells #[.string ⟨#[]⟩, .int .u64 0, .int .i64 0, .string ⟨#[]⟩] 29 (0, 0))) ∧ Aside0 (Below w.heap.size w w'))
  case atStart => exact ⟨[], post, rfl, ⟨Nat.le_refl _⟩, ⟨rfl⟩, HRR, HA, HB⟩
  case round =>
    clear HB HA HI1 HRR
    obtain ⟨d, q, rfl, HG, HD, HRR, HA, HB⟩ := hrel
    have r0 : wr.cell? ⟨w.heap.size, 0, none⟩ = some (.string ⟨#[]⟩) := (blk_cell HA.out 0).trans rfl
    have r1 : wr.cell? ⟨w.heap.size, 1, none⟩ = some (.int .u64 0) := (blk_cell HA.out 1).trans rfl
    have r2 : wr.cell? ⟨w.heap.size, 2, none⟩ = some (.int .i64 0) := (blk_cell HA.out 2).trans rfl
    have r3 : wr.cell? ⟨w.heap.size, 3, none⟩ = some (.string ⟨#[]⟩) := (blk_cell HA.out 3).trans rfl
    have f0 := blk_frozen HA.out 0
    have f1 := blk_frozen HA.out 1
    have f2 := blk_frozen HA.out 2
    have f3 := blk_frozen HA.out 3
    cases q with
    | nil =>
      have HX : Aside0 (rr = none) := HRR
      rw [first]
      clear HRR
      unfold ptr
      go_wp2_with (fail)
      refine bodyPost_ret (results_ct rfl _ _ _ 29 #[.string ⟨#[]⟩, .int .u64 0, .int .i64 0, .string ⟨#[]⟩] (0, 0) _ rfl (blk_put (blk_put (blk_put (blk_put (HA.out) 0 _ rfl) 1 _ rfl) 2 _ rfl) 3 _ rfl) Try.underlying29 rfl (by kernel_rfl)) rfl ?_
      exact ⟨by rw [HX.out]; rfl, below_set (below_set (below_set (below_set (HB.out) (Nat.le_refl _)) (Nat.le_refl _)) (Nat.le_refl _)) (Nat.le_refl _)⟩
    | cons x q =>
      have HX : Aside0 (1 ≤ x.h) := ⟨HH.out x (by rw [HD.out]; simp)⟩
      have hcx := (HI.out.below HB.out)
      rw [HD.out, ← List.append_assoc] at hcx
      replace hcx := hcx.cellsAt
      have x0 : wr.cell? ⟨x.b, 4, none⟩ = some (ptr (first q 0)) := cellN hcx (L := 0) (by omega) HX.out
      have z0 : wr.cell? ⟨x.b, 0, none⟩ = some (.string x.e.f0) := (blk_cell hcx 0).trans rfl
      have z1 : wr.cell? ⟨x.b, 1, none⟩ = some (.int .u64 x.e.f1) := (blk_cell hcx 1).trans rfl
      have z2 : wr.cell? ⟨x.b, 2, none⟩ = some (.int .i64 x.e.f2) := (blk_cell hcx 2).trans rfl
      have z3 : wr.cell? ⟨x.b, 3, none⟩ = some (.string x.e.f3) := (blk_cell hcx 3).trans rfl
      clear hcx
      rw [first_cons HX.out]
      by_cases c1 : x.e.f0.toList = key.toList
      · have k1 : (x.e.f0.toList == key.toList) = true := beq_iff_eq.mpr c1
        by_cases c2 : x.e.f1 ≤ s
        · have k2 : decide (x.e.f1 ≤ s) = true := decide_eq_true c2
          have HX2 : Aside0 (rr = some x.e) := ⟨by rw [HRR.out, getL, if_pos c1, if_pos c2]⟩
          clear c1 HRR
          go_wp2_with (fail)
          refine bodyPost_ret (results_ct rfl _ _ _ 29 #[.string (x.e).f0, .int .u64 (x.e).f1, .int .i64 (x.e).f2, .string (x.e).f3] (0, 0) _ rfl (blk_put (blk_put (blk_put (blk_put (HA.out) 0 _ rfl) 1 _ rfl) 2 _ rfl) 3 _ rfl) Try.underlying29 rfl (by kernel_rfl)) rfl ?_
          exact ⟨by rw [HX2.out]; rfl, below_set (below_set (below_set (below_set (HB.out) (Nat.le_refl _)) (Nat.le_refl _)) (Nat.le_refl _)) (Nat.le_refl _)⟩
        · have k2 : decide (x.e.f1 ≤ s) = false := decide_eq_false c2
          have HX2 : Aside0 (rr = getL key s q) := ⟨by rw [HRR.out, getL, if_pos c1, if_neg c2]⟩
          clear c1 HRR
          go_wp2_with (fail)
          go_roundg q.length
          case measure =>
            have h1 := HG.out
            simp at h1
            omega
          case rel => exact ⟨d ++ [x], q, rfl, ⟨Nat.le_refl _⟩, ⟨by rw [HD.out]; simp⟩, HX2, HA, HB⟩
      · have k1 : (x.e.f0.toList == key.toList) = false := beq_eq_false_iff_ne.mpr c1
        have HX2 : Aside0 (rr = none) := ⟨by rw [HRR.out, getL, if_neg c1]⟩
        clear c1 HRR
        go_wp2_with (fail)
        refine bodyPost_ret (results_ct rfl _ _ _ 29 #[.string ⟨#[]⟩, .int .u64 0, .int .i64 0, .string ⟨#[]⟩] (0, 0) _ rfl (blk_put (blk_put (blk_put (blk_put (HA.out) 0 _ rfl) 1 _ rfl) 2 _ rfl) 3 _ rfl) Try.underlying29 rfl (by kernel_rfl)) rfl ?_
        exact ⟨by rw [HX2.out]; rfl, below_set (below_set (below_set (below_set (HB.out) (Nat.le_refl _)) (Nat.le_refl _)) (Nat.le_refl _)) (Nat.le_refl _)⟩
set_option maxHeartbeats 8000000 in
set_option maxRecDepth 100000 in
theorem from_calls (R : Root) (w0 w : World) (g : Nat) (pre post : List Nd) (n t : Int) (key : ByteArray) (hI : IsL R w0 w g (pre ++ post) n t) (hp : ∀ x ∈ pre, lt key x.e = true) (hq : ∀ x ∈ post, lt key x.e = false) (hh : ∀ x ∈ pre ++ post, 1 ≤ x.h) (hl : post.length < 1000000) :
    Calls Try.prog 39 #[.pointer (some ⟨g, 0, none⟩), .string key] w fun e w' => ∃ v, e = .returned v ∧ Kd.R k29 29 w' w.heap.size (fun _ => True) v (post.map (·.e)) ∧ Below w.heap.size w w' := by
  have HI := Aside0.mk hI
  have HP := Aside0.mk hp
  have HQ := Aside0.mk hq
  have HH := Aside0.mk hh
  have HL := Aside0.mk hl
  clear hI hp hq hh hl
  have HB := Aside0.mk (Below.refl w.heap.size w)
  go_enter Try.func39, Try.ntmps39
  go_wp2_with (first | (go_at_call 66; refine (first_calls R w0 _ g pre post n t key HI.out HP.out HQ.out).mono ?_; rintro e w1 ⟨rfl, hb⟩; have n0_ := Aside0.mk (below_step HB.out hb); clear HB hb; have HB := n0_; clear n0_))
  go_loopg [5, 6] post.length (fun kq v5 v6 w' => ∃ (d q : List Nd), v6 = ptr (first q 0) ∧ Aside0 (q.length ≤ kq) ∧ Aside0 (post = d ++ q) ∧ Aside0 (Kd.R k29 29 w' w.heap.size (fun _ => True) v5 (d.map (·.e))) ∧ Aside0 (Below w.heap.size w w'))
  case atStart => exact ⟨[], post, rfl, ⟨Nat.le_refl _⟩, ⟨rfl⟩, ⟨Kd.R_nil _ _ _ _ _⟩, HB⟩
  case round =>
    clear HB
    obtain ⟨d, q, rfl, HG, HD, HR, HB⟩ := hrel
    cases q with
    | nil =>
      have HX : Aside0 (d = post) := ⟨by rw [HD.out]; simp⟩
      rw [first]
      unfold ptr
      go_wp2_with (fail)
      go_ret
      exact ⟨_, rfl, by rw [← HX.out]; exact HR.out, HB.out⟩
    | cons x q =>
      have HX : Aside0 (1 ≤ x.h) := ⟨HH.out x (by rw [HD.out]; simp)⟩
      have HDL : Aside0 ((d.map (·.e)).length < 1000000) := ⟨by have h1 := HL.out; rw [HD.out] at h1; simp at h1 ⊢; omega⟩
      have hcx := (HI.out.below HB.out)
      rw [HD.out, ← List.append_assoc] at hcx
      replace hcx := hcx.cellsAt
      have z0 : wr.cell? ⟨x.b, 0, none⟩ = some (.string x.e.f0) := (blk_cell hcx 0).trans rfl
      have z1 : wr.cell? ⟨x.b, 1, none⟩ = some (.int .u64 x.e.f1) := (blk_cell hcx 1).trans rfl
      have z2 : wr.cell? ⟨x.b, 2, none⟩ = some (.int .i64 x.e.f2) := (blk_cell hcx 2).trans rfl
      have z3 : wr.cell? ⟨x.b, 3, none⟩ = some (.string x.e.f3) := (blk_cell hcx 3).trans rfl
      clear hcx
      rw [first_cons HX.out]
      go_wp2_with (first | ((with_reducible refine gate_builtin (b := .append) (xs := #[.tmp 17, .tmp 22]) rfl ?_); at_builtin; refine Kd.R_append k29 (w0 := w) w.heap.size rfl (.tmp 17) (.tmp 22) 22 29 (.agg #[(.string ⟨#[]⟩), (.int .u64 0), (.int .i64 0), (.string ⟨#[]⟩)]) 48 rfl Try.underlying22 infoE rfl (by decide) (by omega) u5 (d.map (·.e)) x.e [.string (x.e).f0, .int .u64 (x.e).f1, .int .i64 (x.e).f2, .string (x.e).f3] (fun _ => True) (fun _ => False) rfl rfl ?aP (fun _ hk => hk.elim) ?aF ?aO ?aB ?aS ?aL ?_; (case aP => exact k29_mkM _ _ _ _); (case aB => exact HB.out); (case aF => exact (fun _ _ => trivial)); (case aO => exact HR.out); (case aS => exact below_size HB.out); (case aL => have := HDL.out; omega); intro v7 w7 ho hb hg hat; have HO7 := Aside0.mk ho; have HB7 := Aside0.mk hb; clear ho hb hg hat z0 z1 z2 z3; have hcx := (HI.out.below HB7.out); rw [HD.out, ← List.append_assoc] at hcx; have x0 : w7.cell? ⟨x.b, 4, none⟩ = some (ptr (first q 0)) := cellN hcx.cellsAt (L := 0) (by omega) HX.out; clear hcx))
      go_roundg q.length
      case measure =>
        have h1 := HG.out
        simp at h1
        omega
      case rel => exact ⟨d ++ [x], q, rfl, ⟨Nat.le_refl _⟩, ⟨by rw [HD.out]; simp⟩, ⟨by rw [List.map_append]; exact HO7.out⟩, HB7⟩
end Go.Proofs.Ytchgpcgolgcfdaa.Rk
