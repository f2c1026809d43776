/- Path of a skip list; what a nil list tells. -/
import Derived.Test.YtfldbgnmdkbfkaaSk4
namespace Go.Proofs.Ytfldbgnmdkbfkaa.Sk
open Go Go.RowKit Go.Proofs.Ytfldbgnmdkbfkaa.PNum Go.Proofs.Ytfldbgnmdkbfkaa.SkM Go.Proofs.YtfldbgnmdkbfkaaW.PrintWords Go.Proofs.YtfldbgnmdkbfkaaW.PrintLast Go.Proofs.YtfldbgnmdkbfkaaW.PrintMore
set_option linter.unusedVariables false
set_option linter.unusedSimpArgs false
def cntL (key : ByteArray) (L : Nat) : List Nd → Int
  | [] => 0
  | x :: r => if L < x.h then (if lt key x.e = true then cntL key L r + 1 else 0) else cntL key L r
theorem cntL_none {key : ByteArray} {L : Nat} : ∀ {q : List Nd}, first q L = none → cntL key L q = 0
  | [], _ => rfl
  | x :: r, h => by
    rw [first] at h
    rw [cntL]
    split at h
    · cases h
    · rename_i hx
      rw [if_neg hx]
      exact cntL_none h
theorem cntL_at {key : ByteArray} {L : Nat} {y : Nd} {q2 : List Nd} (hy : L < y.h) : ∀ {q1 : List Nd}, first q1 L = none → cntL key L (q1 ++ y :: q2) = if lt key y.e = true then cntL key L q2 + 1 else 0
  | [], _ => by rw [List.nil_append, cntL, if_pos hy]
  | x :: r, h => by
    rw [first] at h
    split at h
    · cases h
    · rename_i hx
      rw [List.cons_append, cntL, if_neg hx]
      exact cntL_at hy h
def pathL (key : ByteArray) (ns : List Nd) (T : Nat) : List Int := (List.range T).reverse.map fun L => cntL key L ns
theorem pathL_step {key : ByteArray} {ns : List Nd} {T j : Nat} (h : j < T) : (pathL key ns T).take (j + 1) = (pathL key ns T).take j ++ [cntL key (T - 1 - j) ns] := by
  have hl : j < (pathL key ns T).length := by simpa [pathL] using h
  rw [List.take_succ_eq_append_getElem hl]
  simp [pathL]
theorem pathL_len (key : ByteArray) (ns : List Nd) (T : Nat) : (pathL key ns T).length = T := by simp [pathL]
set_option maxHeartbeats 8000000 in
set_option maxRecDepth 100000 in
theorem path_calls (w0 w : World) (g : Nat) (ns : List Nd) (n : Int) (T : Nat) (key : ByteArray) (hI : IsL w0 w g ns n (T : Int)) (hT : T ≤ 8) (hl : ns.length < 1000000) :
    Calls Try.prog 14 #[.pointer (some ⟨g, 0, none⟩), .string key] w fun e w' => ∃ v, e = .returned v ∧ Kd.R (Kd.int .i64) 3 w' w.heap.size (fun _ => True) v (pathL key ns T) ∧ Below w.heap.size w w' := by
  have HI := Aside0.mk hI
  have HL := Aside0.mk hl
  clear hI hl
  have HB := Aside0.mk (Below.refl w.heap.size w)
  go_enter Try.func14, Try.ntmps14
  go_wp2_with (first | (go_at_call 13; refine (height_calls w0 _ g ns n T HI.out).mono ?_; rintro e w1 ⟨rfl, hw⟩; subst hw))
  go_loopw [5, 6] (fun v5 v6 w' => ∃ j : Nat, v6 = .int .i64 ((T : Int) - 1 - j) ∧ j ≤ T ∧ Aside0 (Kd.R (Kd.int .i64) 3 w' w1.heap.size (fun _ => True) v5 ((pathL key ns T).take j)) ∧ Aside0 (RowKit.Below w1.heap.size w1 w')) (fun _ v6 _ => (intOf v6 + 1).toNat)
  case atStart => exact ⟨0, by go_num, Nat.zero_le _, ⟨by rw [List.take_zero]; exact Kd.R_nil _ _ _ _ _⟩, HB⟩
  case round =>
    clear HB
    obtain ⟨j, rfl, hj, HR, HB⟩ := hrel
    by_cases hjt : j < T
    · obtain ⟨L, hL⟩ : ∃ L : Nat, L = T - 1 - j := ⟨_, rfl⟩
      have eL : (T : Int) - 1 - (j : Int) = (L : Int) := by omega
      have hL8 : L < 8 := by omega
      have HST := Aside0.mk (pathL_step (key := key) (ns := ns) hjt)
      rw [← hL] at HST
      rw [eL]
      have t0 : decide ((0 : Int) ≤ (L : Int)) = true := decide_eq_true (Int.natCast_nonneg _)
      have p0 : (0 : Int) ≤ (L : Int) := Int.natCast_nonneg _
      have p1 : (L : Int) < 8 := by omega
      have y0 : wr.cell? ⟨g, 4 + L, none⟩ = some (ptr (first ns L)) := cellL (HI.out.below HB.out).hd hL8
      have HTL : Aside0 (((pathL key ns T).take j).length ≤ 8) := ⟨by simp [pathL_len]; omega⟩
      have HEL := Aside0.mk eL
      have HJT := Aside0.mk hjt
      clear hL eL
      go_wp2_with (fail)
      go_loopg [7, 8] ns.length (fun kq v7 v8 w' => ∃ (d q : List Nd) (m : Int), v7 = .int .i64 m ∧ v8 = ptr (first q L) ∧ Aside0 (q.length ≤ kq) ∧ Aside0 (ns = d ++ q) ∧ 0 ≤ m ∧ m ≤ d.length ∧ Aside0 (m + cntL key L q = cntL key L ns) ∧ Aside0 (Kd.R (Kd.int .i64) 3 w' w1.heap.size (fun _ => True) u5 ((pathL key ns T).take j)) ∧ Aside0 (RowKit.Below w1.heap.size w1 w'))
      case atStart => exact ⟨[], ns, 0, rfl, rfl, ⟨Nat.le_refl _⟩, ⟨rfl⟩, by omega, by simp, ⟨by omega⟩, HR, HB⟩
      case round =>
        clear HR HB y0
        obtain ⟨d, q, m, rfl, rfl, HG, HD, hm0, hm1, HC, HR, HB⟩ := hrel
        have hdl : (d.length : Int) < 1000000 := by have h1 := HL.out; rw [HD.out] at h1; simp at h1; omega
        cases hf : first q L with
        | none =>
          have HM : Aside0 (m = cntL key L ns) := ⟨by have h1 := HC.out; rw [cntL_none hf] at h1; omega⟩
          clear hf
          unfold ptr
          go_wp2_with (first | ((with_reducible refine gate_builtin (b := .append) (xs := #[.tmp 42, .tmp 44]) rfl ?_); at_builtin; refine Kd.R_append (Kd.int .i64) (w0 := w1) w1.heap.size rfl (.tmp 42) (.tmp 44) 35 3 (.int .i64 0) 8 rfl Try.underlying35 info3 rfl (by decide) (by omega) u5 ((pathL key ns T).take j) m [.int .i64 m] (fun _ => True) (fun _ => False) rfl rfl ?aP (fun _ hk => hk.elim) ?aF ?aO ?aB ?aS ?aL ?_; (case aP => exact rfl); (case aB => exact HB.out); (case aF => exact (fun _ _ => trivial)); (case aO => exact HR.out); (case aS => exact below_size HB.out); (case aL => have := HTL.out; omega); intro v7 w7 ho hb hg hat; have HO7 := Aside0.mk ho; have HB7 := Aside0.mk hb; clear ho hb hg hat))
          go_roundw
          case rel => exact ⟨j + 1, by have h1 := HEL.out; congr 1; omega, by have h1 := HJT.out; omega, ⟨by rw [HST.out, ← HM.out]; exact HO7.out⟩, HB7⟩
          case measure => have h1 := HEL.out; have h2 := HJT.out; first | (simp [intOf]; done) | (simp [intOf]; omega)
        | some yb =>
          obtain ⟨q1, y, q2, hq, rfl, hy, hq1⟩ := first_mem hf
          have hcx := HI.out.below HB.out
          rw [HD.out, hq, ← List.append_assoc] at hcx
          have z0 : wr.cell? ⟨y.b, 0, none⟩ = some (.string y.e.f0) := (blk_cell hcx.cellsAt 0).trans rfl
          have x0 : wr.cell? ⟨y.b, 4 + L, none⟩ = some (ptr (first q2 L)) := cellN hcx.cellsAt hL8 hy
          have HCA := Aside0.mk (cntL_at (key := key) (q2 := q2) hy hq1)
          rw [← hq] at HCA
          have HQ := Aside0.mk hq
          clear hcx hq hq1 hf
          unfold ptr
          by_cases c1 : lt key y.e = true
          · have k1 : Op.bytesLess y.e.f0.toList key.toList = true := c1
            have HM : Aside0 ((m + 1) + cntL key L q2 = cntL key L ns) := ⟨by have h1 := HC.out; rw [HCA.out, if_pos c1] at h1; omega⟩
            clear c1
            go_wp2_with (fail)
            go_roundg q2.length
            case measure =>
              have h1 := HG.out
              rw [HQ.out] at h1
              simp at h1
              omega
            case rel => exact ⟨d ++ q1 ++ [y], q2, m + 1, by go_num, rfl, ⟨Nat.le_refl _⟩, ⟨by rw [HD.out, HQ.out]; simp⟩, by omega, by simp; omega, HM, HR, HB⟩
          · have k1 : Op.bytesLess y.e.f0.toList key.toList = false := by simpa [lt] using c1
            have HM : Aside0 (m = cntL key L ns) := ⟨by have h1 := HC.out; rw [HCA.out, if_neg c1] at h1; omega⟩
            clear c1
            go_wp2_with (first | ((with_reducible refine gate_builtin (b := .append) (xs := #[.tmp 42, .tmp 44]) rfl ?_); at_builtin; refine Kd.R_append (Kd.int .i64) (w0 := w1) w1.heap.size rfl (.tmp 42) (.tmp 44) 35 3 (.int .i64 0) 8 rfl Try.underlying35 info3 rfl (by decide) (by omega) u5 ((pathL key ns T).take j) m [.int .i64 m] (fun _ => True) (fun _ => False) rfl rfl ?aP (fun _ hk => hk.elim) ?aF ?aO ?aB ?aS ?aL ?_; (case aP => exact rfl); (case aB => exact HB.out); (case aF => exact (fun _ _ => trivial)); (case aO => exact HR.out); (case aS => exact below_size HB.out); (case aL => have := HTL.out; omega); intro v7 w7 ho hb hg hat; have HO7 := Aside0.mk ho; have HB7 := Aside0.mk hb; clear ho hb hg hat))
            go_roundw
            case rel => exact ⟨j + 1, by have h1 := HEL.out; congr 1; omega, by have h1 := HJT.out; omega, ⟨by rw [HST.out, ← HM.out]; exact HO7.out⟩, HB7⟩
            case measure => have h1 := HEL.out; have h2 := HJT.out; first | (simp [intOf]; done) | (simp [intOf]; omega)
    · have hje : j = T := by omega
      have eL : (T : Int) - 1 - (j : Int) = -1 := by omega
      rw [eL]
      have HX : Aside0 ((pathL key ns T).take j = pathL key ns T) := ⟨by rw [hje]; exact List.take_of_length_le (by rw [pathL_len]; exact Nat.le_refl _)⟩
      clear hje eL
      go_wp2_with (fail)
      go_ret
      exact ⟨_, rfl, by rw [← HX.out]; exact HR.out, HB.out⟩
set_option maxHeartbeats 8000000 in
set_option maxRecDepth 100000 in
theorem all_calls (w0 w : World) (g : Nat) (ns : List Nd) (n t : Int) (hI : IsL w0 w g ns n t) (hh : ∀ x ∈ ns, 1 ≤ x.h) (hl : ns.length < 1000000) :
    Calls Try.prog 10 #[.pointer (some ⟨g, 0, none⟩)] w fun e w' => ∃ v, e = .returned v ∧ Kd.R k24 24 w' w.heap.size (fun _ => True) v (ns.map (·.e)) ∧ Below w.heap.size w w' := by
  have HI := Aside0.mk hI
  have HH := Aside0.mk hh
  have HL := Aside0.mk hl
  clear hI hh hl
  have HN : Aside0 (∀ x ∈ ns, lt ⟨#[]⟩ x.e = false) := ⟨fun x _ => by unfold lt; rw [PuIkC.nil_toList]; cases x.e.f0.toList <;> rfl⟩
  go_enter Try.func10, Try.ntmps10
  go_wp2_with (first | (go_at_call 11; refine (from_calls w0 _ g [] ns n t ⟨#[]⟩ HI.out (fun _ h => by cases h) HN.out HH.out HL.out).mono ?_; rintro e w1 ⟨v, rfl, hr, hb⟩))
  go_ret
  exact ⟨v, rfl, hr, hb⟩
set_option maxHeartbeats 8000000 in
set_option maxRecDepth 100000 in
theorem from_nil (w : World) (key : ByteArray) :
    Calls Try.prog 11 #[.pointer none, .string key] w fun e w' => e = .returned (.slice none 0 0) ∧ Below w.heap.size w w' := by
  have HB := Aside0.mk (Below.refl w.heap.size w)
  go_enter Try.func11, Try.ntmps11
  go_wp2_with (first | (go_at_call 19; refine (first_nil _ key).mono ?_; rintro e w1 ⟨rfl, hb⟩; clear HB; have HB := Aside0.mk hb; clear hb))
  go_loopw [5, 6] (fun v5 v6 w' => v5 = .slice none 0 0 ∧ v6 = .pointer none ∧ Aside0 (Below w.heap.size w w')) (fun _ _ _ => 0)
  case atStart => exact ⟨rfl, rfl, HB⟩
  case round =>
    obtain ⟨rfl, rfl, HB⟩ := hrel
    go_wp2_with (fail)
    go_ret
    exact ⟨rfl, HB.out⟩
set_option maxHeartbeats 8000000 in
set_option maxRecDepth 100000 in
theorem all_nil (w : World) :
    Calls Try.prog 10 #[.pointer none] w fun e w' => e = .returned (.slice none 0 0) ∧ Below w.heap.size w w' := by
  go_enter Try.func10, Try.ntmps10
  go_wp2_with (first | (go_at_call 11; refine (from_nil _ ⟨#[]⟩).mono ?_; rintro e w1 ⟨rfl, hb⟩))
  go_ret
  exact ⟨rfl, hb⟩
set_option maxHeartbeats 8000000 in
set_option maxRecDepth 100000 in
theorem get_nil (w : World) (key : ByteArray) (s : Int) :
    Calls Try.prog 8 #[.pointer none, .string key, .int .u64 s] w fun e w' => e = .returned (.tuple #[.agg #[.string ⟨#[]⟩, .int .u64 0, .int .i64 0, .string ⟨#[]⟩], .bool false]) ∧ Below w.heap.size w w' := by
  have HB := Aside0.mk (below_alloc (Below.refl w.heap.size w) (.cells #[.string ⟨#[]⟩, .int .u64 0, .int .i64 0, .string ⟨#[]⟩] 24))
  have HA : Aside0 ((w.alloc (.cells #[.string ⟨#[]⟩, .int .u64 0, .int .i64 0, .string ⟨#[]⟩] 24)).heap[w.heap.size]? = some (.cells #[.string ⟨#[]⟩, .int .u64 0, .int .i64 0, .string ⟨#[]⟩] 24 (0, 0))) := ⟨blk_new w _⟩
  go_enter Try.func8, Try.ntmps8
  go_wp2_with (first | (go_at_call 19; refine (first_nil _ key).mono ?_; rintro e w1 ⟨rfl, hb⟩; have n0_ := Aside0.mk (below_step HB.out hb); have n1_ := Aside0.mk (blk_below HA.out hb); clear HB HA hb; have HB := n0_; have HA := n1_; clear n0_ n1_))
  go_loopw [8] (fun v8 w' => v8 = .pointer none ∧ Aside0 (w'.heap[w.heap.size]? = some (.cells #[.string ⟨#[]⟩, .int .u64 0, .int .i64 0, .string ⟨#[]⟩] 24 (0, 0))) ∧ Aside0 (Below w.heap.size w w')) (fun _ _ => 0)
  case atStart => exact ⟨rfl, HA, HB⟩
  case round =>
    clear HA HB
    obtain ⟨rfl, HA, HB⟩ := hrel
    have r0 : wr.cell? ⟨w.heap.size, 0, none⟩ = some (.string ⟨#[]⟩) := (blk_cell HA.out 0).trans rfl
    have r1 : wr.cell? ⟨w.heap.size, 1, none⟩ = some (.int .u64 0) := (blk_cell HA.out 1).trans rfl
    have r2 : wr.cell? ⟨w.heap.size, 2, none⟩ = some (.int .i64 0) := (blk_cell HA.out 2).trans rfl
    have r3 : wr.cell? ⟨w.heap.size, 3, none⟩ = some (.string ⟨#[]⟩) := (blk_cell HA.out 3).trans rfl
    have f0 := blk_frozen HA.out 0
    have f1 := blk_frozen HA.out 1
    have f2 := blk_frozen HA.out 2
    have f3 := blk_frozen HA.out 3
    go_wp2_with (fail)
    refine bodyPost_ret (results_ct rfl _ _ _ 24 #[.string ⟨#[]⟩, .int .u64 0, .int .i64 0, .string ⟨#[]⟩] (0, 0) _ rfl (blk_put (blk_put (blk_put (blk_put (HA.out) 0 _ rfl) 1 _ rfl) 2 _ rfl) 3 _ rfl) Try.underlying24 rfl (by kernel_rfl)) rfl ?_
    exact ⟨rfl, below_set (below_set (below_set (below_set (HB.out) (Nat.le_refl _)) (Nat.le_refl _)) (Nat.le_refl _)) (Nat.le_refl _)⟩
set_option maxHeartbeats 8000000 in
set_option maxRecDepth 100000 in
theorem put_nil (w : World) (e : E) (lv : Int) :
    Calls Try.prog 9 #[.pointer none, .agg #[.string (e).f0, .int .u64 (e).f1, .int .i64 (e).f2, .string (e).f3], .int .i64 lv] w fun ee w' => ee = .returned (.bool false) ∧ Below w.heap.size w w' := by
  go_enter Try.func9, Try.ntmps9
  go_wp2_with (fail)
  go_ret
  exact ⟨rfl, below_alloc (Below.refl _ w) _⟩
set_option maxHeartbeats 8000000 in
set_option maxRecDepth 100000 in
theorem path_nil (w : World) (key : ByteArray) :
    Calls Try.prog 14 #[.pointer none, .string key] w fun e w' => e = .returned (.slice none 0 0) ∧ w' = w := by
  go_enter Try.func14, Try.ntmps14
  go_wp2_with (first | (go_at_call 13; refine (height_nil _).mono ?_; rintro e w1 ⟨rfl, hw⟩; subst hw))
  go_loopw [5, 6] (fun v5 v6 w' => v5 = .slice none 0 0 ∧ v6 = .int .i64 (-1) ∧ w' = w1) (fun _ _ _ => 0)
  case atStart => exact ⟨rfl, rfl, rfl⟩
  case round =>
    obtain ⟨rfl, rfl, hw⟩ := hrel
    subst hw
    go_wp2_with (fail)
    go_ret
    exact ⟨rfl, rfl⟩
end Go.Proofs.Ytfldbgnmdkbfkaa.Sk
