/- Reading a file system, and its switches. -/
import Derived.Test.YtimcibifghidjaaFs1
namespace Go.Proofs.Ytimcibifghidjaa.Fs
open Go Go.RowKit Go.Maps Go.Proofs.Ytimcibifghidjaa.PFil Go.Proofs.Ytimcibifghidjaa.FsM Go.Proofs.YtimcibifghidjaaW.PrintWords Go.Proofs.YtimcibifghidjaaW.PrintLast Go.Proofs.YtimcibifghidjaaW.PrintMore
set_option linter.unusedVariables false
set_option linter.unusedSimpArgs false
theorem law : Keyed Try.prog 9 := string_keyed Try.underlying9
theorem eql_some (b : Nat) (w : World) : (binOp BinOp.eql 52 (.map (some b)) (.map none)).run Try.prog w = .ok (.bool false) w := run_eql_map_nil_sl w _ _ _ (some b) Try.underlying52
theorem neq_some (b : Nat) (w : World) : (binOp BinOp.neq 52 (.map (some b)) (.map none)).run Try.prog w = .ok (.bool true) w := by
  simp only [binOp]
  simp [show Op.equal 52 (.map (some b)) (.map none) = Op.equalIn (9999 + 1) 52 (.map (some b)) (.map none) from rfl, run_equalIn_map_nil_sl w 9999 _ _ _ (some b) Try.underlying52]
theorem zeroP (w : World) : (zeroValue 58).run Try.prog w = .ok (.pointer none) w := by kernel_rfl
theorem keyS (s : ByteArray) (h : s.size ≤ 140737488355328) : keyOf Try.prog 9 (.string s) = some (ky (bs s)) := WideMaps.keyOf_string_mk Try.underlying9 (by unfold maxLen; omega)
/-- A look-up without ok in a map of the call's own, whatever its elements. -/
theorem wpList_lookup_any {H : Type} {P : Program} (w : World) {ops : Array Oper} {rest : List Oper} {o : Oper} {a : Act} {Q : Exit → Act → World → Prop}
    (hg : o.guard = none) (m x : Operand) (t : TypeId) (hop : o.op = Op.lookup t m x false)
    (k e : TypeId) (K : Keyed P k) (ht : P.underlying t = some (.map k e)) (R : Value → Option (DataW H × List MemPlace)) {z : Value} (hz : (zeroValue e).run P w = .ok z w) (zd : DataW H) (zp : List MemPlace) (hzd : R z = some (zd, zp)) (b n : Nat) (D : DataW H)
    (hm : a.eval m = .map (some b)) (hown : w.ownsMap P k R b n D) (key : Value) (kl : Lit) (hx : a.eval x = key) (hkey : keyOf P k key = some kl)
    (hK : ∀ v ps, R v = some (D.atKey kl zd, ps) → wpList P ops Q rest (a.put o.dst v) w) :
    wpList P ops Q (o :: rest) a w := by
  refine wpList_plain hg fun K' hK' => ?_
  obtain ⟨v, ps, hrun, hv⟩ := hown.lookup K ht hz hzd hkey
  unfold Oper.wp
  simp [execOp, hop, hm, hx, hrun, Result.andThen]
  exact hK' _ _ (hK v ps hv)
/-- 'm[name]' of a directory, as an equation on the operation's run. -/
theorem look_run {V : World} {b : Nat} {d : Dir} (h : Own V b d) (s : ByteArray) (hs : s.size ≤ 140737488355328) : (Instr.lookup 52 (.map (some b)) (.string s) false).run Try.prog V = .ok (pO (lk d (bs s))) V := by
  obtain ⟨D, h1, h2⟩ := h
  obtain ⟨v, ps, hrun, hv⟩ := h1.lookup law Try.underlying52 (zeroP V) RB_nil (keyS s hs)
  rw [hrun]
  rw [h2.at_] at hv
  cases hl : lk d (bs s) with
  | none =>
    rw [hl] at hv
    rw [RB_inv0 hv]
    rfl
  | some c =>
    rw [hl] at hv
    rw [RB_inv hv]
    rfl
set_option maxHeartbeats 8000000 in
set_option maxRecDepth 100000 in
theorem on_calls {w0 w : World} {g ma ms : Nat} {vp : Value} {S : Sy} (h : Fx w0 w g ma ms vp S) :
    Calls Try.prog 19 #[.pointer (some ⟨g, 0, none⟩)] w fun e w' => e = .returned (.bool S.on) ∧ w' = w := by
  have HO := Aside0.mk (off_calls h)
  clear h
  go_enter Try.func19, Try.ntmps19
  go_wp2_with (first | (go_at_call 32; refine HO.out.mono ?_; rintro e w1 ⟨rfl, rfl⟩))
  go_ret
  exact ⟨by simp, rfl⟩
set_option maxHeartbeats 8000000 in
set_option maxRecDepth 100000 in
theorem steps_calls {w0 w : World} {g ma ms : Nat} {vp : Value} {S : Sy} (h : Fx w0 w g ma ms vp S) :
    Calls Try.prog 21 #[.pointer (some ⟨g, 0, none⟩)] w fun e w' => e = .returned (.int .i64 S.steps) ∧ w' = w := by
  obtain ⟨_, _, _, _, _, _, c6, _⟩ := h.cells
  clear h
  go_enter Try.func21, Try.ntmps21
  go_wp2_with (fail)
  go_ret
  exact ⟨rfl, rfl⟩
set_option maxHeartbeats 8000000 in
set_option maxRecDepth 100000 in
theorem restore_calls {w0 w : World} {g ma ms : Nat} {vp : Value} {S : Sy} (h : Fx w0 w g ma ms vp S) (hB : Below w0.heap.size w0 w) :
    Calls Try.prog 15 #[.pointer (some ⟨g, 0, none⟩)] w fun e w' => e = .returned (.tuple #[]) ∧ Fx w0 w' g ma ms vp {S with on := true} ∧ Below w0.heap.size w0 w' ∧ Kg w w' g := by
  have H := Aside0.mk h
  have HB := Aside0.mk hB
  obtain ⟨_, c1, _, _, _, _, _, c7, _⟩ := h.cells
  have f1 := h.thaw 1
  have hq := neq_some
  clear h hB
  go_enter Try.func15, Try.ntmps15
  go_wp2_with (fail)
  first | go_end0 | ((try simp only [Exit.inBlock, Exit.then]); refine bodyPost_ret (results_none rfl _ _ _) rfl ?_)
  exact ⟨rfl, H.out.turn (i := 1) rfl rfl rfl rfl rfl, below_set HB.out H.out.gg, (Kg.refl w g).set⟩
set_option maxHeartbeats 8000000 in
set_option maxRecDepth 100000 in
theorem fuse_calls {w0 w : World} {g ma ms : Nat} {vp : Value} {S : Sy} (h : Fx w0 w g ma ms vp S) (hB : Below w0.heap.size w0 w) (n : Int) :
    Calls Try.prog 17 #[.pointer (some ⟨g, 0, none⟩), .int .i64 n] w fun e w' => e = .returned (.tuple #[]) ∧ Fx w0 w' g ma ms vp {S with fs := decide (0 ≤ n), fl := n} ∧ Below w0.heap.size w0 w' := by
  have H := Aside0.mk h
  have HB := Aside0.mk hB
  obtain ⟨_, c1, c2, c3, _, _, _, c7, _⟩ := h.cells
  have f2 := h.thaw 2
  have f3 := h.thaw 3
  clear h hB
  go_enter Try.func17, Try.ntmps17
  go_wp2_with (fail)
  first | go_end0 | ((try simp only [Exit.inBlock, Exit.then]); refine bodyPost_ret (results_none rfl _ _ _) rfl ?_)
  exact ⟨rfl, (H.out.turn (i := 2) (u := .bool (decide (0 ≤ n))) (S' := {S with fs := decide (0 ≤ n)}) rfl rfl rfl rfl rfl).turn (i := 3) rfl rfl rfl rfl rfl, below_set (below_set HB.out H.out.gg) H.out.gg⟩
set_option maxHeartbeats 8000000 in
set_option maxRecDepth 100000 in
theorem bad_calls {w0 w : World} {g ma ms : Nat} {vp : Value} {S : Sy} (h : Fx w0 w g ma ms vp S) (hB : Below w0.heap.size w0 w) (n : Int) :
    Calls Try.prog 28 #[.pointer (some ⟨g, 0, none⟩), .int .i64 n] w fun e w' => e = .returned (.tuple #[]) ∧ Fx w0 w' g ma ms vp {S with bs := decide (0 ≤ n), bl := n} ∧ Below w0.heap.size w0 w' := by
  have H := Aside0.mk h
  have HB := Aside0.mk hB
  obtain ⟨_, _, _, _, c4, c5, _⟩ := h.cells
  have f4 := h.thaw 4
  have f5 := h.thaw 5
  clear h hB
  go_enter Try.func28, Try.ntmps28
  go_wp2_with (fail)
  first | go_end0 | ((try simp only [Exit.inBlock, Exit.then]); refine bodyPost_ret (results_none rfl _ _ _) rfl ?_)
  exact ⟨rfl, (H.out.turn (i := 4) (u := .bool (decide (0 ≤ n))) (S' := {S with bs := decide (0 ≤ n)}) rfl rfl rfl rfl rfl).turn (i := 5) rfl rfl rfl rfl rfl, below_set (below_set HB.out H.out.gg) H.out.gg⟩
set_option maxHeartbeats 8000000 in
set_option maxRecDepth 100000 in
theorem read_none {w0 w : World} {g ma ms : Nat} {vp : Value} {S : Sy} (h : Fx w0 w g ma ms vp S) (name : ByteArray) (hn : name.size ≤ 140737488355328) (ho : S.on = true) (hl : lk S.at_ (bs name) = none) :
    Calls Try.prog 20 #[.pointer (some ⟨g, 0, none⟩), .string name] w fun e w' => e = .returned (.tuple #[.string ⟨#[]⟩, .int .i64 7]) ∧ w' = w := by
  have HO := Aside0.mk (off_calls h)
  rw [ho] at HO
  obtain ⟨_, _, _, _, _, _, _, c7, _⟩ := h.cells
  have hlk := look_run h.oa name hn
  rw [hl] at hlk
  unfold pO at hlk
  clear h ho hl
  go_enter Try.func20, Try.ntmps20
  go_wp2_with (first | (go_at_call 32; refine HO.out.mono ?_; rintro e w1 ⟨rfl, rfl⟩))
  go_ret2
  exact ⟨rfl, rfl⟩
set_option maxHeartbeats 8000000 in
set_option maxRecDepth 100000 in
theorem read_some {w0 w : World} {g ma ms : Nat} {vp : Value} {S : Sy} (h : Fx w0 w g ma ms vp S) (name : ByteArray) (hn : name.size ≤ 140737488355328) (ho : S.on = true) (x : Bd) (hx : x ∈ S.bd) (hl : lk S.at_ (bs name) = some x.b) :
    Calls Try.prog 20 #[.pointer (some ⟨g, 0, none⟩), .string name] w fun e w' => e = .returned (.tuple #[.string x.d, .int .i64 0]) ∧ w' = w := by
  have HO := Aside0.mk (off_calls h)
  rw [ho] at HO
  obtain ⟨_, _, _, _, _, _, _, c7, _⟩ := h.cells
  have hlk := look_run h.oa name hn
  rw [hl] at hlk
  unfold pO at hlk
  have b0 : w.cell? ⟨x.b, 0, none⟩ = some (.string x.d) := (blk_cell (h.bd x hx) 0).trans rfl
  clear h ho hl
  go_enter Try.func20, Try.ntmps20
  go_wp2_with (first | (go_at_call 32; refine HO.out.mono ?_; rintro e w1 ⟨rfl, rfl⟩))
  go_ret2
  exact ⟨rfl, rfl⟩
end Go.Proofs.Ytimcibifghidjaa.Fs
