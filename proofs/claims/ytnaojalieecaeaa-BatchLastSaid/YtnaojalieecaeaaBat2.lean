/- More contracts of batch.Batch. -/
import Derived.Test.YtnaojalieecaeaaBat
namespace Go.Proofs.Ytnaojalieecaeaa.Bat
open Go Go.RowKit Go.Maps Go.Sort Go.Proofs.Ytnaojalieecaeaa.PBat Go.Proofs.Ytnaojalieecaeaa.BatM Go.Proofs.YtnaojalieecaeaaW.PrintWords Go.Proofs.YtnaojalieecaeaaW.PrintLast Go.Proofs.YtnaojalieecaeaaW.PrintMore
set_option linter.unusedVariables false
set_option linter.unusedSimpArgs false
/-- A look-up in a map of the call's own, whatever its elements. -/
theorem wpList_lookup_any {H : Type} {P : Program} (w : World) {ops : Array Oper} {rest : List Oper} {o : Oper} {a : Act} {Q : Exit → Act → World → Prop}
    (hg : o.guard = none) (m x : Operand) (t : TypeId) (hop : o.op = Op.lookup t m x false)
    (k e : TypeId) (K : Keyed P k) (ht : P.underlying t = some (.map k e)) (R : Value → Option (DataW H × List MemPlace)) {z : Value} (hz : (zeroValue e).run P w = .ok z w) (zd : DataW H) (zp : List MemPlace) (hzd : R z = some (zd, zp)) (b n : Nat) (D : DataW H)
    (hm : a.eval m = .map (some b)) (hown : w.ownsMap P k R b n D) (key : Value) (kl : Lit) (hx : a.eval x = key) (hkey : keyOf P k key = some kl)
    (hK : ∀ v ps, R v = some (D.atKey kl zd, ps) → wpList P ops Q rest (a.put o.dst v) w) :
    wpList P ops Q (o :: rest) a w := by
  refine wpList_plain hg fun K' hK' => ?_
  obtain ⟨v, ps, hrun, hv⟩ := hown.lookup K ht hz hzd hkey
  unfold Oper.wp
  simp [execOp, hop, hm, hx, hrun, Result.andThen]
  exact hK' _ _ (hK v ps hv)
theorem Own.row_ne {α : Type} {d : Kd α} {e : Nat} {V : World} {base : Nat} {ok : Nat → Prop} {v : Value} {xs : List α} {b : Nat} {l : List S27} (hm : Own V b l) (h : d.R e V base ok v xs) : some b ≠ v.ownBlock := by
  intro he
  obtain ⟨inner, ho⟩ := Kd.R_own h
  obtain ⟨cells, hc⟩ := own_typed ho b he.symm
  exact hm.ne hc rfl
theorem IsB.row {α : Type} {d : Kd α} {e : Nat} {w0 V V1 : World} {g : Nat} {l : List S27} {base : Nat} {ok : Nat → Prop} {v : Value} {xs : List α} (h : IsB w0 V g l) (hr : d.R e V base ok v xs) (he : e ≠ 39) (hg : V.grownBy V1 v.ownBlock) : IsB w0 V1 g l := by
  have hne : ∀ {m : Option Nat}, V.heap[g]? = some (.cells #[.map m] 39 (0, 0)) → some g ≠ v.ownBlock := fun hb => Kd.R_ne hr hb he
  obtain ⟨h0, h | ⟨b, h1, h2, h3⟩⟩ := h
  · exact ⟨h0, .inl ⟨(hg.block g (blk_lt h.1) (hne h.1)).trans h.1, h.2⟩⟩
  · exact ⟨h0, .inr ⟨b, (hg.block g (blk_lt h1) (hne h1)).trans h1, h2, World.ownsMap.kept h3 hg (h3.row_ne hr)⟩⟩
set_option maxHeartbeats 8000000 in
set_option maxRecDepth 100000 in
theorem put_calls (w0 w : World) (g : Nat) (l : List S27) (hI : IsB w0 w g l) (hB : Below w0.heap.size w0 w) (k v : ByteArray) (h0 : k.size ≤ 140737488355328) (h1 : v.size ≤ 140737488355328) (hl : l.length < 1000000) :
    Calls Try.prog 8 #[.pointer (some ⟨g, 0, none⟩), .string k, .string v] w fun e w' => e = .returned (.tuple #[]) ∧ IsB w0 w' g (l ++ [⟨k, v, false⟩]) ∧ Below w0.heap.size w0 w' ∧ Keeps w w' := by
  have HI := Aside0.mk hI
  have HB := Aside0.mk hB
  have H0 := Aside0.mk h0
  have H1 := Aside0.mk h1
  have HL := Aside0.mk hl
  clear hI hB h0 hl h1
  go_enter Try.func8, Try.ntmps8
  go_wp2_with (first | (go_at_call 15; refine (set_calls w0 _ g l ⟨k, v, false⟩ HI.out HB.out H0.out H1.out HL.out).mono ?_; rintro e w1 ⟨rfl, hi, hb, hk⟩))
  first | go_end0 | ((try simp only [Exit.inBlock, Exit.then]); refine bodyPost_ret (results_none rfl _ _ _) rfl ?_)
  exact ⟨rfl, hi, hb, hk⟩
set_option maxHeartbeats 8000000 in
set_option maxRecDepth 100000 in
theorem delete_calls (w0 w : World) (g : Nat) (l : List S27) (hI : IsB w0 w g l) (hB : Below w0.heap.size w0 w) (k : ByteArray) (h0 : k.size ≤ 140737488355328) (hl : l.length < 1000000) :
    Calls Try.prog 7 #[.pointer (some ⟨g, 0, none⟩), .string k] w fun e w' => e = .returned (.tuple #[]) ∧ IsB w0 w' g (l ++ [⟨k, ⟨#[]⟩, true⟩]) ∧ Below w0.heap.size w0 w' ∧ Keeps w w' := by
  have HI := Aside0.mk hI
  have HB := Aside0.mk hB
  have H0 := Aside0.mk h0
  have HL := Aside0.mk hl
  clear hI hB h0 hl
  go_enter Try.func7, Try.ntmps7
  go_wp2_with (first | (go_at_call 15; refine (set_calls w0 _ g l ⟨k, ⟨#[]⟩, true⟩ HI.out HB.out H0.out (Nat.zero_le _) HL.out).mono ?_; rintro e w1 ⟨rfl, hi, hb, hk⟩))
  first | go_end0 | ((try simp only [Exit.inBlock, Exit.then]); refine bodyPost_ret (results_none rfl _ _ _) rfl ?_)
  exact ⟨rfl, hi, hb, hk⟩
set_option maxHeartbeats 8000000 in
set_option maxRecDepth 100000 in
theorem set_nil (w : World) (x : S27) :
    Calls Try.prog 15 #[.pointer none, .agg #[.string x.f0, .string x.f1, .bool x.f2]] w fun e w' => e = .returned (.tuple #[]) ∧ Below w.heap.size w w' := by
  go_enter Try.func15, Try.ntmps15
  go_wp2_with (fail)
  first | go_end0 | ((try simp only [Exit.inBlock, Exit.then]); refine bodyPost_ret (results_none rfl _ _ _) rfl ?_)
  exact ⟨rfl, below_alloc (Below.refl _ w) _⟩
set_option maxHeartbeats 8000000 in
set_option maxRecDepth 100000 in
theorem put_nil (w : World) (k v : ByteArray) :
    Calls Try.prog 8 #[.pointer none, .string k, .string v] w fun e w' => e = .returned (.tuple #[]) ∧ Below w.heap.size w w' := by
  go_enter Try.func8, Try.ntmps8
  go_wp2_with (first | (go_at_call 15; refine (set_nil _ ⟨k, v, false⟩).mono ?_; rintro e w1 ⟨rfl, hb⟩))
  first | go_end0 | ((try simp only [Exit.inBlock, Exit.then]); refine bodyPost_ret (results_none rfl _ _ _) rfl ?_)
  exact ⟨rfl, hb⟩
set_option maxHeartbeats 8000000 in
set_option maxRecDepth 100000 in
theorem delete_nil (w : World) (k : ByteArray) :
    Calls Try.prog 7 #[.pointer none, .string k] w fun e w' => e = .returned (.tuple #[]) ∧ Below w.heap.size w w' := by
  go_enter Try.func7, Try.ntmps7
  go_wp2_with (first | (go_at_call 15; refine (set_nil _ ⟨k, ⟨#[]⟩, true⟩).mono ?_; rintro e w1 ⟨rfl, hb⟩))
  first | go_end0 | ((try simp only [Exit.inBlock, Exit.then]); refine bodyPost_ret (results_none rfl _ _ _) rfl ?_)
  exact ⟨rfl, hb⟩
set_option maxHeartbeats 8000000 in
set_option maxRecDepth 100000 in
theorem len_nil (w : World) :
    Calls Try.prog 11 #[.pointer none] w fun e w' => e = .returned (.int .i64 0) ∧ w' = w := by
  go_enter Try.func11, Try.ntmps11
  go_wp2_with (fail)
  go_ret
  exact ⟨rfl, rfl⟩
set_option maxHeartbeats 8000000 in
set_option maxRecDepth 100000 in
theorem writes_nil_calls (w : World) :
    Calls Try.prog 9 #[.pointer none] w fun e w' => e = .returned (.slice none 0 0) ∧ w' = w := by
  go_enter Try.func9, Try.ntmps9
  go_wp2_with (fail)
  go_ret
  exact ⟨rfl, rfl⟩
set_option maxHeartbeats 8000000 in
set_option maxRecDepth 100000 in
theorem clear_nil (w : World) :
    Calls Try.prog 13 #[.pointer none] w fun e w' => e = .returned (.tuple #[]) ∧ w' = w := by
  go_enter Try.func13, Try.ntmps13
  go_wp2_with (fail)
  first | go_end0 | ((try simp only [Exit.inBlock, Exit.then]); refine bodyPost_ret (results_none rfl _ _ _) rfl ?_)
  exact ⟨rfl, rfl⟩
set_option maxHeartbeats 8000000 in
set_option maxRecDepth 100000 in
theorem get_nil (w : World) (k : ByteArray) :
    Calls Try.prog 10 #[.pointer none, .string k] w fun e w' => e = .returned (.tuple #[.agg #[.string ⟨#[]⟩, .string ⟨#[]⟩, .bool false], .bool false]) ∧ Below w.heap.size w w' := by
  go_enter Try.func10, Try.ntmps10
  go_wp2_with (fail)
  refine bodyPost_ret (results_ct rfl _ _ _ 27 #[.string ⟨#[]⟩, .string ⟨#[]⟩, .bool false] (0, 0) _ rfl (blk_new w _) Try.underlying27 rfl (by kernel_rfl)) rfl ?_
  exact ⟨rfl, below_alloc (Below.refl _ w) _⟩
set_option maxHeartbeats 8000000 in
set_option maxRecDepth 100000 in
theorem new_calls (w0 w : World) (hB : Below w0.heap.size w0 w) :
    Calls Try.prog 6 #[] w fun e w' => ∃ g, e = .returned (.pointer (some ⟨g, 0, none⟩)) ∧ IsB w0 w' g [] ∧ Below w.heap.size w w' := by
  have HB := Aside0.mk hB
  clear hB
  go_enter Try.func6, Try.ntmps6
  go_wp2_with (fail)
  go_ret
  exact ⟨_, rfl, ⟨HB.out.size, .inl ⟨blk_new w _, rfl⟩⟩, below_alloc (Below.refl _ w) _⟩
set_option maxHeartbeats 8000000 in
set_option maxRecDepth 100000 in
theorem len_calls (w0 w : World) (g : Nat) (l : List S27) (hI : IsB w0 w g l) (hB : Below w0.heap.size w0 w) :
    Calls Try.prog 11 #[.pointer (some ⟨g, 0, none⟩)] w fun e w' => e = .returned (.int .i64 (Maps.size (D l))) ∧ w' = w := by
  obtain ⟨hg, hc | ⟨b, hc, hb0, hown⟩⟩ := hI
  · obtain ⟨hc, rfl⟩ := hc
    have c0 : w.cell? ⟨g, 0, none⟩ = some (.map none) := (blk_cell hc 0).trans rfl
    have hn : ∀ V : World, (Builtin.len_ #[37] 3 #[.map none]).run Try.prog V = .ok (.int .i64 0) V := fun V => Maps.len_nil Try.underlying37 3
    clear hc hg hB
    go_enter Try.func11, Try.ntmps11
    go_wp2_with (fail)
    go_ret
    exact ⟨rfl, rfl⟩
  · have c0 : w.cell? ⟨g, 0, none⟩ = some (.map (some b)) := (blk_cell hc 0).trans rfl
    have hn : (Builtin.len_ #[37] 3 #[.map (some b)]).run Try.prog w = .ok (.int .i64 (Maps.size (D l))) w := World.ownsMap.len hown Try.underlying37 3
    clear hc hg hB hb0 hown
    go_enter Try.func11, Try.ntmps11
    go_wp2_with (fail)
    go_ret
    exact ⟨rfl, rfl⟩
set_option maxHeartbeats 8000000 in
set_option maxRecDepth 100000 in
theorem get_calls (w0 w : World) (g : Nat) (l : List S27) (hI : IsB w0 w g l) (hB : Below w0.heap.size w0 w) (k : ByteArray) (h0 : k.size ≤ 140737488355328) :
    Calls Try.prog 10 #[.pointer (some ⟨g, 0, none⟩), .string k] w fun e w' => e = .returned (.tuple #[.agg #[.string (wr l (bs k)).f0, .string (wr l (bs k)).f1, .bool (wr l (bs k)).f2], .bool (last l (bs k)).isSome]) ∧ Below w.heap.size w w' := by
  have HKY : Aside0 (keyOf Try.prog 9 (.string k) = some (ky (bs k))) := ⟨WideMaps.keyOf_string_mk Try.underlying9 (by unfold maxLen; omega)⟩
  have hlt : g < w.heap.size := by
    obtain ⟨m, hm⟩ := hI.blk
    exact blk_lt hm
  obtain ⟨hg, hc | ⟨b, hc, hb0, hown⟩⟩ := hI
  · obtain ⟨hc, rfl⟩ := hc
    have c0 : w.cell? ⟨g, 0, none⟩ = some (.map none) := (blk_cell hc 0).trans rfl
    have hln : ∀ V : World, (Instr.lookup 37 (.map none) (.string k) true).run Try.prog V = .ok (.tuple #[.agg #[.string ⟨#[]⟩, .string ⟨#[]⟩, .bool false], .bool false]) V := fun V => Maps.look_nil true law Try.underlying37 (zero27 V) HKY.out
    clear hc hg hB h0
    go_enter Try.func10, Try.ntmps10
    go_wp2_with (fail)
    refine bodyPost_ret (results_ct rfl _ _ _ 27 #[.string ⟨#[]⟩, .string ⟨#[]⟩, .bool false] (0, 0) _ rfl (blk_alloc (blk_new w _) _) Try.underlying27 rfl (by kernel_rfl)) rfl ?_
    exact ⟨rfl, below_alloc (below_alloc (Below.refl _ w) _) _⟩
  · have c0 : w.cell? ⟨g, 0, none⟩ = some (.map (some b)) := (blk_cell hc 0).trans rfl
    have HO := Aside0.mk hown
    clear hc hg hB hb0 hown h0
    go_enter Try.func10, Try.ntmps10
    go_wp2_with (first | (at_lookup; refine wpList_lookup_own_ok _ rfl _ _ 37 rfl 9 27 law Try.underlying37 RW (zero27 _) (dW z27) [] (RW_mk z27) b _ (D l) rfl (World.ownsMap.alloc HO.out _) _ _ rfl HKY.out ?_; intro v ps hv; rw [wr_at] at hv; obtain rfl := RW_inv hv; clear hv))
    refine bodyPost_ret (results_ct rfl _ _ _ 27 #[.string (wr l (bs k)).f0, .string (wr l (bs k)).f1, .bool (wr l (bs k)).f2] (0, 0) _ rfl (blk_alloc (blk_new w _) _) Try.underlying27 rfl (by kernel_rfl)) rfl ?_
    exact ⟨by rw [← has_D]; rfl, below_alloc (below_alloc (Below.refl _ w) _) _⟩
end Go.Proofs.Ytnaojalieecaeaa.Bat
