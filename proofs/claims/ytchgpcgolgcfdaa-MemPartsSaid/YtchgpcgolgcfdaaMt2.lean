/- The table of chapter 8: its list, and what lies behind it in its block; what its small methods tell. -/
import Derived.Test.YtchgpcgolgcfdaaRk10
import Derived.Test.YtchgpcgolgcfdaaMt1
import Derived.BigRegion
import Derived.Outline
namespace Go.Proofs.Ytchgpcgolgcfdaa.Mt
open Go Go.RowKit Go.Proofs.Ytchgpcgolgcfdaa.PNum Go.Proofs.Ytchgpcgolgcfdaa.RkM Go.Proofs.Ytchgpcgolgcfdaa.Rk Go.Proofs.YtchgpcgolgcfdaaW.PrintWords Go.Proofs.YtchgpcgolgcfdaaW.PrintLast Go.Proofs.YtchgpcgolgcfdaaW.PrintMore
set_option linter.unusedVariables false
set_option linter.unusedSimpArgs false
def RT (d : Value) (at_ size last : Int) : Root := ⟨91, [d, .int .i64 at_, .int .i64 size, .int .u64 last], by decide, by decide⟩
/-- The table at block g: the row of its draws, its nodes in order, how many bytes they have, the last number. -/
structure OkT (w0 V : World) (g : Nat) (d : Value) (ds : List Int) (ns : List Nd) (size last : Int) : Prop where
  ok : ∃ at_ : Nat, OkL (RT d at_ size last) w0 V g ns ∧ (ds.length ≠ 0 → at_ < ds.length)
  dr : Kd.R (Kd.int .i64) 3 V w0.heap.size (fun k => d.ownBlock = some k) d ds
/-- The blocks that are a table's own. -/
def Ft (g : Nat) (d : Value) (ns : List Nd) (k : Nat) : Prop := k = g ∨ k ∈ blocks ns ∨ d.ownBlock = some k
theorem OkT.far {w0 V V1 : World} {g : Nat} {d : Value} {ds : List Int} {ns : List Nd} {size last : Int} (h : OkT w0 V g d ds ns size last) (hk : ∀ k, Ft g d ns k → V1.heap[k]? = V.heap[k]?) : OkT w0 V1 g d ds ns size last := by
  obtain ⟨⟨a, h1, h2⟩, h3⟩ := h
  exact ⟨⟨a, h1.far (fun k hk2 => hk k (hk2.imp id Or.inl)), h2⟩, Kd.R_move h3 (fun k hk2 => hk k (Or.inr (Or.inr hk2)))⟩
theorem OkT.lt {w0 V : World} {g : Nat} {d : Value} {ds : List Int} {ns : List Nd} {size last : Int} (h : OkT w0 V g d ds ns size last) : ∀ k, Ft g d ns k → k < V.heap.size := by
  obtain ⟨⟨a, h1, h2⟩, h3⟩ := h
  rintro k (hk | hk | hk)
  · exact h1.lt k (Or.inl hk)
  · exact h1.lt k (Or.inr hk)
  · exact Kd.R_lt h3 k hk
theorem OkT.below {w0 V V1 : World} {g : Nat} {d : Value} {ds : List Int} {ns : List Nd} {size last : Int} (h : OkT w0 V g d ds ns size last) (hb : Below V.heap.size V V1) : OkT w0 V1 g d ds ns size last := h.far (fun k hk => hb.block k (h.lt k hk))
theorem OkT.ge {w0 V : World} {g : Nat} {d : Value} {ds : List Int} {ns : List Nd} {size last : Int} (h : OkT w0 V g d ds ns size last) : w0.heap.size ≤ g := by
  obtain ⟨⟨a, ⟨⟨t, h1⟩, _, _⟩, h2⟩, h3⟩ := h
  exact h1.gg
theorem OkT.cells {w0 V : World} {g : Nat} {d : Value} {ds : List Int} {ns : List Nd} {size last : Int} (h : OkT w0 V g d ds ns size last) : ∃ at_ : Nat, (ds.length ≠ 0 → at_ < ds.length) ∧ V.cell? ⟨g, 14, none⟩ = some d ∧ V.cell? ⟨g, 15, none⟩ = some (.int .i64 at_) ∧ V.cell? ⟨g, 16, none⟩ = some (.int .i64 size) ∧ V.cell? ⟨g, 17, none⟩ = some (.int .u64 last) ∧ V.frozen? ⟨g, 15, none⟩ = false ∧ V.frozen? ⟨g, 16, none⟩ = false ∧ V.frozen? ⟨g, 17, none⟩ = false ∧ OkL (RT d at_ size last) w0 V g ns := by
  obtain ⟨⟨a, ⟨⟨t, h1⟩, h4, h5⟩, h2⟩, h3⟩ := h
  exact ⟨a, h2, (blk_cell h1.hd 14).trans rfl, (blk_cell h1.hd 15).trans rfl, (blk_cell h1.hd 16).trans rfl, (blk_cell h1.hd 17).trans rfl, blk_frozen h1.hd 15, blk_frozen h1.hd 16, blk_frozen h1.hd 17, ⟨⟨t, h1⟩, h4, h5⟩⟩
/-- A cell behind the list is turned. -/
theorem OkL.turn {d : Value} {a s l a' s' l' : Int} {w0 V : World} {g i : Nat} {ns : List Nd} {u : Value} (h : OkL (RT d a s l) w0 V g ns) (hu : ∀ n t, (cellsL (RT d a s l) ns n t).setIfInBounds i u = cellsL (RT d a' s' l') ns n t) : OkL (RT d a' s' l') w0 (V.setCell ⟨g, i, none⟩ u) g ns := by
  obtain ⟨⟨t, h1⟩, h4, h5⟩ := h
  exact ⟨⟨t, blk_put h1.hd i u (hu _ _), h1.ch.congr (fun x hx => Below.heap_setCell V ⟨g, i, none⟩ u x.b (fun e => h1.ne (by have e2 : x.b = g := e; rw [← e2]; exact List.mem_map.2 ⟨x, hx, rfl⟩))), h1.nd, h1.gg, h1.gb⟩, h4, h5⟩
theorem dr_ne {w0 V : World} {g : Nat} {d : Value} {ds : List Int} {R : Root} {ns : List Nd} (h : Kd.R (Kd.int .i64) 3 V w0.heap.size (fun k => d.ownBlock = some k) d ds) (hl : OkL R w0 V g ns) (hR : R.ty = 91) : ∀ k, d.ownBlock = some k → k ≠ g ∧ k ∉ blocks ns := by
  obtain ⟨⟨t, h1⟩, _, _⟩ := hl
  intro k hk
  refine ⟨fun e => ?_, fun hm => ?_⟩
  · subst e
    exact Kd.R_ne h (by have := h1.hd; rw [hR] at this; exact this) (by decide) hk.symm
  · obtain ⟨x, hx, rfl⟩ := List.mem_map.1 hm
    obtain ⟨p, q, rfl⟩ := List.append_of_mem hx
    exact Kd.R_ne h h1.ch.blk (by decide) hk.symm
theorem OkT.turn {d : Value} {w0 V : World} {g i : Nat} {ds : List Int} {ns : List Nd} {s l s' l' : Int} {u : Value} (h : OkT w0 V g d ds ns s l) (hu : ∀ a n t, (cellsL (RT d a s l) ns n t).setIfInBounds i u = cellsL (RT d a s' l') ns n t) : OkT w0 (V.setCell ⟨g, i, none⟩ u) g d ds ns s' l' := by
  obtain ⟨⟨a, h1, h2⟩, h3⟩ := h
  exact ⟨⟨a, OkL.turn h1 (hu _), h2⟩, Kd.R_move h3 (fun k hk => Below.heap_setCell V ⟨g, i, none⟩ u k (dr_ne h3 h1 rfl k hk).1)⟩
theorem OkT.at_ {d : Value} {w0 V : World} {g : Nat} {ds : List Int} {ns : List Nd} {s l a : Int} {a' : Nat} (h3 : Kd.R (Kd.int .i64) 3 V w0.heap.size (fun k => d.ownBlock = some k) d ds) (h1 : OkL (RT d a s l) w0 V g ns) (h2 : a' < ds.length) (m : Nat) : OkT w0 ((V.drewN m).setCell ⟨g, 15, none⟩ (.int .i64 (a' : Int))) g d ds ns s l :=
  ⟨⟨a', OkL.turn (h1.below (pw_below_drewN (Below.refl _ V) m)) (fun _ _ => rfl), fun _ => h2⟩, Kd.R_move (Kd.R_drewN h3 m) (fun k hk => Below.heap_setCell _ ⟨g, 15, none⟩ _ k (dr_ne h3 h1 rfl k hk).1)⟩
set_option maxHeartbeats 8000000 in
set_option maxRecDepth 100000 in
theorem size_calls {w0 w : World} {g : Nat} {d : Value} {ds : List Int} {ns : List Nd} {size last : Int} (h : OkT w0 w g d ds ns size last) :
    Calls Try.prog 20 #[.pointer (some ⟨g, 0, none⟩)] w fun e w' => e = .returned (.int .i64 size) ∧ w' = w := by
  obtain ⟨a, _, _, _, c16, _⟩ := h.cells
  clear h
  go_enter Try.func20, Try.ntmps20
  go_wp2_with (fail)
  go_ret
  exact ⟨rfl, rfl⟩
set_option maxHeartbeats 8000000 in
set_option maxRecDepth 100000 in
theorem last_calls {w0 w : World} {g : Nat} {d : Value} {ds : List Int} {ns : List Nd} {size last : Int} (h : OkT w0 w g d ds ns size last) :
    Calls Try.prog 34 #[.pointer (some ⟨g, 0, none⟩)] w fun e w' => e = .returned (.int .u64 last) ∧ w' = w := by
  obtain ⟨a, _, _, _, _, c17, _⟩ := h.cells
  clear h
  go_enter Try.func34, Try.ntmps34
  go_wp2_with (fail)
  go_ret
  exact ⟨rfl, rfl⟩
set_option maxHeartbeats 8000000 in
set_option maxRecDepth 100000 in
theorem tlen_calls {w0 w : World} {g : Nat} {d : Value} {ds : List Int} {ns : List Nd} {size last : Int} (h : OkT w0 w g d ds ns size last) :
    Calls Try.prog 33 #[.pointer (some ⟨g, 0, none⟩)] w fun e w' => e = .returned (.int .i64 (ns.length : Int)) ∧ w' = w := by
  obtain ⟨a, _, _, _, _, _, _, _, _, hl⟩ := h.cells
  clear h
  go_enter Try.func33, Try.ntmps33
  go_wp2_with (first | (go_at_call 58; refine (len_ok _ w0 _ g ns hl).mono ?_; rintro e w1 ⟨rfl, rfl⟩))
  go_ret
  exact ⟨rfl, rfl⟩
set_option maxHeartbeats 8000000 in
set_option maxRecDepth 100000 in
theorem tget_calls {w0 w : World} {g : Nat} {d : Value} {ds : List Int} {ns : List Nd} {size last : Int} (h : OkT w0 w g d ds ns size last) (key : ByteArray) (s : Int) :
    Calls Try.prog 32 #[.pointer (some ⟨g, 0, none⟩), .string key, .int .u64 s] w fun e w' => e = .returned (.tuple #[.agg #[.string ((pickL key s (ns.map (·.e))).getD zE).f0, .int .u64 ((pickL key s (ns.map (·.e))).getD zE).f1, .int .i64 ((pickL key s (ns.map (·.e))).getD zE).f2, .string ((pickL key s (ns.map (·.e))).getD zE).f3], .bool (pickL key s (ns.map (·.e))).isSome]) ∧ Below w.heap.size w w' := by
  obtain ⟨a, _, _, _, _, _, _, _, _, hl⟩ := h.cells
  have HL := Aside0.mk (hl.below (below_alloc (Below.refl _ w) (.cells #[.string ⟨#[]⟩, .int .u64 0, .int .i64 0, .string ⟨#[]⟩] 29)))
  have HG := Aside0.mk (get_ok _ w0 _ g ns key s HL.out)
  clear h hl HL
  go_enter Try.func32, Try.ntmps32
  generalize (pickL key s (ns.map (·.e))).getD zE = x at *
  generalize (pickL key s (ns.map (·.e))).isSome = ok at *
  go_wp2_with (first | (go_at_call 57; refine HG.out.mono ?_; rintro e w1 ⟨rfl, hb⟩; have HB := Aside0.mk hb; have HX := Aside0.mk (blk_below (blk_new w _) hb); clear hb; have f0 := blk_frozen HX.out 0; have f1 := blk_frozen HX.out 1; have f2 := blk_frozen HX.out 2; have f3 := blk_frozen HX.out 3; have r0 : w1.cell? ⟨w.heap.size, 0, none⟩ = some (.string ⟨#[]⟩) := (blk_cell HX.out 0).trans rfl; have r1 : w1.cell? ⟨w.heap.size, 1, none⟩ = some (.int .u64 0) := (blk_cell HX.out 1).trans rfl; have r2 : w1.cell? ⟨w.heap.size, 2, none⟩ = some (.int .i64 0) := (blk_cell HX.out 2).trans rfl; have r3 : w1.cell? ⟨w.heap.size, 3, none⟩ = some (.string ⟨#[]⟩) := (blk_cell HX.out 3).trans rfl))
  refine bodyPost_ret (results_ct rfl _ _ _ 29 #[.string (x).f0, .int .u64 (x).f1, .int .i64 (x).f2, .string (x).f3] (0, 0) _ rfl (blk_put (blk_put (blk_put (blk_put (HX.out) 0 _ rfl) 1 _ rfl) 2 _ rfl) 3 _ rfl) Try.underlying29 rfl (by kernel_rfl)) rfl ?_
  exact ⟨rfl, below_set (below_set (below_set (below_set (below_step (below_alloc (Below.refl _ w) _) HB.out) (Nat.le_refl _)) (Nat.le_refl _)) (Nat.le_refl _)) (Nat.le_refl _)⟩
set_option maxHeartbeats 8000000 in
set_option maxRecDepth 100000 in
theorem draw_calls {w0 w : World} {g : Nat} {d : Value} {ds : List Int} {ns : List Nd} {size last : Int} (h : OkT w0 w g d ds ns size last) (hl : ds.length ≤ 1000000) (hB : Below w0.heap.size w0 w) :
    Calls Try.prog 38 #[.pointer (some ⟨g, 0, none⟩)] w fun e w' => ∃ x : Int, e = .returned (.int .i64 x) ∧ OkT w0 w' g d ds ns size last ∧ Below w0.heap.size w0 w' ∧ w'.heap.size = w.heap.size ∧ ∀ k, k ≠ g → w'.heap[k]? = w.heap[k]? := by
  obtain ⟨a, ha, c14, c15, _, _, f15, _, _, hL⟩ := h.cells
  have H := Aside0.mk h
  have HG := Aside0.mk h.ge
  have HLL := Aside0.mk hL
  have HB := Aside0.mk hB
  obtain ⟨A, c, rfl⟩ := Kd.R_slice h.dr
  by_cases h0 : ds.length = 0
  · have s0 : ((ds.length : Int) == 0) = true := by rw [beq_iff_eq]; omega
    clear h hL hB ha
    go_enter Try.func38, Try.ntmps38
    go_wp2_with (fail)
    go_ret
    exact ⟨_, rfl, H.out, HB.out, rfl, fun _ _ => rfl⟩
  · have s0 : ((ds.length : Int) == 0) = false := by rw [beq_eq_false_iff_ne]; omega
    obtain ⟨b, c', e1, _⟩ := Kd.R_form h.dr (by omega)
    injection e1 with e1 _ e2
    subst e1 e2
    have ha' := ha h0
    have p0 : (0 : Int) ≤ (a : Int) := Int.natCast_nonneg _
    have q0 : (a : Int) < (ds.length : Int) := Int.ofNat_lt.mpr ha'
    have x0 := (Kd.R_cell 0 h.dr (a : Int) p0 q0).1
    rw [Int.toNat_natCast] at x0
    generalize rdOf 0 ds (a : Int) = x at *
    have hw : IntKind.i64.wrap ((a : Int) + 1) = (a : Int) + 1 := by rw [IntKind.wrap_i64]; omega
    clear h hL hB ha
    go_enter Try.func38, Try.ntmps38
    go_wp2_with (fail)
    go_quiet (fail)
    go_wp2_with (fail)
    go_region
    go_wp2_with (fail)
    go_ret
    have e : ((a : Int) + 1) % (ds.length : Int) = (((a + 1) % ds.length : Nat) : Int) := by push_cast; rfl
    rw [e]
    exact ⟨_, rfl, OkT.at_ (H.out.dr) HLL.out (Nat.mod_lt _ (by omega)) (nq + 1), below_set (pw_below_drewN HB.out _) HG.out, by simp, fun k hk => Below.heap_setCell _ ⟨g, 15, none⟩ _ k hk⟩
set_option maxHeartbeats 8000000 in
set_option maxRecDepth 100000 in
theorem size_nil (w : World) :
    Calls Try.prog 20 #[.pointer none] w fun e w' => e = .returned (.int .i64 0) ∧ w' = w := by
  go_enter Try.func20, Try.ntmps20
  go_wp2_with (fail)
  go_ret
  exact ⟨rfl, rfl⟩
set_option maxHeartbeats 8000000 in
set_option maxRecDepth 100000 in
theorem last_nil (w : World) :
    Calls Try.prog 34 #[.pointer none] w fun e w' => e = .returned (.int .u64 0) ∧ w' = w := by
  go_enter Try.func34, Try.ntmps34
  go_wp2_with (fail)
  go_ret
  exact ⟨rfl, rfl⟩
set_option maxHeartbeats 8000000 in
set_option maxRecDepth 100000 in
theorem tlen_nil (w : World) :
    Calls Try.prog 33 #[.pointer none] w fun e w' => e = .returned (.int .i64 0) ∧ w' = w := by
  go_enter Try.func33, Try.ntmps33
  go_wp2_with (fail)
  go_ret
  exact ⟨rfl, rfl⟩
set_option maxHeartbeats 8000000 in
set_option maxRecDepth 100000 in
theorem range_nil (w : World) (from_ to_ : ByteArray) :
    Calls Try.prog 19 #[.pointer none, .string from_, .string to_] w fun e w' => e = .returned (.slice none 0 0) ∧ w' = w := by
  go_enter Try.func19, Try.ntmps19
  go_wp2_with (fail)
  go_ret
  exact ⟨rfl, rfl⟩
set_option maxHeartbeats 8000000 in
set_option maxRecDepth 100000 in
theorem tget_nil (w : World) (key : ByteArray) (s : Int) :
    Calls Try.prog 32 #[.pointer none, .string key, .int .u64 s] w fun e w' => e = .returned (.tuple #[.agg #[.string ⟨#[]⟩, .int .u64 0, .int .i64 0, .string ⟨#[]⟩], .bool false]) ∧ Below w.heap.size w w' := by
  go_enter Try.func32, Try.ntmps32
  go_wp2_with (fail)
  refine bodyPost_ret (results_ct rfl _ _ _ 29 #[.string ⟨#[]⟩, .int .u64 0, .int .i64 0, .string ⟨#[]⟩] (0, 0) _ rfl (blk_new w _) Try.underlying29 rfl (by kernel_rfl)) rfl ?_
  exact ⟨rfl, below_alloc (Below.refl _ w) _⟩
set_option maxHeartbeats 8000000 in
set_option maxRecDepth 100000 in
theorem add_nil (w : World) (first : Int) (A : Option Addr) (n c : Nat) :
    Calls Try.prog 18 #[.pointer none, .int .u64 first, .slice A n c] w fun e w' => e = .returned (.tuple #[.int .u64 0, .int .i64 1]) ∧ Below w.heap.size w w' := by
  go_enter Try.func18, Try.ntmps18
  go_wp2_with (fail)
  go_ret2
  exact ⟨rfl, Below.refl _ _⟩
set_option maxHeartbeats 8000000 in
set_option maxRecDepth 100000 in
theorem new_calls (w0 w : World) (A : Option Addr) (c : Nat) (ds : List Int) (hC : Kd.C (Kd.int .i64) w A ds.length ds) (hl : ds.length ≤ 60) (hB : Below w0.heap.size w0 w) :
    Calls Try.prog 17 #[.slice A ds.length c] w fun e w' => ∃ g d, e = .returned (.pointer (some ⟨g, 0, none⟩)) ∧ OkT w0 w' g d ds [] 0 0 ∧ (∀ k, Ft g d [] k → w.heap.size ≤ k) ∧ Below w.heap.size w w' := by
  have HB := Aside0.mk hB
  have key : Calls Try.prog 35 #[.slice A ds.length c] w fun e w' => ∃ d, e = .returned d ∧ Kd.R (Kd.int .i64) 3 w' w.heap.size (fun k => d.ownBlock = some k) d ds ∧ Below w.heap.size w w' := by
    cases A with
    | none =>
      have h0 : ds.length = 0 := by
        by_cases h : 0 < ds.length
        · obtain ⟨ad, e, _⟩ := Kd.at_int hC 0 (Int.le_refl 0) (by omega)
          cases e
        · omega
      obtain rfl : ds = [] := List.eq_nil_of_length_eq_zero h0
      refine (Try.slices_Clone_int_nil _ c w).mono ?_
      rintro e w1 ⟨rfl, rfl⟩
      exact ⟨_, rfl, Kd.R_nil _ _ _ _ _, Below.refl _ _⟩
    | some ad =>
      by_cases h0 : ds.length = 0
      · obtain rfl : ds = [] := List.eq_nil_of_length_eq_zero h0
        refine (Try.slices_Clone_int_zero ad c w).mono ?_
        rintro e w1 ⟨v, rfl, ho, _, hb⟩
        exact ⟨v, rfl, Kd.R_of_own (enc := Value.int .i64) ho (fun _ h => h), hb⟩
      · have hp : ∀ j, j < ds.length → w.cell? (ad.add j) = some (.int .i64 (ds.getD j 0)) := fun j hj => by
          obtain ⟨ad', e, h⟩ := Kd.at_int hC (j : Int) (Int.natCast_nonneg _) (Int.ofNat_lt.mpr hj)
          cases e
          rw [Int.toNat_natCast] at h
          rw [h]
          simp [rd, Int.toNat_natCast]
        obtain ⟨b, off, spot⟩ := ad
        cases spot with
        | some z =>
          have h := hp 0 (by omega)
          unfold World.cell? Addr.add at h
          split at h
          · simp at h
          · cases h
        | none =>
          refine (Try.slices_Clone_int b off ds.length c ds w (Nat.le_refl _) (by omega) (fun j hj => by
            have h := hp j hj
            unfold Addr.add at h
            by_cases hz : j = 0
            · rw [if_pos hz] at h
              rw [hz] at h ⊢
              exact h
            · rw [if_neg hz] at h
              exact h)).mono ?_
          rintro e w1 ⟨v, rfl, ho, _, hb⟩
          rw [List.take_length] at ho
          exact ⟨v, rfl, Kd.R_of_own (enc := Value.int .i64) ho (fun _ h => h), hb⟩
  have HK := Aside0.mk key
  clear key hC hB
  go_enter Try.func17, Try.ntmps17
  go_wp2_with (first | (go_at_call 35; refine HK.out.mono ?_; rintro e w1 ⟨d, rfl, hr, hb⟩; obtain ⟨A', c', rfl⟩ := Kd.R_slice hr; have HR := Aside0.mk hr; have HB1 := Aside0.mk hb; clear hr hb))
  go_ret
  have hs := HB.out.size
  have hs1 := HB1.out.size
  refine ⟨_, .slice A' ds.length c', rfl, ⟨⟨0, ⟨⟨0, ?_⟩, List.Pairwise.nil, fun _ h => by cases h⟩, fun h => by omega⟩, Kd.R_lower (Kd.R_alloc HR.out _) hs⟩, ?_, below_alloc HB1.out _⟩
  · exact ⟨blk_new w1 _, trivial, by simp [blocks], by omega, by simp⟩
  · rintro k (rfl | hk | hk)
    · omega
    · simp [blocks] at hk
    · exact Kd.R_base HR.out k hk
end Go.Proofs.Ytchgpcgolgcfdaa.Mt
