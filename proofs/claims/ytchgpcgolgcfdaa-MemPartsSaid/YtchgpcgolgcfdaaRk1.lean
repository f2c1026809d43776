/- A skip list in memory, and what 'before' finds: on each level the last node ahead of a place. -/
import Derived.Test.YtchgpcgolgcfdaaRkM
import Derived.WalkKit
import Derived.Deep.LoopGhost
namespace Go.Proofs.Ytchgpcgolgcfdaa.Rk
open Go Go.RowKit Go.Proofs.Ytchgpcgolgcfdaa.PNum Go.Proofs.Ytchgpcgolgcfdaa.RkM Go.Proofs.YtchgpcgolgcfdaaW.PrintWords Go.Proofs.YtchgpcgolgcfdaaW.PrintLast Go.Proofs.YtchgpcgolgcfdaaW.PrintMore
set_option linter.unusedVariables false
set_option linter.unusedSimpArgs false
/-- The list at block g: its nodes in order, how many they are, the greatest height. -/
structure IsL (R : Root) (w0 V : World) (g : Nat) (ns : List Nd) (n t : Int) : Prop where
  hd : V.heap[g]? = some (.cells (cellsL R ns n t) R.ty (0, 0))
  ch : Ch V ns
  nd : (blocks ns).Nodup
  gg : w0.heap.size ≤ g
  gb : ∀ x ∈ ns, w0.heap.size ≤ x.b
theorem IsL.below {R : Root} {w0 V V1 : World} {g : Nat} {ns : List Nd} {n t : Int} (h : IsL R w0 V g ns n t) (hb : Below V.heap.size V V1) : IsL R w0 V1 g ns n t :=
  ⟨blk_below h.hd hb, h.ch.congr (fun x hx => hb.block _ (h.ch.lt x hx)), h.nd, h.gg, h.gb⟩
/-- Where a walk stands that has gone by 'd': at d's last node, or ahead of the first one. -/
def pos (g : Nat) : List Nd → Nat
  | [] => g
  | [x] => x.b
  | _ :: y :: r => pos g (y :: r)
theorem pos_snoc (g : Nat) (d : List Nd) (x : Nd) : pos g (d ++ [x]) = x.b := by
  induction d with
  | nil => rfl
  | cons a r ih =>
    cases r with
    | nil => rfl
    | cons b r => exact ih
def Reach (d : List Nd) (L : Nat) : Prop := d = [] ∨ ∃ d' x, d = d' ++ [x] ∧ L < x.h
theorem Reach.down {d : List Nd} {L M : Nat} (h : Reach d L) (hm : M ≤ L) : Reach d M := by
  rcases h with h | ⟨d', x, h, hx⟩
  · exact Or.inl h
  · exact Or.inr ⟨d', x, h, by omega⟩
theorem cellN {V : World} {b : Nat} {x : Nd} {r : List Nd} (h : V.heap[b]? = some (.cells (cellsN x r) 87 (0, 0))) {L : Nat} (hL : L < 8) (hx : L < x.h) : V.cell? ⟨b, 4 + L, none⟩ = some (ptr (first r L)) := by
  have e : at_ x r L = ptr (first r L) := by unfold at_; rw [if_pos hx]
  rw [← e]
  match L, hL with
  | 0, _ => exact (blk_cell h 4).trans rfl
  | 1, _ => exact (blk_cell h 5).trans rfl
  | 2, _ => exact (blk_cell h 6).trans rfl
  | 3, _ => exact (blk_cell h 7).trans rfl
  | 4, _ => exact (blk_cell h 8).trans rfl
  | 5, _ => exact (blk_cell h 9).trans rfl
  | 6, _ => exact (blk_cell h 10).trans rfl
  | 7, _ => exact (blk_cell h 11).trans rfl
theorem cellL {R : Root} {V : World} {g : Nat} {ns : List Nd} {n t : Int} (h : V.heap[g]? = some (.cells (cellsL R ns n t) R.ty (0, 0))) {L : Nat} (hL : L < 8) : V.cell? ⟨g, 4 + L, none⟩ = some (ptr (first ns L)) := by
  match L, hL with
  | 0, _ => exact (blk_cell h 4).trans rfl
  | 1, _ => exact (blk_cell h 5).trans rfl
  | 2, _ => exact (blk_cell h 6).trans rfl
  | 3, _ => exact (blk_cell h 7).trans rfl
  | 4, _ => exact (blk_cell h 8).trans rfl
  | 5, _ => exact (blk_cell h 9).trans rfl
  | 6, _ => exact (blk_cell h 10).trans rfl
  | 7, _ => exact (blk_cell h 11).trans rfl
theorem IsL.next {R : Root} {w0 V : World} {g : Nat} {d q : List Nd} {n t : Int} (h : IsL R w0 V g (d ++ q) n t) {L : Nat} (hL : L < 8) (hr : Reach d L) : V.cell? ⟨pos g d, 4 + L, none⟩ = some (ptr (first q L)) := by
  rcases hr with rfl | ⟨d', x, rfl, hx⟩
  · exact cellL h.hd hL
  · rw [pos_snoc]
    have h2 := h.ch
    rw [List.append_assoc] at h2
    exact cellN h2.blk hL hx
theorem lastAt_app (p q : List Nd) (L : Nat) : lastAt (p ++ q) L = (lastAt q L).or (lastAt p L) := by
  induction p with
  | nil => cases h : lastAt q L <;> simp [lastAt, h]
  | cons x r ih =>
    rw [List.cons_append, lastAt, ih, lastAt]
    cases h1 : lastAt q L <;> cases h2 : lastAt r L <;> simp
theorem lastAt_pos {g L : Nat} {d r : List Nd} (hd : Reach d L) (hr : first r L = none) : (lastAt (d ++ r) L).getD g = pos g d := by
  rw [lastAt_app, (first_none_iff r L).1 hr]
  rcases hd with rfl | ⟨d', x, rfl, hx⟩
  · rfl
  · rw [pos_snoc, lastAt_app]
    simp [lastAt, hx]
/-- What stands in the array that is found: on each level above L the last node. -/
def oc (g : Nat) (pre : List Nd) (L : Int) (i : Nat) : Value := if L < (i : Int) then .pointer (some ⟨(lastAt pre i).getD g, 0, none⟩) else .pointer none
def outA (g : Nat) (pre : List Nd) (L : Int) : Array Value := #[oc g pre L 0, oc g pre L 1, oc g pre L 2, oc g pre L 3, oc g pre L 4, oc g pre L 5, oc g pre L 6, oc g pre L 7]
theorem outA_start (g : Nat) (pre : List Nd) : outA g pre 7 = #[.pointer none, .pointer none, .pointer none, .pointer none, .pointer none, .pointer none, .pointer none, .pointer none] := by simp [outA, oc]
theorem outA_set (g : Nat) (pre : List Nd) {L : Nat} (hL : L < 8) : (outA g pre (L : Int)).setIfInBounds L (.pointer (some ⟨(lastAt pre L).getD g, 0, none⟩)) = outA g pre ((L : Int) - 1) := by
  have g1 : ∀ i : Nat, i ≠ L → oc g pre (L : Int) i = oc g pre ((L : Int) - 1) i := fun i hi => by
    unfold oc
    by_cases h : (L : Int) < (i : Int)
    · rw [if_pos h, if_pos (by omega)]
    · rw [if_neg h, if_neg (by omega)]
  have g2 : oc g pre ((L : Int) - 1) L = .pointer (some ⟨(lastAt pre L).getD g, 0, none⟩) := by unfold oc; rw [if_pos (by omega)]
  rw [← g2]
  match L, hL with
  | 0, _ => simp only [outA, g1 1 (by omega), g1 2 (by omega), g1 3 (by omega), g1 4 (by omega), g1 5 (by omega), g1 6 (by omega), g1 7 (by omega)]; rfl
  | 1, _ => simp only [outA, g1 0 (by omega), g1 2 (by omega), g1 3 (by omega), g1 4 (by omega), g1 5 (by omega), g1 6 (by omega), g1 7 (by omega)]; rfl
  | 2, _ => simp only [outA, g1 0 (by omega), g1 1 (by omega), g1 3 (by omega), g1 4 (by omega), g1 5 (by omega), g1 6 (by omega), g1 7 (by omega)]; rfl
  | 3, _ => simp only [outA, g1 0 (by omega), g1 1 (by omega), g1 2 (by omega), g1 4 (by omega), g1 5 (by omega), g1 6 (by omega), g1 7 (by omega)]; rfl
  | 4, _ => simp only [outA, g1 0 (by omega), g1 1 (by omega), g1 2 (by omega), g1 3 (by omega), g1 5 (by omega), g1 6 (by omega), g1 7 (by omega)]; rfl
  | 5, _ => simp only [outA, g1 0 (by omega), g1 1 (by omega), g1 2 (by omega), g1 3 (by omega), g1 4 (by omega), g1 6 (by omega), g1 7 (by omega)]; rfl
  | 6, _ => simp only [outA, g1 0 (by omega), g1 1 (by omega), g1 2 (by omega), g1 3 (by omega), g1 4 (by omega), g1 5 (by omega), g1 7 (by omega)]; rfl
  | 7, _ => simp only [outA, g1 0 (by omega), g1 1 (by omega), g1 2 (by omega), g1 3 (by omega), g1 4 (by omega), g1 5 (by omega), g1 6 (by omega)]; rfl
theorem oc_cell {V : World} {b g : Nat} {pre : List Nd} {L : Int} (h : V.heap[b]? = some (.cells (outA g pre L) 85 (0, 0))) {M : Nat} (hM : M < 8) : V.cell? ⟨b, M, none⟩ = some (oc g pre L M) := by
  match M, hM with
  | 0, _ => exact (blk_cell h 0).trans rfl
  | 1, _ => exact (blk_cell h 1).trans rfl
  | 2, _ => exact (blk_cell h 2).trans rfl
  | 3, _ => exact (blk_cell h 3).trans rfl
  | 4, _ => exact (blk_cell h 4).trans rfl
  | 5, _ => exact (blk_cell h 5).trans rfl
  | 6, _ => exact (blk_cell h 6).trans rfl
  | 7, _ => exact (blk_cell h 7).trans rfl
def outs (g : Nat) (pre : List Nd) : Array Value := #[.pointer (some ⟨(lastAt pre 0).getD g, 0, none⟩), .pointer (some ⟨(lastAt pre 1).getD g, 0, none⟩), .pointer (some ⟨(lastAt pre 2).getD g, 0, none⟩), .pointer (some ⟨(lastAt pre 3).getD g, 0, none⟩), .pointer (some ⟨(lastAt pre 4).getD g, 0, none⟩), .pointer (some ⟨(lastAt pre 5).getD g, 0, none⟩), .pointer (some ⟨(lastAt pre 6).getD g, 0, none⟩), .pointer (some ⟨(lastAt pre 7).getD g, 0, none⟩)]
theorem outA_end (g : Nat) (pre : List Nd) : outA g pre (-1) = outs g pre := by simp [outA, oc, outs]
set_option maxHeartbeats 8000000 in
set_option maxRecDepth 100000 in
theorem before_put (R : Root) (w0 w : World) (g cb : Nat) (pre post : List Nd) (n t : Int) (p : E → Bool) (hI : IsL R w0 w g (pre ++ post) n t) (hp : ∀ x ∈ pre, p x.e = true) (hq : ∀ x ∈ post, p x.e = false)
    (hF : ∀ (V : World) (x : Nd), Below w.heap.size w V → x ∈ pre ++ post → Calls Try.prog 63 #[.agg #[.string (x.e).f0, .int .u64 (x.e).f1, .int .i64 (x.e).f2, .string (x.e).f3], .pointer (some ⟨cb, 0, none⟩)] V fun e w' => e = .returned (.bool (p x.e)) ∧ Below V.heap.size V w') :
    Calls Try.prog 62 #[.pointer (some ⟨g, 0, none⟩), .func (.func 63) #[] #[.pointer (some ⟨cb, 0, none⟩)]] w fun e w' => e = .returned (.agg (outs g pre)) ∧ Below w.heap.size w w' := by
  have HI := Aside0.mk hI
  have HP := Aside0.mk hp
  have HQ := Aside0.mk hq
  have HF := Aside0.mk hF
  have HB := Aside0.mk (Below.refl w.heap.size w)
  clear hI hp hq hF
  go_enter Try.func62, Try.ntmps62
  go_wp2_with (fail)
  have hs : (w.alloc (.cells #[.pointer none, .pointer none, .pointer none, .pointer none, .pointer none, .pointer none, .pointer none, .pointer none] 85)).heap.size = w.heap.size + 1 := by simp
  have HA4 : Aside0 (((w.alloc (.cells #[.pointer none, .pointer none, .pointer none, .pointer none, .pointer none, .pointer none, .pointer none, .pointer none] 85)).alloc (.cells #[.pointer none, .pointer none, .pointer none, .pointer none, .pointer none, .pointer none, .pointer none, .pointer none] 85)).heap[w.heap.size]? = some (.cells #[.pointer none, .pointer none, .pointer none, .pointer none, .pointer none, .pointer none, .pointer none, .pointer none] 85 (0, 0))) := ⟨blk_alloc (blk_new w _) _⟩
  have HA5 : Aside0 (((w.alloc (.cells #[.pointer none, .pointer none, .pointer none, .pointer none, .pointer none, .pointer none, .pointer none, .pointer none] 85)).alloc (.cells #[.pointer none, .pointer none, .pointer none, .pointer none, .pointer none, .pointer none, .pointer none, .pointer none] 85)).heap[w.heap.size + 1]? = some (.cells (outA g pre 7) 85 (0, 0))) := ⟨by rw [outA_start, ← hs]; exact blk_new _ _⟩
  have n0_ := Aside0.mk (below_alloc (below_alloc HB.out (.cells #[.pointer none, .pointer none, .pointer none, .pointer none, .pointer none, .pointer none, .pointer none, .pointer none] 85)) (.cells #[.pointer none, .pointer none, .pointer none, .pointer none, .pointer none, .pointer none, .pointer none, .pointer none] 85))
  clear HB hs
  have HB := n0_
  clear n0_
  generalize World.alloc (World.alloc w _) _ = w1 at *
  go_loopw [6, 7] (fun v6 v7 w' => ∃ (L : Int) (d r : List Nd), -1 ≤ L ∧ L ≤ 7 ∧ v6 = .pointer (some ⟨pos g d, 0, none⟩) ∧ v7 = .int .i64 L ∧ Aside0 (pre = d ++ r) ∧ Aside0 (∀ M : Nat, (M : Int) ≤ L → Reach d M) ∧ Aside0 (w'.heap[w.heap.size]? = some (.cells #[.pointer none, .pointer none, .pointer none, .pointer none, .pointer none, .pointer none, .pointer none, .pointer none] 85 (0, 0))) ∧ Aside0 (w'.heap[w.heap.size + 1]? = some (.cells (outA g pre L) 85 (0, 0))) ∧ Aside0 (Below w.heap.size w w')) (fun _ v7 _ => (intOf v7 + 1).toNat)
  case atStart => exact ⟨7, [], pre, by omega, by omega, rfl, rfl, ⟨rfl⟩, ⟨fun _ _ => Or.inl rfl⟩, HA4, HA5, HB⟩
  case round =>
    clear HA4 HA5 HB
    obtain ⟨L, d, r, hL0, hL7, rfl, rfl, HD, HRc, HA4, HA5, HB⟩ := hrel
    by_cases hL : 0 ≤ L
    · obtain ⟨M, rfl⟩ := Int.eq_ofNat_of_zero_le hL
      have hM8 : M < 8 := by omega
      have t0 : decide ((0 : Int) ≤ (M : Int)) = true := decide_eq_true hL
      have HR0 : Aside0 (Reach d M) := ⟨HRc.out M (Int.le_refl _)⟩
      clear HRc
      go_wp2_with (fail)
      go_loopg [6] r.length (fun kq v6 w' => ∃ (d r : List Nd), v6 = .pointer (some ⟨pos g d, 0, none⟩) ∧ Aside0 (r.length ≤ kq) ∧ Aside0 (pre = d ++ r) ∧ Aside0 (Reach d M) ∧ Aside0 (w'.heap[w.heap.size]? = some (.cells #[.pointer none, .pointer none, .pointer none, .pointer none, .pointer none, .pointer none, .pointer none, .pointer none] 85 (0, 0))) ∧ Aside0 (w'.heap[w.heap.size + 1]? = some (.cells (outA g pre M) 85 (0, 0))) ∧ Aside0 (Below w.heap.size w w'))
      case atStart => exact ⟨d, r, rfl, ⟨Nat.le_refl _⟩, HD, HR0, HA4, HA5, HB⟩
      case round =>
        clear HD HR0 HA4 HA5 HB
        obtain ⟨d, r, rfl, HG, HD, HR0, HA4, HA5, HB⟩ := hrel
        have HI1 : Aside0 (IsL R w0 wr g (d ++ (r ++ post)) n t) := ⟨by rw [← List.append_assoc, ← HD.out]; exact HI.out.below HB.out⟩
        have y0 := HI1.out.next hM8 HR0.out
        have q0 : (0 : Int) ≤ (M : Int) := hL
        have q1 : (M : Int) < 8 := by omega
        rcases hf : first r M with _ | yb
        · rcases hg : first post M with _ | yb
          · rw [first_app, hf, hg] at y0
            have y1 : wr.cell? ⟨pos g d, 4 + M, none⟩ = some (.pointer none) := y0
            clear y0
            have c5 := oc_cell HA5.out hM8
            have f5 := blk_frozen HA5.out M
            have HLP := Aside0.mk (lastAt_pos (g := g) HR0.out hf)
            clear hf hg
            go_wp2_with (fail)
            go_roundw
            case rel => exact ⟨(M : Int) - 1, d, r, by omega, by omega, rfl, by go_num, HD, ⟨fun K hK => HR0.out.down (by omega)⟩, ⟨blk_far HA4.out (by show w.heap.size ≠ w.heap.size + 1; omega) _⟩, ⟨by rw [← outA_set g pre hM8, ← HLP.out, ← HD.out]; exact blk_put HA5.out M _ rfl⟩, ⟨below_set HB.out (by omega)⟩⟩
            case measure => first | (simp [intOf]; done) | (simp [intOf]; omega)
          · obtain ⟨p1, y, p2, hpe, rfl, hy, hp1⟩ := first_mem hg
            have HY : Aside0 (y ∈ post) := ⟨by rw [hpe]; simp⟩
            rw [first_app, hf, hg] at y0
            have y1 : wr.cell? ⟨pos g d, 4 + M, none⟩ = some (.pointer (some ⟨y.b, 0, none⟩)) := y0
            have hch : Ch wr ((d ++ (r ++ p1)) ++ y :: p2) := by have h2 := HI1.out.ch; rw [hpe] at h2; simpa using h2
            have z0 : wr.cell? ⟨y.b, 0, none⟩ = some (.string y.e.f0) := (blk_cell hch.blk 0).trans rfl
            have z1 : wr.cell? ⟨y.b, 1, none⟩ = some (.int .u64 y.e.f1) := (blk_cell hch.blk 1).trans rfl
            have z2 : wr.cell? ⟨y.b, 2, none⟩ = some (.int .i64 y.e.f2) := (blk_cell hch.blk 2).trans rfl
            have z3 : wr.cell? ⟨y.b, 3, none⟩ = some (.string y.e.f3) := (blk_cell hch.blk 3).trans rfl
            have HPY : Aside0 (p y.e = false) := ⟨HQ.out y HY.out⟩
            have HLP := Aside0.mk (lastAt_pos (g := g) HR0.out hf)
            clear hf hg y0 hch hpe hp1
            go_wp2_with (first | (go_at_call 63; refine (HF.out _ y HB.out (List.mem_append_right _ HY.out)).mono ?_; rintro e w6 ⟨rfl, hb⟩; rw [HPY.out]; have n0_ := Aside0.mk (blk_below HA4.out hb); have n1_ := Aside0.mk (blk_below HA5.out hb); have n2_ := Aside0.mk (below_step HB.out hb); clear HA4 HA5 HB hb y1 z0 z1 z2 z3; have HA4 := n0_; have HA5 := n1_; have HB := n2_; clear n0_ n1_ n2_; have c5 := oc_cell HA5.out hM8; have f5 := blk_frozen HA5.out M))
            go_roundw
            case rel => exact ⟨(M : Int) - 1, d, r, by omega, by omega, rfl, by go_num, HD, ⟨fun K hK => HR0.out.down (by omega)⟩, ⟨blk_far HA4.out (by show w.heap.size ≠ w.heap.size + 1; omega) _⟩, ⟨by rw [← outA_set g pre hM8, ← HLP.out, ← HD.out]; exact blk_put HA5.out M _ rfl⟩, ⟨below_set HB.out (by omega)⟩⟩
            case measure => first | (simp [intOf]; done) | (simp [intOf]; omega)
        · obtain ⟨r1, y, r2, hre, rfl, hy, hr1⟩ := first_mem hf
          have HY : Aside0 (y ∈ pre) := ⟨by rw [HD.out, hre]; simp⟩
          rw [first_app, hf] at y0
          have y1 : wr.cell? ⟨pos g d, 4 + M, none⟩ = some (.pointer (some ⟨y.b, 0, none⟩)) := y0
          have hch : Ch wr ((d ++ r1) ++ y :: (r2 ++ post)) := by have h2 := HI1.out.ch; rw [hre] at h2; simpa using h2
          have z0 : wr.cell? ⟨y.b, 0, none⟩ = some (.string y.e.f0) := (blk_cell hch.blk 0).trans rfl
          have z1 : wr.cell? ⟨y.b, 1, none⟩ = some (.int .u64 y.e.f1) := (blk_cell hch.blk 1).trans rfl
          have z2 : wr.cell? ⟨y.b, 2, none⟩ = some (.int .i64 y.e.f2) := (blk_cell hch.blk 2).trans rfl
          have z3 : wr.cell? ⟨y.b, 3, none⟩ = some (.string y.e.f3) := (blk_cell hch.blk 3).trans rfl
          have HPY : Aside0 (p y.e = true) := ⟨HP.out y HY.out⟩
          have HRE := Aside0.mk hre
          clear hf y0 hch hre hr1
          go_wp2_with (first | (go_at_call 63; refine (HF.out _ y HB.out (List.mem_append_left _ HY.out)).mono ?_; rintro e w6 ⟨rfl, hb⟩; rw [HPY.out]; have n0_ := Aside0.mk (blk_below HA4.out hb); have n1_ := Aside0.mk (blk_below HA5.out hb); have n2_ := Aside0.mk (below_step HB.out hb); have y2 := (hb.cell (World.block_lt_of_cell? _ _ y1)).trans y1; clear HA4 HA5 HB hb y1 z0 z1 z2 z3; have HA4 := n0_; have HA5 := n1_; have HB := n2_; clear n0_ n1_ n2_))
          go_roundg r2.length
          case measure =>
            have h1 := HG.out
            rw [HRE.out] at h1
            simp at h1
            omega
          case rel => exact ⟨d ++ r1 ++ [y], r2, by rw [pos_snoc], ⟨Nat.le_refl _⟩, ⟨by rw [HD.out, HRE.out]; simp⟩, ⟨Or.inr ⟨d ++ r1, y, rfl, hy⟩⟩, HA4, HA5, HB⟩
    · have hLe : L = -1 := by omega
      subst hLe
      rw [outA_end] at HA5
      have s0 : wr.cell? ⟨w.heap.size + 1, 0, none⟩ = some (.pointer (some ⟨(lastAt pre 0).getD g, 0, none⟩)) := (blk_cell HA5.out 0).trans rfl
      have r0 : wr.cell? ⟨w.heap.size, 0, none⟩ = some (.pointer none) := (blk_cell HA4.out 0).trans rfl
      have f0 := blk_frozen HA4.out 0
      have s1 : wr.cell? ⟨w.heap.size + 1, 1, none⟩ = some (.pointer (some ⟨(lastAt pre 1).getD g, 0, none⟩)) := (blk_cell HA5.out 1).trans rfl
      have r1 : wr.cell? ⟨w.heap.size, 1, none⟩ = some (.pointer none) := (blk_cell HA4.out 1).trans rfl
      have f1 := blk_frozen HA4.out 1
      have s2 : wr.cell? ⟨w.heap.size + 1, 2, none⟩ = some (.pointer (some ⟨(lastAt pre 2).getD g, 0, none⟩)) := (blk_cell HA5.out 2).trans rfl
      have r2 : wr.cell? ⟨w.heap.size, 2, none⟩ = some (.pointer none) := (blk_cell HA4.out 2).trans rfl
      have f2 := blk_frozen HA4.out 2
      have s3 : wr.cell? ⟨w.heap.size + 1, 3, none⟩ = some (.pointer (some ⟨(lastAt pre 3).getD g, 0, none⟩)) := (blk_cell HA5.out 3).trans rfl
      have r3 : wr.cell? ⟨w.heap.size, 3, none⟩ = some (.pointer none) := (blk_cell HA4.out 3).trans rfl
      have f3 := blk_frozen HA4.out 3
      have s4 : wr.cell? ⟨w.heap.size + 1, 4, none⟩ = some (.pointer (some ⟨(lastAt pre 4).getD g, 0, none⟩)) := (blk_cell HA5.out 4).trans rfl
      have r4 : wr.cell? ⟨w.heap.size, 4, none⟩ = some (.pointer none) := (blk_cell HA4.out 4).trans rfl
      have f4 := blk_frozen HA4.out 4
      have s5 : wr.cell? ⟨w.heap.size + 1, 5, none⟩ = some (.pointer (some ⟨(lastAt pre 5).getD g, 0, none⟩)) := (blk_cell HA5.out 5).trans rfl
      have r5 : wr.cell? ⟨w.heap.size, 5, none⟩ = some (.pointer none) := (blk_cell HA4.out 5).trans rfl
      have f5 := blk_frozen HA4.out 5
      have s6 : wr.cell? ⟨w.heap.size + 1, 6, none⟩ = some (.pointer (some ⟨(lastAt pre 6).getD g, 0, none⟩)) := (blk_cell HA5.out 6).trans rfl
      have r6 : wr.cell? ⟨w.heap.size, 6, none⟩ = some (.pointer none) := (blk_cell HA4.out 6).trans rfl
      have f6 := blk_frozen HA4.out 6
      have s7 : wr.cell? ⟨w.heap.size + 1, 7, none⟩ = some (.pointer (some ⟨(lastAt pre 7).getD g, 0, none⟩)) := (blk_cell HA5.out 7).trans rfl
      have r7 : wr.cell? ⟨w.heap.size, 7, none⟩ = some (.pointer none) := (blk_cell HA4.out 7).trans rfl
      have f7 := blk_frozen HA4.out 7
      go_wp2_with (fail)
      refine bodyPost_ret (results_cell_row rfl _ _ w.heap.size 85 (outs g pre) (0, 0) _ rfl (blk_put (blk_put (blk_put (blk_put (blk_put (blk_put (blk_put (blk_put (HA4.out) 0 _ rfl) 1 _ rfl) 2 _ rfl) 3 _ rfl) 4 _ rfl) 5 _ rfl) 6 _ rfl) 7 _ rfl) Try.underlying85 rfl (by kernel_rfl)) rfl ?_
      exact ⟨rfl, below_set (below_set (below_set (below_set (below_set (below_set (below_set (below_set (HB.out) (Nat.le_refl _)) (Nat.le_refl _)) (Nat.le_refl _)) (Nat.le_refl _)) (Nat.le_refl _)) (Nat.le_refl _)) (Nat.le_refl _)) (Nat.le_refl _)⟩
set_option maxHeartbeats 8000000 in
set_option maxRecDepth 100000 in
theorem before_first (R : Root) (w0 w : World) (g cb : Nat) (pre post : List Nd) (n t : Int) (p : E → Bool) (hI : IsL R w0 w g (pre ++ post) n t) (hp : ∀ x ∈ pre, p x.e = true) (hq : ∀ x ∈ post, p x.e = false)
    (hF : ∀ (V : World) (x : Nd), Below w.heap.size w V → x ∈ pre ++ post → Calls Try.prog 83 #[.agg #[.string (x.e).f0, .int .u64 (x.e).f1, .int .i64 (x.e).f2, .string (x.e).f3], .pointer (some ⟨cb, 0, none⟩)] V fun e w' => e = .returned (.bool (p x.e)) ∧ Below V.heap.size V w') :
    Calls Try.prog 62 #[.pointer (some ⟨g, 0, none⟩), .func (.func 83) #[] #[.pointer (some ⟨cb, 0, none⟩)]] w fun e w' => e = .returned (.agg (outs g pre)) ∧ Below w.heap.size w w' := by
  have HI := Aside0.mk hI
  have HP := Aside0.mk hp
  have HQ := Aside0.mk hq
  have HF := Aside0.mk hF
  have HB := Aside0.mk (Below.refl w.heap.size w)
  clear hI hp hq hF
  go_enter Try.func62, Try.ntmps62
  go_wp2_with (fail)
  have hs : (w.alloc (.cells #[.pointer none, .pointer none, .pointer none, .pointer none, .pointer none, .pointer none, .pointer none, .pointer none] 85)).heap.size = w.heap.size + 1 := by simp
  have HA4 : Aside0 (((w.alloc (.cells #[.pointer none, .pointer none, .pointer none, .pointer none, .pointer none, .pointer none, .pointer none, .pointer none] 85)).alloc (.cells #[.pointer none, .pointer none, .pointer none, .pointer none, .pointer none, .pointer none, .pointer none, .pointer none] 85)).heap[w.heap.size]? = some (.cells #[.pointer none, .pointer none, .pointer none, .pointer none, .pointer none, .pointer none, .pointer none, .pointer none] 85 (0, 0))) := ⟨blk_alloc (blk_new w _) _⟩
  have HA5 : Aside0 (((w.alloc (.cells #[.pointer none, .pointer none, .pointer none, .pointer none, .pointer none, .pointer none, .pointer none, .pointer none] 85)).alloc (.cells #[.pointer none, .pointer none, .pointer none, .pointer none, .pointer none, .pointer none, .pointer none, .pointer none] 85)).heap[w.heap.size + 1]? = some (.cells (outA g pre 7) 85 (0, 0))) := ⟨by rw [outA_start, ← hs]; exact blk_new _ _⟩
  have n0_ := Aside0.mk (below_alloc (below_alloc HB.out (.cells #[.pointer none, .pointer none, .pointer none, .pointer none, .pointer none, .pointer none, .pointer none, .pointer none] 85)) (.cells #[.pointer none, .pointer none, .pointer none, .pointer none, .pointer none, .pointer none, .pointer none, .pointer none] 85))
  clear HB hs
  have HB := n0_
  clear n0_
  generalize World.alloc (World.alloc w _) _ = w1 at *
  go_loopw [6, 7] (fun v6 v7 w' => ∃ (L : Int) (d r : List Nd), -1 ≤ L ∧ L ≤ 7 ∧ v6 = .pointer (some ⟨pos g d, 0, none⟩) ∧ v7 = .int .i64 L ∧ Aside0 (pre = d ++ r) ∧ Aside0 (∀ M : Nat, (M : Int) ≤ L → Reach d M) ∧ Aside0 (w'.heap[w.heap.size]? = some (.cells #[.pointer none, .pointer none, .pointer none, .pointer none, .pointer none, .pointer none, .pointer none, .pointer none] 85 (0, 0))) ∧ Aside0 (w'.heap[w.heap.size + 1]? = some (.cells (outA g pre L) 85 (0, 0))) ∧ Aside0 (Below w.heap.size w w')) (fun _ v7 _ => (intOf v7 + 1).toNat)
  case atStart => exact ⟨7, [], pre, by omega, by omega, rfl, rfl, ⟨rfl⟩, ⟨fun _ _ => Or.inl rfl⟩, HA4, HA5, HB⟩
  case round =>
    clear HA4 HA5 HB
    obtain ⟨L, d, r, hL0, hL7, rfl, rfl, HD, HRc, HA4, HA5, HB⟩ := hrel
    by_cases hL : 0 ≤ L
    · obtain ⟨M, rfl⟩ := Int.eq_ofNat_of_zero_le hL
      have hM8 : M < 8 := by omega
      have t0 : decide ((0 : Int) ≤ (M : Int)) = true := decide_eq_true hL
      have HR0 : Aside0 (Reach d M) := ⟨HRc.out M (Int.le_refl _)⟩
      clear HRc
      go_wp2_with (fail)
      go_loopg [6] r.length (fun kq v6 w' => ∃ (d r : List Nd), v6 = .pointer (some ⟨pos g d, 0, none⟩) ∧ Aside0 (r.length ≤ kq) ∧ Aside0 (pre = d ++ r) ∧ Aside0 (Reach d M) ∧ Aside0 (w'.heap[w.heap.size]? = some (.cells #[.pointer none, .pointer none, .pointer none, .pointer none, .pointer none, .pointer none, .pointer none, .pointer none] 85 (0, 0))) ∧ Aside0 (w'.heap[w.heap.size + 1]? = some (.cells (outA g pre M) 85 (0, 0))) ∧ Aside0 (Below w.heap.size w w'))
      case atStart => exact ⟨d, r, rfl, ⟨Nat.le_refl _⟩, HD, HR0, HA4, HA5, HB⟩
      case round =>
        clear HD HR0 HA4 HA5 HB
        obtain ⟨d, r, rfl, HG, HD, HR0, HA4, HA5, HB⟩ := hrel
        have HI1 : Aside0 (IsL R w0 wr g (d ++ (r ++ post)) n t) := ⟨by rw [← List.append_assoc, ← HD.out]; exact HI.out.below HB.out⟩
        have y0 := HI1.out.next hM8 HR0.out
        have q0 : (0 : Int) ≤ (M : Int) := hL
        have q1 : (M : Int) < 8 := by omega
        rcases hf : first r M with _ | yb
        · rcases hg : first post M with _ | yb
          · rw [first_app, hf, hg] at y0
            have y1 : wr.cell? ⟨pos g d, 4 + M, none⟩ = some (.pointer none) := y0
            clear y0
            have c5 := oc_cell HA5.out hM8
            have f5 := blk_frozen HA5.out M
            have HLP := Aside0.mk (lastAt_pos (g := g) HR0.out hf)
            clear hf hg
            go_wp2_with (fail)
            go_roundw
            case rel => exact ⟨(M : Int) - 1, d, r, by omega, by omega, rfl, by go_num, HD, ⟨fun K hK => HR0.out.down (by omega)⟩, ⟨blk_far HA4.out (by show w.heap.size ≠ w.heap.size + 1; omega) _⟩, ⟨by rw [← outA_set g pre hM8, ← HLP.out, ← HD.out]; exact blk_put HA5.out M _ rfl⟩, ⟨below_set HB.out (by omega)⟩⟩
            case measure => first | (simp [intOf]; done) | (simp [intOf]; omega)
          · obtain ⟨p1, y, p2, hpe, rfl, hy, hp1⟩ := first_mem hg
            have HY : Aside0 (y ∈ post) := ⟨by rw [hpe]; simp⟩
            rw [first_app, hf, hg] at y0
            have y1 : wr.cell? ⟨pos g d, 4 + M, none⟩ = some (.pointer (some ⟨y.b, 0, none⟩)) := y0
            have hch : Ch wr ((d ++ (r ++ p1)) ++ y :: p2) := by have h2 := HI1.out.ch; rw [hpe] at h2; simpa using h2
            have z0 : wr.cell? ⟨y.b, 0, none⟩ = some (.string y.e.f0) := (blk_cell hch.blk 0).trans rfl
            have z1 : wr.cell? ⟨y.b, 1, none⟩ = some (.int .u64 y.e.f1) := (blk_cell hch.blk 1).trans rfl
            have z2 : wr.cell? ⟨y.b, 2, none⟩ = some (.int .i64 y.e.f2) := (blk_cell hch.blk 2).trans rfl
            have z3 : wr.cell? ⟨y.b, 3, none⟩ = some (.string y.e.f3) := (blk_cell hch.blk 3).trans rfl
            have HPY : Aside0 (p y.e = false) := ⟨HQ.out y HY.out⟩
            have HLP := Aside0.mk (lastAt_pos (g := g) HR0.out hf)
            clear hf hg y0 hch hpe hp1
            go_wp2_with (first | (go_at_call 83; refine (HF.out _ y HB.out (List.mem_append_right _ HY.out)).mono ?_; rintro e w6 ⟨rfl, hb⟩; rw [HPY.out]; have n0_ := Aside0.mk (blk_below HA4.out hb); have n1_ := Aside0.mk (blk_below HA5.out hb); have n2_ := Aside0.mk (below_step HB.out hb); clear HA4 HA5 HB hb y1 z0 z1 z2 z3; have HA4 := n0_; have HA5 := n1_; have HB := n2_; clear n0_ n1_ n2_; have c5 := oc_cell HA5.out hM8; have f5 := blk_frozen HA5.out M))
            go_roundw
            case rel => exact ⟨(M : Int) - 1, d, r, by omega, by omega, rfl, by go_num, HD, ⟨fun K hK => HR0.out.down (by omega)⟩, ⟨blk_far HA4.out (by show w.heap.size ≠ w.heap.size + 1; omega) _⟩, ⟨by rw [← outA_set g pre hM8, ← HLP.out, ← HD.out]; exact blk_put HA5.out M _ rfl⟩, ⟨below_set HB.out (by omega)⟩⟩
            case measure => first | (simp [intOf]; done) | (simp [intOf]; omega)
        · obtain ⟨r1, y, r2, hre, rfl, hy, hr1⟩ := first_mem hf
          have HY : Aside0 (y ∈ pre) := ⟨by rw [HD.out, hre]; simp⟩
          rw [first_app, hf] at y0
          have y1 : wr.cell? ⟨pos g d, 4 + M, none⟩ = some (.pointer (some ⟨y.b, 0, none⟩)) := y0
          have hch : Ch wr ((d ++ r1) ++ y :: (r2 ++ post)) := by have h2 := HI1.out.ch; rw [hre] at h2; simpa using h2
          have z0 : wr.cell? ⟨y.b, 0, none⟩ = some (.string y.e.f0) := (blk_cell hch.blk 0).trans rfl
          have z1 : wr.cell? ⟨y.b, 1, none⟩ = some (.int .u64 y.e.f1) := (blk_cell hch.blk 1).trans rfl
          have z2 : wr.cell? ⟨y.b, 2, none⟩ = some (.int .i64 y.e.f2) := (blk_cell hch.blk 2).trans rfl
          have z3 : wr.cell? ⟨y.b, 3, none⟩ = some (.string y.e.f3) := (blk_cell hch.blk 3).trans rfl
          have HPY : Aside0 (p y.e = true) := ⟨HP.out y HY.out⟩
          have HRE := Aside0.mk hre
          clear hf y0 hch hre hr1
          go_wp2_with (first | (go_at_call 83; refine (HF.out _ y HB.out (List.mem_append_left _ HY.out)).mono ?_; rintro e w6 ⟨rfl, hb⟩; rw [HPY.out]; have n0_ := Aside0.mk (blk_below HA4.out hb); have n1_ := Aside0.mk (blk_below HA5.out hb); have n2_ := Aside0.mk (below_step HB.out hb); have y2 := (hb.cell (World.block_lt_of_cell? _ _ y1)).trans y1; clear HA4 HA5 HB hb y1 z0 z1 z2 z3; have HA4 := n0_; have HA5 := n1_; have HB := n2_; clear n0_ n1_ n2_))
          go_roundg r2.length
          case measure =>
            have h1 := HG.out
            rw [HRE.out] at h1
            simp at h1
            omega
          case rel => exact ⟨d ++ r1 ++ [y], r2, by rw [pos_snoc], ⟨Nat.le_refl _⟩, ⟨by rw [HD.out, HRE.out]; simp⟩, ⟨Or.inr ⟨d ++ r1, y, rfl, hy⟩⟩, HA4, HA5, HB⟩
    · have hLe : L = -1 := by omega
      subst hLe
      rw [outA_end] at HA5
      have s0 : wr.cell? ⟨w.heap.size + 1, 0, none⟩ = some (.pointer (some ⟨(lastAt pre 0).getD g, 0, none⟩)) := (blk_cell HA5.out 0).trans rfl
      have r0 : wr.cell? ⟨w.heap.size, 0, none⟩ = some (.pointer none) := (blk_cell HA4.out 0).trans rfl
      have f0 := blk_frozen HA4.out 0
      have s1 : wr.cell? ⟨w.heap.size + 1, 1, none⟩ = some (.pointer (some ⟨(lastAt pre 1).getD g, 0, none⟩)) := (blk_cell HA5.out 1).trans rfl
      have r1 : wr.cell? ⟨w.heap.size, 1, none⟩ = some (.pointer none) := (blk_cell HA4.out 1).trans rfl
      have f1 := blk_frozen HA4.out 1
      have s2 : wr.cell? ⟨w.heap.size + 1, 2, none⟩ = some (.pointer (some ⟨(lastAt pre 2).getD g, 0, none⟩)) := (blk_cell HA5.out 2).trans rfl
      have r2 : wr.cell? ⟨w.heap.size, 2, none⟩ = some (.pointer none) := (blk_cell HA4.out 2).trans rfl
      have f2 := blk_frozen HA4.out 2
      have s3 : wr.cell? ⟨w.heap.size + 1, 3, none⟩ = some (.pointer (some ⟨(lastAt pre 3).getD g, 0, none⟩)) := (blk_cell HA5.out 3).trans rfl
      have r3 : wr.cell? ⟨w.heap.size, 3, none⟩ = some (.pointer none) := (blk_cell HA4.out 3).trans rfl
      have f3 := blk_frozen HA4.out 3
      have s4 : wr.cell? ⟨w.heap.size + 1, 4, none⟩ = some (.pointer (some ⟨(lastAt pre 4).getD g, 0, none⟩)) := (blk_cell HA5.out 4).trans rfl
      have r4 : wr.cell? ⟨w.heap.size, 4, none⟩ = some (.pointer none) := (blk_cell HA4.out 4).trans rfl
      have f4 := blk_frozen HA4.out 4
      have s5 : wr.cell? ⟨w.heap.size + 1, 5, none⟩ = some (.pointer (some ⟨(lastAt pre 5).getD g, 0, none⟩)) := (blk_cell HA5.out 5).trans rfl
      have r5 : wr.cell? ⟨w.heap.size, 5, none⟩ = some (.pointer none) := (blk_cell HA4.out 5).trans rfl
      have f5 := blk_frozen HA4.out 5
      have s6 : wr.cell? ⟨w.heap.size + 1, 6, none⟩ = some (.pointer (some ⟨(lastAt pre 6).getD g, 0, none⟩)) := (blk_cell HA5.out 6).trans rfl
      have r6 : wr.cell? ⟨w.heap.size, 6, none⟩ = some (.pointer none) := (blk_cell HA4.out 6).trans rfl
      have f6 := blk_frozen HA4.out 6
      have s7 : wr.cell? ⟨w.heap.size + 1, 7, none⟩ = some (.pointer (some ⟨(lastAt pre 7).getD g, 0, none⟩)) := (blk_cell HA5.out 7).trans rfl
      have r7 : wr.cell? ⟨w.heap.size, 7, none⟩ = some (.pointer none) := (blk_cell HA4.out 7).trans rfl
      have f7 := blk_frozen HA4.out 7
      go_wp2_with (fail)
      refine bodyPost_ret (results_cell_row rfl _ _ w.heap.size 85 (outs g pre) (0, 0) _ rfl (blk_put (blk_put (blk_put (blk_put (blk_put (blk_put (blk_put (blk_put (HA4.out) 0 _ rfl) 1 _ rfl) 2 _ rfl) 3 _ rfl) 4 _ rfl) 5 _ rfl) 6 _ rfl) 7 _ rfl) Try.underlying85 rfl (by kernel_rfl)) rfl ?_
      exact ⟨rfl, below_set (below_set (below_set (below_set (below_set (below_set (below_set (below_set (HB.out) (Nat.le_refl _)) (Nat.le_refl _)) (Nat.le_refl _)) (Nat.le_refl _)) (Nat.le_refl _)) (Nat.le_refl _)) (Nat.le_refl _)) (Nat.le_refl _)⟩
end Go.Proofs.Ytchgpcgolgcfdaa.Rk
