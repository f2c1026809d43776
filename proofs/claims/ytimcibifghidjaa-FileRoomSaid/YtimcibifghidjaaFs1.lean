/- The small methods of a file system. -/
import Derived.Test.YtimcibifghidjaaFsM
import Derived.Test.YtimcibifghidjaaShelf
import Derived.Test.YtimcibifghidjaaWN
import Derived.Test.YtimcibifghidjaaWAt
import Derived.WalkKit
import Derived.Carry
import Derived.BigRegion
import Derived.BigQuiet
import Derived.Outline
import Derived.StillTailTactics
import Derived.Test.YtimcibifghidjaaPFilx1
namespace Go.Proofs.Ytimcibifghidjaa.Fs
open Go Go.RowKit Go.Maps Go.Proofs.Ytimcibifghidjaa.PFil Go.Proofs.Ytimcibifghidjaa.FsM Go.Proofs.YtimcibifghidjaaW.PrintWords Go.Proofs.YtimcibifghidjaaW.PrintLast Go.Proofs.YtimcibifghidjaaW.PrintMore
set_option linter.unusedVariables false
set_option linter.unusedSimpArgs false
set_option maxHeartbeats 8000000 in
set_option maxRecDepth 100000 in
theorem off_calls {w0 w : World} {g ma ms : Nat} {vp : Value} {S : Sy} (h : Fx w0 w g ma ms vp S) :
    Calls Try.prog 32 #[.pointer (some ⟨g, 0, none⟩)] w fun e w' => e = .returned (.bool (!S.on)) ∧ w' = w := by
  obtain ⟨_, c1, _⟩ := h.cells
  clear h
  go_enter Try.func32, Try.ntmps32
  go_wp2_with (fail)
  go_ret
  exact ⟨rfl, rfl⟩
set_option maxHeartbeats 8000000 in
set_option maxRecDepth 100000 in
theorem off_nil (w : World) :
    Calls Try.prog 32 #[.pointer none] w fun e w' => e = .returned (.bool true) ∧ w' = w := by
  go_enter Try.func32, Try.ntmps32
  go_wp2_with (fail)
  go_ret
  exact ⟨rfl, rfl⟩
/-- Only block g may have turned. -/
def Kg (w w' : World) (g : Nat) : Prop := w'.heap.size = w.heap.size ∧ ∀ k, k ≠ g → w'.heap[k]? = w.heap[k]?
theorem Kg.refl (w : World) (g : Nat) : Kg w w g := ⟨rfl, fun _ _ => rfl⟩
theorem Kg.set {a b : World} {g i : Nat} {u : Value} (h : Kg a b g) : Kg a (b.setCell ⟨g, i, none⟩ u) g := ⟨by simpa using h.1, fun k hk => (Below.heap_setCell b ⟨g, i, none⟩ u k hk).trans (h.2 k hk)⟩
theorem Kg.trans {a b c : World} {g : Nat} (h : Kg a b g) (k : Kg b c g) : Kg a c g := ⟨k.1.trans h.1, fun i hi => (k.2 i hi).trans (h.2 i hi)⟩
/-- What a counter makes of a thing: is it the one? -/
def goesC (s : Bool) (l : Int) : Bool × Bool × Int := if s = true then (if 0 < l then (false, true, l - 1) else (true, false, l)) else (false, s, l)
def opS (S : Sy) : Sy × Bool := if (goesC S.fs S.fl).1 = true then ({S with steps := min (S.steps + 1) 4611686018427387904, on := false, fs := false, fl := 0}, true) else ({S with steps := min (S.steps + 1) 4611686018427387904, fs := (goesC S.fs S.fl).2.1, fl := (goesC S.fs S.fl).2.2}, false)
set_option maxHeartbeats 8000000 in
set_option maxRecDepth 100000 in
theorem goes_no (w : World) (g o : Nat) (l : Int) (c0 : w.cell? ⟨g, o, none⟩ = some (.bool false)) :
    Calls Try.prog 50 #[.pointer (some ⟨g, o, none⟩)] w fun e w' => e = .returned (.bool false) ∧ w' = w := by
  go_enter Try.func50, Try.ntmps50
  go_wp2_with (fail)
  go_ret
  exact ⟨rfl, rfl⟩
set_option maxHeartbeats 8000000 in
set_option maxRecDepth 100000 in
theorem goes_down (w : World) (g o : Nat) (l : Int) (c0 : w.cell? ⟨g, o, none⟩ = some (.bool true)) (c1 : w.cell? ⟨g, o + 1, none⟩ = some (.int .i64 l)) (f1 : w.frozen? ⟨g, o + 1, none⟩ = false) (hl : 0 < l ∧ l ≤ 9223372036854775807) :
    Calls Try.prog 50 #[.pointer (some ⟨g, o, none⟩)] w fun e w' => e = .returned (.bool false) ∧ w' = w.setCell ⟨g, o + 1, none⟩ (.int .i64 (l - 1)) := by
  have hw : IntKind.i64.wrap (l - 1) = l - 1 := by rw [IntKind.wrap_i64]; omega
  have d0 : decide (0 < l) = true := decide_eq_true hl.1
  go_enter Try.func50, Try.ntmps50
  go_wp2_with (fail)
  go_ret
  exact ⟨rfl, rfl⟩
set_option maxHeartbeats 8000000 in
set_option maxRecDepth 100000 in
theorem goes_hit (w : World) (g o : Nat) (l : Int) (c0 : w.cell? ⟨g, o, none⟩ = some (.bool true)) (c1 : w.cell? ⟨g, o + 1, none⟩ = some (.int .i64 l)) (f0 : w.frozen? ⟨g, o, none⟩ = false) (hl : ¬ 0 < l) :
    Calls Try.prog 50 #[.pointer (some ⟨g, o, none⟩)] w fun e w' => e = .returned (.bool true) ∧ w' = w.setCell ⟨g, o, none⟩ (.bool false) := by
  have d0 : decide (0 < l) = false := decide_eq_false hl
  go_enter Try.func50, Try.ntmps50
  go_wp2_with (fail)
  go_ret
  exact ⟨rfl, rfl⟩
set_option maxHeartbeats 8000000 in
set_option maxRecDepth 100000 in
theorem new_calls (w0 w : World) (hB : Below w0.heap.size w0 w) (room : Int) :
    Calls Try.prog 12 #[.int .i64 room] w fun e w' => ∃ g, e = .returned (.pointer (some ⟨g, 0, none⟩)) ∧ IsF w0 w' g ⟨room, true, false, 0, false, 0, 0, [], [], [], []⟩ ∧ Below w.heap.size w w' := by
  have hmm := @run_makeMap Try.prog
  have HB := Aside0.mk hB
  clear hB
  go_enter Try.func12, Try.ntmps12
  go_wp2_with (fail)
  go_ret
  have hs := HB.out.size
  have e1 : (w.alloc (.map #[] 0)).heap.size = w.heap.size + 1 := by simp
  have e2 : ((w.alloc (.map #[] 0)).alloc (.map #[] 0)).heap.size = w.heap.size + 1 + 1 := by simp
  refine ⟨_, rfl, ⟨w.heap.size, w.heap.size + 1, .slice none 0 0, ?_⟩, below_alloc (below_alloc (below_alloc (Below.refl _ w) _) _) _⟩
  refine ⟨by rw [← e2]; exact blk_new _ _, ?_, ?_, by omega, Kd.R_nil _ _ _ _ _, (fun _ h => by cases h), by omega, by omega, by omega, (fun _ h => by cases h), by simp [blks], (fun _ h => by cases h), (fun _ h => by cases h), (fun _ h => by cases h)⟩
  · exact ⟨_, World.ownsMap.alloc (World.ownsMap.alloc (World.ownsMap_made w _ _ _) _) _, View.empty⟩
  · have h := World.ownsMap_made (w.alloc (.map #[] 0)) Try.prog 9 RB
    rw [e1] at h
    exact ⟨_, World.ownsMap.alloc h _, View.empty⟩
theorem goes_fuse {w0 w : World} {g ma ms : Nat} {vp : Value} {S : Sy} (h : Fx w0 w g ma ms vp S) (hB : Below w0.heap.size w0 w) (hl : S.fl ≤ 9223372036854775807) :
    Calls Try.prog 50 #[.pointer (some ⟨g, 2, none⟩)] w fun e w' => e = .returned (.bool (goesC S.fs S.fl).1) ∧ Fx w0 w' g ma ms vp {S with fs := (goesC S.fs S.fl).2.1, fl := (goesC S.fs S.fl).2.2} ∧ Below w0.heap.size w0 w' ∧ Kg w w' g := by
  obtain ⟨_, _, c2, c3, _⟩ := h.cells
  cases hfs : S.fs with
  | false =>
    rw [hfs] at c2
    refine (goes_no w g 2 S.fl c2).mono ?_
    rintro e w' ⟨rfl, rfl⟩
    exact ⟨rfl, by have : ({S with fs := (goesC false S.fl).2.1, fl := (goesC false S.fl).2.2} : Sy) = S := by cases S; simp at hfs; subst hfs; rfl
                   rw [this]; exact h, hB, Kg.refl _ _⟩
  | true =>
    rw [hfs] at c2
    by_cases h0 : 0 < S.fl
    · have e : goesC true S.fl = (false, true, S.fl - 1) := by unfold goesC; simp [h0]
      rw [e]
      refine (goes_down w g 2 S.fl c2 c3 (h.thaw 3) ⟨h0, hl⟩).mono ?_
      rintro e w' ⟨rfl, rfl⟩
      exact ⟨rfl, h.turn (i := 3) (by simp [cellsS, hfs]) rfl rfl rfl rfl, below_set hB h.gg, (Kg.refl _ _).set⟩
    · have e : goesC true S.fl = (true, false, S.fl) := by unfold goesC; simp [h0]
      rw [e]
      refine (goes_hit w g 2 S.fl c2 c3 (h.thaw 2) h0).mono ?_
      rintro e w' ⟨rfl, rfl⟩
      exact ⟨rfl, h.turn (i := 2) rfl rfl rfl rfl rfl, below_set hB h.gg, (Kg.refl _ _).set⟩
theorem goes_bad {w0 w : World} {g ma ms : Nat} {vp : Value} {S : Sy} (h : Fx w0 w g ma ms vp S) (hB : Below w0.heap.size w0 w) (hl : S.bl ≤ 9223372036854775807) :
    Calls Try.prog 50 #[.pointer (some ⟨g, 4, none⟩)] w fun e w' => e = .returned (.bool (goesC S.bs S.bl).1) ∧ Fx w0 w' g ma ms vp {S with bs := (goesC S.bs S.bl).2.1, bl := (goesC S.bs S.bl).2.2} ∧ Below w0.heap.size w0 w' ∧ Kg w w' g := by
  obtain ⟨_, _, _, _, c2, c3, _⟩ := h.cells
  cases hfs : S.bs with
  | false =>
    rw [hfs] at c2
    refine (goes_no w g 4 S.bl c2).mono ?_
    rintro e w' ⟨rfl, rfl⟩
    exact ⟨rfl, by have : ({S with bs := (goesC false S.bl).2.1, bl := (goesC false S.bl).2.2} : Sy) = S := by cases S; simp at hfs; subst hfs; rfl
                   rw [this]; exact h, hB, Kg.refl _ _⟩
  | true =>
    rw [hfs] at c2
    by_cases h0 : 0 < S.bl
    · have e : goesC true S.bl = (false, true, S.bl - 1) := by unfold goesC; simp [h0]
      rw [e]
      refine (goes_down w g 4 S.bl c2 c3 (h.thaw 5) ⟨h0, hl⟩).mono ?_
      rintro e w' ⟨rfl, rfl⟩
      exact ⟨rfl, h.turn (i := 5) (by simp [cellsS, hfs]) rfl rfl rfl rfl, below_set hB h.gg, (Kg.refl _ _).set⟩
    · have e : goesC true S.bl = (true, false, S.bl) := by unfold goesC; simp [h0]
      rw [e]
      refine (goes_hit w g 4 S.bl c2 c3 (h.thaw 4) h0).mono ?_
      rintro e w' ⟨rfl, rfl⟩
      exact ⟨rfl, h.turn (i := 4) rfl rfl rfl rfl rfl, below_set hB h.gg, (Kg.refl _ _).set⟩
set_option maxHeartbeats 8000000 in
set_option maxRecDepth 100000 in
theorem op_calls {w0 w : World} {g ma ms : Nat} {vp : Value} {S : Sy} (h : Fx w0 w g ma ms vp S) (hB : Below w0.heap.size w0 w) (hs : 0 ≤ S.steps ∧ S.steps ≤ 4611686018427387904) (hl : S.fl ≤ 9223372036854775807) :
    Calls Try.prog 41 #[.pointer (some ⟨g, 0, none⟩)] w fun e w' => e = .returned (.bool (opS S).2) ∧ Fx w0 w' g ma ms vp (opS S).1 ∧ Below w0.heap.size w0 w' ∧ Kg w w' g := by
  have H := Aside0.mk h
  have HB := Aside0.mk hB
  obtain ⟨_, c1, c2, c3, _, _, c6, _⟩ := h.cells
  have f6 := h.thaw 6
  have hw : IntKind.i64.wrap (S.steps + 1) = S.steps + 1 := by rw [IntKind.wrap_i64]; omega
  clear h hB
  have HF1 : Aside0 (Fx w0 (w.setCell ⟨g, 6, none⟩ (.int .i64 (min (S.steps + 1) 4611686018427387904))) g ma ms vp {S with steps := min (S.steps + 1) 4611686018427387904}) := ⟨H.out.turn rfl rfl rfl rfl rfl⟩
  have HB1 : Aside0 (Below w0.heap.size w0 (w.setCell ⟨g, 6, none⟩ (.int .i64 (min (S.steps + 1) 4611686018427387904)))) := ⟨below_set HB.out H.out.gg⟩
  have HO : Aside0 (opS S = if (goesC S.fs S.fl).1 = true then ({S with steps := min (S.steps + 1) 4611686018427387904, on := false, fs := false, fl := 0}, true) else ({S with steps := min (S.steps + 1) 4611686018427387904, fs := (goesC S.fs S.fl).2.1, fl := (goesC S.fs S.fl).2.2}, false)) := ⟨rfl⟩
  have HG := Aside0.mk (goes_fuse HF1.out HB1.out hl)
  have hgo : (goesC ({S with steps := min (S.steps + 1) 4611686018427387904} : Sy).fs ({S with steps := min (S.steps + 1) 4611686018427387904} : Sy).fl) = goesC S.fs S.fl := rfl
  rw [hgo] at HG
  generalize opS S = R at *
  generalize goesC S.fs S.fl = G at *
  obtain ⟨b, f', l'⟩ := G
  cases b with
  | false =>
    obtain rfl : R = ({S with steps := min (S.steps + 1) 4611686018427387904, fs := f', fl := l'}, false) := HO.out
    clear HO
    go_enter Try.func41, Try.ntmps41
    go_wp2_with (first | (go_at_call 50; refine HG.out.mono ?_; rintro e w1 ⟨rfl, hf, hb, hk⟩; have HF2 := Aside0.mk hf; have HB2 := Aside0.mk hb; have HK2 := Aside0.mk (((Kg.refl w g).set (i := 6)).trans hk); clear hk; clear hf hb))
    go_ret
    exact ⟨rfl, HF2.out, HB2.out, HK2.out⟩
  | true =>
    obtain rfl : R = ({S with steps := min (S.steps + 1) 4611686018427387904, on := false, fs := false, fl := 0}, true) := HO.out
    clear HO
    go_enter Try.func41, Try.ntmps41
    go_wp2_with (first | (go_at_call 50; refine HG.out.mono ?_; rintro e w1 ⟨rfl, hf, hb, hk⟩; have HF2 := Aside0.mk hf; have HB2 := Aside0.mk hb; have HK2 := Aside0.mk (((Kg.refl w g).set (i := 6)).trans hk); clear hk; obtain ⟨_, d1, d2, d3, _⟩ := hf.cells; have g1 := hf.thaw 1; have g2 := hf.thaw 2; have g3 := hf.thaw 3; clear hf hb))
    go_ret
    exact ⟨rfl, ((HF2.out.turn (i := 1) (u := .bool false) (S' := {S with steps := min (S.steps + 1) 4611686018427387904, on := false, fs := f', fl := l'}) rfl rfl rfl rfl rfl).turn (i := 2) (u := .bool false) (S' := {S with steps := min (S.steps + 1) 4611686018427387904, on := false, fs := false, fl := l'}) rfl rfl rfl rfl rfl).turn (i := 3) (u := .int .i64 0) rfl rfl rfl rfl rfl, below_set (below_set (below_set HB2.out H.out.gg) H.out.gg) H.out.gg, HK2.out.set.set.set⟩
end Go.Proofs.Ytimcibifghidjaa.Fs
