/- Append where bytes have just so much room. -/
import Derived.Test.YtimcibifghidjaaFs13
import Derived.Deep.RegionHeld3
namespace Go.Proofs.Ytimcibifghidjaa.Fs
open Go Go.RowKit Go.Maps Go.Sort Go.Proofs.Ytimcibifghidjaa.PFil Go.Proofs.Ytimcibifghidjaa.FsM Go.Proofs.YtimcibifghidjaaW.PrintWords Go.Proofs.YtimcibifghidjaaW.PrintLast Go.Proofs.YtimcibifghidjaaW.PrintMore
set_option linter.unusedVariables false
set_option linter.unusedSimpArgs false
theorem aOut {w0 V : World} {g : Nat} {S : Sy} (h : St w0 V g S) : V.cell? ⟨g, 0, none⟩ = some (.int .i64 S.room) ∧ Aside0 (St w0 V g S) := by
  have h' := h
  obtain ⟨⟨ma, ms, vp, hf⟩, _⟩ := h
  exact ⟨hf.cells.1, ⟨h'⟩⟩
theorem aDrew {w0 V : World} {g : Nat} {S : Sy} (h : St w0 V g S) : St w0 V.drew g S := h.below (below_drew (Below.refl _ V))
theorem s_op {w0 w : World} {g : Nat} {S : Sy} (h : St w0 w g S) (hk : Okk S) (hfs : S.fs = false) :
    Calls Try.prog 41 #[.pointer (some ⟨g, 0, none⟩)] w fun e w' => e = .returned (.bool false) ∧ St w0 w' g {S with steps := min (S.steps + 1) 4611686018427387904} := by
  obtain ⟨⟨ma, ms, vp, h1⟩, h2⟩ := h
  have h3 := op_calls h1 h2 hk.st hk.fl
  rw [opS_no hfs] at h3
  exact h3.mono (fun e w' hh => ⟨hh.1, ⟨ma, ms, vp, hh.2.1⟩, hh.2.2.1⟩)
set_option maxHeartbeats 8000000 in
set_option maxRecDepth 100000 in
theorem append_full {w0 w : World} {g : Nat} {S : Sy} (h : St w0 w g S) (hk : Okk S) (hon : S.on = true) (hfs : S.fs = false) (hr : 0 < S.room ∧ S.room ≤ 4611686018427387904) (name data : ByteArray) (hn : name.size ≤ 140737488355328) (x : Bd) (hl2 : lk S.at_ (bs name) = some x.b) (hz : sumL S.bd S.at_ ≤ 140737488355328) (hd : data.size ≤ 140737488355328) (hfull : S.room < sumL S.bd S.at_ + data.size) :
    Calls Try.prog 18 #[.pointer (some ⟨g, 0, none⟩), .string name, .string data] w fun ee w' => ee = .returned (.int .i64 10) ∧ St w0 w' g {S with steps := min (S.steps + 1) 4611686018427387904} := by
  have HJ := Aside0.mk h
  obtain ⟨⟨ma, ms, vp, hf⟩, hB⟩ := h
  have HO := Aside0.mk (off_calls hf)
  rw [hon] at HO
  have hlk := look_run hf.oa name hn
  rw [hl2] at hlk
  unfold pO at hlk
  obtain ⟨c0, _, _, _, _, _, _, c7, _⟩ := hf.cells
  have d0 : decide (0 < S.room) = true := decide_eq_true hr.1
  have hws : IntKind.i64.wrap (S.room - (sumL S.bd S.at_ : Int)) = S.room - (sumL S.bd S.at_ : Int) := by rw [IntKind.wrap_i64]; omega
  have d1 : decide (S.room - (sumL S.bd S.at_ : Int) < (data.size : Int)) = true := decide_eq_true (by omega)
  have HHZ := Aside0.mk hz
  clear hf hB hon
  go_enter Try.func18, Try.ntmps18
  go_wp2_with (first
    | (go_at_call 32; refine HO.out.mono ?_; rintro e w1 ⟨rfl, rfl⟩))
  go_region_held3 (fun V => V.cell? ⟨g, 0, none⟩ = some (.int .i64 S.room) ∧ Aside0 (St w0 V g S)) (first | exact aOut HJ.out | exact aOut (aDrew HJ.out) | exact aOut ((aDrew HJ.out).below hb)) (first | (go_at_call 22; refine (used_calls (aDrew HJ.out) HHZ.out).mono ?_; rintro e w3 ⟨rfl, hb⟩))
  have HS3 := Aside0.mk ((aDrew HJ.out).below hb)
  go_wp2_with (first
    | (go_at_call 41; refine (s_op HS3.out hk hfs).mono ?_; rintro ee w4 ⟨rfl, ht⟩; have HS4 := Aside0.mk ht; clear ht))
  go_ret
  exact ⟨rfl, HS4.out⟩
set_option maxHeartbeats 8000000 in
set_option maxRecDepth 100000 in
theorem append_fits {w0 w : World} {g : Nat} {S : Sy} (h : St w0 w g S) (hk : Okk S) (hon : S.on = true) (hfs : S.fs = false) (hr : 0 < S.room ∧ S.room ≤ 4611686018427387904) (name data : ByteArray) (hn : name.size ≤ 140737488355328) (x : Bd) (hx : x ∈ S.bd) (hl2 : lk S.at_ (bs name) = some x.b) (hz : sumL S.bd S.at_ ≤ 140737488355328) (hd : data.size ≤ 140737488355328) (hfit : sumL S.bd S.at_ + data.size ≤ S.room) (hxz : x.d.size + data.size ≤ 140737488355328) :
    Calls Try.prog 18 #[.pointer (some ⟨g, 0, none⟩), .string name, .string data] w fun ee w' => ee = .returned (.int .i64 0) ∧ St w0 w' g {S with steps := min (S.steps + 1) 4611686018427387904, bd := rep S.bd ⟨x.b, x.d ++ data, x.s⟩} := by
  have HJ := Aside0.mk h
  obtain ⟨⟨ma, ms, vp, hf⟩, hB⟩ := h
  have HO := Aside0.mk (off_calls hf)
  rw [hon] at HO
  have hlk := look_run hf.oa name hn
  rw [hl2] at hlk
  unfold pO at hlk
  obtain ⟨c0, _, _, _, _, _, _, c7, _⟩ := hf.cells
  have d0 : decide (0 < S.room) = true := decide_eq_true hr.1
  have hws : IntKind.i64.wrap (S.room - (sumL S.bd S.at_ : Int)) = S.room - (sumL S.bd S.at_ : Int) := by rw [IntKind.wrap_i64]; omega
  have d1 : decide (S.room - (sumL S.bd S.at_ : Int) < (data.size : Int)) = false := decide_eq_false (by omega)
  have HHZ := Aside0.mk hz
  clear hf hB hon
  go_enter Try.func18, Try.ntmps18
  go_wp2_with (first
    | (go_at_call 32; refine HO.out.mono ?_; rintro e w1 ⟨rfl, rfl⟩))
  go_region_held3 (fun V => V.cell? ⟨g, 0, none⟩ = some (.int .i64 S.room) ∧ Aside0 (St w0 V g S)) (first | exact aOut HJ.out | exact aOut (aDrew HJ.out) | exact aOut ((aDrew HJ.out).below hb)) (first | (go_at_call 22; refine (used_calls (aDrew HJ.out) HHZ.out).mono ?_; rintro e w3 ⟨rfl, hb⟩))
  have HS3 := Aside0.mk ((aDrew HJ.out).below hb)
  go_wp2_with (first
    | (go_at_call 41; refine (s_op HS3.out hk hfs).mono ?_; rintro ee w4 ⟨rfl, ht⟩; obtain ⟨⟨ma4, ms4, vp4, hf4⟩, hb4⟩ := ht; have y0 : w4.cell? ⟨x.b, 0, none⟩ = some (.string x.d) := (blk_cell (hf4.bd x hx) 0).trans rfl; have g0 : w4.frozen? ⟨x.b, 0, none⟩ = false := blk_frozen (hf4.bd x hx) 0; have HF4 := Aside0.mk hf4; have HB4 := Aside0.mk hb4; clear hf4 hb4))
  go_ret
  exact ⟨rfl, ⟨_, _, _, Fx.body HF4.out (i := 0) (u := .string (x.d ++ data)) x ⟨x.b, x.d ++ data, x.s⟩ hx rfl rfl⟩, below_set HB4.out (HF4.out.gb x hx)⟩
end Go.Proofs.Ytimcibifghidjaa.Fs
