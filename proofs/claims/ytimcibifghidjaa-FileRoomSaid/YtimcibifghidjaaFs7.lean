/- Append, Sync and SyncDir of a file system. -/
import Derived.Test.YtimcibifghidjaaFs6
import Derived.Deep.QuietTactic
namespace Go.Proofs.Ytimcibifghidjaa.Fs
open Go Go.RowKit Go.Maps Go.Proofs.Ytimcibifghidjaa.PFil Go.Proofs.Ytimcibifghidjaa.FsM Go.Proofs.YtimcibifghidjaaW.PrintWords Go.Proofs.YtimcibifghidjaaW.PrintLast Go.Proofs.YtimcibifghidjaaW.PrintMore
set_option linter.unusedVariables false
set_option linter.unusedSimpArgs false
theorem append_off {w0 w : World} {g ma ms : Nat} {vp : Value} {S : Sy} (h : Fx w0 w g ma ms vp S) (ho : S.on = false) (name data : ByteArray) :
    Calls Try.prog 18 #[.pointer (some ⟨g, 0, none⟩), .string name, .string data] w fun ee w' => ee = .returned (.int .i64 14) ∧ w' = w := by
  have HO := Aside0.mk (off_calls h)
  rw [ho] at HO
  clear h ho
  go_enter Try.func18, Try.ntmps18
  go_wp2_with (first | (go_at_call 32; refine HO.out.mono ?_; rintro e w1 ⟨rfl, rfl⟩))
  go_ret
  exact ⟨rfl, rfl⟩
set_option maxHeartbeats 8000000 in
set_option maxRecDepth 100000 in
theorem append_yes {w0 w : World} {g ma ms : Nat} {vp : Value} {S : Sy} (h : Fx w0 w g ma ms vp S) (hB : Below w0.heap.size w0 w) (hs : 0 ≤ S.steps ∧ S.steps ≤ 4611686018427387904) (hl : S.fl ≤ 9223372036854775807) (ho : S.on = true) (hr : S.room ≤ 0) (name data : ByteArray) (hn : name.size ≤ 140737488355328) (x : Bd) (hx : x ∈ S.bd) (hl2 : lk S.at_ (bs name) = some x.b) (hz : x.d.size + data.size ≤ 140737488355328) :
    Calls Try.prog 18 #[.pointer (some ⟨g, 0, none⟩), .string name, .string data] w fun ee w' => ee = .returned (.int .i64 (if (opS S).2 = true then 14 else 0)) ∧ Fx w0 w' g ma ms vp {(opS S).1 with bd := rep S.bd ⟨x.b, x.d ++ data, x.s⟩} ∧ Below w0.heap.size w0 w' := by
  have HO := Aside0.mk (off_calls h)
  rw [ho] at HO
  have HP : Aside0 (∀ m, Calls Try.prog 41 #[.pointer (some ⟨g, 0, none⟩)] (w.drewN m) fun e w' => e = .returned (.bool (opS S).2) ∧ Fx w0 w' g ma ms vp (opS S).1 ∧ Below w0.heap.size w0 w' ∧ Kg (w.drewN m) w' g) := ⟨fun m => op_calls (h.below (pw_below_drewN (Below.refl _ w) m)) (below_step hB (pw_below_drewN (Below.refl _ w) m)) hs hl⟩
  have hlk := look_run h.oa name hn
  rw [hl2] at hlk
  unfold pO at hlk
  have hoo := opS_at S
  generalize opS S = R at *
  obtain ⟨S1, bf⟩ := R
  have E4 : Aside0 (S1.bd = S.bd) := ⟨hoo.2.2.2⟩
  clear hoo
  have HX1 : Aside0 (x ∈ S1.bd) := ⟨by rw [E4.out]; exact hx⟩
  obtain ⟨c0, _, _, _, _, _, _, c7, _⟩ := h.cells
  have d0 : decide (0 < S.room) = false := decide_eq_false (by omega)
  have hgt := h.gb x hx
  clear h hB ho
  cases bf with
  | false =>
    go_enter Try.func18, Try.ntmps18
    go_wp2_with (first
      | (go_at_call 32; refine HO.out.mono ?_; rintro e w1 ⟨rfl, rfl⟩)
      | (go_quiet (fail))
      | (go_at_call 41; refine (HP.out _).mono ?_; rintro ee w2 ⟨rfl, hf, hb, hk⟩; have b0 : w2.cell? ⟨x.b, 0, none⟩ = some (.string x.d) := (blk_cell (hf.bd x HX1.out) 0).trans rfl; have f0 : w2.frozen? ⟨x.b, 0, none⟩ = false := blk_frozen (hf.bd x HX1.out) 0; have HF := Aside0.mk hf; have HB := Aside0.mk hb; clear hf hb hk c0 c7 hlk))
    have HF2 := Aside0.mk (Fx.body HF.out (i := 0) (u := .string (x.d ++ data)) x ⟨x.b, x.d ++ data, x.s⟩ HX1.out rfl rfl)
    have HB2 := Aside0.mk ((below_set HB.out hgt : Below w0.heap.size w0 (w2.setCell ⟨x.b, 0, none⟩ (.string (x.d ++ data)))))
    go_ret
    exact ⟨rfl, by have h := HF2.out; rw [E4.out] at h; exact h, HB2.out⟩
  | true =>
    go_enter Try.func18, Try.ntmps18
    go_wp2_with (first
      | (go_at_call 32; refine HO.out.mono ?_; rintro e w1 ⟨rfl, rfl⟩)
      | (go_quiet (fail))
      | (go_at_call 41; refine (HP.out _).mono ?_; rintro ee w2 ⟨rfl, hf, hb, hk⟩; have b0 : w2.cell? ⟨x.b, 0, none⟩ = some (.string x.d) := (blk_cell (hf.bd x HX1.out) 0).trans rfl; have f0 : w2.frozen? ⟨x.b, 0, none⟩ = false := blk_frozen (hf.bd x HX1.out) 0; have HF := Aside0.mk hf; have HB := Aside0.mk hb; clear hf hb hk c0 c7 hlk))
    have HF2 := Aside0.mk (Fx.body HF.out (i := 0) (u := .string (x.d ++ data)) x ⟨x.b, x.d ++ data, x.s⟩ HX1.out rfl rfl)
    have HB2 := Aside0.mk ((below_set HB.out hgt : Below w0.heap.size w0 (w2.setCell ⟨x.b, 0, none⟩ (.string (x.d ++ data)))))
    go_ret
    exact ⟨rfl, by have h := HF2.out; rw [E4.out] at h; exact h, HB2.out⟩
set_option maxHeartbeats 8000000 in
set_option maxRecDepth 100000 in
theorem sync_yes {w0 w : World} {g ma ms : Nat} {vp : Value} {S : Sy} (h : Fx w0 w g ma ms vp S) (hB : Below w0.heap.size w0 w) (hs : 0 ≤ S.steps ∧ S.steps ≤ 4611686018427387904) (hl : S.fl ≤ 9223372036854775807) (hlb : S.bl ≤ 9223372036854775807) (ho : S.on = true) (hfs : S.fs = false) (hbad : (badS S).2 = false) (name : ByteArray) (hn : name.size ≤ 140737488355328) (x : Bd) (hx : x ∈ S.bd) (hl2 : lk S.at_ (bs name) = some x.b) :
    Calls Try.prog 24 #[.pointer (some ⟨g, 0, none⟩), .string name] w fun ee w' => ee = .returned (.int .i64 0) ∧ Fx w0 w' g ma ms vp {(badS S).1 with steps := min (S.steps + 1) 4611686018427387904, bd := rep S.bd ⟨x.b, x.d, x.d.size⟩} ∧ Below w0.heap.size w0 w' := by
  have HO := Aside0.mk (off_calls h)
  rw [ho] at HO
  have HP := Aside0.mk (sync0_calls h hB hs hl hlb hfs)
  rw [hbad, show errB false false = 0 from rfl] at HP
  have hgt := h.gb x hx
  have hwr : IntKind.i64.wrap (x.d.size : Int) = (x.d.size : Int) ∨ True := Or.inr trivial
  have hl3 := look_run (V := w) h.oa name hn
  clear h hB ho hl3 hwr
  go_enter Try.func24, Try.ntmps24
  go_wp2_with (first
    | (go_at_call 32; refine HO.out.mono ?_; rintro e w1 ⟨rfl, rfl⟩)
    | (go_at_call 42; refine HP.out.mono ?_; rintro ee w2 ⟨rfl, hf, hb⟩; have b0 : w2.cell? ⟨x.b, 0, none⟩ = some (.string x.d) := (blk_cell (hf.bd x hx) 0).trans rfl; have b1 : w2.cell? ⟨x.b, 1, none⟩ = some (.int .i64 (x.s : Int)) := (blk_cell (hf.bd x hx) 1).trans rfl; have f1 : w2.frozen? ⟨x.b, 1, none⟩ = false := blk_frozen (hf.bd x hx) 1; have c7 := hf.cells.2.2.2.2.2.2.2.1; have hlk := look_run hf.oa name hn; rw [show ({(badS S).1 with steps := min (S.steps + 1) 4611686018427387904} : Sy).at_ = S.at_ from rfl, hl2] at hlk; unfold pO at hlk; have HF := Aside0.mk hf; have HB := Aside0.mk hb; clear hf hb))
  go_ret
  exact ⟨rfl, Fx.body HF.out (i := 1) x ⟨x.b, x.d, x.d.size⟩ hx rfl rfl, below_set HB.out hgt⟩
set_option maxHeartbeats 8000000 in
set_option maxRecDepth 100000 in
theorem sync_bad {w0 w : World} {g ma ms : Nat} {vp : Value} {S : Sy} (h : Fx w0 w g ma ms vp S) (hB : Below w0.heap.size w0 w) (hs : 0 ≤ S.steps ∧ S.steps ≤ 4611686018427387904) (hl : S.fl ≤ 9223372036854775807) (hlb : S.bl ≤ 9223372036854775807) (ho : S.on = true) (hfs : S.fs = false) (hbad : (badS S).2 = true) (name : ByteArray) :
    Calls Try.prog 24 #[.pointer (some ⟨g, 0, none⟩), .string name] w fun ee w' => ee = .returned (.int .i64 16) ∧ Fx w0 w' g ma ms vp {(badS S).1 with steps := min (S.steps + 1) 4611686018427387904} ∧ Below w0.heap.size w0 w' := by
  have HO := Aside0.mk (off_calls h)
  rw [ho] at HO
  have HP := Aside0.mk (sync0_calls h hB hs hl hlb hfs)
  rw [hbad, show errB false true = 16 from rfl] at HP
  clear h hB ho
  go_enter Try.func24, Try.ntmps24
  go_wp2_with (first
    | (go_at_call 32; refine HO.out.mono ?_; rintro e w1 ⟨rfl, rfl⟩)
    | (go_at_call 42; refine HP.out.mono ?_; rintro ee w2 ⟨rfl, hf, hb⟩; have HF := Aside0.mk hf; have HB := Aside0.mk hb; clear hf hb))
  go_ret
  exact ⟨rfl, HF.out, HB.out⟩
theorem clone_own {w : World} {b : Nat} {d : Dir} (h : Own w b d) :
    Calls Try.prog 36 #[.map (some b)] w fun e w' => e = .returned (.map (some w.heap.size)) ∧ Own w' w.heap.size d ∧ Below w.heap.size w w' := by
  obtain ⟨D, h1, h2⟩ := h
  refine (AnyW.maps_Clone_owns Try.mclone36 9 RB b _ D w h1).mono ?_
  rintro e w' ⟨rfl, h3, _, h4⟩
  exact ⟨rfl, ⟨D, h3, h2⟩, h4⟩
/-- What is synced is another directory; nothing is pending. -/
theorem Fx.synced {w0 V : World} {g ma ms mn : Nat} {vp : Value} {S : Sy} {d' : Dir} (h : Fx w0 V g ma ms vp S) (hO : Own V mn d') (hne : ma ≠ mn) (hge : w0.heap.size ≤ mn) (hin : ∀ p ∈ d', p.2 ∈ blks S.bd) : Fx w0 ((V.setCell ⟨g, 8, none⟩ (.map (some mn))).setCell ⟨g, 9, none⟩ (.slice none 0 0)) g ma mn (.slice none 0 0) {S with sy := d', pend := []} := by
  have q := h.apart
  have nh : ∀ k, k ≠ g → ((V.setCell ⟨g, 8, none⟩ (.map (some mn))).setCell ⟨g, 9, none⟩ (.slice none 0 0)).heap[k]? = V.heap[k]? := fun k hk => (Below.heap_setCell _ ⟨g, 9, none⟩ _ k hk).trans (Below.heap_setCell V ⟨g, 8, none⟩ _ k hk)
  refine ⟨blk_put (blk_put h.hd 8 (.map (some mn)) rfl) 9 (.slice none 0 0) rfl, h.oa.same (nh ma q.2.2.1), hO.same (nh mn (hO.ne h.hd)), hne, Kd.R_nil _ _ _ _ _, fun x hx => (nh x.b (fun e => q.2.1 (by rw [← e]; exact List.mem_map.2 ⟨x, hx, rfl⟩))).trans (h.bd x hx), h.gg, h.ga, hge, h.gb, h.nd, h.ia, hin, fun _ hc => by cases hc⟩
set_option maxHeartbeats 8000000 in
set_option maxRecDepth 100000 in
theorem syncdir_yes {w0 w : World} {g ma ms : Nat} {vp : Value} {S : Sy} (h : Fx w0 w g ma ms vp S) (hB : Below w0.heap.size w0 w) (hs : 0 ≤ S.steps ∧ S.steps ≤ 4611686018427387904) (hl : S.fl ≤ 9223372036854775807) (hlb : S.bl ≤ 9223372036854775807) (ho : S.on = true) (hfs : S.fs = false) (hbad : (badS S).2 = false) :
    Calls Try.prog 25 #[.pointer (some ⟨g, 0, none⟩)] w fun ee w' => ee = .returned (.int .i64 0) ∧ (∃ ms', Fx w0 w' g ma ms' (.slice none 0 0) {(badS S).1 with steps := min (S.steps + 1) 4611686018427387904, sy := S.at_, pend := []}) ∧ Below w0.heap.size w0 w' := by
  have HO := Aside0.mk (off_calls h)
  rw [ho] at HO
  have HP := Aside0.mk (sync0_calls h hB hs hl hlb hfs)
  rw [hbad, show errB false false = 0 from rfl] at HP
  clear h hB ho
  go_enter Try.func25, Try.ntmps25
  go_wp2_with (first
    | (go_at_call 32; refine HO.out.mono ?_; rintro e w1 ⟨rfl, rfl⟩)
    | (go_at_call 42; refine HP.out.mono ?_; rintro ee w2 ⟨rfl, hf, hb⟩; obtain ⟨_, _, _, _, _, _, _, c7, _⟩ := hf.cells; have HF := Aside0.mk hf; have HB := Aside0.mk hb; clear hf hb)
    | (go_at_call 36; refine (clone_own HF.out.oa).mono ?_; rintro ee w3 ⟨rfl, hom, hb⟩; have HF3 := Aside0.mk (HF.out.below hb); have HB3 := Aside0.mk (below_step HB.out hb); have HOM := Aside0.mk hom; have HNE : Aside0 (ma ≠ w2.heap.size) := ⟨Nat.ne_of_lt HF.out.oa.lt⟩; have HGE : Aside0 (w0.heap.size ≤ w2.heap.size) := ⟨HB.out.size⟩; clear c7; obtain ⟨_, _, _, _, _, _, _, c7, c8, c9⟩ := HF3.out.cells; have f8 := HF3.out.thaw 8; have f9 := HF3.out.thaw 9; clear hom hb))
  go_ret
  exact ⟨rfl, ⟨_, Fx.synced HF3.out HOM.out HNE.out HGE.out HF3.out.ia⟩, below_set (below_set HB3.out HF3.out.gg) HF3.out.gg⟩
end Go.Proofs.Ytimcibifghidjaa.Fs
