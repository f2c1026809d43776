/- Create, Remove and Rename of a file system whose power is on and has no fuse. -/
import Derived.Test.YtimcibifghidjaaFs4
namespace Go.Proofs.Ytimcibifghidjaa.Fs
open Go Go.RowKit Go.Maps Go.Proofs.Ytimcibifghidjaa.PFil Go.Proofs.Ytimcibifghidjaa.FsM Go.Proofs.YtimcibifghidjaaW.PrintWords Go.Proofs.YtimcibifghidjaaW.PrintLast Go.Proofs.YtimcibifghidjaaW.PrintMore
set_option linter.unusedVariables false
set_option linter.unusedSimpArgs false
theorem opS_no {S : Sy} (h : S.fs = false) : opS S = ({S with steps := min (S.steps + 1) 4611686018427387904}, false) := by
  unfold opS goesC
  simp [h]
theorem Fx.newbody {w0 V : World} {g ma ms : Nat} {vp : Value} {S : Sy} (h : Fx w0 V g ma ms vp S) (x : Bd) (hx : V.heap[x.b]? = some (.cells (cellsB x) 62 (0, 0))) (hn : x.b ∉ blks S.bd) (hw : w0.heap.size ≤ x.b) : Fx w0 V g ma ms vp {S with bd := S.bd ++ [x]} := by
  have hb : ∀ k, k ∈ blks S.bd → k ∈ blks (S.bd ++ [x]) := fun k hk => by unfold blks at hk ⊢; rw [List.map_append]; exact List.mem_append_left _ hk
  refine ⟨h.hd, h.oa, h.os, h.ne, h.pr, ?_, h.gg, h.ga, h.gs, ?_, ?_, fun p hp => hb _ (h.ia p hp), fun p hp => hb _ (h.is_ p hp), fun c hc b e => hb _ (h.ip c hc b e)⟩
  · intro y hy
    rcases List.mem_append.1 hy with hy | hy
    · exact h.bd y hy
    · rw [List.mem_singleton.1 hy]; exact hx
  · intro y hy
    rcases List.mem_append.1 hy with hy | hy
    · exact h.gb y hy
    · rw [List.mem_singleton.1 hy]; exact hw
  · show (blks (S.bd ++ [x])).Nodup
    unfold blks
    rw [List.map_append, List.nodup_append]
    refine ⟨h.nd, by simp, fun a ha c hc => ?_⟩
    simp at hc
    subst hc
    rintro rfl
    exact hn ha
theorem valid_ev {s : ByteArray} (h1 : bs s ≠ []) (h2 : s.size ≤ 20) : file_valid.f s = some true := by
  unfold file_valid.f
  rw [if_neg, decide_eq_true (by omega)]
  rw [Go.Proofs.YtimcibifghidjaaW.Pu.toList_data]
  exact h1
theorem clone_ev {s : ByteArray} (h : s.size ≤ 140737488355328) : strings_Clone.f s = some s := by
  unfold strings_Clone.f stringslite_Clone.f
  rw [if_pos (by omega)]
  rfl
theorem create_change {w0 w w3 : World} {g ma ms : Nat} {vp : Value} {S : Sy} (h : Fx w0 w g ma ms vp S) (hB : Below w0.heap.size w0 w) (hb3 : Below w.heap.size w w3) (hs : 0 ≤ S.steps ∧ S.steps ≤ 4611686018427387904) (hl : S.fl ≤ 9223372036854775807) (hfs : S.fs = false) (name : ByteArray) (hn : bs name ≠ []) (hn2 : name.size ≤ 20) (hd : S.at_.length ≤ 1000000) (hp : S.pend.length ≤ 1000000) :
    Calls Try.prog 34 #[.pointer (some ⟨g, 0, none⟩), .int .i64 0, .agg #[.string ⟨#[]⟩, .string name, .pointer (some ⟨w3.heap.size, 0, none⟩)]] (w3.alloc (.cells #[.string ⟨#[]⟩, .int .i64 0] 62)) fun ee w' => ee = .returned (.int .i64 0) ∧ (∃ b vp', b ∉ blks S.bd ∧ Fx w0 w' g ma ms vp' {S with steps := min (S.steps + 1) 4611686018427387904, at_ := put S.at_ (bs name) b, pend := S.pend ++ [⟨⟨#[]⟩, name, some b⟩], bd := S.bd ++ [⟨b, ⟨#[]⟩, 0⟩]}) ∧ Below w0.heap.size w0 w' := by
  have hb4 : Below w.heap.size w (w3.alloc (.cells #[.string ⟨#[]⟩, .int .i64 0] 62)) := below_alloc hb3 _
  have hnb : w3.heap.size ∉ blks S.bd := fun hm => by
    have h1 := h.lt w3.heap.size (.inr (.inr (.inr (.inr hm))))
    have h2 := hb3.size
    omega
  have hF := Fx.newbody (h.below hb4) ⟨w3.heap.size, ⟨#[]⟩, 0⟩ (blk_new w3 _) hnb (by have h1 := hb3.size; have h2 := hB.size; show w0.heap.size ≤ w3.heap.size; omega)
  have hst : opS ({S with bd := S.bd ++ [⟨w3.heap.size, ⟨#[]⟩, 0⟩]} : Sy) = ({S with steps := min (S.steps + 1) 4611686018427387904, bd := S.bd ++ [⟨w3.heap.size, ⟨#[]⟩, 0⟩]}, false) := opS_no hfs
  refine (change_yes hF (below_step hB hb4) hs hl (⟨⟨#[]⟩, name, some w3.heap.size⟩ : Ch) ⟨Nat.zero_le _, by show name.size ≤ _; omega, .inl ⟨rfl, hn, _, rfl⟩⟩ hd hp (fun b e => ?_)).mono ?_
  · cases e
    unfold blks
    rw [List.map_append]
    exact List.mem_append_right _ (by simp)
  · rintro ee w' ⟨rfl, ⟨vp', hf⟩, hb⟩
    rw [hst] at hf ⊢
    exact ⟨rfl, ⟨_, vp', hnb, hf⟩, hb⟩
set_option maxHeartbeats 8000000 in
set_option maxRecDepth 100000 in
theorem create_yes {w0 w : World} {g ma ms : Nat} {vp : Value} {S : Sy} (h : Fx w0 w g ma ms vp S) (hB : Below w0.heap.size w0 w) (hs : 0 ≤ S.steps ∧ S.steps ≤ 4611686018427387904) (hl : S.fl ≤ 9223372036854775807) (ho : S.on = true) (hfs : S.fs = false) (name : ByteArray) (hn : bs name ≠ []) (hn2 : name.size ≤ 20) (hlk : lk S.at_ (bs name) = none) (hd : S.at_.length ≤ 1000000) (hp : S.pend.length ≤ 1000000) :
    Calls Try.prog 13 #[.pointer (some ⟨g, 0, none⟩), .string name] w fun ee w' => ee = .returned (.int .i64 0) ∧ (∃ b vp', b ∉ blks S.bd ∧ Fx w0 w' g ma ms vp' {S with steps := min (S.steps + 1) 4611686018427387904, at_ := put S.at_ (bs name) b, pend := S.pend ++ [⟨⟨#[]⟩, name, some b⟩], bd := S.bd ++ [⟨b, ⟨#[]⟩, 0⟩]}) ∧ Below w0.heap.size w0 w' := by
  have HO := Aside0.mk (off_calls h)
  rw [ho] at HO
  have H := Aside0.mk h
  have HB := Aside0.mk hB
  have hk0 : ∀ m, (Instr.lookup 52 (.map (some ma)) (.string name) false).run Try.prog (w.drewN m) = .ok (.pointer none) (w.drewN m) := fun m => by
    have h1 := look_run (h.oa.below (pw_below_drewN (Below.refl _ w) m)) name (by omega)
    rw [hlk] at h1
    exact h1
  obtain ⟨_, _, _, _, _, _, _, c7, _⟩ := h.cells
  have HV := Aside0.mk (valid_ev hn hn2)
  have HN := Aside0.mk hn
  have HC := Aside0.mk (clone_ev (s := name) (by omega))
  clear h hB hn
  go_enter Try.func13, Try.ntmps13
  go_wp2_with (first
    | (go_at_call 32; refine HO.out.mono ?_; rintro ee w1 ⟨rfl, rfl⟩)
    | (go_at_call 33; refine (file_valid.calls name true _ HV.out).mono ?_; rintro ee w2 ⟨rfl, ⟨nd, rfl⟩⟩)
    | (go_at_call 35; refine (strings_Clone.calls name name _ HC.out).mono ?_; rintro ee w3 ⟨rfl, hb⟩; have HB3 := Aside0.mk (below_step (pw_below_drewN (Below.refl _ w1) nd) hb); clear hb hk0 c7)
    | (go_at_call 34; refine (create_change H.out HB.out HB3.out hs hl hfs name HN.out hn2 hd hp).mono ?_; rintro ee w4 ⟨rfl, hf, hb⟩; have HF4 := Aside0.mk hf; have HB4 := Aside0.mk hb; clear hf hb))
  go_ret
  exact ⟨rfl, HF4.out, HB4.out⟩
set_option maxHeartbeats 8000000 in
set_option maxRecDepth 100000 in
theorem remove_yes {w0 w : World} {g ma ms : Nat} {vp : Value} {S : Sy} (h : Fx w0 w g ma ms vp S) (hB : Below w0.heap.size w0 w) (hs : 0 ≤ S.steps ∧ S.steps ≤ 4611686018427387904) (hl : S.fl ≤ 9223372036854775807) (ho : S.on = true) (hfs : S.fs = false) (name : ByteArray) (hn : bs name ≠ []) (hn2 : name.size ≤ 140737488351232) (m : Nat) (hlk : lk S.at_ (bs name) = some m) (hd : S.at_.length ≤ 1000000) (hp : S.pend.length ≤ 1000000) :
    Calls Try.prog 23 #[.pointer (some ⟨g, 0, none⟩), .string name] w fun ee w' => ee = .returned (.int .i64 0) ∧ (∃ vp', Fx w0 w' g ma ms vp' {S with steps := min (S.steps + 1) 4611686018427387904, at_ := del S.at_ (bs name), pend := S.pend ++ [⟨name, ⟨#[]⟩, none⟩]}) ∧ Below w0.heap.size w0 w' := by
  have HO := Aside0.mk (off_calls h)
  rw [ho] at HO
  have H := Aside0.mk h
  have HB := Aside0.mk hB
  have hk0 := look_run h.oa name (by omega)
  rw [hlk] at hk0
  unfold pO at hk0
  obtain ⟨_, _, _, _, _, _, _, c7, _⟩ := h.cells
  have HC := Aside0.mk (clone_ev (s := name) (by omega))
  have HK : Aside0 (∀ w3, Below w.heap.size w w3 → Calls Try.prog 34 #[.pointer (some ⟨g, 0, none⟩), .int .i64 0, .agg #[.string name, .string ⟨#[]⟩, .pointer none]] w3 fun ee w' => ee = .returned (.int .i64 0) ∧ (∃ vp', Fx w0 w' g ma ms vp' {S with steps := min (S.steps + 1) 4611686018427387904, at_ := del S.at_ (bs name), pend := S.pend ++ [⟨name, ⟨#[]⟩, none⟩]}) ∧ Below w0.heap.size w0 w') := ⟨fun w3 hb => by
    have hap : ap (⟨name, ⟨#[]⟩, none⟩ : Ch) S.at_ = del S.at_ (bs name) := by unfold ap; rw [if_neg hn, hlk]; simp only []; rw [if_pos (show bs ⟨#[]⟩ = [] from rfl)]
    refine (change_yes (h.below hb) (below_step hB hb) hs hl (⟨name, ⟨#[]⟩, none⟩ : Ch) ⟨hn2, Nat.zero_le _, .inr ⟨hn, m, hlk⟩⟩ hd hp (fun b e => by cases e)).mono ?_
    rintro ee w' ⟨rfl, ⟨vp', hf⟩, hb2⟩
    rw [opS_no hfs] at hf ⊢
    rw [hap] at hf
    exact ⟨rfl, ⟨vp', hf⟩, hb2⟩⟩
  clear h hB hn
  go_enter Try.func23, Try.ntmps23
  go_wp2_with (first
    | (go_at_call 32; refine HO.out.mono ?_; rintro ee w1 ⟨rfl, rfl⟩)
    | (go_at_call 35; refine (strings_Clone.calls name name _ HC.out).mono ?_; rintro ee w3 ⟨rfl, hb⟩; have HB3 := Aside0.mk hb; clear hb hk0 c7)
    | (go_at_call 34; refine (HK.out _ HB3.out).mono ?_; rintro ee w4 ⟨rfl, hf, hb⟩; have HF4 := Aside0.mk hf; have HB4 := Aside0.mk hb; clear hf hb))
  go_ret
  exact ⟨rfl, HF4.out, HB4.out⟩
set_option maxHeartbeats 8000000 in
set_option maxRecDepth 100000 in
theorem rename_yes {w0 w : World} {g ma ms : Nat} {vp : Value} {S : Sy} (h : Fx w0 w g ma ms vp S) (hB : Below w0.heap.size w0 w) (hs : 0 ≤ S.steps ∧ S.steps ≤ 4611686018427387904) (hl : S.fl ≤ 9223372036854775807) (ho : S.on = true) (hfs : S.fs = false) (name to_ : ByteArray) (hn : bs name ≠ []) (hn2 : name.size ≤ 140737488351232) (ht : bs to_ ≠ []) (ht2 : to_.size ≤ 20) (hne : bs name ≠ bs to_) (m : Nat) (hlk : lk S.at_ (bs name) = some m) (hd : S.at_.length ≤ 1000000) (hp : S.pend.length ≤ 1000000) :
    Calls Try.prog 27 #[.pointer (some ⟨g, 0, none⟩), .string name, .string to_] w fun ee w' => ee = .returned (.int .i64 0) ∧ (∃ vp', Fx w0 w' g ma ms vp' {S with steps := min (S.steps + 1) 4611686018427387904, at_ := put (del S.at_ (bs name)) (bs to_) m, pend := S.pend ++ [⟨name, to_, none⟩]}) ∧ Below w0.heap.size w0 w' := by
  have HO := Aside0.mk (off_calls h)
  rw [ho] at HO
  have H := Aside0.mk h
  have HB := Aside0.mk hB
  have hk0 := look_run h.oa name (by omega)
  rw [hlk] at hk0
  unfold pO at hk0
  obtain ⟨_, _, _, _, _, _, _, c7, _⟩ := h.cells
  have HC := Aside0.mk (clone_ev (s := name) (by omega))
  have HC2 := Aside0.mk (clone_ev (s := to_) (by omega))
  have HV := Aside0.mk (valid_ev ht ht2)
  have k3 : (name.toList == to_.toList) = false := by
    rw [Go.Proofs.YtimcibifghidjaaW.Pu.toList_data, Go.Proofs.YtimcibifghidjaaW.Pu.toList_data]
    exact beq_eq_false_iff_ne.mpr hne
  have HK : Aside0 (∀ w3, Below w.heap.size w w3 → Calls Try.prog 34 #[.pointer (some ⟨g, 0, none⟩), .int .i64 0, .agg #[.string name, .string to_, .pointer none]] w3 fun ee w' => ee = .returned (.int .i64 0) ∧ (∃ vp', Fx w0 w' g ma ms vp' {S with steps := min (S.steps + 1) 4611686018427387904, at_ := put (del S.at_ (bs name)) (bs to_) m, pend := S.pend ++ [⟨name, to_, none⟩]}) ∧ Below w0.heap.size w0 w') := ⟨fun w3 hb => by
    have hap : ap (⟨name, to_, none⟩ : Ch) S.at_ = put (del S.at_ (bs name)) (bs to_) m := by unfold ap; rw [if_neg hn, hlk]; simp only []; rw [if_neg ht]
    refine (change_yes (h.below hb) (below_step hB hb) hs hl (⟨name, to_, none⟩ : Ch) ⟨hn2, by show to_.size ≤ _; omega, .inr ⟨hn, m, hlk⟩⟩ hd hp (fun b e => by cases e)).mono ?_
    rintro ee w' ⟨rfl, ⟨vp', hf⟩, hb2⟩
    rw [opS_no hfs] at hf ⊢
    rw [hap] at hf
    exact ⟨rfl, ⟨vp', hf⟩, hb2⟩⟩
  have HBW := Aside0.mk (Below.refl w.heap.size w)
  clear h hB hn ht
  go_enter Try.func27, Try.ntmps27
  go_wp2_with (first
    | (go_at_call 32; refine HO.out.mono ?_; rintro ee w1 ⟨rfl, rfl⟩)
    | (go_at_call 33; refine (file_valid.calls to_ true _ HV.out).mono ?_; rintro ee w2 ⟨rfl, ⟨nd, rfl⟩⟩; have n0_ := Aside0.mk (pw_below_drewN HBW.out nd); clear HBW hk0 c7; have HBW := n0_; clear n0_)
    | (go_at_call 35; refine (strings_Clone.calls name name _ HC.out).mono ?_; rintro ee w3 ⟨rfl, hb⟩; have n0_ := Aside0.mk (below_step HBW.out hb); clear HBW HC; have HBW := n0_; clear hb n0_)
    | (go_at_call 35; refine (strings_Clone.calls to_ to_ _ HC2.out).mono ?_; rintro ee w3 ⟨rfl, hb⟩; have n0_ := Aside0.mk (below_step HBW.out hb); clear HBW HC2; have HBW := n0_; clear hb n0_)
    | (go_at_call 34; refine (HK.out _ HBW.out).mono ?_; rintro ee w4 ⟨rfl, hf, hb⟩; have HF4 := Aside0.mk hf; have HB4 := Aside0.mk hb; clear hf hb))
  go_ret
  exact ⟨rfl, HF4.out, HB4.out⟩
end Go.Proofs.Ytimcibifghidjaa.Fs
