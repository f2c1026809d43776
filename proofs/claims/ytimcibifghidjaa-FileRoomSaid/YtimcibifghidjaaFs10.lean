/- A file system's state, as one; its calls in these words. -/
import Derived.Test.YtimcibifghidjaaFs9
namespace Go.Proofs.Ytimcibifghidjaa.Fs
open Go Go.RowKit Go.Maps Go.Sort Go.Proofs.Ytimcibifghidjaa.PFil Go.Proofs.Ytimcibifghidjaa.FsM Go.Proofs.YtimcibifghidjaaW.PrintWords Go.Proofs.YtimcibifghidjaaW.PrintLast Go.Proofs.YtimcibifghidjaaW.PrintMore
set_option linter.unusedVariables false
set_option linter.unusedSimpArgs false
/-- Block g is a file system as told. -/
def St (w0 V : World) (g : Nat) (S : Sy) : Prop := (∃ ma ms vp, Fx w0 V g ma ms vp S) ∧ Below w0.heap.size w0 V
theorem St.below {w0 V V1 : World} {g : Nat} {S : Sy} (h : St w0 V g S) (hb : Below V.heap.size V V1) : St w0 V1 g S := by
  obtain ⟨⟨ma, ms, vp, h1⟩, h2⟩ := h
  exact ⟨⟨ma, ms, vp, h1.below hb⟩, below_step h2 hb⟩
/-- Counts and lists are not too long. -/
structure Okk (S : Sy) : Prop where
  st : 0 ≤ S.steps ∧ S.steps ≤ 4611686018427387904
  fl : S.fl ≤ 9223372036854775807
  bl : S.bl ≤ 9223372036854775807
  a : S.at_.length ≤ 1000000
  p : S.sy.length + S.pend.length ≤ 1000000
theorem Okk.pp {S : Sy} (h : Okk S) : S.pend.length ≤ 1000000 := by have := h.p; omega
/-- A row beside a file system stays. -/
theorem row_keep {α : Type} (d : Kd α) (e : Nat) (he1 : e ≠ 55) (he2 : e ≠ 62) {w0 w : World} {g ma ms : Nat} {vp : Value} {S : Sy} (h : Fx w0 w g ma ms vp S) {base : Nat} {v : Value} {xs : List α} (hr : d.R e w base (fun k => v.ownBlock = some k) v xs) : ∀ w', KF w w' g (blks S.bd) → d.R e w' base (fun k => v.ownBlock = some k) v xs := by
  intro w' kf
  refine Kd.R_move hr (fun k hk => kf.2 k (Kd.R_lt hr k hk) (fun e => ?_) (fun hm => ?_))
  · exact Kd.R_ne hr h.hd he1 (hk.trans (congrArg some e)).symm
  · obtain ⟨x, hx, hb⟩ := List.mem_map.1 hm
    exact Kd.R_ne hr (h.bd x hx) he2 (hk.trans (congrArg some hb.symm)).symm
theorem s_new (w0 w : World) (hB : Below w0.heap.size w0 w) (room : Int) :
    Calls Try.prog 12 #[.int .i64 room] w fun e w' => ∃ g, e = .returned (.pointer (some ⟨g, 0, none⟩)) ∧ St w0 w' g ⟨room, true, false, 0, false, 0, 0, [], [], [], []⟩ := by
  refine (new_calls w0 w hB room).mono ?_
  rintro e w' ⟨g, rfl, ⟨ma, ms, vp, h⟩, hb⟩
  exact ⟨g, rfl, ⟨ma, ms, vp, h⟩, below_step hB hb⟩
theorem s_create {w0 w : World} {g : Nat} {S : Sy} (h : St w0 w g S) (ho : Okk S) (hon : S.on = true) (hfs : S.fs = false) (name : ByteArray) (hn : bs name ≠ []) (hn2 : name.size ≤ 20) (hlk : lk S.at_ (bs name) = none) :
    Calls Try.prog 13 #[.pointer (some ⟨g, 0, none⟩), .string name] w fun ee w' => ee = .returned (.int .i64 0) ∧ ∃ b, b ∉ blks S.bd ∧ St w0 w' g {S with steps := min (S.steps + 1) 4611686018427387904, at_ := put S.at_ (bs name) b, pend := S.pend ++ [⟨⟨#[]⟩, name, some b⟩], bd := S.bd ++ [⟨b, ⟨#[]⟩, 0⟩]} := by
  obtain ⟨⟨ma, ms, vp, h1⟩, h2⟩ := h
  refine (create_yes h1 h2 ho.st ho.fl hon hfs name hn hn2 hlk ho.a ho.pp).mono ?_
  rintro ee w' ⟨rfl, ⟨b, vp', hb, hf⟩, hbl⟩
  exact ⟨rfl, b, hb, ⟨ma, ms, vp', hf⟩, hbl⟩
theorem s_remove {w0 w : World} {g : Nat} {S : Sy} (h : St w0 w g S) (ho : Okk S) (hon : S.on = true) (hfs : S.fs = false) (name : ByteArray) (hn : bs name ≠ []) (hn2 : name.size ≤ 140737488351232) (m : Nat) (hlk : lk S.at_ (bs name) = some m) :
    Calls Try.prog 23 #[.pointer (some ⟨g, 0, none⟩), .string name] w fun ee w' => ee = .returned (.int .i64 0) ∧ St w0 w' g {S with steps := min (S.steps + 1) 4611686018427387904, at_ := del S.at_ (bs name), pend := S.pend ++ [⟨name, ⟨#[]⟩, none⟩]} := by
  obtain ⟨⟨ma, ms, vp, h1⟩, h2⟩ := h
  refine (remove_yes h1 h2 ho.st ho.fl hon hfs name hn hn2 m hlk ho.a ho.pp).mono ?_
  rintro ee w' ⟨rfl, ⟨vp', hf⟩, hbl⟩
  exact ⟨rfl, ⟨ma, ms, vp', hf⟩, hbl⟩
theorem s_rename {w0 w : World} {g : Nat} {S : Sy} (h : St w0 w g S) (ho : Okk S) (hon : S.on = true) (hfs : S.fs = false) (name to_ : ByteArray) (hn : bs name ≠ []) (hn2 : name.size ≤ 140737488351232) (ht : bs to_ ≠ []) (ht2 : to_.size ≤ 20) (hne : bs name ≠ bs to_) (m : Nat) (hlk : lk S.at_ (bs name) = some m) :
    Calls Try.prog 27 #[.pointer (some ⟨g, 0, none⟩), .string name, .string to_] w fun ee w' => ee = .returned (.int .i64 0) ∧ St w0 w' g {S with steps := min (S.steps + 1) 4611686018427387904, at_ := put (del S.at_ (bs name)) (bs to_) m, pend := S.pend ++ [⟨name, to_, none⟩]} := by
  obtain ⟨⟨ma, ms, vp, h1⟩, h2⟩ := h
  refine (rename_yes h1 h2 ho.st ho.fl hon hfs name to_ hn hn2 ht ht2 hne m hlk ho.a ho.pp).mono ?_
  rintro ee w' ⟨rfl, ⟨vp', hf⟩, hbl⟩
  exact ⟨rfl, ⟨ma, ms, vp', hf⟩, hbl⟩
theorem s_append {w0 w : World} {g : Nat} {S : Sy} (h : St w0 w g S) (ho : Okk S) (hon : S.on = true) (hr : S.room ≤ 0) (name data : ByteArray) (hn : name.size ≤ 140737488355328) (x : Bd) (hx : x ∈ S.bd) (hl2 : lk S.at_ (bs name) = some x.b) (hz : x.d.size + data.size ≤ 140737488355328) :
    Calls Try.prog 18 #[.pointer (some ⟨g, 0, none⟩), .string name, .string data] w fun ee w' => ee = .returned (.int .i64 (if (opS S).2 = true then 14 else 0)) ∧ St w0 w' g {(opS S).1 with bd := rep S.bd ⟨x.b, x.d ++ data, x.s⟩} := by
  obtain ⟨⟨ma, ms, vp, h1⟩, h2⟩ := h
  refine (append_yes h1 h2 ho.st ho.fl hon hr name data hn x hx hl2 hz).mono ?_
  rintro ee w' ⟨rfl, hf, hbl⟩
  exact ⟨rfl, ⟨ma, ms, vp, hf⟩, hbl⟩
theorem s_append_off {w0 w : World} {g : Nat} {S : Sy} (h : St w0 w g S) (ho : S.on = false) (name data : ByteArray) :
    Calls Try.prog 18 #[.pointer (some ⟨g, 0, none⟩), .string name, .string data] w fun ee w' => ee = .returned (.int .i64 14) ∧ St w0 w' g S := by
  obtain ⟨⟨ma, ms, vp, h1⟩, h2⟩ := h
  refine (append_off h1 ho name data).mono ?_
  rintro ee w' ⟨rfl, rfl⟩
  exact ⟨rfl, ⟨ma, ms, vp, h1⟩, h2⟩
theorem s_sync {w0 w : World} {g : Nat} {S : Sy} (h : St w0 w g S) (ho : Okk S) (hon : S.on = true) (hfs : S.fs = false) (hbad : (badS S).2 = false) (name : ByteArray) (hn : name.size ≤ 140737488355328) (x : Bd) (hx : x ∈ S.bd) (hl2 : lk S.at_ (bs name) = some x.b) :
    Calls Try.prog 24 #[.pointer (some ⟨g, 0, none⟩), .string name] w fun ee w' => ee = .returned (.int .i64 0) ∧ St w0 w' g {(badS S).1 with steps := min (S.steps + 1) 4611686018427387904, bd := rep S.bd ⟨x.b, x.d, x.d.size⟩} := by
  obtain ⟨⟨ma, ms, vp, h1⟩, h2⟩ := h
  refine (sync_yes h1 h2 ho.st ho.fl ho.bl hon hfs hbad name hn x hx hl2).mono ?_
  rintro ee w' ⟨rfl, hf, hbl⟩
  exact ⟨rfl, ⟨ma, ms, vp, hf⟩, hbl⟩
theorem s_sync_bad {w0 w : World} {g : Nat} {S : Sy} (h : St w0 w g S) (ho : Okk S) (hon : S.on = true) (hfs : S.fs = false) (hbad : (badS S).2 = true) (name : ByteArray) :
    Calls Try.prog 24 #[.pointer (some ⟨g, 0, none⟩), .string name] w fun ee w' => ee = .returned (.int .i64 16) ∧ St w0 w' g {(badS S).1 with steps := min (S.steps + 1) 4611686018427387904} := by
  obtain ⟨⟨ma, ms, vp, h1⟩, h2⟩ := h
  refine (sync_bad h1 h2 ho.st ho.fl ho.bl hon hfs hbad name).mono ?_
  rintro ee w' ⟨rfl, hf, hbl⟩
  exact ⟨rfl, ⟨ma, ms, vp, hf⟩, hbl⟩
theorem s_syncdir {w0 w : World} {g : Nat} {S : Sy} (h : St w0 w g S) (ho : Okk S) (hon : S.on = true) (hfs : S.fs = false) (hbad : (badS S).2 = false) :
    Calls Try.prog 25 #[.pointer (some ⟨g, 0, none⟩)] w fun ee w' => ee = .returned (.int .i64 0) ∧ St w0 w' g {(badS S).1 with steps := min (S.steps + 1) 4611686018427387904, sy := S.at_, pend := []} := by
  obtain ⟨⟨ma, ms, vp, h1⟩, h2⟩ := h
  refine (syncdir_yes h1 h2 ho.st ho.fl ho.bl hon hfs hbad).mono ?_
  rintro ee w' ⟨rfl, ⟨ms', hf⟩, hbl⟩
  exact ⟨rfl, ⟨ma, ms', _, hf⟩, hbl⟩
theorem s_names {w0 w : World} {g : Nat} {S : Sy} (h : St w0 w g S) (ho : Okk S) (hon : S.on = true) :
    Calls Try.prog 16 #[.pointer (some ⟨g, 0, none⟩)] w fun e w' => (∃ A c, e = .returned (.slice A (nm S.at_).length c) ∧ Kd.string.R 9 w' w.heap.size (fun k => (Value.slice A (nm S.at_).length c).ownBlock = some k) (.slice A (nm S.at_).length c) (nm S.at_)) ∧ Below w.heap.size w w' ∧ St w0 w' g S := by
  have h' := h
  obtain ⟨⟨ma, ms, vp, h1⟩, h2⟩ := h
  refine (names_calls h1 hon ho.a).mono ?_
  rintro e w' ⟨⟨A, c, rfl, hr⟩, hb⟩
  exact ⟨⟨A, c, rfl, hr⟩, hb, h'.below hb⟩
theorem s_read {w0 w : World} {g : Nat} {S : Sy} (h : St w0 w g S) (hon : S.on = true) (name : ByteArray) (hn : name.size ≤ 140737488355328) (x : Bd) (hx : x ∈ S.bd) (hl : lk S.at_ (bs name) = some x.b) :
    Calls Try.prog 20 #[.pointer (some ⟨g, 0, none⟩), .string name] w fun e w' => e = .returned (.tuple #[.string x.d, .int .i64 0]) ∧ w' = w := by
  obtain ⟨⟨ma, ms, vp, h1⟩, h2⟩ := h
  exact read_some h1 name hn hon x hx hl
theorem s_steps {w0 w : World} {g : Nat} {S : Sy} (h : St w0 w g S) :
    Calls Try.prog 21 #[.pointer (some ⟨g, 0, none⟩)] w fun e w' => e = .returned (.int .i64 S.steps) ∧ w' = w := by
  obtain ⟨⟨ma, ms, vp, h1⟩, h2⟩ := h
  exact steps_calls h1
theorem s_on {w0 w : World} {g : Nat} {S : Sy} (h : St w0 w g S) :
    Calls Try.prog 19 #[.pointer (some ⟨g, 0, none⟩)] w fun e w' => e = .returned (.bool S.on) ∧ w' = w := by
  obtain ⟨⟨ma, ms, vp, h1⟩, h2⟩ := h
  exact on_calls h1
theorem s_fuse {w0 w : World} {g : Nat} {S : Sy} (h : St w0 w g S) (n : Int) :
    Calls Try.prog 17 #[.pointer (some ⟨g, 0, none⟩), .int .i64 n] w fun e w' => e = .returned (.tuple #[]) ∧ St w0 w' g {S with fs := decide (0 ≤ n), fl := n} := by
  obtain ⟨⟨ma, ms, vp, h1⟩, h2⟩ := h
  exact (fuse_calls h1 h2 n).mono (fun e w' hh => ⟨hh.1, ⟨ma, ms, vp, hh.2.1⟩, hh.2.2⟩)
theorem s_bad {w0 w : World} {g : Nat} {S : Sy} (h : St w0 w g S) (n : Int) :
    Calls Try.prog 28 #[.pointer (some ⟨g, 0, none⟩), .int .i64 n] w fun e w' => e = .returned (.tuple #[]) ∧ St w0 w' g {S with bs := decide (0 ≤ n), bl := n} := by
  obtain ⟨⟨ma, ms, vp, h1⟩, h2⟩ := h
  exact (bad_calls h1 h2 n).mono (fun e w' hh => ⟨hh.1, ⟨ma, ms, vp, hh.2.1⟩, hh.2.2⟩)
theorem s_restore {w0 w : World} {g : Nat} {S : Sy} (h : St w0 w g S) :
    Calls Try.prog 15 #[.pointer (some ⟨g, 0, none⟩)] w fun e w' => e = .returned (.tuple #[]) ∧ St w0 w' g {S with on := true} ∧ KF w w' g (blks S.bd) := by
  obtain ⟨⟨ma, ms, vp, h1⟩, h2⟩ := h
  exact (restore_calls h1 h2).mono (fun e w' hh => ⟨hh.1, ⟨⟨ma, ms, vp, hh.2.1⟩, hh.2.2.1⟩, ⟨Nat.le_of_eq hh.2.2.2.1.symm, fun k _ hk _ => hh.2.2.2.2 k hk⟩⟩)
def crS (S : Sy) (dir : Int) (keep : List Int) : Sy := {offS S with at_ := apL (S.pend.take (partN dir S.pend.length)) S.sy, sy := apL (S.pend.take (partN dir S.pend.length)) S.sy, pend := [], bd := cuts keep (apL (S.pend.take (partN dir S.pend.length)) S.sy) (ks (apL (S.pend.take (partN dir S.pend.length)) S.sy)) (apL (S.pend.take (partN dir S.pend.length)) S.sy).length S.bd}
/-- Crash, with some marks in a row that lies beside. -/
theorem s_crash {w0 w : World} {g : Nat} {S : Sy} (h : St w0 w g S) (ho : Okk S) (dir : Int) (keep : List Int) (Ak : Option Addr) (ck : Nat) (hkl : keep.length ≤ 1000000) (base : Nat) (hr : (Kd.int .i64).R 3 w base (fun k => (Value.slice Ak keep.length ck).ownBlock = some k) (.slice Ak keep.length ck) keep) (hgood : Good S.bd) (hok : okL (S.pend.take (partN dir S.pend.length)) S.sy) (hnm : ∀ p ∈ apL (S.pend.take (partN dir S.pend.length)) S.sy, p.1.length ≤ 140737488355328) :
    Calls Try.prog 14 #[.pointer (some ⟨g, 0, none⟩), .int .i64 dir, .slice Ak keep.length ck] w fun e w' => e = .returned (.tuple #[]) ∧ St w0 w' g (crS S dir keep) ∧ KF w w' g (blks S.bd) := by
  obtain ⟨⟨ma, ms, vp, h1⟩, h2⟩ := h
  refine (crash_calls h1 h2 dir keep Ak ck (Kd.R_reads' hr).2.1 hkl (fun w' kf => (Kd.R_reads' (row_keep (Kd.int .i64) 3 (by decide) (by decide) h1 hr w' kf)).2.2) hgood hnm ho.p ⟨hok⟩).mono ?_
  rintro e w' ⟨rfl, ⟨ma', ms', hf⟩, hb, hk⟩
  exact ⟨rfl, ⟨⟨ma', ms', _, hf⟩, hb⟩, hk⟩
end Go.Proofs.Ytimcibifghidjaa.Fs
