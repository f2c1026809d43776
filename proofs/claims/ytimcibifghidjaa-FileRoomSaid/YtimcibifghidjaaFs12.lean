/- A file system without fuse, in a few words; what a crash leaves of files that are synced. -/
import Derived.Test.YtimcibifghidjaaFs11
namespace Go.Proofs.Ytimcibifghidjaa.Fs
open Go Go.RowKit Go.Maps Go.Sort Go.Proofs.Ytimcibifghidjaa.PFil Go.Proofs.Ytimcibifghidjaa.FsM Go.Proofs.YtimcibifghidjaaW.PrintWords Go.Proofs.YtimcibifghidjaaW.PrintLast Go.Proofs.YtimcibifghidjaaW.PrintMore
set_option linter.unusedVariables false
set_option linter.unusedSimpArgs false
def Q (on : Bool) (n : Int) (a s : Dir) (p : List Ch) (l : List Bd) : Sy := ⟨0, on, false, 0, false, 0, n, a, s, p, l⟩
def Qk (n : Int) (a s : Dir) (p : List Ch) : Prop := 0 ≤ n ∧ n ≤ 1000000 ∧ a.length ≤ 1000000 ∧ s.length + p.length ≤ 1000000
theorem Qk.ok {on : Bool} {n : Int} {a s : Dir} {p : List Ch} {l : List Bd} (h : Qk n a s p) : Okk (Q on n a s p l) := ⟨⟨h.1, by have := h.2.1; show n ≤ _; omega⟩, by show (0 : Int) ≤ _; omega, by show (0 : Int) ≤ _; omega, h.2.2.1, h.2.2.2⟩
theorem Qk.st {n : Int} {a s : Dir} {p : List Ch} (h : Qk n a s p) : min (n + 1) 4611686018427387904 = n + 1 := by have := h.2.1; omega
theorem q_new (w0 w : World) (hB : Below w0.heap.size w0 w) :
    Calls Try.prog 12 #[.int .i64 0] w fun e w' => ∃ g, e = .returned (.pointer (some ⟨g, 0, none⟩)) ∧ St w0 w' g (Q true 0 [] [] [] []) := s_new w0 w hB 0
theorem q_create {w0 w : World} {g : Nat} {n : Int} {a s : Dir} {p : List Ch} {l : List Bd} (h : St w0 w g (Q true n a s p l)) (hq : Qk n a s p) (name : ByteArray) (hn : bs name ≠ []) (hn2 : name.size ≤ 20) (hlk : lk a (bs name) = none) :
    Calls Try.prog 13 #[.pointer (some ⟨g, 0, none⟩), .string name] w fun ee w' => ee = .returned (.int .i64 0) ∧ ∃ b, b ∉ blks l ∧ St w0 w' g (Q true (n + 1) (put a (bs name) b) s (p ++ [⟨t0, name, some b⟩]) (l ++ [⟨b, t0, 0⟩])) := by
  refine (s_create h hq.ok rfl rfl name hn hn2 hlk).mono ?_
  rintro ee w' ⟨rfl, b, hb, ht⟩
  rw [show (Q true n a s p l).steps = n from rfl, hq.st] at ht
  exact ⟨rfl, b, hb, ht⟩
theorem q_append {w0 w : World} {g : Nat} {n : Int} {a s : Dir} {p : List Ch} {l : List Bd} (h : St w0 w g (Q true n a s p l)) (hq : Qk n a s p) (name data : ByteArray) (hn : name.size ≤ 140737488355328) (x : Bd) (hx : x ∈ l) (hl : lk a (bs name) = some x.b) (hz : x.d.size + data.size ≤ 140737488355328) :
    Calls Try.prog 18 #[.pointer (some ⟨g, 0, none⟩), .string name, .string data] w fun ee w' => ee = .returned (.int .i64 0) ∧ St w0 w' g (Q true (n + 1) a s p (rep l ⟨x.b, x.d ++ data, x.s⟩)) := by
  refine (s_append h hq.ok rfl (Int.le_refl 0) name data hn x hx hl hz).mono ?_
  rintro ee w' ⟨rfl, ht⟩
  rw [opS_no (S := Q true n a s p l) rfl, show (Q true n a s p l).steps = n from rfl, hq.st] at ht
  rw [opS_no (S := Q true n a s p l) rfl]
  exact ⟨rfl, ht⟩
theorem q_sync {w0 w : World} {g : Nat} {n : Int} {a s : Dir} {p : List Ch} {l : List Bd} (h : St w0 w g (Q true n a s p l)) (hq : Qk n a s p) (name : ByteArray) (hn : name.size ≤ 140737488355328) (x : Bd) (hx : x ∈ l) (hl : lk a (bs name) = some x.b) :
    Calls Try.prog 24 #[.pointer (some ⟨g, 0, none⟩), .string name] w fun ee w' => ee = .returned (.int .i64 0) ∧ St w0 w' g (Q true (n + 1) a s p (rep l ⟨x.b, x.d, x.d.size⟩)) := by
  refine (s_sync h hq.ok rfl rfl rfl name hn x hx hl).mono ?_
  rintro ee w' ⟨rfl, ht⟩
  rw [show (Q true n a s p l).steps = n from rfl, hq.st] at ht
  exact ⟨rfl, ht⟩
theorem q_syncdir {w0 w : World} {g : Nat} {n : Int} {a s : Dir} {p : List Ch} {l : List Bd} (h : St w0 w g (Q true n a s p l)) (hq : Qk n a s p) :
    Calls Try.prog 25 #[.pointer (some ⟨g, 0, none⟩)] w fun ee w' => ee = .returned (.int .i64 0) ∧ St w0 w' g (Q true (n + 1) a a [] l) := by
  refine (s_syncdir h hq.ok rfl rfl rfl).mono ?_
  rintro ee w' ⟨rfl, ht⟩
  rw [show (Q true n a s p l).steps = n from rfl, hq.st] at ht
  exact ⟨rfl, ht⟩
theorem q_rename {w0 w : World} {g : Nat} {n : Int} {a s : Dir} {p : List Ch} {l : List Bd} (h : St w0 w g (Q true n a s p l)) (hq : Qk n a s p) (name to_ : ByteArray) (hn : bs name ≠ []) (hn2 : name.size ≤ 140737488351232) (ht : bs to_ ≠ []) (ht2 : to_.size ≤ 20) (hne : bs name ≠ bs to_) (m : Nat) (hlk : lk a (bs name) = some m) :
    Calls Try.prog 27 #[.pointer (some ⟨g, 0, none⟩), .string name, .string to_] w fun ee w' => ee = .returned (.int .i64 0) ∧ St w0 w' g (Q true (n + 1) (put (del a (bs name)) (bs to_) m) s (p ++ [⟨name, to_, none⟩]) l) := by
  refine (s_rename h hq.ok rfl rfl name to_ hn hn2 ht ht2 hne m hlk).mono ?_
  rintro ee w' ⟨rfl, ht⟩
  rw [show (Q true n a s p l).steps = n from rfl, hq.st] at ht
  exact ⟨rfl, ht⟩
theorem q_read {w0 w : World} {g : Nat} {n : Int} {a s : Dir} {p : List Ch} {l : List Bd} (h : St w0 w g (Q true n a s p l)) (name : ByteArray) (hn : name.size ≤ 140737488355328) (x : Bd) (hx : x ∈ l) (hl : lk a (bs name) = some x.b) :
    Calls Try.prog 20 #[.pointer (some ⟨g, 0, none⟩), .string name] w fun e w' => e = .returned (.tuple #[.string x.d, .int .i64 0]) ∧ w' = w := s_read h rfl name hn x hx hl
theorem q_restore {w0 w : World} {g : Nat} {on : Bool} {n : Int} {a s : Dir} {p : List Ch} {l : List Bd} (h : St w0 w g (Q on n a s p l)) :
    Calls Try.prog 15 #[.pointer (some ⟨g, 0, none⟩)] w fun e w' => e = .returned (.tuple #[]) ∧ St w0 w' g (Q true n a s p l) ∧ KF w w' g (blks l) := s_restore h
theorem q_crash {w0 w : World} {g : Nat} {on : Bool} {n : Int} {a s : Dir} {p : List Ch} {l : List Bd} (h : St w0 w g (Q on n a s p l)) (hq : Qk n a s p) (dir : Int) (keep : List Int) (Ak : Option Addr) (ck : Nat) (hkl : keep.length ≤ 1000000) (base : Nat) (hr : (Kd.int .i64).R 3 w base (fun k => (Value.slice Ak keep.length ck).ownBlock = some k) (.slice Ak keep.length ck) keep) (hgood : Good l) (d1 : Dir) (hd1 : apL (p.take (partN dir p.length)) s = d1) (hok : okL (p.take (partN dir p.length)) s) (hnm : ∀ q ∈ d1, q.1.length ≤ 140737488355328) (l1 : List Bd) (hl1 : cuts keep d1 (ks d1) d1.length l = l1) :
    Calls Try.prog 14 #[.pointer (some ⟨g, 0, none⟩), .int .i64 dir, .slice Ak keep.length ck] w fun e w' => e = .returned (.tuple #[]) ∧ St w0 w' g (Q false n d1 d1 [] l1) ∧ KF w w' g (blks l) := by
  subst hd1
  subst hl1
  exact s_crash h hq.ok dir keep Ak ck hkl base hr hgood hok hnm
theorem row_none (w : World) (base : Nat) : (Kd.int .i64).R 3 w base (fun k => (Value.slice none ([] : List Int).length 0).ownBlock = some k) (.slice none ([] : List Int).length 0) [] := Kd.R_nil _ _ _ _ _
theorem bd_inj {l : List Bd} (hn : (blks l).Nodup) {x y : Bd} (hx : x ∈ l) (hy : y ∈ l) (e : x.b = y.b) : x = y := by
  induction l with
  | nil => cases hx
  | cons z r ih =>
    unfold blks at hn
    rw [List.map_cons, List.nodup_cons] at hn
    rcases List.mem_cons.1 hx with hx | hx
    · rcases List.mem_cons.1 hy with hy | hy
      · exact hx.trans hy.symm
      · exact absurd (List.mem_map.2 ⟨y, hy, by rw [← e, hx]⟩) hn.1
    · rcases List.mem_cons.1 hy with hy | hy
      · exact absurd (List.mem_map.2 ⟨x, hx, by rw [e, hy]⟩) hn.1
      · exact ih hn.2 hx hy
theorem rep_self {l : List Bd} {x : Bd} (hn : (blks l).Nodup) (hx : x ∈ l) : rep l x = l := by
  have h : ∀ y ∈ l, (if y.b = x.b then x else y) = y := fun y hy => by
    split
    · rename_i e
      exact bd_inj hn hx hy e.symm
    · rfl
  unfold rep
  exact (List.map_congr_left h).trans (List.map_id _)
theorem app0 (d : ByteArray) : t0 ++ d = d := by
  apply bs_inj
  simp [bs, t0, ByteArray.data_append]
theorem rep2a {b c : Nat} (h : c ≠ b) (d d' e : ByteArray) (s s' u : Nat) : rep [⟨b, d, s⟩, ⟨c, e, u⟩] ⟨b, d', s'⟩ = [⟨b, d', s'⟩, ⟨c, e, u⟩] := by simp [rep, h]
theorem rep2b {b c : Nat} (h : c ≠ b) (d e e' : ByteArray) (s u u' : Nat) : rep [⟨b, d, s⟩, ⟨c, e, u⟩] ⟨c, e', u'⟩ = [⟨b, d, s⟩, ⟨c, e', u'⟩] := by simp [rep, Ne.symm h]
theorem ext_full (d : ByteArray) : d.extract 0 d.size = d := by
  cases d
  simp [ByteArray.extract, ByteArray.size, ByteArray.copySlice]
theorem cutB_full (keep : List Int) (i : Nat) {x : Bd} (h : x.s = x.d.size) : cutB keep i x = x := by
  have h1 := nOf_le keep i x
  have h2 : nOf keep i x = 0 := by omega
  unfold cutB
  rw [h2, Nat.add_zero, h, ext_full]
  cases x
  simp at h
  simp [h]
theorem cut1_full (keep : List Int) (d : Dir) (i : Nat) (k : K8) {l : List Bd} (hs : ∀ x ∈ l, x.s = x.d.size) (hn : (blks l).Nodup) (hin : ∀ p ∈ d, p.2 ∈ blks l) : cut1 keep d i k l = l := by
  unfold cut1
  split
  · rename_i b hb
    obtain ⟨h1, h2⟩ := fB_mem (hin _ (lk_mem hb))
    rw [cutB_full keep i (hs _ h1)]
    exact rep_self hn h1
  · rfl
/-- Of what is synced nothing is lost. -/
theorem cuts_full (keep : List Int) (d : Dir) (ns : List K8) (i : Nat) {l : List Bd} (hs : ∀ x ∈ l, x.s = x.d.size) (hn : (blks l).Nodup) (hin : ∀ p ∈ d, p.2 ∈ blks l) : cuts keep d ns i l = l := by
  induction i with
  | zero => rfl
  | succ i ih => rw [cuts, ih, cut1_full keep d i _ hs hn hin]
theorem good_full {l : List Bd} (hs : ∀ x ∈ l, x.s = x.d.size ∧ x.d.size ≤ 140737488355328) : Good l := fun x hx => ⟨Nat.le_of_eq (hs x hx).1, (hs x hx).2⟩
end Go.Proofs.Ytimcibifghidjaa.Fs
