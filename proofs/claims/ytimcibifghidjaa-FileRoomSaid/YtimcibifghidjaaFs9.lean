/- Crash of a file system. -/
import Derived.Test.YtimcibifghidjaaFs8
namespace Go.Proofs.Ytimcibifghidjaa.Fs
open Go Go.RowKit Go.Maps Go.Sort Go.Proofs.Ytimcibifghidjaa.PFil Go.Proofs.Ytimcibifghidjaa.FsM Go.Proofs.YtimcibifghidjaaW.PrintWords Go.Proofs.YtimcibifghidjaaW.PrintLast Go.Proofs.YtimcibifghidjaaW.PrintMore
set_option linter.unusedVariables false
set_option linter.unusedSimpArgs false
/-- The directory is another one. -/
theorem Fx.newat {w0 V : World} {g ma ms mn : Nat} {vp : Value} {S : Sy} {d' : Dir} (h : Fx w0 V g ma ms vp S) (hO : Own V mn d') (hne : mn ≠ ms) (hge : w0.heap.size ≤ mn) (hin : ∀ p ∈ d', p.2 ∈ blks S.bd) : Fx w0 (V.setCell ⟨g, 7, none⟩ (.map (some mn))) g mn ms vp {S with at_ := d'} := by
  have q := h.apart
  have nh : ∀ k, k ≠ g → (V.setCell ⟨g, 7, none⟩ (.map (some mn))).heap[k]? = V.heap[k]? := fun k hk => Below.heap_setCell V ⟨g, 7, none⟩ _ k hk
  refine ⟨blk_put h.hd 7 (.map (some mn)) rfl, hO.same (nh mn (hO.ne h.hd)), h.os.same (nh ms q.2.2.2.1), hne, Kd.R_move h.pr (fun k hk => nh k (q.1 k hk).1), fun x hx => (nh x.b (fun e => q.2.1 (by rw [← e]; exact List.mem_map.2 ⟨x, hx, rfl⟩))).trans (h.bd x hx), h.gg, hge, h.gs, h.gb, h.nd, hin, h.is_, h.ip⟩
def offS (S : Sy) : Sy := {S with on := false, fs := false, fl := 0, bs := false, bl := 0}
def W5 (w : World) (g : Nat) : World := (((((w.setCell ⟨g, 1, none⟩ (.bool false)).setCell ⟨g, 2, none⟩ (.bool false)).setCell ⟨g, 3, none⟩ (.int .i64 0)).setCell ⟨g, 4, none⟩ (.bool false)).setCell ⟨g, 5, none⟩ (.int .i64 0))
theorem Fx.off5 {w0 V : World} {g ma ms : Nat} {vp : Value} {S : Sy} (h : Fx w0 V g ma ms vp S) : Fx w0 (W5 V g) g ma ms vp (offS S) :=
  ((((h.turn (i := 1) (u := .bool false) (S' := {S with on := false}) rfl rfl rfl rfl rfl).turn (i := 2) (u := .bool false) (S' := {S with on := false, fs := false}) rfl rfl rfl rfl rfl).turn (i := 3) (u := .int .i64 0) (S' := {S with on := false, fs := false, fl := 0}) rfl rfl rfl rfl rfl).turn (i := 4) (u := .bool false) (S' := {S with on := false, fs := false, fl := 0, bs := false}) rfl rfl rfl rfl rfl).turn (i := 5) (u := .int .i64 0) (S' := offS S) rfl rfl rfl rfl rfl
/-- Changes, one behind the other. -/
def apL (l : List Ch) (d : Dir) : Dir := l.foldl (fun d c => ap c d) d
def okL : List Ch → Dir → Prop
  | [], _ => True
  | c :: l, d => okC c d ∧ okL l (ap c d)
theorem apL_snoc (l : List Ch) (c : Ch) (d : Dir) : apL (l ++ [c]) d = ap c (apL l d) := by unfold apL; rw [List.foldl_append]; rfl
theorem okL_app (l r : List Ch) (d : Dir) : okL (l ++ r) d ↔ okL l d ∧ okL r (apL l d) := by
  induction l generalizing d with
  | nil => simp [okL, apL]
  | cons c l ih =>
    rw [List.cons_append, okL, okL, ih]
    constructor
    · rintro ⟨h1, h2, h3⟩; exact ⟨⟨h1, h2⟩, h3⟩
    · rintro ⟨⟨h1, h2⟩, h3⟩; exact ⟨h1, h2, h3⟩
theorem okL_at {l : List Ch} {d : Dir} (h : okL l d) {j : Nat} (hj : j < l.length) : okC l[j] (apL (l.take j) d) := by
  have e : l = l.take j ++ l[j] :: l.drop (j + 1) := by rw [List.getElem_cons_drop, List.take_append_drop]
  rw [e] at h
  exact ((okL_app _ _ _).1 h).2.1
theorem apL_len (l : List Ch) (d : Dir) : (apL l d).length ≤ d.length + l.length := by
  induction l generalizing d with
  | nil => simp [apL]
  | cons c l ih =>
    have h1 := ih (ap c d)
    have h2 := ap_len c d
    show (apL l (ap c d)).length ≤ _
    rw [List.length_cons]
    omega
/-- But for block g, the blocks of B and what is new, all stays. -/
def KF (w w' : World) (g : Nat) (B : List Nat) : Prop := w.heap.size ≤ w'.heap.size ∧ ∀ k, k < w.heap.size → k ≠ g → k ∉ B → w'.heap[k]? = w.heap[k]?
theorem KF.refl (w : World) (g : Nat) (B : List Nat) : KF w w g B := ⟨Nat.le_refl _, fun _ _ _ _ => rfl⟩
theorem KF.set {w a : World} {g i : Nat} {B : List Nat} {u : Value} (h : KF w a g B) : KF w (a.setCell ⟨g, i, none⟩ u) g B := ⟨by simpa using h.1, fun k h1 h2 h3 => (Below.heap_setCell a ⟨g, i, none⟩ u k h2).trans (h.2 k h1 h2 h3)⟩
theorem KF.setB {w a : World} {g b i : Nat} {B : List Nat} {u : Value} (h : KF w a g B) (hb : b ∈ B) : KF w (a.setCell ⟨b, i, none⟩ u) g B := ⟨by simpa using h.1, fun k h1 h2 h3 => (Below.heap_setCell a ⟨b, i, none⟩ u k (fun e => h3 (e ▸ hb))).trans (h.2 k h1 h2 h3)⟩
theorem KF.below {w a b : World} {g : Nat} {B : List Nat} (h : KF w a g B) (k : Below a.heap.size a b) : KF w b g B := ⟨Nat.le_trans h.1 k.size, fun i h1 h2 h3 => (k.block i (by have := h.1; omega)).trans (h.2 i h1 h2 h3)⟩
theorem KF.grown {w a b : World} {g m : Nat} {B : List Nat} (h : KF w a g B) (k : a.grownBy b (some m)) (hm : w.heap.size ≤ m) : KF w b g B := ⟨Nat.le_trans h.1 k.size, fun i h1 h2 h3 => (k.block i (by have := h.1; omega) (fun e => by injection e with e; omega)).trans (h.2 i h1 h2 h3)⟩
theorem KF.w5 (w : World) (g : Nat) (B : List Nat) : KF w (W5 w g) g B := (((((KF.refl w g B).set).set).set).set).set
/-- The first file of a block. -/
def fB (l : List Bd) (b : Nat) : Bd := (l.find? (fun x => decide (x.b = b))).getD ⟨b, ⟨#[]⟩, 0⟩
def nOf (keep : List Int) (i : Nat) (x : Bd) : Nat := if i < keep.length then partN (keep.getD i 0) (x.d.size - x.s) else 0
def cutB (keep : List Int) (i : Nat) (x : Bd) : Bd := ⟨x.b, x.d.extract 0 (x.s + nOf keep i x), x.s + nOf keep i x⟩
def cut1 (keep : List Int) (d : Dir) (i : Nat) (k : K8) (l : List Bd) : List Bd := match lk d k with
  | some b => rep l (cutB keep i (fB l b))
  | none => l
def cuts (keep : List Int) (d : Dir) (ns : List K8) : Nat → List Bd → List Bd
  | 0, l => l
  | i + 1, l => cut1 keep d i (ns.getD i []) (cuts keep d ns i l)
theorem fB_mem {l : List Bd} {b : Nat} (h : b ∈ blks l) : fB l b ∈ l ∧ (fB l b).b = b := by
  obtain ⟨x, hx, hb⟩ := List.mem_map.1 h
  cases hf : l.find? (fun x => decide (x.b = b)) with
  | none => exact absurd (List.find?_eq_none.1 hf x hx) (by simpa using hb)
  | some y =>
    have h1 := List.find?_some hf
    have h2 := List.mem_of_find?_eq_some hf
    unfold fB
    rw [hf]
    exact ⟨h2, by simpa using h1⟩
theorem cut1_blks (keep : List Int) (d : Dir) (i : Nat) (k : K8) (l : List Bd) : blks (cut1 keep d i k l) = blks l := by
  unfold cut1
  split
  · exact rep_blks _ _
  · rfl
theorem cuts_blks (keep : List Int) (d : Dir) (ns : List K8) (i : Nat) (l : List Bd) : blks (cuts keep d ns i l) = blks l := by
  induction i with
  | zero => rfl
  | succ i ih => rw [cuts, cut1_blks, ih]
/-- What is synced is there. -/
def Good (l : List Bd) : Prop := ∀ x ∈ l, x.s ≤ x.d.size ∧ x.d.size ≤ 140737488355328
theorem nOf_le (keep : List Int) (i : Nat) (x : Bd) : nOf keep i x ≤ x.d.size - x.s := by
  unfold nOf
  split
  · exact partN_le _ _
  · exact Nat.zero_le _
theorem cutB_good {keep : List Int} {i : Nat} {x : Bd} (h : x.s ≤ x.d.size ∧ x.d.size ≤ 140737488355328) : (cutB keep i x).s = (cutB keep i x).d.size ∧ (cutB keep i x).d.size ≤ 140737488355328 := by
  have h1 := nOf_le keep i x
  unfold cutB
  simp only [ByteArray.size_extract]
  omega
theorem cut1_good {keep : List Int} {d : Dir} {i : Nat} {k : K8} {l : List Bd} (h : Good l) (hin : ∀ p ∈ d, p.2 ∈ blks l) : Good (cut1 keep d i k l) := by
  unfold cut1
  split
  · rename_i b hb
    intro x hx
    rcases mem_rep hx with rfl | ⟨hx, _⟩
    · have h1 : b ∈ blks l := hin _ (lk_mem hb)
      have h2 := cutB_good (keep := keep) (i := i) (h _ (fB_mem h1).1)
      exact ⟨Nat.le_of_eq h2.1, h2.2⟩
    · exact h x hx
  · exact h
theorem cuts_good {keep : List Int} {d : Dir} {ns : List K8} {i : Nat} {l : List Bd} (h : Good l) (hin : ∀ p ∈ d, p.2 ∈ blks l) : Good (cuts keep d ns i l) := by
  induction i with
  | zero => exact h
  | succ i ih => exact cut1_good ih (by rw [cuts_blks]; exact hin)
theorem str_cut (s : ByteArray) (m : Nat) (hm : m ≤ s.size) (W : World) : (Instr.slice 9 (.string s) none (some (.int .i64 (m : Int))) none).run Try.prog W = .ok (.string (s.extract 0 m)) W := by
  have h1 := run_slice_string_h (P := Try.prog) W 9 s Try.underlying9 .i64 (m : Int) (Int.natCast_nonneg _) (by omega)
  rw [Int.toNat_natCast] at h1
  exact h1
theorem rep_rep (l : List Bd) (x y : Bd) (h : x.b = y.b) : rep (rep l x) y = rep l y := by
  unfold rep
  rw [List.map_map]
  refine List.map_congr_left fun z _ => ?_
  show (if (if z.b = x.b then x else z).b = y.b then y else (if z.b = x.b then x else z)) = if z.b = y.b then y else z
  by_cases e : z.b = x.b
  · rw [if_pos e, if_pos h, if_pos (e.trans h)]
  · rw [if_neg e]
theorem Fx.cut {w0 V : World} {g ma ms : Nat} {vp : Value} {S : Sy} (h : Fx w0 V g ma ms vp S) (x : Bd) (hx : x ∈ S.bd) (d' : ByteArray) (m : Nat) : Fx w0 ((V.setCell ⟨x.b, 0, none⟩ (.string d')).setCell ⟨x.b, 1, none⟩ (.int .i64 (m : Int))) g ma ms vp {S with bd := rep S.bd ⟨x.b, d', m⟩} := by
  have h1 := Fx.body h (i := 0) (u := .string d') x ⟨x.b, d', x.s⟩ hx rfl rfl
  have h2 := Fx.body h1 (i := 1) (u := .int .i64 (m : Int)) ⟨x.b, d', x.s⟩ ⟨x.b, d', m⟩ (rep_mem hx rfl) rfl rfl
  have e : ({S with bd := rep S.bd ⟨x.b, d', m⟩} : Sy) = {S with bd := rep (rep S.bd ⟨x.b, d', x.s⟩) ⟨x.b, d', m⟩} := by rw [rep_rep S.bd ⟨x.b, d', x.s⟩ ⟨x.b, d', m⟩ rfl]
  rw [e]
  exact h2
def zCh : Ch := ⟨⟨#[]⟩, ⟨#[]⟩, none⟩
theorem at_Ch {w : World} {A : Option Addr} {n : Nat} {xs : List Ch} (h : Kd.C kCh w A n xs) (i : Int) (h0 : 0 ≤ i) (h1 : i < n) : ∃ ad, A = some ad ∧ w.cell? (ad.add (i.toNat * 3)) = some (.string (xs.getD i.toNat zCh).from_) ∧ w.cell? ⟨(ad.add (i.toNat * 3)).block, (ad.add (i.toNat * 3)).off + 1, none⟩ = some (.string (xs.getD i.toNat zCh).to_) ∧ w.cell? ⟨(ad.add (i.toNat * 3)).block, (ad.add (i.toNat * 3)).off + 2, none⟩ = some (pO (xs.getD i.toNat zCh).made) := by
  obtain ⟨ad, c, e, _, hK, hc0⟩ := Kd.C_get h zCh i h0 h1
  have hc : ∀ j u, c[j]? = some u → w.cell? (ad.add (i.toNat * 3 + j)) = some u := hc0
  obtain rfl := kCh_open hK
  exact ⟨ad, e, hc 0 _ rfl, by rw [← add_field _ _ 1 (by omega)]; exact hc 1 _ rfl, by rw [← add_field _ _ 2 (by omega)]; exact hc 2 _ rfl⟩
theorem part_quiet (V : World) (n : Nat) (a b r : Int) (h : file_part.f a b = some r) : Calls Try.prog 37 #[.int .i64 a, .int .i64 b] (V.drewN n) fun e w'' => e = .returned (.int .i64 r) ∧ ∃ m, w'' = V.drewN m :=
  Calls.quiet_of ((file_part.calls a b r _ h).mono (fun e w' hh => ⟨hh.1, by obtain ⟨_, nd, h2⟩ := hh; exact ⟨nd, h2⟩⟩))
set_option maxHeartbeats 8000000 in
set_option maxRecDepth 100000 in
theorem crash_calls {w0 w : World} {g ma ms : Nat} {vp : Value} {S : Sy} (h : Fx w0 w g ma ms vp S) (hB : Below w0.heap.size w0 w) (dir : Int) (keep : List Int) (Ak : Option Addr) (ck : Nat) (hck : keep.length ≤ ck) (hkl0 : keep.length ≤ 1000000) (hk : ∀ w', KF w w' g (blks S.bd) → Kd.C (Kd.int .i64) w' Ak keep.length keep) (hgood : Good S.bd) (hnm : ∀ p ∈ apL (S.pend.take (partN dir S.pend.length)) S.sy, p.1.length ≤ 140737488355328) (hp : S.sy.length + S.pend.length ≤ 1000000) (hok : Aside0 (okL (S.pend.take (partN dir S.pend.length)) S.sy)) :
    Calls Try.prog 14 #[.pointer (some ⟨g, 0, none⟩), .int .i64 dir, .slice Ak keep.length ck] w fun e w' => e = .returned (.tuple #[]) ∧ (∃ ma' ms', Fx w0 w' g ma' ms' (.slice none 0 0) {offS S with at_ := apL (S.pend.take (partN dir S.pend.length)) S.sy, sy := apL (S.pend.take (partN dir S.pend.length)) S.sy, pend := [], bd := cuts keep (apL (S.pend.take (partN dir S.pend.length)) S.sy) (ks (apL (S.pend.take (partN dir S.pend.length)) S.sy)) (apL (S.pend.take (partN dir S.pend.length)) S.sy).length S.bd}) ∧ Below w0.heap.size w0 w' ∧ KF w w' g (blks S.bd) := by
  have HKH := Aside0.mk hk
  have HGD := Aside0.mk hgood
  have HNM := Aside0.mk hnm
  clear hk hgood hnm
  obtain ⟨Ap, cp, rfl⟩ := Kd.R_slice h.pr
  obtain ⟨_, c1, c2, c3, c4, c5, _, c7, c8, c9⟩ := h.cells
  have f1 := h.thaw 1
  have f2 := h.thaw 2
  have f3 := h.thaw 3
  have f4 := h.thaw 4
  have f5 := h.thaw 5
  have f7 := h.thaw 7
  have hq := eql_some
  have hgg := h.gg
  have HF5 := Aside0.mk (Fx.off5 h)
  have HB5 : Aside0 (Below w0.heap.size w0 (W5 w g)) := ⟨below_set (below_set (below_set (below_set (below_set hB hgg) hgg) hgg) hgg) hgg⟩
  have HPE := Aside0.mk (part_ev dir S.pend.length (by omega))
  have hkl := partN_le dir S.pend.length
  have hcp : S.pend.length ≤ cp := (Kd.R_reads' HF5.out.pr).2.1
  have hcut : ∀ W : World, (Instr.slice 53 (.slice Ap S.pend.length cp) none (some (.int .i64 (partN dir S.pend.length : Int))) none).run Try.prog W = .ok (.slice Ap (partN dir S.pend.length) cp) W := by
    obtain ⟨i, hi, _⟩ := Option.map_eq_some_iff.1 infoC
    intro W
    have h1 := cut_to (P := Try.prog) 53 64 .i64 Try.underlying53 hi Ap S.pend.length cp (partN dir S.pend.length : Int) (Int.natCast_nonneg _) (by omega) hcp W
    rw [Int.toNat_natCast] at h1
    exact h1
  generalize partN dir S.pend.length = kk at *
  clear h hB
  go_enter Try.func14, Try.ntmps14
  go_wp2_with (first
    | (go_at_call 36; refine (clone_own HF5.out.os).mono ?_; rintro ee w3 ⟨rfl, hom, hb⟩; have HF3 := Aside0.mk (HF5.out.below hb); have HB3 := Aside0.mk (below_step HB5.out hb); have HOM := Aside0.mk hom; have HKF := Aside0.mk (((KF.w5 w g (blks S.bd)).below hb).set (i := 7) (u := .map (some (W5 w g).heap.size))); have HMN : Aside0 (w.heap.size ≤ (W5 w g).heap.size) := ⟨(KF.w5 w g []).1⟩; have HNE : Aside0 ((W5 w g).heap.size ≠ ms) := ⟨fun e => Nat.ne_of_lt HF5.out.os.lt e.symm⟩; have HGE : Aside0 (w0.heap.size ≤ (W5 w g).heap.size) := ⟨HB5.out.size⟩; clear hom hb; generalize (W5 w g).heap.size = mn at *; clear c1 c2 c3 c4 c5 c7 c8 c9 f1 f2 f3 f4 f5 f7; obtain ⟨_, _, _, _, _, _, _, c7, _⟩ := HF3.out.cells; have f7 := HF3.out.thaw 7; have HF4 := Aside0.mk (Fx.newat HF3.out HOM.out HNE.out HGE.out HF3.out.is_); have c9 := HF4.out.cells.2.2.2.2.2.2.2.2.2))
  go_quiet ((go_at_call 37; exact part_quiet _ _ _ _ _ HPE.out))
  have HF6 := Aside0.mk (HF4.out.below (pw_below_drewN (Below.refl _ _) nq))
  have HB6 : Aside0 (Below w0.heap.size w0 ((w3.setCell ⟨g, 7, none⟩ (.map (some mn))).drewN nq)) := ⟨below_step (below_set HB3.out hgg) (pw_below_drewN (Below.refl _ _) nq)⟩
  have HKF6 := Aside0.mk (HKF.out.below (pw_below_drewN (Below.refl _ _) nq))
  clear c7 c9 f7 HF3 HB3 HOM HF4 HF5 HB5 HKF
  generalize (w3.setCell ⟨g, 7, none⟩ (.map (some mn))).drewN nq = w6 at *
  go_wp2_with (fail)
  go_loopw [53] (fun v53 w' => ∃ j : Nat, v53 = .int .i64 j ∧ j ≤ kk ∧ Aside0 (Fx w0 w' g mn ms (.slice Ap S.pend.length cp) {offS S with at_ := apL (S.pend.take j) S.sy}) ∧ Aside0 (Below w0.heap.size w0 w') ∧ Aside0 (KF w w' g (blks S.bd))) (fun v53 _ => kk - (intOf v53).toNat)
  case atStart => exact ⟨0, rfl, Nat.zero_le _, HF6, HB6, HKF6⟩
  case round =>
    obtain ⟨j, rfl, hj, HF, HB, HKF⟩ := hrel
    clear HKF6
    by_cases hlk : j < kk
    · have p0 : (0 : Int) ≤ (j : Int) := Int.natCast_nonneg _
      have q0 : (j : Int) < (kk : Int) := Int.ofNat_lt.mpr hlk
      have t0 : decide ((j : Int) < (kk : Int)) = true := decide_eq_true q0
      obtain ⟨ad, e0, hx0, hx1, hx2⟩ := at_Ch (Kd.R_reads' HF.out.pr).2.2 (j : Int) p0 (by show (j : Int) < (S.pend.length : Int); omega)
      cases e0
      rw [Int.toNat_natCast] at hx0 hx1 hx2
      have hcj : S.pend.getD j zCh = S.pend[j]'(by omega) := by rw [List.getD_eq_getElem?_getD, List.getElem?_eq_getElem (by omega)]; rfl
      have HOK : Aside0 (okC (S.pend.getD j zCh) (apL (S.pend.take j) S.sy)) := ⟨by
        have h1 := okL_at hok.out (j := j) (by rw [List.length_take]; omega)
        rw [List.getElem_take, List.take_take, show min j kk = j by omega] at h1
        rw [hcj]
        exact h1⟩
      have HTK : Aside0 (apL (S.pend.take (j + 1)) S.sy = ap (S.pend.getD j zCh) (apL (S.pend.take j) S.sy)) := ⟨by rw [hcj, List.take_succ_eq_append_getElem (by omega), apL_snoc]⟩
      have HMD : Aside0 (∀ b, (S.pend.getD j zCh).made = some b → b ∈ blks S.bd) := ⟨fun b hb => HF.out.ip (S.pend.getD j zCh) (by rw [hcj]; exact List.getElem_mem _) b hb⟩
      have c7 := HF.out.cells.2.2.2.2.2.2.2.1
      have hglt := HF.out.lt g (.inl rfl)
      rw [show ({offS S with at_ := apL (S.pend.take j) S.sy} : Sy).pend = S.pend from rfl] at hx0 hx1 hx2
      clear hcj
      generalize S.pend.getD j zCh = c at *
      have HDL : Aside0 ((apL (S.pend.take j) S.sy).length ≤ 1000000) := ⟨by have h1 := apL_len (S.pend.take j) S.sy; rw [List.length_take] at h1; omega⟩
      unfold pO at hx2
      obtain ⟨pm, hpm⟩ : ∃ pm, pm = Option.map (fun b => (⟨b, 0, none⟩ : Addr)) c.made := ⟨_, rfl⟩
      rw [← hpm] at hx2
      have HPM := Aside0.mk hpm
      have HJ := Aside0.mk hj
      clear hpm
      go_wp2_with (fail)
      have HBA : Aside0 (Below wr.heap.size wr (wr.alloc (.cells #[.string c.from_, .string c.to_, .pointer pm] 64))) := ⟨below_alloc (Below.refl _ _) _⟩
      have HFA := Aside0.mk (HF.out.below HBA.out)
      have HX := Aside0.mk (blk_new wr (.cells #[.string c.from_, .string c.to_, .pointer pm] 64))
      have HBB := Aside0.mk (below_step HB.out HBA.out)
      have HKFA := Aside0.mk (HKF.out.below HBA.out)
      clear c7 hx0 hx1 hx2 hglt
      generalize hbx : wr.heap.size = bx at *
      generalize wr.alloc (.cells #[.string c.from_, .string c.to_, .pointer pm] 64) = wa at *
      have z0 : wa.cell? ⟨bx, 0, none⟩ = some (.string c.from_) := (blk_cell HX.out 0).trans rfl
      have z1 : wa.cell? ⟨bx, 1, none⟩ = some (.string c.to_) := (blk_cell HX.out 1).trans rfl
      have z2 : wa.cell? ⟨bx, 2, none⟩ = some (.pointer pm) := (blk_cell HX.out 2).trans rfl
      have c7 := HFA.out.cells.2.2.2.2.2.2.2.1
      clear hbx
      go_still_tail 5, (by kernel_rfl)
      change wpList _ _ _ _ _ wa.drew
      have HA := Aside0.mk (apply_calls wa.drew mn (apL (S.pend.take j) S.sy) c (HFA.out.oa.below (below_drew (Below.refl _ _))) HOK.out HDL.out)
      unfold pO at HA
      rw [← HPM.out] at HA
      clear c7 z0 z1 z2
      go_wp2_with (first | (go_at_call 38; refine HA.out.mono ?_; rintro ee w2 ⟨rfl, ho, hg⟩; have HF2 := Aside0.mk ((HFA.out.below (below_drew (Below.refl _ _))).dir ho hg (fun p hp => ap_in HFA.out.ia HMD.out hp)); have HB2 := Aside0.mk (Below.grown (below_drew HBB.out) hg (below_drew HBB.out).size (fun k hk => by cases hk; exact HFA.out.ga)); have HKF2 := Aside0.mk ((HKFA.out.below (below_drew (Below.refl _ _))).grown hg HMN.out); clear ho hg HA))
      go_roundw
      case rel => exact ⟨j + 1, by go_num, by omega, ⟨by rw [HTK.out]; exact HF2.out⟩, HB2, HKF2⟩
      case measure => simp [intOf]; omega
    · have hje : j = kk := by omega
      subst hje
      have t0 : decide ((j : Int) < (j : Int)) = false := decide_eq_false (by omega)
      obtain ⟨d1, hd1⟩ : ∃ d1, d1 = apL (S.pend.take j) S.sy := ⟨_, rfl⟩
      have HDL : Aside0 (d1.length ≤ 1000000) := ⟨by have h1 := apL_len (S.pend.take j) S.sy; rw [List.length_take] at h1; rw [hd1]; omega⟩
      rw [← hd1] at HF
      have HD1 := Aside0.mk hd1
      have c7 := HF.out.cells.2.2.2.2.2.2.2.1
      have HS := Aside0.mk (sorted_keys HF.out.oa HDL.out)
      clear hd1 hcut HF6 HB6
      go_wp2_with (first
        | (go_at_call 40; refine (callsIn_wide.1 (Try.maps_Keys_40 _ _)).mono ?_; rintro e w2 ⟨rfl, rfl⟩)
        | (go_at_call 39; refine HS.out.mono ?_; rintro e w3 ⟨An, cn, rfl, hr, hb⟩; have HR := Aside0.mk hr; have HF3 := Aside0.mk (HF.out.below hb); have HB3 := Aside0.mk (below_step HB.out hb); have HKF3 := Aside0.mk (HKF.out.below hb); clear hr hb c7 HS))
      go_loopw [71] (fun v71 w' => ∃ i : Nat, v71 = .int .i64 i ∧ i ≤ (nm d1).length ∧ Aside0 (Kd.string.R 9 w' wr.heap.size (fun k => (Value.slice An (nm d1).length cn).ownBlock = some k) (.slice An (nm d1).length cn) (nm d1)) ∧ Aside0 (Fx w0 w' g mn ms (.slice Ap S.pend.length cp) {offS S with at_ := d1, bd := cuts keep d1 (ks d1) i S.bd}) ∧ Aside0 (Below w0.heap.size w0 w') ∧ Aside0 (KF w w' g (blks S.bd))) (fun v71 _ => (nm d1).length - (intOf v71).toNat)
      case atStart => exact ⟨0, rfl, Nat.zero_le _, HR, HF3, HB3, HKF3⟩
      case round =>
        obtain ⟨i, rfl, hi, HRN, HFI, HBI, HKI⟩ := hrel
        clear HF HB HKF HR HF3 HB3 HKF3
        by_cases hlk2 : i < (nm d1).length
        · have p0 : (0 : Int) ≤ (i : Int) := Int.natCast_nonneg _
          have hnb : (nm d1).length ≤ 1000000 := by rw [nm_len]; exact HDL.out
          have q0 : (i : Int) < ((nm d1).length : Int) := Int.ofNat_lt.mpr hlk2
          have t1 : decide ((i : Int) < ((nm d1).length : Int)) = true := decide_eq_true q0
          have hi2 : i < (ks d1).length := by rw [ks_len]; rw [nm_len] at hlk2; exact hlk2
          obtain ⟨ad, e0, hx0⟩ := Kd.at_string (Kd.R_reads' HRN.out).2.2 (i : Int) p0 q0
          cases e0
          have hrd : rdOf ByteArray.empty (nm d1) (i : Int) = ⟨((ks d1)[i]).toArray⟩ := by simp [rdOf, nm, hi2]
          rw [hrd, Int.toNat_natCast] at hx0
          have c7 := HFI.out.cells.2.2.2.2.2.2.2.1
          have hsz : (⟨((ks d1)[i]).toArray⟩ : ByteArray).size ≤ 140737488355328 := by
            obtain ⟨p, hp1, hp2⟩ := List.mem_map.1 ((ks_mem d1 _).1 (List.getElem_mem hi2))
            have h1 := HNM.out p (by rw [← HD1.out]; exact hp1)
            show ((ks d1)[i]).toArray.size ≤ _
            rw [List.size_toArray, ← hp2]
            exact h1
          have hlook := look_run HFI.out.oa ⟨((ks d1)[i]).toArray⟩ hsz
          rw [bs_mk] at hlook
          obtain ⟨b, hb⟩ : ∃ b, lk d1 ((ks d1)[i]) = some b := by
            have h1 := (lk_some_iff d1 ((ks d1)[i])).2 ((ks_mem d1 _).1 (List.getElem_mem hi2))
            exact Option.isSome_iff_exists.1 h1
          rw [show ({offS S with at_ := d1, bd := cuts keep d1 (ks d1) i S.bd} : Sy).at_ = d1 from rfl, hb] at hlook
          unfold pO at hlook
          have hbm : b ∈ blks (cuts keep d1 (ks d1) i S.bd) := HFI.out.ia _ (lk_mem hb)
          obtain ⟨hxm, hxb⟩ := fB_mem hbm
          have hgx := cuts_good (keep := keep) (ns := ks d1) (i := i) HGD.out (d := d1) (fun p hp => by have h1 := HFI.out.ia p hp; rw [show ({offS S with at_ := d1, bd := cuts keep d1 (ks d1) i S.bd} : Sy).bd = cuts keep d1 (ks d1) i S.bd from rfl, cuts_blks] at h1; exact h1) _ hxm
          have HCUT : Aside0 (cuts keep d1 (ks d1) (i + 1) S.bd = rep (cuts keep d1 (ks d1) i S.bd) (cutB keep i (fB (cuts keep d1 (ks d1) i S.bd) b))) := ⟨by
            rw [cuts, cut1, show (ks d1).getD i [] = (ks d1)[i] by rw [List.getD_eq_getElem?_getD, List.getElem?_eq_getElem hi2]; rfl, hb]⟩
          have HBD := Aside0.mk (HFI.out.bd _ hxm)
          have HXM := Aside0.mk hxm
          have HXB : Aside0 (b ∈ blks S.bd) := ⟨by have h1 := hbm; rw [cuts_blks] at h1; exact h1⟩
          generalize fB (cuts keep d1 (ks d1) i S.bd) b = x at *
          subst hxb
          have y0 : wr.cell? ⟨x.b, 0, none⟩ = some (.string x.d) := (blk_cell HBD.out 0).trans rfl
          have y1 : wr.cell? ⟨x.b, 1, none⟩ = some (.int .i64 (x.s : Int)) := (blk_cell HBD.out 1).trans rfl
          have g0 : wr.frozen? ⟨x.b, 0, none⟩ = false := blk_frozen HBD.out 0
          have g1 : wr.frozen? ⟨x.b, 1, none⟩ = false := blk_frozen HBD.out 1
          by_cases hik : i < keep.length
          · have t2 : decide ((i : Int) < (keep.length : Int)) = true := decide_eq_true (Int.ofNat_lt.mpr hik)
            have HN : Aside0 (nOf keep i x = partN (keep.getD i 0) (x.d.size - x.s)) := ⟨by unfold nOf; rw [if_pos hik]⟩
            obtain ⟨ak, e1, hk0⟩ := Kd.at_int (HKH.out _ HKI.out) (i : Int) p0 (Int.ofNat_lt.mpr hik)
            cases e1
            rw [show rd keep (i : Int) = keep.getD i 0 from rfl, Int.toNat_natCast] at hk0
            have hws : IntKind.i64.wrap ((x.d.size : Int) - (x.s : Int)) = ((x.d.size - x.s : Nat) : Int) := by rw [IntKind.wrap_i64]; omega
            have HPX := Aside0.mk (part_ev (keep.getD i 0) (x.d.size - x.s) (by omega))
            rw [← HN.out] at HPX
            have hnn := nOf_le keep i x
            obtain ⟨m, hm⟩ : ∃ m : Nat, m = x.s + nOf keep i x := ⟨_, rfl⟩
            have hwn : IntKind.i64.wrap ((x.s : Int) + (nOf keep i x : Int)) = (m : Int) := by rw [IntKind.wrap_i64]; omega
            have hstr : ∀ W : World, (Instr.slice 9 (.string x.d) none (some (.int .i64 (m : Int))) none).run Try.prog W = .ok (.string (x.d.extract 0 m)) W := str_cut x.d _ (by omega)
            have HCB : Aside0 (cutB keep i x = ⟨x.b, x.d.extract 0 m, m⟩) := ⟨by unfold cutB; rw [← hm]⟩
            have hms : m ≤ x.d.size := by omega
            clear hm
            generalize hnx : nOf keep i x = nn at *
            generalize keep.getD i 0 = kv at *
            go_wp2_with (fail)
            go_quiet ((go_at_call 37; exact part_quiet _ _ _ _ _ HPX.out))
            have HRQ := Aside0.mk (Kd.R_step HRN.out (fun k hk hlt => (pw_below_drewN (Below.refl _ wr) nq).block k hlt) : Kd.string.R 9 (wr.drewN nq) _ (fun k => (Value.slice (some ad) (nm d1).length cn).ownBlock = some k) (.slice (some ad) (nm d1).length cn) (nm d1))
            have HFQ := Aside0.mk (HFI.out.below (pw_below_drewN (Below.refl _ wr) nq))
            have HBQ := Aside0.mk (below_step HBI.out (pw_below_drewN (Below.refl _ wr) nq))
            have HKQ := Aside0.mk (HKI.out.below (pw_below_drewN (Below.refl _ wr) nq))
            clear y0 y1 g0 g1 HRN HFI HBI HKI c7 hk0 HBD hlook hx0
            generalize wr.drewN nq = wq at *
            have y0 : wq.cell? ⟨x.b, 0, none⟩ = some (.string x.d) := (blk_cell (HFQ.out.bd x HXM.out) 0).trans rfl
            have y1 : wq.cell? ⟨x.b, 1, none⟩ = some (.int .i64 (x.s : Int)) := (blk_cell (HFQ.out.bd x HXM.out) 1).trans rfl
            have g0 : wq.frozen? ⟨x.b, 0, none⟩ = false := blk_frozen (HFQ.out.bd x HXM.out) 0
            have g1 : wq.frozen? ⟨x.b, 1, none⟩ = false := blk_frozen (HFQ.out.bd x HXM.out) 1
            go_wp2_with (fail)
            go_still_tail 14, (by kernel_rfl)
            change wpList _ _ _ _ _ wq.drew
            have HRZ := Aside0.mk (Kd.R_move HRQ.out (fun k hk => by rfl) : Kd.string.R 9 wq.drew _ (fun k => (Value.slice (some ad) (nm d1).length cn).ownBlock = some k) (.slice (some ad) (nm d1).length cn) (nm d1))
            have HFZ := Aside0.mk (HFQ.out.below (below_drew (Below.refl _ wq)))
            have HBZ := Aside0.mk (below_drew HBQ.out)
            have HKZ := Aside0.mk (HKQ.out.below (below_drew (Below.refl _ wq)))
            clear y0 y1 g0 g1 HRQ HFQ HBQ HKQ
            generalize wq.drew = wz at *
            have y0 : wz.cell? ⟨x.b, 0, none⟩ = some (.string x.d) := (blk_cell (HFZ.out.bd x HXM.out) 0).trans rfl
            have y1 : wz.cell? ⟨x.b, 1, none⟩ = some (.int .i64 (x.s : Int)) := (blk_cell (HFZ.out.bd x HXM.out) 1).trans rfl
            have g0 : wz.frozen? ⟨x.b, 0, none⟩ = false := blk_frozen (HFZ.out.bd x HXM.out) 0
            have g1 : wz.frozen? ⟨x.b, 1, none⟩ = false := blk_frozen (HFZ.out.bd x HXM.out) 1
            go_wp2_with (fail)
            go_roundw
            case rel => exact ⟨i + 1, by go_num, by omega, ⟨Kd.R_move HRZ.out (fun k hk => (Below.heap_setCell _ ⟨x.b, 1, none⟩ _ k (fun e => Kd.R_ne HRZ.out (HFZ.out.bd x HXM.out) (by decide) (hk.trans (congrArg some e)).symm)).trans (Below.heap_setCell _ ⟨x.b, 0, none⟩ _ k (fun e => Kd.R_ne HRZ.out (HFZ.out.bd x HXM.out) (by decide) (hk.trans (congrArg some e)).symm)))⟩, ⟨by rw [HCUT.out, HCB.out]; exact Fx.cut HFZ.out x HXM.out _ _⟩, ⟨below_set (below_set HBZ.out (HFZ.out.gb x HXM.out)) (HFZ.out.gb x HXM.out)⟩, ⟨(HKZ.out.setB HXB.out).setB HXB.out⟩⟩
            case measure => simp [intOf]; omega
          · have t2 : decide ((i : Int) < (keep.length : Int)) = false := decide_eq_false (by omega)
            have HN : Aside0 (nOf keep i x = 0) := ⟨by unfold nOf; rw [if_neg hik]⟩
            have HCB : Aside0 (cutB keep i x = ⟨x.b, x.d.extract 0 x.s, x.s⟩) := ⟨by unfold cutB; rw [HN.out]; rfl⟩
            have hwn : IntKind.i64.wrap ((x.s : Int) + 0) = (x.s : Int) := by rw [IntKind.wrap_i64]; omega
            have hwn0 : IntKind.i64.wrap (x.s : Int) = (x.s : Int) := by rw [IntKind.wrap_i64]; omega
            have hstr : ∀ W : World, (Instr.slice 9 (.string x.d) none (some (.int .i64 (x.s : Int))) none).run Try.prog W = .ok (.string (x.d.extract 0 x.s)) W := str_cut x.d _ (by omega)
            go_wp2_with (fail)
            go_still_tail 14, (by kernel_rfl)
            change wpList _ _ _ _ _ wr.drew
            have HRZ := Aside0.mk (Kd.R_move HRN.out (fun k hk => by rfl) : Kd.string.R 9 wr.drew _ (fun k => (Value.slice (some ad) (nm d1).length cn).ownBlock = some k) (.slice (some ad) (nm d1).length cn) (nm d1))
            have HFZ := Aside0.mk (HFI.out.below (below_drew (Below.refl _ wr)))
            have HBZ := Aside0.mk (below_drew HBI.out)
            have HKZ := Aside0.mk (HKI.out.below (below_drew (Below.refl _ wr)))
            clear y0 y1 g0 g1 HRN HFI HBI HKI c7
            generalize wr.drew = wz at *
            have y0 : wz.cell? ⟨x.b, 0, none⟩ = some (.string x.d) := (blk_cell (HFZ.out.bd x HXM.out) 0).trans rfl
            have y1 : wz.cell? ⟨x.b, 1, none⟩ = some (.int .i64 (x.s : Int)) := (blk_cell (HFZ.out.bd x HXM.out) 1).trans rfl
            have g0 : wz.frozen? ⟨x.b, 0, none⟩ = false := blk_frozen (HFZ.out.bd x HXM.out) 0
            have g1 : wz.frozen? ⟨x.b, 1, none⟩ = false := blk_frozen (HFZ.out.bd x HXM.out) 1
            go_wp2_with (fail)
            go_roundw
            case rel => exact ⟨i + 1, by go_num, by omega, ⟨Kd.R_move HRZ.out (fun k hk => (Below.heap_setCell _ ⟨x.b, 1, none⟩ _ k (fun e => Kd.R_ne HRZ.out (HFZ.out.bd x HXM.out) (by decide) (hk.trans (congrArg some e)).symm)).trans (Below.heap_setCell _ ⟨x.b, 0, none⟩ _ k (fun e => Kd.R_ne HRZ.out (HFZ.out.bd x HXM.out) (by decide) (hk.trans (congrArg some e)).symm)))⟩, ⟨by rw [HCUT.out, HCB.out]; exact Fx.cut HFZ.out x HXM.out _ _⟩, ⟨below_set (below_set HBZ.out (HFZ.out.gb x HXM.out)) (HFZ.out.gb x HXM.out)⟩, ⟨(HKZ.out.setB HXB.out).setB HXB.out⟩⟩
            case measure => simp [intOf]; omega
        · have hie : i = (nm d1).length := by omega
          subst hie
          have t1 : decide (((nm d1).length : Int) < ((nm d1).length : Int)) = false := decide_eq_false (by omega)
          have HLN : Aside0 ((nm d1).length = d1.length) := ⟨nm_len d1⟩
          have c7 := HFI.out.cells.2.2.2.2.2.2.2.1
          go_wp2_with (first
            | (go_at_call 36; refine (clone_own HFI.out.oa).mono ?_; rintro ee w9 ⟨rfl, hom, hb⟩; have HF9 := Aside0.mk (HFI.out.below hb); have HB9 := Aside0.mk (below_step HBI.out hb); have HK9 := Aside0.mk (HKI.out.below hb); have HOM9 := Aside0.mk hom; have HNE9 : Aside0 (mn ≠ wr.heap.size) := ⟨Nat.ne_of_lt HFI.out.oa.lt⟩; have HGE9 : Aside0 (w0.heap.size ≤ wr.heap.size) := ⟨HBI.out.size⟩; clear c7; obtain ⟨_, _, _, _, _, _, _, c7, c8, c9⟩ := HF9.out.cells; have f8 := HF9.out.thaw 8; have f9 := HF9.out.thaw 9; clear hom hb))
          first | go_end0 | ((try simp only [Exit.inBlock, Exit.then]); refine bodyPost_ret (results_none rfl _ _ _) rfl ?_)
          have hfin := Fx.synced HF9.out HOM9.out HNE9.out HGE9.out HF9.out.ia
          rw [HLN.out] at hfin
          rw [← HD1.out]
          exact ⟨rfl, ⟨_, _, hfin⟩, below_set (below_set HB9.out HF9.out.gg) HF9.out.gg, (HK9.out.set).set⟩
end Go.Proofs.Ytimcibifghidjaa.Fs
