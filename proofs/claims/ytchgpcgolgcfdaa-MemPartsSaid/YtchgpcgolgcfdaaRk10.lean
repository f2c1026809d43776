/- A skip list whose nodes stand in order: what any put makes of it, and what a key's version is. -/
import Derived.Test.YtchgpcgolgcfdaaRk6
import Derived.Test.YtchgpcgolgcfdaaPNumx10
namespace Go.Proofs.Ytchgpcgolgcfdaa.Rk
open Go Go.RowKit Go.Proofs.Ytchgpcgolgcfdaa.PNum Go.Proofs.Ytchgpcgolgcfdaa.RkM Go.Proofs.YtchgpcgolgcfdaaW.PrintWords Go.Proofs.YtchgpcgolgcfdaaW.PrintLast Go.Proofs.YtchgpcgolgcfdaaW.PrintMore
open PuIkC Go.Proofs.YtchgpcgolgcfdaaW.Pu
set_option linter.unusedVariables false
set_option linter.unusedSimpArgs false
theorem less_cl : ∀ (x y : List UInt8), Op.bytesLess x y = decide (Lib.compareBytes x y = -1)
  | [], [] => rfl
  | [], b :: y => rfl
  | a :: x, [] => rfl
  | a :: x, b :: y => by
    rw [Op.bytesLess, less_cl x y, Lib.compareBytes]
    by_cases h : a < b
    · simp [h]
    · by_cases k : b < a
      · have hn : ¬ a = b := fun q => absurd (q ▸ k) (UInt8.lt_irrefl _)
        simp [h, k, hn]
      · have hab : a = b := UInt8.le_antisymm (UInt8.not_lt.1 k) (UInt8.not_lt.1 h)
        subst hab
        simp [h]
theorem lt_cb (key : ByteArray) (e : E) : lt key e = decide (cb e.f0 key = -1) := by
  unfold lt cb
  rw [less_cl, YtchgpcgolgcfdaaW.Pu.toList_data, YtchgpcgolgcfdaaW.Pu.toList_data]
theorem cb_range (a b : ByteArray) : cb a b = -1 ∨ cb a b = 0 ∨ cb a b = 1 := cl_range _ _
theorem cb_trans {a b c : ByteArray} (h : cb a b = -1) (k : cb b c = -1) : cb a c = -1 := cl_trans _ _ _ h k
theorem ce_cases {a b : E} (h : ce a b = -1) : cb a.f0 b.f0 = -1 ∨ (a.f0 = b.f0 ∧ b.f1 < a.f1) := by
  unfold ce at h
  split at h
  · rename_i h0
    refine Or.inr ⟨(cb_zero _ _).1 h0, ?_⟩
    unfold cs at h
    split at h
    · assumption
    · split at h <;> cases h
  · exact Or.inl h
theorem lt_down (key : ByteArray) (x y : E) (h : ce x y = -1) (k : lt key y = true) : lt key x = true := by
  rw [lt_cb] at k ⊢
  have k1 := of_decide_eq_true k
  refine decide_eq_true ?_
  rcases ce_cases h with h | ⟨h, _⟩
  · exact cb_trans h k1
  · rw [h]; exact k1
theorem ce_down (e : E) (x y : E) (h : ce x y = -1) (k : decide (ce y e < 0) = true) : decide (ce x e < 0) = true := by
  have k1 := of_decide_eq_true k
  refine decide_eq_true ?_
  have k2 : ce y e = -1 := by rcases ce_range y e with q | q | q <;> omega
  rw [ce_trans h k2]
  decide
def Srt (ns : List Nd) : Prop := ns.Pairwise fun x y => ce x.e y.e = -1
theorem split_by (p : E → Bool) (hp : ∀ x y, ce x y = -1 → p y = true → p x = true) : ∀ {ns : List Nd}, Srt ns → ∃ pre post, ns = pre ++ post ∧ (∀ x ∈ pre, p x.e = true) ∧ (∀ x ∈ post, p x.e = false)
  | [], _ => ⟨[], [], rfl, (fun _ h => by cases h), (fun _ h => by cases h)⟩
  | x :: r, h => by
    have h2 := List.pairwise_cons.1 h
    cases hx : p x.e with
    | true =>
      obtain ⟨pre, post, rfl, h3, h4⟩ := split_by p hp h2.2
      refine ⟨x :: pre, post, rfl, fun y hy => ?_, h4⟩
      rcases List.mem_cons.1 hy with rfl | hy
      · exact hx
      · exact h3 y hy
    | false =>
      refine ⟨[], x :: r, rfl, (fun _ h => by cases h), fun y hy => ?_⟩
      rcases List.mem_cons.1 hy with rfl | hy
      · exact hx
      · cases hp2 : p y.e with
        | false => rfl
        | true => rw [hp _ _ (h2.1 y hy) hp2] at hx; cases hx
/-- A version put into a list in order. -/
def ins (e : E) : List E → List E
  | [] => [e]
  | x :: r => if ce x e < 0 then x :: ins e r else if ce x e = 0 then x :: r else e :: x :: r
def insV (e : E) (l : List E) : List E := if valid e.f0 e.f2 e.f3 = true then ins e l else l
def fresh (e : E) (l : List E) : Bool := valid e.f0 e.f2 e.f3 && l.all fun x => ce x e != 0
theorem ins_app (e : E) : ∀ (p q : List E), (∀ x ∈ p, ce x e < 0) → ins e (p ++ q) = p ++ ins e q
  | [], _, _ => rfl
  | x :: r, q, h => by
    rw [List.cons_append, ins, if_pos (h x (by simp)), ins_app e r q (fun y hy => h y (by simp [hy]))]
    rfl
theorem ins_len (e : E) : ∀ (l : List E), (ins e l).length ≤ l.length + 1
  | [] => by simp [ins]
  | x :: r => by
    rw [ins]
    split
    · have := ins_len e r
      simp
      omega
    · split <;> simp
theorem insV_len (e : E) (l : List E) : (insV e l).length ≤ l.length + 1 := by
  unfold insV
  split
  · exact ins_len e l
  · omega
/-- The list at block g, in order. -/
structure OkL (R : Root) (w0 V : World) (g : Nat) (ns : List Nd) : Prop where
  isl : ∃ t, IsL R w0 V g ns (ns.length : Int) t
  srt : Srt ns
  hts : ∀ x ∈ ns, 1 ≤ x.h
theorem OkL.below {R : Root} {w0 V V1 : World} {g : Nat} {ns : List Nd} (h : OkL R w0 V g ns) (hb : Below V.heap.size V V1) : OkL R w0 V1 g ns := by
  obtain ⟨⟨t, h1⟩, h2, h3⟩ := h
  exact ⟨⟨t, h1.below hb⟩, h2, h3⟩
theorem OkL.lt {R : Root} {w0 V : World} {g : Nat} {ns : List Nd} (h : OkL R w0 V g ns) : ∀ k, (k = g ∨ k ∈ blocks ns) → k < V.heap.size := by
  obtain ⟨⟨t, h1⟩, _, _⟩ := h
  rintro k (rfl | hk)
  · exact blk_lt h1.hd
  · obtain ⟨x, hx, rfl⟩ := List.mem_map.1 hk
    exact h1.ch.lt x hx
/-- A list whose blocks another put leaves alone. -/
theorem OkL.far {R : Root} {w0 V V1 : World} {g : Nat} {ns : List Nd} (h : OkL R w0 V g ns) (hk : ∀ k, (k = g ∨ k ∈ blocks ns) → V1.heap[k]? = V.heap[k]?) : OkL R w0 V1 g ns := by
  obtain ⟨⟨t, h1⟩, h2, h3⟩ := h
  exact ⟨⟨t, (hk g (Or.inl rfl)).trans h1.hd, h1.ch.congr (fun x hx => hk x.b (Or.inr (List.mem_map.2 ⟨x, hx, rfl⟩))), h1.nd, h1.gg, h1.gb⟩, h2, h3⟩
theorem len_ok (R : Root) (w0 w : World) (g : Nat) (ns : List Nd) (h : OkL R w0 w g ns) :
    Calls Try.prog 58 #[.pointer (some ⟨g, 0, none⟩)] w fun e w' => e = .returned (.int .i64 (ns.length : Int)) ∧ w' = w := by
  obtain ⟨t, h1⟩ := h.isl
  exact len_calls R w0 w g ns _ t h1
def fromL (key : ByteArray) (l : List E) : List E := l.dropWhile fun x => lt key x
theorem drop_split {p : E → Bool} : ∀ {pre post : List Nd}, (∀ x ∈ pre, p x.e = true) → (∀ x ∈ post, p x.e = false) → ((pre ++ post).map (·.e)).dropWhile p = post.map (·.e)
  | [], [], _, _ => rfl
  | [], x :: r, _, h => by
    rw [List.nil_append, List.map_cons, List.dropWhile_cons, h x (by simp)]
    rfl
  | x :: p1, q, h, k => by
    rw [List.cons_append, List.map_cons, List.dropWhile_cons, h x (by simp), if_pos rfl]
    exact drop_split (fun y hy => h y (by simp [hy])) k
theorem from_ok (R : Root) (w0 w : World) (g : Nat) (ns : List Nd) (key : ByteArray) (h : OkL R w0 w g ns) (hl : ns.length < 1000000) :
    Calls Try.prog 39 #[.pointer (some ⟨g, 0, none⟩), .string key] w fun e w' => ∃ v, e = .returned v ∧ Kd.R k29 29 w' w.heap.size (fun _ => True) v (fromL key (ns.map (·.e))) ∧ Below w.heap.size w w' := by
  obtain ⟨t, h1⟩ := h.isl
  obtain ⟨pre, post, rfl, hp, hq⟩ := split_by (fun x => lt key x) (lt_down key) h.srt
  unfold fromL
  rw [drop_split hp hq]
  exact from_calls R w0 w g pre post _ t key h1 hp hq h.hts (by simp at hl; omega)
/-- The version of a key that is seen at a time. -/
def pickL (key : ByteArray) (s : Int) : List E → Option E
  | [] => none
  | x :: r => if x.f0 = key ∧ x.f1 ≤ s then some x else pickL key s r
theorem pick_ahead {key : ByteArray} {s : Int} {q : List E} : ∀ {p : List Nd}, (∀ x ∈ p, lt key x.e = true) → pickL key s (p.map (·.e) ++ q) = pickL key s q
  | [], _ => rfl
  | x :: r, h => by
    rw [List.map_cons, List.cons_append, pickL, if_neg, pick_ahead (fun y hy => h y (by simp [hy]))]
    rintro ⟨k, _⟩
    have h1 := h x (by simp)
    rw [lt_cb, k] at h1
    have h2 := of_decide_eq_true h1
    rw [(cb_zero key key).2 rfl] at h2
    omega
theorem pick_none {key : ByteArray} {s : Int} : ∀ {p : List Nd}, (∀ x ∈ p, x.e.f0 ≠ key) → pickL key s (p.map (·.e)) = none
  | [], _ => rfl
  | x :: r, h => by
    rw [List.map_cons, pickL, if_neg (fun k => h x (by simp) k.1)]
    exact pick_none (fun y hy => h y (by simp [hy]))
theorem get_pick {key : ByteArray} {s : Int} : ∀ {q : List Nd}, Srt q → (∀ x ∈ q, lt key x.e = false) → getL key s q = pickL key s (q.map (·.e))
  | [], _, _ => rfl
  | x :: r, hs, h => by
    have h2 := List.pairwise_cons.1 hs
    rw [getL, List.map_cons, pickL]
    by_cases k : x.e.f0.toList = key.toList
    · have k2 := tl_ext.1 k
      rw [if_pos k]
      by_cases k3 : x.e.f1 ≤ s
      · rw [if_pos k3, if_pos ⟨k2, k3⟩]
      · rw [if_neg k3, if_neg (fun z => k3 z.2)]
        exact get_pick h2.2 (fun y hy => h y (by simp [hy]))
    · have k2 : ¬ x.e.f0 = key := fun z => k (by rw [z])
      rw [if_neg k, if_neg (fun z => k2 z.1)]
      refine (pick_none fun y hy z => ?_).symm
      have h3 := h x (by simp)
      rw [lt_cb] at h3
      have h4 := of_decide_eq_false h3
      rcases ce_cases (h2.1 y hy) with h5 | ⟨h5, _⟩
      · rw [z] at h5; exact h4 h5
      · exact k2 (h5.trans z)
theorem get_ok (R : Root) (w0 w : World) (g : Nat) (ns : List Nd) (key : ByteArray) (s : Int) (h : OkL R w0 w g ns) :
    Calls Try.prog 57 #[.pointer (some ⟨g, 0, none⟩), .string key, .int .u64 s] w fun e w' => e = .returned (.tuple #[.agg #[.string ((pickL key s (ns.map (·.e))).getD zE).f0, .int .u64 ((pickL key s (ns.map (·.e))).getD zE).f1, .int .i64 ((pickL key s (ns.map (·.e))).getD zE).f2, .string ((pickL key s (ns.map (·.e))).getD zE).f3], .bool (pickL key s (ns.map (·.e))).isSome]) ∧ Below w.heap.size w w' := by
  obtain ⟨t, h1⟩ := h.isl
  obtain ⟨pre, post, rfl, hp, hq⟩ := split_by (fun x => lt key x) (lt_down key) h.srt
  have h2 : pickL key s ((pre ++ post).map (·.e)) = getL key s post := by
    rw [List.map_append, pick_ahead hp, get_pick (List.pairwise_append.1 h.srt).2.1 hq]
  rw [h2]
  exact get_calls R w0 w g pre post _ t key h1 hp hq h.hts s
theorem pick_in {key : ByteArray} {s : Int} {e : E} : ∀ {l : List E}, pickL key s l = some e → e ∈ l ∧ e.f0 = key ∧ e.f1 ≤ s
  | [], h => by cases h
  | x :: r, h => by
    rw [pickL] at h
    split at h
    · obtain rfl := Option.some.inj h
      rename_i k
      exact ⟨by simp, k⟩
    · have := pick_in h
      exact ⟨by simp [this.1], this.2⟩
theorem pick_newest {key : ByteArray} {s : Int} : ∀ {l : List E}, l.Pairwise (fun x y => ce x y = -1) → ∀ x ∈ l, x.f0 = key → x.f1 ≤ s → ∃ e, pickL key s l = some e ∧ x.f1 ≤ e.f1
  | [], _, x, hx, _, _ => by cases hx
  | y :: r, hs, x, hx, hk, hq => by
    have h2 := List.pairwise_cons.1 hs
    rw [pickL]
    by_cases k : y.f0 = key ∧ y.f1 ≤ s
    · rw [if_pos k]
      refine ⟨y, rfl, ?_⟩
      rcases List.mem_cons.1 hx with rfl | hx
      · exact Int.le_refl _
      · rcases ce_cases (h2.1 x hx) with h3 | ⟨_, h3⟩
        · rw [(cb_zero _ _).2 (k.1.trans hk.symm)] at h3; cases h3
        · omega
    · rw [if_neg k]
      rcases List.mem_cons.1 hx with rfl | hx
      · exact absurd ⟨hk, hq⟩ k
      · exact pick_newest h2.2 x hx hk hq
theorem srt_map {ns : List Nd} (h : Srt ns) : (ns.map (·.e)).Pairwise (fun x y => ce x y = -1) := List.pairwise_map.2 h
/-- What a put leaves as it was. -/
def FrO (w V : World) (g : Nat) (ns : List Nd) : Prop := ∀ k, k < w.heap.size → k ≠ g → k ∉ blocks ns → V.heap[k]? = w.heap[k]?
theorem put_any (R : Root) (w0 w : World) (g : Nat) (ns : List Nd) (e : E) (lv : Int) (hO : OkL R w0 w g ns) (hB : Below w0.heap.size w0 w) (hl : ns.length < 1000000) (s0 : e.f0.size ≤ 140737488351232) (s3 : e.f3.size ≤ 140737488351232) :
    Calls Try.prog 37 #[.pointer (some ⟨g, 0, none⟩), .agg #[.string (e).f0, .int .u64 (e).f1, .int .i64 (e).f2, .string (e).f3], .int .i64 lv] w fun ee w' => ee = .returned (.bool (fresh e (ns.map (·.e)))) ∧ w.heap.size ≤ w'.heap.size ∧ ∃ ns', OkL R w0 w' g ns' ∧ ns'.map (·.e) = insV e (ns.map (·.e)) ∧ Below w0.heap.size w0 w' ∧ FrO w w' g ns ∧ ∀ k ∈ blocks ns', k ∈ blocks ns ∨ w.heap.size ≤ k := by
  obtain ⟨t, hI⟩ := hO.isl
  have stay : ∀ w', Below w.heap.size w w' → w.heap.size ≤ w'.heap.size ∧ OkL R w0 w' g ns ∧ Below w0.heap.size w0 w' ∧ FrO w w' g ns := fun w' hb => ⟨hb.size, hO.below hb, below_step hB hb, fun k hk _ _ => hb.block k hk⟩
  cases hv : valid e.f0 e.f2 e.f3 with
  | false =>
    have hf : fresh e (ns.map (·.e)) = false := by unfold fresh; rw [hv]; rfl
    have hi : insV e (ns.map (·.e)) = ns.map (·.e) := by unfold insV; rw [hv]; rfl
    rw [hf, hi]
    refine (put_bad R w0 w g ns [] (ns.length : Int) t e lv (by rw [List.append_nil]; exact hI) hB hv).mono ?_
    rintro ee w' ⟨rfl, hb⟩
    obtain ⟨h0, h1, h2, h3⟩ := stay w' hb
    exact ⟨rfl, h0, ns, h1, rfl, h2, h3, fun k hk => Or.inl hk⟩
  | true =>
    obtain ⟨pre, post, rfl, hp, hq⟩ := split_by (fun x => decide (ce x e < 0)) (ce_down e) hO.srt
    have hp1 : ∀ x ∈ pre.map (·.e), ce x e < 0 := fun x hx => by
      obtain ⟨y, hy, rfl⟩ := List.mem_map.1 hx
      exact of_decide_eq_true (hp y hy)
    have hi : insV e ((pre ++ post).map (·.e)) = pre.map (·.e) ++ ins e (post.map (·.e)) := by
      unfold insV
      rw [hv, if_pos rfl, List.map_append, ins_app e _ _ hp1]
    have hf : fresh e ((pre ++ post).map (·.e)) = (post.map (·.e)).all fun x => ce x e != 0 := by
      unfold fresh
      rw [hv, List.map_append, List.all_append, Bool.true_and]
      have h3 : ((pre.map (·.e)).all fun x => ce x e != 0) = true := List.all_eq_true.2 (fun x hx => by
        have := hp1 x hx
        simp
        omega)
      rw [h3, Bool.true_and]
    rw [hi, hf]
    by_cases hsame : ∃ y r, post = y :: r ∧ ce y.e e = 0
    · obtain ⟨y, r, rfl, hy⟩ := hsame
      have h4 : ((y :: r).map (·.e)).all (fun x => ce x e != 0) = false := by simp [hy]
      have h5 : ins e ((y :: r).map (·.e)) = (y :: r).map (·.e) := by rw [List.map_cons, ins, if_neg (by omega), if_pos hy]
      rw [h4, h5]
      refine (put_same R w0 w g pre r y _ t e lv hI hB hp hq hv hy (hO.hts y (by simp))).mono ?_
      rintro ee w' ⟨rfl, hb⟩
      obtain ⟨h0, h1, h2, h3⟩ := stay w' hb
      exact ⟨rfl, h0, pre ++ y :: r, h1, by rw [List.map_append], h2, h3, fun k hk => Or.inl hk⟩
    · have hpos : ∀ x ∈ post, ce e x.e = -1 := by
        cases post with
        | nil => exact fun _ h => by cases h
        | cons y r =>
          have h6 : ce y.e e ≠ 0 := fun z => hsame ⟨y, r, rfl, z⟩
          have h7 := of_decide_eq_false (hq y (by simp))
          have h8 : ce e y.e = -1 := by
            have := ce_neg y.e e
            rcases ce_range y.e e with q | q | q <;> omega
          intro x hx
          rcases List.mem_cons.1 hx with rfl | hx
          · exact h8
          · exact ce_trans h8 ((List.pairwise_cons.1 (List.pairwise_append.1 hO.srt).2.1).1 x hx)
      have h4 : (post.map (·.e)).all (fun x => ce x e != 0) = true := List.all_eq_true.2 (fun x hx => by
        obtain ⟨y, hy, rfl⟩ := List.mem_map.1 hx
        have h9 := hpos y hy
        have h10 := ce_neg y.e e
        simp
        omega)
      have h5 : ins e (post.map (·.e)) = e :: post.map (·.e) := by
        cases post with
        | nil => rfl
        | cons y r =>
          have h9 := hpos y (by simp)
          have h10 := ce_neg y.e e
          rw [List.map_cons, ins, if_neg (by omega), if_neg (by omega)]
      rw [h4, h5]
      have hh : (((max (min lv 8) 1).toNat : Nat) : Int) = min (max lv 1) 8 := by omega
      refine (put_yes R w0 w g pre post _ t e lv hI hB hp hq (max (min lv 8) 1).toNat hh hv (fun y r hy z => hsame ⟨y, r, hy, z⟩) hO.hts (by omega) (by omega)).mono ?_
      rintro ee w' ⟨rfl, xb, hx, hi2, hb, hfr⟩
      have hw : wrap64 (((pre ++ post).length : Int) + 1) = ((pre ++ ⟨xb, (max (min lv 8) 1).toNat, e⟩ :: post).length : Int) := by
        rw [wrap64_id (by simp at hl ⊢; omega)]
        simp
        omega
      rw [hw] at hi2
      have hxlt : xb < w'.heap.size := hi2.ch.lt ⟨xb, (max (min lv 8) 1).toNat, e⟩ (by simp)
      refine ⟨rfl, by omega, pre ++ ⟨xb, (max (min lv 8) 1).toNat, e⟩ :: post, ⟨⟨_, hi2⟩, ?_, ?_⟩, by simp, hb, fun k h1 h2 h3 => hfr k h1 h2 (fun z => h3 (by rw [blocks_app]; exact List.mem_append_left _ z)), ?_⟩
      · have hs := List.pairwise_append.1 hO.srt
        refine List.pairwise_append.2 ⟨hs.1, List.pairwise_cons.2 ⟨hpos, hs.2.1⟩, fun x hx2 y hy => ?_⟩
        rcases List.mem_cons.1 hy with rfl | hy
        · have h11 := of_decide_eq_true (hp x hx2)
          rcases ce_range x.e e with q | q | q
          · exact q
          · omega
          · omega
        · exact hs.2.2 x hx2 y hy
      · intro x hx2
        rcases List.mem_append.1 hx2 with hx2 | hx2
        · exact hO.hts x (List.mem_append_left _ hx2)
        · rcases List.mem_cons.1 hx2 with rfl | hx2
          · show 1 ≤ (max (min lv 8) 1).toNat
            omega
          · exact hO.hts x (List.mem_append_right _ hx2)
      · intro k hk
        rw [blocks_app] at hk ⊢
        rcases List.mem_append.1 hk with hk | hk
        · exact Or.inl (List.mem_append_left _ hk)
        · rcases List.mem_cons.1 hk with rfl | hk
          · exact Or.inr hx
          · exact Or.inl (List.mem_append_right _ hk)
end Go.Proofs.Ytchgpcgolgcfdaa.Rk
