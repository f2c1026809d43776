/- Texts of this claim, put together and cut down to what is used (Sk20). -/
import Derived.Test.YtchgpcgolgcfdaaGreatMgPuSkP
import Derived.Test.YtchgpcgolgcfdaaGreatMgBkW
section
namespace Go.Proofs.YtchgpcgolgcfdaaGreat.Sk
open Go Go.RowKit Go.Proofs.YtchgpcgolgcfdaaGreat.PNum Go.Proofs.YtchgpcgolgcfdaaGreat.SkM Go.Proofs.YtchgpcgolgcfdaaGreat.BkW Go.Proofs.YtchgpcgolgcfdaaGreat.PuSkP Go.Proofs.YtchgpcgolgcfdaaGreatW.PrintWords Go.Proofs.YtchgpcgolgcfdaaGreatW.PrintLast Go.Proofs.YtchgpcgolgcfdaaGreatW.PrintMore
open PuIkC Go.Proofs.YtchgpcgolgcfdaaGreatW.Pu
set_option linter.unusedVariables false
set_option linter.unusedSimpArgs false
structure OkT (w0 V : World) (g : Nat) (ns : List Nd) (T : Nat) : Prop where
  isl : IsL w0 V g ns (ns.length : Int) (T : Int)
  srt : Srt ns
  hts : ∀ x ∈ ns, 1 ≤ x.h ∧ x.h ≤ 8
theorem OkT.okl {w0 V : World} {g T : Nat} {ns : List Nd} (h : OkT w0 V g ns T) : OkL w0 V g ns := ⟨⟨_, h.isl⟩, h.srt, fun x hx => (h.hts x hx).1⟩
theorem OkT.still {w0 V V1 : World} {g T : Nat} {ns : List Nd} (h : OkT w0 V g ns T) {L : List TypeId} (hs : Still L V V1) (h1 : 38 ∉ L) (h2 : 36 ∉ L) : OkT w0 V1 g ns T := by
  have hch : ∀ {ns : List Nd}, Ch V ns → Ch V1 ns := fun {ns} hc => by
    induction ns with
    | nil => trivial
    | cons x r ih => exact ⟨hs.blk hc.1 h2, ih hc.2⟩
  exact ⟨⟨hs.blk h.isl.hd h1, hch h.isl.ch, h.isl.nd, h.isl.gg, h.isl.gb⟩, h.srt, h.hts⟩
theorem OkT.below {w0 V V1 : World} {g T : Nat} {ns : List Nd} (h : OkT w0 V g ns T) (hb : Below V.heap.size V V1) : OkT w0 V1 g ns T := h.still (L := []) (Still.of_below hb) (by simp) (by simp)
theorem Ch.typed {V : World} : ∀ {ns : List Nd}, Ch V ns → ∀ k ∈ blocks ns, ∃ cs, V.heap[k]? = some (.cells cs 36 (0, 0))
  | x :: r, h, k, hk => by
    rcases List.mem_cons.1 hk with rfl | hk
    · exact ⟨_, h.1⟩
    · exact Ch.typed h.2 k hk
theorem OkT.stays {w0 w w' : World} {g T : Nat} {ns : List Nd} (h : OkT w0 w g ns T) (hf : FrO w w' g ns) : Still [38, 36] w w' := fun k hk hn => hf k hk (fun e => by
  subst e
  exact hn _ _ (by simp) h.isl.hd) (fun e => by
  obtain ⟨cs, hc⟩ := Ch.typed h.isl.ch k e
  exact hn _ _ (by simp) hc)
theorem put_tow (w0 w : World) (g : Nat) (ns : List Nd) (T : Nat) (e : E) (lv : Int) (hO : OkT w0 w g ns T) (hB : Below w0.heap.size w0 w) (hl : ns.length < 1000000) (s0 : e.f0.size ≤ 140737488351232) (s3 : e.f3.size ≤ 140737488351232) :
    Calls Tryz.prog 15 #[.pointer (some ⟨g, 0, none⟩), .agg #[.string (e).f0, .int .u64 (e).f1, .int .i64 (e).f2, .string (e).f3], .int .i64 lv] w fun ee w' => ee = .returned (.bool (fresh e (ns.map (·.e)))) ∧ w.heap.size ≤ w'.heap.size ∧ ∃ ns' T', OkT w0 w' g ns' T' ∧ ns'.map (·.e) = insV e (ns.map (·.e)) ∧ Below w0.heap.size w0 w' ∧ FrO w w' g ns ∧ (∀ k ∈ blocks ns', k ∈ blocks ns ∨ w.heap.size ≤ k) ∧ ((fresh e (ns.map (·.e)) = false ∧ ns' = ns ∧ T' = T) ∨ (fresh e (ns.map (·.e)) = true ∧ ∃ h : Nat, (h : Int) = min (max lv 1) 8 ∧ (ns'.map tw).Perm (ns.map tw ++ [⟨e, (h : Int)⟩]) ∧ T' = max T h)) := by

  have hI := hO.isl
  have stay : ∀ w', Below w.heap.size w w' → w.heap.size ≤ w'.heap.size ∧ OkT w0 w' g ns T ∧ Below w0.heap.size w0 w' ∧ FrO w w' g ns := fun w' hb => ⟨hb.size, hO.below hb, below_step hB hb, fun k hk _ _ => hb.block k hk⟩
  cases hv : valid e.f0 e.f2 e.f3 with
  | false =>
    have hf : fresh e (ns.map (·.e)) = false := by unfold fresh; rw [hv]; rfl
    have hi : insV e (ns.map (·.e)) = ns.map (·.e) := by unfold insV; rw [hv]; rfl
    rw [hf, hi]
    refine (put_bad w0 w g ns [] (ns.length : Int) T e lv (by rw [List.append_nil]; exact hI) hB hv).mono ?_
    rintro ee w' ⟨rfl, hb⟩
    obtain ⟨h0, h1, h2, h3⟩ := stay w' hb
    exact ⟨rfl, h0, ns, T, h1, rfl, h2, h3, fun k hk => Or.inl hk, Or.inl ⟨rfl, rfl, rfl⟩⟩
  | true =>
    obtain ⟨pre, post, rfl, hp, hq⟩ := split_by (fun x => decide (ce x e < 0)) (ce_down e) hO.srt
    have hp1 : ∀ x ∈ pre.map (·.e), ce x e < 0 := fun x hx => by
      obtain ⟨y, hy, rfl⟩ := List.mem_map.1 hx
      exact of_decide_eq_true (hp y hy)
    have hi : insV e ((pre ++ post).map (·.e)) = pre.map (·.e) ++ ins e (post.map (·.e)) := by
      unfold insV
      rw [hv, if_pos rfl, List.map_append, ins_app e _ _ hp1]
    have hf : fresh e ((pre ++ post).map (·.e)) = (post.map (·.e)).all fun x => ce x e != 0 := by
      unfold fresh
      rw [hv, List.map_append, List.all_append, Bool.true_and]
      have h3 : ((pre.map (·.e)).all fun x => ce x e != 0) = true := List.all_eq_true.2 (fun x hx => by
        have := hp1 x hx
        simp
        omega)
      rw [h3, Bool.true_and]
    rw [hi, hf]
    by_cases hsame : ∃ y r, post = y :: r ∧ ce y.e e = 0
    · obtain ⟨y, r, rfl, hy⟩ := hsame
      have h4 : ((y :: r).map (·.e)).all (fun x => ce x e != 0) = false := by simp [hy]
      have h5 : ins e ((y :: r).map (·.e)) = (y :: r).map (·.e) := by rw [List.map_cons, ins, if_neg (by omega), if_pos hy]
      rw [h4, h5]
      refine (put_same w0 w g pre r y _ T e lv hI hB hp hq hv hy (hO.hts y (by simp)).1).mono ?_
      rintro ee w' ⟨rfl, hb⟩
      obtain ⟨h0, h1, h2, h3⟩ := stay w' hb
      exact ⟨rfl, h0, pre ++ y :: r, T, h1, by rw [List.map_append], h2, h3, fun k hk => Or.inl hk, Or.inl ⟨rfl, rfl, rfl⟩⟩
    · have hpos : ∀ x ∈ post, ce e x.e = -1 := by
        cases post with
        | nil => exact fun _ h => by cases h
        | cons y r =>
          have h6 : ce y.e e ≠ 0 := fun z => hsame ⟨y, r, rfl, z⟩
          have h7 := of_decide_eq_false (hq y (by simp))
          have h8 : ce e y.e = -1 := by
            have := ce_neg y.e e
            rcases ce_range y.e e with q | q | q <;> omega
          intro x hx
          rcases List.mem_cons.1 hx with rfl | hx
          · exact h8
          · exact ce_trans h8 ((List.pairwise_cons.1 (List.pairwise_append.1 hO.srt).2.1).1 x hx)
      have h4 : (post.map (·.e)).all (fun x => ce x e != 0) = true := List.all_eq_true.2 (fun x hx => by
        obtain ⟨y, hy, rfl⟩ := List.mem_map.1 hx
        have h9 := hpos y hy
        have h10 := ce_neg y.e e
        simp
        omega)
      have h5 : ins e (post.map (·.e)) = e :: post.map (·.e) := by
        cases post with
        | nil => rfl
        | cons y r =>
          have h9 := hpos y (by simp)
          have h10 := ce_neg y.e e
          rw [List.map_cons, ins, if_neg (by omega), if_neg (by omega)]
      rw [h4, h5]
      have hh : (((max (min lv 8) 1).toNat : Nat) : Int) = min (max lv 1) 8 := by omega
      refine (put_yes w0 w g pre post _ T e lv hI hB hp hq (max (min lv 8) 1).toNat hh hv (fun y r hy z => hsame ⟨y, r, hy, z⟩) (fun x hx => (hO.hts x hx).1) (by omega) (by omega)).mono ?_
      rintro ee w' ⟨rfl, xb, hx, hi2, hb, hfr⟩
      have hw : wrap64 (((pre ++ post).length : Int) + 1) = ((pre ++ ⟨xb, (max (min lv 8) 1).toNat, e⟩ :: post).length : Int) := by
        rw [wrap64_id (by simp at hl ⊢; omega)]
        simp
        omega
      rw [hw] at hi2
      have hmx : max (T : Int) (((max (min lv 8) 1).toNat : Nat) : Int) = ((max T (max (min lv 8) 1).toNat : Nat) : Int) := by omega
      rw [hmx] at hi2
      have hxlt : xb < w'.heap.size := hi2.ch.lt ⟨xb, (max (min lv 8) 1).toNat, e⟩ (by simp)
      refine ⟨rfl, by omega, pre ++ ⟨xb, (max (min lv 8) 1).toNat, e⟩ :: post, _, ⟨hi2, ?_, ?_⟩, by simp, hb, fun k h1 h2 h3 => hfr k h1 h2 (fun z => h3 (by rw [blocks_app]; exact List.mem_append_left _ z)), ?_, Or.inr ⟨rfl, _, hh, ?_, rfl⟩⟩
      · have hs := List.pairwise_append.1 hO.srt
        refine List.pairwise_append.2 ⟨hs.1, List.pairwise_cons.2 ⟨hpos, hs.2.1⟩, fun x hx2 y hy => ?_⟩
        rcases List.mem_cons.1 hy with rfl | hy
        · have h11 := of_decide_eq_true (hp x hx2)
          rcases ce_range x.e e with q | q | q
          · exact q
          · omega
          · omega
        · exact hs.2.2 x hx2 y hy
      · intro x hx2
        rcases List.mem_append.1 hx2 with hx2 | hx2
        · exact hO.hts x (List.mem_append_left _ hx2)
        · rcases List.mem_cons.1 hx2 with rfl | hx2
          · show 1 ≤ (max (min lv 8) 1).toNat ∧ (max (min lv 8) 1).toNat ≤ 8
            omega
          · exact hO.hts x (List.mem_append_right _ hx2)
      · intro k hk
        rw [blocks_app] at hk ⊢
        rcases List.mem_append.1 hk with hk | hk
        · exact Or.inl (List.mem_append_left _ hk)
        · rcases List.mem_cons.1 hk with rfl | hk
          · exact Or.inr hx
          · exact Or.inl (List.mem_append_right _ hk)
      · rw [List.map_append, List.map_cons, List.map_append, List.append_assoc]
        refine List.Perm.append_left _ ?_
        exact (List.perm_append_singleton (tw ⟨xb, (max (min lv 8) 1).toNat, e⟩) (post.map tw)).symm
theorem new_tow (w0 w : World) (hB : Below w0.heap.size w0 w) :
    Calls Tryz.prog 12 #[] w fun e w' => ∃ g, e = .returned (.pointer (some ⟨g, 0, none⟩)) ∧ OkT w0 w' g [] 0 ∧ Below w.heap.size w w' :=
  (new_calls w0 w hB).mono (fun e w' ⟨g, h1, h2, h3, h4⟩ => ⟨g, h1, ⟨h2, List.Pairwise.nil, fun _ h => by cases h⟩, h4⟩)
theorem zero_tow (w0 w : World) (hB : Below w0.heap.size w0 w) : OkT w0 (w.alloc (.cells #[.string ⟨#[]⟩, .int .u64 0, .int .i64 0, .string ⟨#[]⟩, .pointer none, .pointer none, .pointer none, .pointer none, .pointer none, .pointer none, .pointer none, .pointer none, .int .i64 0, .int .i64 0] 38)) w.heap.size [] 0 :=
  ⟨⟨blk_new w _, trivial, by simp [blocks], hB.size, fun x hx => by simp at hx⟩, List.Pairwise.nil, fun _ h => by cases h⟩
end Go.Proofs.YtchgpcgolgcfdaaGreat.Sk
end
