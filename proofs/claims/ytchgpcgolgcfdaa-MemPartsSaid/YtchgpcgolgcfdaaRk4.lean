/- Put of a skip list. -/
import Derived.Test.YtchgpcgolgcfdaaRk3
import Derived.Test.YtchgpcgolgcfdaaShelf
import Derived.Deep.RegionHeld3
import Derived.BigRegion
import Derived.Deep.QuietTactic
import Derived.BigQuiet
import Derived.StillTailTactics
import Derived.Test.YtchgpcgolgcfdaaPNumx10
import Derived.Test.YtchgpcgolgcfdaaPNumx8
namespace Go.Proofs.Ytchgpcgolgcfdaa.Rk
open Go Go.RowKit Go.Proofs.Ytchgpcgolgcfdaa.PNum Go.Proofs.Ytchgpcgolgcfdaa.RkM Go.Proofs.YtchgpcgolgcfdaaW.PrintWords Go.Proofs.YtchgpcgolgcfdaaW.PrintLast Go.Proofs.YtchgpcgolgcfdaaW.PrintMore
attribute [local go_sem] max2_int min2_int max_two min_two max_three min_three max_four min_four
set_option linter.unusedVariables false
set_option linter.unusedSimpArgs false
theorem blocks_app (p q : List Nd) : blocks (p ++ q) = blocks p ++ blocks q := by simp [blocks]
theorem IsL.ne {R : Root} {w0 V : World} {g : Nat} {ns : List Nd} {n t : Int} (h : IsL R w0 V g ns n t) : g ∉ blocks ns := by
  intro hg
  obtain ⟨x, hx, rfl⟩ := List.mem_map.1 hg
  obtain ⟨p, q, rfl⟩ := List.append_of_mem hx
  have h2 := h.ch.blk
  rw [h.hd] at h2
  injection h2 with h2
  injection h2 with _ h3
  exact absurd h3 R.ne
/-- What a level more turns: the node's own cell, and the one ahead. -/
def up (V : World) (g x i : Nat) (pre post : List Nd) : World := (V.setCell ⟨x, 4 + i, none⟩ (ptr (first post i))).setCell ⟨(lastAt pre i).getD g, 4 + i, none⟩ (ptr (some x))
theorem IsL.step {R : Root} {w0 V : World} {g x i : Nat} {e : E} {pre post : List Nd} {n t : Int} (hi : i < 8) (h : IsL R w0 V g (pre ++ ⟨x, i, e⟩ :: post) n t) : IsL R w0 (up V g x i pre post) g (pre ++ ⟨x, i + 1, e⟩ :: post) n t := by
  have hgx : g ≠ x := by
    intro z
    apply h.ne
    rw [z]
    simp [blocks]
  have hnd : x ∉ blocks (pre ++ post) := by
    have h1 := h.nd
    rw [blocks_app] at h1
    intro hx
    rw [blocks_app] at hx
    rcases List.mem_append.1 hx with hx | hx
    · exact (List.nodup_append.1 h1).2.2 x hx x (by simp [blocks]) rfl
    · exact (List.nodup_cons.1 (List.nodup_append.1 h1).2.1).1 hx
  have hB : ∀ b, lastAt pre i = some b → b ∈ blocks pre := fun b hb => by
    obtain ⟨u, hu, hub, _⟩ := lastAt_mem hb
    exact List.mem_map.2 ⟨u, hu, hub⟩
  have hBx : x ≠ (lastAt pre i).getD g := by
    cases hl : lastAt pre i with
    | none => exact fun z => hgx z.symm
    | some b =>
      intro z
      apply hnd
      rw [blocks_app, z]
      exact List.mem_append_left _ (hB b hl)
  have hxc := h.ch.blk
  have h1 := blk_put hxc (4 + i) (ptr (first post i)) (cellsN_up hi)
  have h2 : (up V g x i pre post).heap[x]? = some (.cells (cellsN ⟨x, i + 1, e⟩ post) 87 (0, 0)) := blk_far h1 hBx _
  have far : ∀ k, k ≠ x → k ≠ (lastAt pre i).getD g → (up V g x i pre post).heap[k]? = V.heap[k]? := fun k h3 h4 => (Below.heap_setCell _ ⟨_, _, none⟩ _ k h4).trans (Below.heap_setCell _ ⟨_, _, none⟩ _ k h3)
  refine ⟨?_, ?_, ?_, h.gg, ?_⟩
  · cases hl : lastAt pre i with
    | none =>
      have hf := (first_none_iff pre i).2 hl
      have h3 := first_hit pre post x e i hf
      have h4 : (up V g x i pre post).heap[g]? = some (.cells ((cellsL R (pre ++ ⟨x, i, e⟩ :: post) n t).setIfInBounds (4 + i) (ptr (some x))) R.ty (0, 0)) := by
        unfold up
        rw [hl]
        exact blk_set (blk_far h.hd hgx _) (4 + i) (ptr (some x))
      rw [h4, ← h3.1, cellsL_set hi (fun L hL => first_step pre post x e i L (Or.inl hL))]
    | some b =>
      rw [far g hgx (by rw [hl]; intro z; apply h.ne; rw [blocks_app, z]; exact List.mem_append_left _ (hB b hl)), h.hd, cellsL_same (fun L => first_step pre post x e i L (Or.inr (fun z => by rw [(first_none_iff pre i).1 z] at hl; cases hl)))]
  · refine Ch.step hi h.ch h.nd h2 (fun k hk hl => far k (fun z => hnd (z ▸ hk)) (fun z => ?_)) (fun k cs hl hc => ?_)
    · cases h5 : lastAt pre i with
      | none =>
        rw [h5] at z
        apply h.ne
        rw [blocks_app] at hk ⊢
        have z2 : k = g := z
        rw [← z2]
        rcases List.mem_append.1 hk with hk | hk
        · exact List.mem_append_left _ hk
        · exact List.mem_append_right _ (by simp only [blocks, List.map_cons, List.mem_cons]; exact Or.inr hk)
      | some b =>
        rw [h5] at z
        exact hl (by rw [h5]; exact congrArg some z.symm)
    · have hkx : k ≠ x := fun z => hnd (by rw [blocks_app, ← z]; exact List.mem_append_left _ (hB k hl))
      unfold up
      rw [hl]
      exact blk_set (blk_far hc hkx _) (4 + i) (ptr (some x))
  · have h6 := h.nd
    simp only [blocks, List.map_append, List.map_cons] at h6 ⊢
    exact h6
  · intro y hy
    rcases List.mem_append.1 hy with hy | hy
    · exact h.gb y (List.mem_append_left _ hy)
    · rcases List.mem_cons.1 hy with rfl | hy
      · exact h.gb ⟨x, i, e⟩ (by simp)
      · exact h.gb y (by simp [hy])
theorem cellsN_new (x : Nat) (e : E) (post : List Nd) : cellsN ⟨x, 0, e⟩ post = #[.string e.f0, .int .u64 e.f1, .int .i64 e.f2, .string e.f3, .pointer none, .pointer none, .pointer none, .pointer none, .pointer none, .pointer none, .pointer none, .pointer none] := by simp [cellsN, at_, ptr]
/-- A node that nobody points to yet. -/
theorem Ch.enter {V : World} {post : List Nd} {x : Nat} {e : E} (hx : V.heap[x]? = some (.cells (cellsN ⟨x, 0, e⟩ post) 87 (0, 0))) : ∀ {pre : List Nd}, Ch V (pre ++ post) → Ch V (pre ++ ⟨x, 0, e⟩ :: post)
  | [], h => ⟨hx, h⟩
  | y :: p, h => ⟨by
      rw [h.1]
      congr 2
      exact cellsN_same (fun L _ => by show first (p ++ post) L = first (p ++ _ :: post) L; rw [first_app, first_app]; rfl), Ch.enter hx h.2⟩
theorem IsL.enter {R : Root} {w0 V : World} {g x : Nat} {e : E} {pre post : List Nd} {n t : Int} (h : IsL R w0 V g (pre ++ post) n t) (hx : V.heap[x]? = some (.cells (cellsN ⟨x, 0, e⟩ post) 87 (0, 0))) (hn : x ∉ blocks (pre ++ post)) (hw : w0.heap.size ≤ x) : IsL R w0 V g (pre ++ ⟨x, 0, e⟩ :: post) n t := by
  refine ⟨?_, Ch.enter hx h.ch, ?_, h.gg, ?_⟩
  · rw [h.hd]
    congr 2
    exact cellsL_same (fun L => by rw [first_app, first_app]; rfl)
  · have h1 := h.nd
    rw [blocks_app] at h1 hn ⊢
    have h2 := List.nodup_append.1 h1
    refine List.nodup_append.2 ⟨h2.1, List.nodup_cons.2 ⟨fun z => hn (List.mem_append_right _ z), h2.2.1⟩, ?_⟩
    intro a ha b hb
    rcases List.mem_cons.1 hb with rfl | hb
    · rintro rfl
      exact hn (List.mem_append_left _ ha)
    · exact h2.2.2 a ha b hb
  · intro y hy
    rcases List.mem_append.1 hy with hy | hy
    · exact h.gb y (List.mem_append_left _ hy)
    · rcases List.mem_cons.1 hy with rfl | hy
      · exact hw
      · exact h.gb y (List.mem_append_right _ hy)
set_option maxHeartbeats 8000000 in
set_option maxRecDepth 100000 in
theorem clone_calls (s : ByteArray) (w : World) (hs : s.size ≤ 281474976710656) : Calls Try.prog 65 #[.string s] w fun e w' => e = .returned (.string s) ∧ Below w.heap.size w w' := by
  go_enter Try.func65, Try.ntmps65
  go_wp2_with (first | (go_at_call 82; refine (Try.stringslite_Clone s _ (by omega)).mono ?_; rintro e w1 ⟨rfl, hb⟩))
  go_ret
  exact ⟨rfl, hb⟩
theorem outs_cell {V : World} {b g : Nat} {pre : List Nd} (h : V.heap[b]? = some (.cells (outs g pre) 85 (0, 0))) {M : Nat} (hM : M < 8) : V.cell? ⟨b, M, none⟩ = some (.pointer (some ⟨(lastAt pre M).getD g, 0, none⟩)) := by
  match M, hM with
  | 0, _ => exact (blk_cell h 0).trans rfl
  | 1, _ => exact (blk_cell h 1).trans rfl
  | 2, _ => exact (blk_cell h 2).trans rfl
  | 3, _ => exact (blk_cell h 3).trans rfl
  | 4, _ => exact (blk_cell h 4).trans rfl
  | 5, _ => exact (blk_cell h 5).trans rfl
  | 6, _ => exact (blk_cell h 6).trans rfl
  | 7, _ => exact (blk_cell h 7).trans rfl
theorem cellAt {V : World} {b : Nat} {x : Nd} {r : List Nd} (h : V.heap[b]? = some (.cells (cellsN x r) 87 (0, 0))) {L : Nat} (hL : L < 8) : V.cell? ⟨b, 4 + L, none⟩ = some (at_ x r L) := by
  match L, hL with
  | 0, _ => exact (blk_cell h 4).trans rfl
  | 1, _ => exact (blk_cell h 5).trans rfl
  | 2, _ => exact (blk_cell h 6).trans rfl
  | 3, _ => exact (blk_cell h 7).trans rfl
  | 4, _ => exact (blk_cell h 8).trans rfl
  | 5, _ => exact (blk_cell h 9).trans rfl
  | 6, _ => exact (blk_cell h 10).trans rfl
  | 7, _ => exact (blk_cell h 11).trans rfl
theorem IsL.place {R : Root} {w0 V : World} {g : Nat} {pre post : List Nd} {n t : Int} (h : IsL R w0 V g (pre ++ post) n t) (L : Nat) : (∃ cs ty, V.heap[(lastAt pre L).getD g]? = some (.cells cs ty (0, 0)) ∧ (ty = 87 ∨ ty = R.ty)) ∧ w0.heap.size ≤ (lastAt pre L).getD g ∧ ((lastAt pre L).getD g = g ∨ (lastAt pre L).getD g ∈ blocks pre) := by
  cases hl : lastAt pre L with
  | none => exact ⟨⟨_, _, h.hd, Or.inr rfl⟩, h.gg, Or.inl rfl⟩
  | some b =>
    obtain ⟨d, x, r, rfl, rfl, hx, hr⟩ := lastAt_split hl
    have h2 := h.ch
    rw [List.append_assoc] at h2
    exact ⟨⟨_, _, h2.blk, Or.inl rfl⟩, h.gb x (by simp), Or.inr (by simp [blocks])⟩
theorem up_heap {V : World} {g x i k : Nat} {pre post : List Nd} (h1 : k ≠ x) (h2 : k ≠ (lastAt pre i).getD g) : (up V g x i pre post).heap[k]? = V.heap[k]? := (Below.heap_setCell _ ⟨_, _, none⟩ _ k h2).trans (Below.heap_setCell _ ⟨_, _, none⟩ _ k h1)
theorem up_size {V : World} {g x i : Nat} {pre post : List Nd} : (up V g x i pre post).heap.size = V.heap.size := by simp [up]
/-- How many they are, and the greatest height, told anew. -/
theorem IsL.bump {R : Root} {w0 V : World} {g : Nat} {ns : List Nd} {n t : Int} (h : IsL R w0 V g ns n t) (n' t' : Int) : IsL R w0 ((V.setCell ⟨g, 12, none⟩ (.int .i64 n')).setCell ⟨g, 13, none⟩ (.int .i64 t')) g ns n' t' := by
  have far : ∀ k, k ≠ g → ((V.setCell ⟨g, 12, none⟩ (.int .i64 n')).setCell ⟨g, 13, none⟩ (.int .i64 t')).heap[k]? = V.heap[k]? := fun k hk => (Below.heap_setCell _ ⟨_, _, none⟩ _ k hk).trans (Below.heap_setCell _ ⟨_, _, none⟩ _ k hk)
  refine ⟨blk_put (blk_put h.hd 12 _ rfl) 13 _ rfl, h.ch.congr (fun x hx => far x.b (fun z => h.ne (List.mem_map.2 ⟨x, hx, z⟩))), h.nd, h.gg, h.gb⟩
end Go.Proofs.Ytchgpcgolgcfdaa.Rk
