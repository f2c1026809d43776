/- Texts of this claim, put together and cut down to what is used (Sk). -/
import Derived.Carry
import Derived.WalkKit
import Derived.Deep.LoopGhost
import Derived.Deep.RegionHeld3
import Derived.BigRegion
import Derived.Deep.QuietTactic
import Derived.BigQuiet
import Derived.StillTailTactics
import Derived.Test.YtchgpcgolgcfdaaGreatMgP0
import Derived.Test.YtchgpcgolgcfdaaGreatMgB
import Derived.Test.YtchgpcgolgcfdaaGreatMgPuIkC
import Derived.Test.YtchgpcgolgcfdaaGreatMgPNumx11
import Derived.Test.YtchgpcgolgcfdaaGreatMgPNumx9
import Derived.Test.YtchgpcgolgcfdaaGreatMgPuSm
import Derived.Test.YtchgpcgolgcfdaaGreatMgPNumx8
section
namespace Go.Proofs.YtchgpcgolgcfdaaGreat.SkM
open Go Go.RowKit Go.Proofs.YtchgpcgolgcfdaaGreat.PNum Go.Proofs.YtchgpcgolgcfdaaGreatW.PrintWords Go.Proofs.YtchgpcgolgcfdaaGreatW.PrintMore
abbrev E := S32
structure Nd where
  b : Nat
  h : Nat
  e : E
def ptr (o : Option Nat) : Value := .pointer (o.map fun b => ⟨b, 0, none⟩)
def first : List Nd → Nat → Option Nat
  | [], _ => none
  | x :: r, L => if L < x.h then some x.b else first r L
def at_ (x : Nd) (r : List Nd) (L : Nat) : Value := ptr (if L < x.h then first r L else none)
def cellsN (x : Nd) (r : List Nd) : Array Value := #[.string x.e.f0, .int .u64 x.e.f1, .int .i64 x.e.f2, .string x.e.f3, at_ x r 0, at_ x r 1, at_ x r 2, at_ x r 3, at_ x r 4, at_ x r 5, at_ x r 6, at_ x r 7]
def cellsL (ns : List Nd) (n t : Int) : Array Value := #[.string ⟨#[]⟩, .int .u64 0, .int .i64 0, .string ⟨#[]⟩, ptr (first ns 0), ptr (first ns 1), ptr (first ns 2), ptr (first ns 3), ptr (first ns 4), ptr (first ns 5), ptr (first ns 6), ptr (first ns 7), .int .i64 n, .int .i64 t]
def Ch (V : World) : List Nd → Prop
  | [] => True
  | x :: r => V.heap[x.b]? = some (.cells (cellsN x r) 36 (0, 0)) ∧ Ch V r
theorem Ch.congr {V V' : World} : ∀ {ns : List Nd}, Ch V ns → (∀ x ∈ ns, V'.heap[x.b]? = V.heap[x.b]?) → Ch V' ns
  | [], _, _ => trivial
  | x :: r, h, hk => ⟨(hk x (by simp)).trans h.1, Ch.congr h.2 (fun y hy => hk y (by simp [hy]))⟩
theorem Ch.tail {V : World} : ∀ {p q : List Nd}, Ch V (p ++ q) → Ch V q
  | [], _, h => h
  | _ :: _, _, h => Ch.tail h.2
theorem Ch.blk {V : World} {p q : List Nd} {x : Nd} (h : Ch V (p ++ x :: q)) : V.heap[x.b]? = some (.cells (cellsN x q) 36 (0, 0)) := (Ch.tail h).1
theorem Ch.lt {V : World} : ∀ {ns : List Nd}, Ch V ns → ∀ x ∈ ns, x.b < V.heap.size
  | y :: r, h, x, hx => by
    rcases List.mem_cons.1 hx with rfl | hx
    · exact blk_lt h.1
    · exact Ch.lt h.2 x hx
def lastAt : List Nd → Nat → Option Nat
  | [], _ => none
  | x :: r, L => match lastAt r L with
    | some b => some b
    | none => if L < x.h then some x.b else none
theorem first_app (p q : List Nd) (L : Nat) : first (p ++ q) L = (first p L).or (first q L) := by
  induction p with
  | nil => rfl
  | cons x r ih =>
    rw [List.cons_append, first, first]
    split
    · rfl
    · exact ih
theorem first_none_iff (p : List Nd) (L : Nat) : first p L = none ↔ lastAt p L = none := by
  induction p with
  | nil => simp [first, lastAt]
  | cons x r ih =>
    rw [first, lastAt]
    by_cases h : L < x.h
    · rw [if_pos h, if_pos h]
      cases lastAt r L <;> simp
    · rw [if_neg h, if_neg h, ih]
      cases lastAt r L <;> simp
theorem first_mem {p : List Nd} {L b : Nat} (h : first p L = some b) : ∃ p1 x p2, p = p1 ++ x :: p2 ∧ x.b = b ∧ L < x.h ∧ first p1 L = none := by
  induction p with
  | nil => simp [first] at h
  | cons x r ih =>
    rw [first] at h
    by_cases hl : L < x.h
    · rw [if_pos hl] at h
      exact ⟨[], x, r, rfl, Option.some.inj h, hl, rfl⟩
    · rw [if_neg hl] at h
      obtain ⟨p1, y, p2, rfl, h1, h2, h3⟩ := ih h
      exact ⟨x :: p1, y, p2, rfl, h1, h2, by rw [first, if_neg hl, h3]⟩
theorem lastAt_mem {p : List Nd} {L b : Nat} (h : lastAt p L = some b) : ∃ x ∈ p, x.b = b ∧ L < x.h := by
  induction p with
  | nil => simp [lastAt] at h
  | cons x r ih =>
    rw [lastAt] at h
    cases hr : lastAt r L with
    | some c =>
      rw [hr] at h
      obtain ⟨y, hy, h1, h2⟩ := ih (by rw [hr]; exact h)
      exact ⟨y, by simp [hy], h1, h2⟩
    | none =>
      rw [hr] at h
      simp only at h
      split at h
      · exact ⟨x, by simp, Option.some.inj h, by assumption⟩
      · cases h
theorem first_step (p post : List Nd) (x : Nat) (e : E) (i L : Nat) (h : L ≠ i ∨ first p i ≠ none) : first (p ++ ⟨x, i, e⟩ :: post) L = first (p ++ ⟨x, i + 1, e⟩ :: post) L := by
  rw [first_app, first_app, first, first]
  by_cases hL : L = i
  · subst hL
    obtain ⟨b, hb⟩ := Option.ne_none_iff_exists'.1 (h.resolve_left (fun z => z rfl))
    rw [hb]
    rfl
  · congr 1
    by_cases h2 : L < i
    · rw [if_pos h2, if_pos (show L < i + 1 by omega)]
    · rw [if_neg h2, if_neg (show ¬ L < i + 1 by omega)]
theorem first_hit (p post : List Nd) (x : Nat) (e : E) (i : Nat) (h : first p i = none) : first (p ++ ⟨x, i + 1, e⟩ :: post) i = some x ∧ first (p ++ ⟨x, i, e⟩ :: post) i = first post i := by
  rw [first_app, first_app, first, first, h, if_pos (show i < i + 1 by omega), if_neg (Nat.lt_irrefl i)]
  exact ⟨rfl, by simp⟩
theorem cellsN_same {y : Nd} {r r' : List Nd} (h : ∀ L, L < y.h → first r L = first r' L) : cellsN y r = cellsN y r' := by
  have g : ∀ L, at_ y r L = at_ y r' L := fun L => by
    unfold at_
    by_cases hl : L < y.h
    · rw [if_pos hl, if_pos hl, h L hl]
    · rw [if_neg hl, if_neg hl]
  simp [cellsN, g]
theorem cellsN_set {y : Nd} {r r' : List Nd} {i : Nat} (hi : i < 8) (hy : i < y.h) (h : ∀ L, L ≠ i → first r L = first r' L) : (cellsN y r).setIfInBounds (4 + i) (ptr (first r' i)) = cellsN y r' := by
  have g : ∀ L, L ≠ i → at_ y r L = at_ y r' L := fun L hL => by
    unfold at_
    by_cases hl : L < y.h
    · rw [if_pos hl, if_pos hl, h L hL]
    · rw [if_neg hl, if_neg hl]
  have g2 : at_ y r' i = ptr (first r' i) := by unfold at_; rw [if_pos hy]
  rw [← g2]
  match i, hi with
  | 0, _ => simp [cellsN, g 1 (by omega), g 2 (by omega), g 3 (by omega), g 4 (by omega), g 5 (by omega), g 6 (by omega), g 7 (by omega)]
  | 1, _ => simp [cellsN, g 0 (by omega), g 2 (by omega), g 3 (by omega), g 4 (by omega), g 5 (by omega), g 6 (by omega), g 7 (by omega)]
  | 2, _ => simp [cellsN, g 0 (by omega), g 1 (by omega), g 3 (by omega), g 4 (by omega), g 5 (by omega), g 6 (by omega), g 7 (by omega)]
  | 3, _ => simp [cellsN, g 0 (by omega), g 1 (by omega), g 2 (by omega), g 4 (by omega), g 5 (by omega), g 6 (by omega), g 7 (by omega)]
  | 4, _ => simp [cellsN, g 0 (by omega), g 1 (by omega), g 2 (by omega), g 3 (by omega), g 5 (by omega), g 6 (by omega), g 7 (by omega)]
  | 5, _ => simp [cellsN, g 0 (by omega), g 1 (by omega), g 2 (by omega), g 3 (by omega), g 4 (by omega), g 6 (by omega), g 7 (by omega)]
  | 6, _ => simp [cellsN, g 0 (by omega), g 1 (by omega), g 2 (by omega), g 3 (by omega), g 4 (by omega), g 5 (by omega), g 7 (by omega)]
  | 7, _ => simp [cellsN, g 0 (by omega), g 1 (by omega), g 2 (by omega), g 3 (by omega), g 4 (by omega), g 5 (by omega), g 6 (by omega)]
theorem cellsL_set {r r' : List Nd} {i : Nat} {n t : Int} (hi : i < 8) (h : ∀ L, L ≠ i → first r L = first r' L) : (cellsL r n t).setIfInBounds (4 + i) (ptr (first r' i)) = cellsL r' n t := by
  match i, hi with
  | 0, _ => simp [cellsL, h 1 (by omega), h 2 (by omega), h 3 (by omega), h 4 (by omega), h 5 (by omega), h 6 (by omega), h 7 (by omega)]
  | 1, _ => simp [cellsL, h 0 (by omega), h 2 (by omega), h 3 (by omega), h 4 (by omega), h 5 (by omega), h 6 (by omega), h 7 (by omega)]
  | 2, _ => simp [cellsL, h 0 (by omega), h 1 (by omega), h 3 (by omega), h 4 (by omega), h 5 (by omega), h 6 (by omega), h 7 (by omega)]
  | 3, _ => simp [cellsL, h 0 (by omega), h 1 (by omega), h 2 (by omega), h 4 (by omega), h 5 (by omega), h 6 (by omega), h 7 (by omega)]
  | 4, _ => simp [cellsL, h 0 (by omega), h 1 (by omega), h 2 (by omega), h 3 (by omega), h 5 (by omega), h 6 (by omega), h 7 (by omega)]
  | 5, _ => simp [cellsL, h 0 (by omega), h 1 (by omega), h 2 (by omega), h 3 (by omega), h 4 (by omega), h 6 (by omega), h 7 (by omega)]
  | 6, _ => simp [cellsL, h 0 (by omega), h 1 (by omega), h 2 (by omega), h 3 (by omega), h 4 (by omega), h 5 (by omega), h 7 (by omega)]
  | 7, _ => simp [cellsL, h 0 (by omega), h 1 (by omega), h 2 (by omega), h 3 (by omega), h 4 (by omega), h 5 (by omega), h 6 (by omega)]
theorem cellsL_same {r r' : List Nd} {n t : Int} (h : ∀ L, first r L = first r' L) : cellsL r n t = cellsL r' n t := by simp [cellsL, h]
theorem cellsN_up {x i : Nat} {e : E} {post : List Nd} (hi : i < 8) : (cellsN ⟨x, i, e⟩ post).setIfInBounds (4 + i) (ptr (first post i)) = cellsN ⟨x, i + 1, e⟩ post := by
  have g : ∀ L, L ≠ i → at_ ⟨x, i, e⟩ post L = at_ ⟨x, i + 1, e⟩ post L := fun L hL => by
    unfold at_
    by_cases hl : L < i
    · rw [if_pos hl, if_pos (show L < i + 1 by omega)]
    · rw [if_neg hl, if_neg (show ¬ L < i + 1 by omega)]
  have g2 : at_ ⟨x, i + 1, e⟩ post i = ptr (first post i) := by unfold at_; rw [if_pos (show i < i + 1 by omega)]
  rw [← g2]
  match i, hi with
  | 0, _ => simp [cellsN, g 1 (by omega), g 2 (by omega), g 3 (by omega), g 4 (by omega), g 5 (by omega), g 6 (by omega), g 7 (by omega)]
  | 1, _ => simp [cellsN, g 0 (by omega), g 2 (by omega), g 3 (by omega), g 4 (by omega), g 5 (by omega), g 6 (by omega), g 7 (by omega)]
  | 2, _ => simp [cellsN, g 0 (by omega), g 1 (by omega), g 3 (by omega), g 4 (by omega), g 5 (by omega), g 6 (by omega), g 7 (by omega)]
  | 3, _ => simp [cellsN, g 0 (by omega), g 1 (by omega), g 2 (by omega), g 4 (by omega), g 5 (by omega), g 6 (by omega), g 7 (by omega)]
  | 4, _ => simp [cellsN, g 0 (by omega), g 1 (by omega), g 2 (by omega), g 3 (by omega), g 5 (by omega), g 6 (by omega), g 7 (by omega)]
  | 5, _ => simp [cellsN, g 0 (by omega), g 1 (by omega), g 2 (by omega), g 3 (by omega), g 4 (by omega), g 6 (by omega), g 7 (by omega)]
  | 6, _ => simp [cellsN, g 0 (by omega), g 1 (by omega), g 2 (by omega), g 3 (by omega), g 4 (by omega), g 5 (by omega), g 7 (by omega)]
  | 7, _ => simp [cellsN, g 0 (by omega), g 1 (by omega), g 2 (by omega), g 3 (by omega), g 4 (by omega), g 5 (by omega), g 6 (by omega)]
def blocks (ns : List Nd) : List Nat := ns.map (·.b)
theorem Ch.step {V V2 : World} {post : List Nd} {x i : Nat} {e : E} (hi : i < 8) : ∀ {pre : List Nd}, Ch V (pre ++ ⟨x, i, e⟩ :: post) → (blocks (pre ++ ⟨x, i, e⟩ :: post)).Nodup →
    V2.heap[x]? = some (.cells (cellsN ⟨x, i + 1, e⟩ post) 36 (0, 0)) →
    (∀ k ∈ blocks (pre ++ post), lastAt pre i ≠ some k → V2.heap[k]? = V.heap[k]?) →
    (∀ k cs, lastAt pre i = some k → V.heap[k]? = some (.cells cs 36 (0, 0)) → V2.heap[k]? = some (.cells (cs.setIfInBounds (4 + i) (ptr (some x))) 36 (0, 0))) →
    Ch V2 (pre ++ ⟨x, i + 1, e⟩ :: post)
  | [], h, hn, hx, hk, _ => ⟨hx, h.2.congr (fun y hy => hk y.b (by simpa [blocks] using ⟨y, hy, rfl⟩) (by simp [lastAt]))⟩
  | y :: p, h, hn, hx, hk, ha => by
    have hn' : (blocks (p ++ ⟨x, i, e⟩ :: post)).Nodup := (List.nodup_cons.1 hn).2
    have hny : y.b ∉ blocks (p ++ ⟨x, i, e⟩ :: post) := (List.nodup_cons.1 hn).1
    have hb := h.1
    by_cases hp : lastAt p i = none
    · have hf := (first_none_iff p i).2 hp
      have tl : Ch V2 (p ++ ⟨x, i + 1, e⟩ :: post) := by
        refine Ch.step hi h.2 hn' hx (fun k hk2 hl => hk k (by simp only [blocks, List.cons_append, List.map_cons, List.mem_cons] at hk2 ⊢; exact Or.inr hk2) ?_) (fun k cs hl => by rw [hp] at hl; cases hl)
        rw [lastAt, hp]
        simp only
        split
        · intro z
          injection z with z
          subst z
          apply hny
          simp only [blocks, List.map_append, List.mem_append, List.map_cons, List.mem_cons] at hk2 ⊢
          rcases hk2 with hk2 | hk2
          · exact Or.inl hk2
          · exact Or.inr (Or.inr hk2)
        · simp
      refine ⟨?_, tl⟩
      by_cases hy : i < y.h
      · have hl : lastAt (y :: p) i = some y.b := by rw [lastAt, hp]; simp only; rw [if_pos hy]
        have h2 := ha y.b _ hl hb
        rw [h2]
        congr 2
        have h3 := first_hit p post x e i hf
        rw [← h3.1]
        exact cellsN_set hi hy (fun L hL => first_step p post x e i L (Or.inl hL))
      · have hl : lastAt (y :: p) i = none := by rw [lastAt, hp]; simp only; rw [if_neg hy]
        have h2 := hk y.b (by simp [blocks]) (by rw [hl]; simp)
        show V2.heap[y.b]? = _
        rw [h2, hb]
        congr 2
        exact cellsN_same (fun L hL => first_step p post x e i L (Or.inl (by omega)))
    · have hl : lastAt (y :: p) i = lastAt p i := by
        rw [lastAt]
        cases h4 : lastAt p i with
        | none => exact absurd h4 hp
        | some c => rfl
      have tl : Ch V2 (p ++ ⟨x, i + 1, e⟩ :: post) := Ch.step hi h.2 hn' hx (fun k hk2 hl2 => hk k (by simp only [blocks, List.cons_append, List.map_cons, List.mem_cons] at hk2 ⊢; exact Or.inr hk2) (by rw [hl]; exact hl2)) (fun k cs hl2 => ha k cs (by rw [hl]; exact hl2))
      refine ⟨?_, tl⟩
      have h2 := hk y.b (by simp [blocks]) (by
        rw [hl]
        intro z
        obtain ⟨u, hu, hub, _⟩ := lastAt_mem z
        apply hny
        simp only [blocks, List.map_append, List.mem_append]
        exact Or.inl (List.mem_map.2 ⟨u, hu, hub⟩))
      show V2.heap[y.b]? = _
      rw [h2, hb]
      congr 2
      exact cellsN_same (fun L hL => first_step p post x e i L (Or.inr (fun z => hp ((first_none_iff p i).1 z))))
end Go.Proofs.YtchgpcgolgcfdaaGreat.SkM
end
section
namespace Go.Proofs.YtchgpcgolgcfdaaGreat.Sk
open Go Go.RowKit Go.Proofs.YtchgpcgolgcfdaaGreat.PNum Go.Proofs.YtchgpcgolgcfdaaGreat.SkM Go.Proofs.YtchgpcgolgcfdaaGreatW.PrintWords Go.Proofs.YtchgpcgolgcfdaaGreatW.PrintLast Go.Proofs.YtchgpcgolgcfdaaGreatW.PrintMore
set_option linter.unusedVariables false
set_option linter.unusedSimpArgs false
structure IsL (w0 V : World) (g : Nat) (ns : List Nd) (n t : Int) : Prop where
  hd : V.heap[g]? = some (.cells (cellsL ns n t) 38 (0, 0))
  ch : Ch V ns
  nd : (blocks ns).Nodup
  gg : w0.heap.size ≤ g
  gb : ∀ x ∈ ns, w0.heap.size ≤ x.b
theorem IsL.below {w0 V V1 : World} {g : Nat} {ns : List Nd} {n t : Int} (h : IsL w0 V g ns n t) (hb : Below V.heap.size V V1) : IsL w0 V1 g ns n t :=
  ⟨blk_below h.hd hb, h.ch.congr (fun x hx => hb.block _ (h.ch.lt x hx)), h.nd, h.gg, h.gb⟩
def pos (g : Nat) : List Nd → Nat
  | [] => g
  | [x] => x.b
  | _ :: y :: r => pos g (y :: r)
theorem pos_snoc (g : Nat) (d : List Nd) (x : Nd) : pos g (d ++ [x]) = x.b := by
  induction d with
  | nil => rfl
  | cons a r ih =>
    cases r with
    | nil => rfl
    | cons b r => exact ih
def Reach (d : List Nd) (L : Nat) : Prop := d = [] ∨ ∃ d' x, d = d' ++ [x] ∧ L < x.h
theorem Reach.down {d : List Nd} {L M : Nat} (h : Reach d L) (hm : M ≤ L) : Reach d M := by
  rcases h with h | ⟨d', x, h, hx⟩
  · exact Or.inl h
  · exact Or.inr ⟨d', x, h, by omega⟩
theorem cellN {V : World} {b : Nat} {x : Nd} {r : List Nd} (h : V.heap[b]? = some (.cells (cellsN x r) 36 (0, 0))) {L : Nat} (hL : L < 8) (hx : L < x.h) : V.cell? ⟨b, 4 + L, none⟩ = some (ptr (first r L)) := by
  have e : at_ x r L = ptr (first r L) := by unfold at_; rw [if_pos hx]
  rw [← e]
  match L, hL with
  | 0, _ => exact (blk_cell h 4).trans rfl
  | 1, _ => exact (blk_cell h 5).trans rfl
  | 2, _ => exact (blk_cell h 6).trans rfl
  | 3, _ => exact (blk_cell h 7).trans rfl
  | 4, _ => exact (blk_cell h 8).trans rfl
  | 5, _ => exact (blk_cell h 9).trans rfl
  | 6, _ => exact (blk_cell h 10).trans rfl
  | 7, _ => exact (blk_cell h 11).trans rfl
theorem cellL {V : World} {g : Nat} {ns : List Nd} {n t : Int} (h : V.heap[g]? = some (.cells (cellsL ns n t) 38 (0, 0))) {L : Nat} (hL : L < 8) : V.cell? ⟨g, 4 + L, none⟩ = some (ptr (first ns L)) := by
  match L, hL with
  | 0, _ => exact (blk_cell h 4).trans rfl
  | 1, _ => exact (blk_cell h 5).trans rfl
  | 2, _ => exact (blk_cell h 6).trans rfl
  | 3, _ => exact (blk_cell h 7).trans rfl
  | 4, _ => exact (blk_cell h 8).trans rfl
  | 5, _ => exact (blk_cell h 9).trans rfl
  | 6, _ => exact (blk_cell h 10).trans rfl
  | 7, _ => exact (blk_cell h 11).trans rfl
theorem IsL.next {w0 V : World} {g : Nat} {d q : List Nd} {n t : Int} (h : IsL w0 V g (d ++ q) n t) {L : Nat} (hL : L < 8) (hr : Reach d L) : V.cell? ⟨pos g d, 4 + L, none⟩ = some (ptr (first q L)) := by
  rcases hr with rfl | ⟨d', x, rfl, hx⟩
  · exact cellL h.hd hL
  · rw [pos_snoc]
    have h2 := h.ch
    rw [List.append_assoc] at h2
    exact cellN h2.blk hL hx
theorem lastAt_app (p q : List Nd) (L : Nat) : lastAt (p ++ q) L = (lastAt q L).or (lastAt p L) := by
  induction p with
  | nil => cases h : lastAt q L <;> simp [lastAt, h]
  | cons x r ih =>
    rw [List.cons_append, lastAt, ih, lastAt]
    cases h1 : lastAt q L <;> cases h2 : lastAt r L <;> simp
theorem lastAt_pos {g L : Nat} {d r : List Nd} (hd : Reach d L) (hr : first r L = none) : (lastAt (d ++ r) L).getD g = pos g d := by
  rw [lastAt_app, (first_none_iff r L).1 hr]
  rcases hd with rfl | ⟨d', x, rfl, hx⟩
  · rfl
  · rw [pos_snoc, lastAt_app]
    simp [lastAt, hx]
def oc (g : Nat) (pre : List Nd) (L : Int) (i : Nat) : Value := if L < (i : Int) then .pointer (some ⟨(lastAt pre i).getD g, 0, none⟩) else .pointer none
def outA (g : Nat) (pre : List Nd) (L : Int) : Array Value := #[oc g pre L 0, oc g pre L 1, oc g pre L 2, oc g pre L 3, oc g pre L 4, oc g pre L 5, oc g pre L 6, oc g pre L 7]
theorem outA_start (g : Nat) (pre : List Nd) : outA g pre 7 = #[.pointer none, .pointer none, .pointer none, .pointer none, .pointer none, .pointer none, .pointer none, .pointer none] := by simp [outA, oc]
theorem outA_set (g : Nat) (pre : List Nd) {L : Nat} (hL : L < 8) : (outA g pre (L : Int)).setIfInBounds L (.pointer (some ⟨(lastAt pre L).getD g, 0, none⟩)) = outA g pre ((L : Int) - 1) := by
  have g1 : ∀ i : Nat, i ≠ L → oc g pre (L : Int) i = oc g pre ((L : Int) - 1) i := fun i hi => by
    unfold oc
    by_cases h : (L : Int) < (i : Int)
    · rw [if_pos h, if_pos (by omega)]
    · rw [if_neg h, if_neg (by omega)]
  have g2 : oc g pre ((L : Int) - 1) L = .pointer (some ⟨(lastAt pre L).getD g, 0, none⟩) := by unfold oc; rw [if_pos (by omega)]
  rw [← g2]
  match L, hL with
  | 0, _ => simp only [outA, g1 1 (by omega), g1 2 (by omega), g1 3 (by omega), g1 4 (by omega), g1 5 (by omega), g1 6 (by omega), g1 7 (by omega)]; rfl
  | 1, _ => simp only [outA, g1 0 (by omega), g1 2 (by omega), g1 3 (by omega), g1 4 (by omega), g1 5 (by omega), g1 6 (by omega), g1 7 (by omega)]; rfl
  | 2, _ => simp only [outA, g1 0 (by omega), g1 1 (by omega), g1 3 (by omega), g1 4 (by omega), g1 5 (by omega), g1 6 (by omega), g1 7 (by omega)]; rfl
  | 3, _ => simp only [outA, g1 0 (by omega), g1 1 (by omega), g1 2 (by omega), g1 4 (by omega), g1 5 (by omega), g1 6 (by omega), g1 7 (by omega)]; rfl
  | 4, _ => simp only [outA, g1 0 (by omega), g1 1 (by omega), g1 2 (by omega), g1 3 (by omega), g1 5 (by omega), g1 6 (by omega), g1 7 (by omega)]; rfl
  | 5, _ => simp only [outA, g1 0 (by omega), g1 1 (by omega), g1 2 (by omega), g1 3 (by omega), g1 4 (by omega), g1 6 (by omega), g1 7 (by omega)]; rfl
  | 6, _ => simp only [outA, g1 0 (by omega), g1 1 (by omega), g1 2 (by omega), g1 3 (by omega), g1 4 (by omega), g1 5 (by omega), g1 7 (by omega)]; rfl
  | 7, _ => simp only [outA, g1 0 (by omega), g1 1 (by omega), g1 2 (by omega), g1 3 (by omega), g1 4 (by omega), g1 5 (by omega), g1 6 (by omega)]; rfl
theorem oc_cell {V : World} {b g : Nat} {pre : List Nd} {L : Int} (h : V.heap[b]? = some (.cells (outA g pre L) 34 (0, 0))) {M : Nat} (hM : M < 8) : V.cell? ⟨b, M, none⟩ = some (oc g pre L M) := by
  match M, hM with
  | 0, _ => exact (blk_cell h 0).trans rfl
  | 1, _ => exact (blk_cell h 1).trans rfl
  | 2, _ => exact (blk_cell h 2).trans rfl
  | 3, _ => exact (blk_cell h 3).trans rfl
  | 4, _ => exact (blk_cell h 4).trans rfl
  | 5, _ => exact (blk_cell h 5).trans rfl
  | 6, _ => exact (blk_cell h 6).trans rfl
  | 7, _ => exact (blk_cell h 7).trans rfl
def outs (g : Nat) (pre : List Nd) : Array Value := #[.pointer (some ⟨(lastAt pre 0).getD g, 0, none⟩), .pointer (some ⟨(lastAt pre 1).getD g, 0, none⟩), .pointer (some ⟨(lastAt pre 2).getD g, 0, none⟩), .pointer (some ⟨(lastAt pre 3).getD g, 0, none⟩), .pointer (some ⟨(lastAt pre 4).getD g, 0, none⟩), .pointer (some ⟨(lastAt pre 5).getD g, 0, none⟩), .pointer (some ⟨(lastAt pre 6).getD g, 0, none⟩), .pointer (some ⟨(lastAt pre 7).getD g, 0, none⟩)]
theorem outA_end (g : Nat) (pre : List Nd) : outA g pre (-1) = outs g pre := by simp [outA, oc, outs]
set_option maxHeartbeats 8000000 in
set_option maxRecDepth 100000 in
theorem before_put (w0 w : World) (g cb : Nat) (pre post : List Nd) (n t : Int) (p : E → Bool) (hI : IsL w0 w g (pre ++ post) n t) (hp : ∀ x ∈ pre, p x.e = true) (hq : ∀ x ∈ post, p x.e = false)
    (hF : ∀ (V : World) (x : Nd), Below w.heap.size w V → x ∈ pre ++ post → Calls Tryz.prog 98 #[.agg #[.string (x.e).f0, .int .u64 (x.e).f1, .int .i64 (x.e).f2, .string (x.e).f3], .pointer (some ⟨cb, 0, none⟩)] V fun e w' => e = .returned (.bool (p x.e)) ∧ Below V.heap.size V w') :
    Calls Tryz.prog 97 #[.pointer (some ⟨g, 0, none⟩), .func (.func 98) #[] #[.pointer (some ⟨cb, 0, none⟩)]] w fun e w' => e = .returned (.agg (outs g pre)) ∧ Below w.heap.size w w' := by
  have HI := Aside0.mk hI
  have HP := Aside0.mk hp
  have HQ := Aside0.mk hq
  have HF := Aside0.mk hF
  have HB := Aside0.mk (Below.refl w.heap.size w)
  clear hI hp hq hF
  go_enter Tryz.func97, Tryz.ntmps97
  go_wp2_with (fail)
  have hs : (w.alloc (.cells #[.pointer none, .pointer none, .pointer none, .pointer none, .pointer none, .pointer none, .pointer none, .pointer none] 34)).heap.size = w.heap.size + 1 := by simp
  have HA4 : Aside0 (((w.alloc (.cells #[.pointer none, .pointer none, .pointer none, .pointer none, .pointer none, .pointer none, .pointer none, .pointer none] 34)).alloc (.cells #[.pointer none, .pointer none, .pointer none, .pointer none, .pointer none, .pointer none, .pointer none, .pointer none] 34)).heap[w.heap.size]? = some (.cells #[.pointer none, .pointer none, .pointer none, .pointer none, .pointer none, .pointer none, .pointer none, .pointer none] 34 (0, 0))) := ⟨blk_alloc (blk_new w _) _⟩
  have HA5 : Aside0 (((w.alloc (.cells #[.pointer none, .pointer none, .pointer none, .pointer none, .pointer none, .pointer none, .pointer none, .pointer none] 34)).alloc (.cells #[.pointer none, .pointer none, .pointer none, .pointer none, .pointer none, .pointer none, .pointer none, .pointer none] 34)).heap[w.heap.size + 1]? = some (.cells (outA g pre 7) 34 (0, 0))) := ⟨by rw [outA_start, ← hs]; exact blk_new _ _⟩
  have n0_ := Aside0.mk (below_alloc (below_alloc HB.out (.cells #[.pointer none, .pointer none, .pointer none, .pointer none, .pointer none, .pointer none, .pointer none, .pointer none] 34)) (.cells #[.pointer none, .pointer none, .pointer none, .pointer none, .pointer none, .pointer none, .pointer none, .pointer none] 34))
  clear HB hs
  have HB := n0_
  clear n0_
  generalize World.alloc (World.alloc w _) _ = w1 at *
  go_loopw [6, 7] (fun v6 v7 w' => ∃ (L : Int) (d r : List Nd), -1 ≤ L ∧ L ≤ 7 ∧ v6 = .pointer (some ⟨pos g d, 0, none⟩) ∧ v7 = .int .i64 L ∧ Aside0 (pre = d ++ r) ∧ Aside0 (∀ M : Nat, (M : Int) ≤ L → Reach d M) ∧ Aside0 (w'.heap[w.heap.size]? = some (.cells #[.pointer none, .pointer none, .pointer none, .pointer none, .pointer none, .pointer none, .pointer none, .pointer none] 34 (0, 0))) ∧ Aside0 (w'.heap[w.heap.size + 1]? = some (.cells (outA g pre L) 34 (0, 0))) ∧ Aside0 (Below w.heap.size w w')) (fun _ v7 _ => (intOf v7 + 1).toNat)
  case atStart => exact ⟨7, [], pre, by omega, by omega, rfl, rfl, ⟨rfl⟩, ⟨fun _ _ => Or.inl rfl⟩, HA4, HA5, HB⟩
  case round =>
    clear HA4 HA5 HB
    obtain ⟨L, d, r, hL0, hL7, rfl, rfl, HD, HRc, HA4, HA5, HB⟩ := hrel
    by_cases hL : 0 ≤ L
    · obtain ⟨M, rfl⟩ := Int.eq_ofNat_of_zero_le hL
      have hM8 : M < 8 := by omega
      have t0 : decide ((0 : Int) ≤ (M : Int)) = true := decide_eq_true hL
      have HR0 : Aside0 (Reach d M) := ⟨HRc.out M (Int.le_refl _)⟩
      clear HRc
      go_wp2_with (fail)
      go_loopg [6] r.length (fun kq v6 w' => ∃ (d r : List Nd), v6 = .pointer (some ⟨pos g d, 0, none⟩) ∧ Aside0 (r.length ≤ kq) ∧ Aside0 (pre = d ++ r) ∧ Aside0 (Reach d M) ∧ Aside0 (w'.heap[w.heap.size]? = some (.cells #[.pointer none, .pointer none, .pointer none, .pointer none, .pointer none, .pointer none, .pointer none, .pointer none] 34 (0, 0))) ∧ Aside0 (w'.heap[w.heap.size + 1]? = some (.cells (outA g pre M) 34 (0, 0))) ∧ Aside0 (Below w.heap.size w w'))
      case atStart => exact ⟨d, r, rfl, ⟨Nat.le_refl _⟩, HD, HR0, HA4, HA5, HB⟩
      case round =>
        clear HD HR0 HA4 HA5 HB
        obtain ⟨d, r, rfl, HG, HD, HR0, HA4, HA5, HB⟩ := hrel
        have HI1 : Aside0 (IsL w0 wr g (d ++ (r ++ post)) n t) := ⟨by rw [← List.append_assoc, ← HD.out]; exact HI.out.below HB.out⟩
        have y0 := HI1.out.next hM8 HR0.out
        have q0 : (0 : Int) ≤ (M : Int) := hL
        have q1 : (M : Int) < 8 := by omega
        rcases hf : first r M with _ | yb
        · rcases hg : first post M with _ | yb
          · rw [first_app, hf, hg] at y0
            have y1 : wr.cell? ⟨pos g d, 4 + M, none⟩ = some (.pointer none) := y0
            clear y0
            have c5 := oc_cell HA5.out hM8
            have f5 := blk_frozen HA5.out M
            have HLP := Aside0.mk (lastAt_pos (g := g) HR0.out hf)
            clear hf hg
            go_wp2_with (fail)
            go_roundw
            case rel => exact ⟨(M : Int) - 1, d, r, by omega, by omega, rfl, by go_num, HD, ⟨fun K hK => HR0.out.down (by omega)⟩, ⟨blk_far HA4.out (by show w.heap.size ≠ w.heap.size + 1; omega) _⟩, ⟨by rw [← outA_set g pre hM8, ← HLP.out, ← HD.out]; exact blk_put HA5.out M _ rfl⟩, ⟨below_set HB.out (by omega)⟩⟩
            case measure => first | (simp [intOf]; done) | (simp [intOf]; omega)
          · obtain ⟨p1, y, p2, hpe, rfl, hy, hp1⟩ := first_mem hg
            have HY : Aside0 (y ∈ post) := ⟨by rw [hpe]; simp⟩
            rw [first_app, hf, hg] at y0
            have y1 : wr.cell? ⟨pos g d, 4 + M, none⟩ = some (.pointer (some ⟨y.b, 0, none⟩)) := y0
            have hch : Ch wr ((d ++ (r ++ p1)) ++ y :: p2) := by have h2 := HI1.out.ch; rw [hpe] at h2; simpa using h2
            have z0 : wr.cell? ⟨y.b, 0, none⟩ = some (.string y.e.f0) := (blk_cell hch.blk 0).trans rfl
            have z1 : wr.cell? ⟨y.b, 1, none⟩ = some (.int .u64 y.e.f1) := (blk_cell hch.blk 1).trans rfl
            have z2 : wr.cell? ⟨y.b, 2, none⟩ = some (.int .i64 y.e.f2) := (blk_cell hch.blk 2).trans rfl
            have z3 : wr.cell? ⟨y.b, 3, none⟩ = some (.string y.e.f3) := (blk_cell hch.blk 3).trans rfl
            have HPY : Aside0 (p y.e = false) := ⟨HQ.out y HY.out⟩
            have HLP := Aside0.mk (lastAt_pos (g := g) HR0.out hf)
            clear hf hg y0 hch hpe hp1
            go_wp2_with (first | (go_at_call 98; refine (HF.out _ y HB.out (List.mem_append_right _ HY.out)).mono ?_; rintro e w6 ⟨rfl, hb⟩; rw [HPY.out]; have n0_ := Aside0.mk (blk_below HA4.out hb); have n1_ := Aside0.mk (blk_below HA5.out hb); have n2_ := Aside0.mk (below_step HB.out hb); clear HA4 HA5 HB hb y1 z0 z1 z2 z3; have HA4 := n0_; have HA5 := n1_; have HB := n2_; clear n0_ n1_ n2_; have c5 := oc_cell HA5.out hM8; have f5 := blk_frozen HA5.out M))
            go_roundw
            case rel => exact ⟨(M : Int) - 1, d, r, by omega, by omega, rfl, by go_num, HD, ⟨fun K hK => HR0.out.down (by omega)⟩, ⟨blk_far HA4.out (by show w.heap.size ≠ w.heap.size + 1; omega) _⟩, ⟨by rw [← outA_set g pre hM8, ← HLP.out, ← HD.out]; exact blk_put HA5.out M _ rfl⟩, ⟨below_set HB.out (by omega)⟩⟩
            case measure => first | (simp [intOf]; done) | (simp [intOf]; omega)
        · obtain ⟨r1, y, r2, hre, rfl, hy, hr1⟩ := first_mem hf
          have HY : Aside0 (y ∈ pre) := ⟨by rw [HD.out, hre]; simp⟩
          rw [first_app, hf] at y0
          have y1 : wr.cell? ⟨pos g d, 4 + M, none⟩ = some (.pointer (some ⟨y.b, 0, none⟩)) := y0
          have hch : Ch wr ((d ++ r1) ++ y :: (r2 ++ post)) := by have h2 := HI1.out.ch; rw [hre] at h2; simpa using h2
          have z0 : wr.cell? ⟨y.b, 0, none⟩ = some (.string y.e.f0) := (blk_cell hch.blk 0).trans rfl
          have z1 : wr.cell? ⟨y.b, 1, none⟩ = some (.int .u64 y.e.f1) := (blk_cell hch.blk 1).trans rfl
          have z2 : wr.cell? ⟨y.b, 2, none⟩ = some (.int .i64 y.e.f2) := (blk_cell hch.blk 2).trans rfl
          have z3 : wr.cell? ⟨y.b, 3, none⟩ = some (.string y.e.f3) := (blk_cell hch.blk 3).trans rfl
          have HPY : Aside0 (p y.e = true) := ⟨HP.out y HY.out⟩
          have HRE := Aside0.mk hre
          clear hf y0 hch hre hr1
          go_wp2_with (first | (go_at_call 98; refine (HF.out _ y HB.out (List.mem_append_left _ HY.out)).mono ?_; rintro e w6 ⟨rfl, hb⟩; rw [HPY.out]; have n0_ := Aside0.mk (blk_below HA4.out hb); have n1_ := Aside0.mk (blk_below HA5.out hb); have n2_ := Aside0.mk (below_step HB.out hb); have y2 := (hb.cell (World.block_lt_of_cell? _ _ y1)).trans y1; clear HA4 HA5 HB hb y1 z0 z1 z2 z3; have HA4 := n0_; have HA5 := n1_; have HB := n2_; clear n0_ n1_ n2_))
          go_roundg r2.length
          case measure =>
            have h1 := HG.out
            rw [HRE.out] at h1
            simp at h1
            omega
          case rel => exact ⟨d ++ r1 ++ [y], r2, by rw [pos_snoc], ⟨Nat.le_refl _⟩, ⟨by rw [HD.out, HRE.out]; simp⟩, ⟨Or.inr ⟨d ++ r1, y, rfl, hy⟩⟩, HA4, HA5, HB⟩
    · have hLe : L = -1 := by omega
      subst hLe
      rw [outA_end] at HA5
      have s0 : wr.cell? ⟨w.heap.size + 1, 0, none⟩ = some (.pointer (some ⟨(lastAt pre 0).getD g, 0, none⟩)) := (blk_cell HA5.out 0).trans rfl
      have r0 : wr.cell? ⟨w.heap.size, 0, none⟩ = some (.pointer none) := (blk_cell HA4.out 0).trans rfl
      have f0 := blk_frozen HA4.out 0
      have s1 : wr.cell? ⟨w.heap.size + 1, 1, none⟩ = some (.pointer (some ⟨(lastAt pre 1).getD g, 0, none⟩)) := (blk_cell HA5.out 1).trans rfl
      have r1 : wr.cell? ⟨w.heap.size, 1, none⟩ = some (.pointer none) := (blk_cell HA4.out 1).trans rfl
      have f1 := blk_frozen HA4.out 1
      have s2 : wr.cell? ⟨w.heap.size + 1, 2, none⟩ = some (.pointer (some ⟨(lastAt pre 2).getD g, 0, none⟩)) := (blk_cell HA5.out 2).trans rfl
      have r2 : wr.cell? ⟨w.heap.size, 2, none⟩ = some (.pointer none) := (blk_cell HA4.out 2).trans rfl
      have f2 := blk_frozen HA4.out 2
      have s3 : wr.cell? ⟨w.heap.size + 1, 3, none⟩ = some (.pointer (some ⟨(lastAt pre 3).getD g, 0, none⟩)) := (blk_cell HA5.out 3).trans rfl
      have r3 : wr.cell? ⟨w.heap.size, 3, none⟩ = some (.pointer none) := (blk_cell HA4.out 3).trans rfl
      have f3 := blk_frozen HA4.out 3
      have s4 : wr.cell? ⟨w.heap.size + 1, 4, none⟩ = some (.pointer (some ⟨(lastAt pre 4).getD g, 0, none⟩)) := (blk_cell HA5.out 4).trans rfl
      have r4 : wr.cell? ⟨w.heap.size, 4, none⟩ = some (.pointer none) := (blk_cell HA4.out 4).trans rfl
      have f4 := blk_frozen HA4.out 4
      have s5 : wr.cell? ⟨w.heap.size + 1, 5, none⟩ = some (.pointer (some ⟨(lastAt pre 5).getD g, 0, none⟩)) := (blk_cell HA5.out 5).trans rfl
      have r5 : wr.cell? ⟨w.heap.size, 5, none⟩ = some (.pointer none) := (blk_cell HA4.out 5).trans rfl
      have f5 := blk_frozen HA4.out 5
      have s6 : wr.cell? ⟨w.heap.size + 1, 6, none⟩ = some (.pointer (some ⟨(lastAt pre 6).getD g, 0, none⟩)) := (blk_cell HA5.out 6).trans rfl
      have r6 : wr.cell? ⟨w.heap.size, 6, none⟩ = some (.pointer none) := (blk_cell HA4.out 6).trans rfl
      have f6 := blk_frozen HA4.out 6
      have s7 : wr.cell? ⟨w.heap.size + 1, 7, none⟩ = some (.pointer (some ⟨(lastAt pre 7).getD g, 0, none⟩)) := (blk_cell HA5.out 7).trans rfl
      have r7 : wr.cell? ⟨w.heap.size, 7, none⟩ = some (.pointer none) := (blk_cell HA4.out 7).trans rfl
      have f7 := blk_frozen HA4.out 7
      go_wp2_with (fail)
      refine bodyPost_ret (results_cell_row rfl _ _ w.heap.size 34 (outs g pre) (0, 0) _ rfl (blk_put (blk_put (blk_put (blk_put (blk_put (blk_put (blk_put (blk_put (HA4.out) 0 _ rfl) 1 _ rfl) 2 _ rfl) 3 _ rfl) 4 _ rfl) 5 _ rfl) 6 _ rfl) 7 _ rfl) Tryz.underlying34 rfl (by kernel_rfl)) rfl ?_
      exact ⟨rfl, below_set (below_set (below_set (below_set (below_set (below_set (below_set (below_set (HB.out) (Nat.le_refl _)) (Nat.le_refl _)) (Nat.le_refl _)) (Nat.le_refl _)) (Nat.le_refl _)) (Nat.le_refl _)) (Nat.le_refl _)) (Nat.le_refl _)⟩
set_option maxHeartbeats 8000000 in
set_option maxRecDepth 100000 in
theorem before_first (w0 w : World) (g cb : Nat) (pre post : List Nd) (n t : Int) (p : E → Bool) (hI : IsL w0 w g (pre ++ post) n t) (hp : ∀ x ∈ pre, p x.e = true) (hq : ∀ x ∈ post, p x.e = false)
    (hF : ∀ (V : World) (x : Nd), Below w.heap.size w V → x ∈ pre ++ post → Calls Tryz.prog 204 #[.agg #[.string (x.e).f0, .int .u64 (x.e).f1, .int .i64 (x.e).f2, .string (x.e).f3], .pointer (some ⟨cb, 0, none⟩)] V fun e w' => e = .returned (.bool (p x.e)) ∧ Below V.heap.size V w') :
    Calls Tryz.prog 97 #[.pointer (some ⟨g, 0, none⟩), .func (.func 204) #[] #[.pointer (some ⟨cb, 0, none⟩)]] w fun e w' => e = .returned (.agg (outs g pre)) ∧ Below w.heap.size w w' := by
  have HI := Aside0.mk hI
  have HP := Aside0.mk hp
  have HQ := Aside0.mk hq
  have HF := Aside0.mk hF
  have HB := Aside0.mk (Below.refl w.heap.size w)
  clear hI hp hq hF
  go_enter Tryz.func97, Tryz.ntmps97
  go_wp2_with (fail)
  have hs : (w.alloc (.cells #[.pointer none, .pointer none, .pointer none, .pointer none, .pointer none, .pointer none, .pointer none, .pointer none] 34)).heap.size = w.heap.size + 1 := by simp
  have HA4 : Aside0 (((w.alloc (.cells #[.pointer none, .pointer none, .pointer none, .pointer none, .pointer none, .pointer none, .pointer none, .pointer none] 34)).alloc (.cells #[.pointer none, .pointer none, .pointer none, .pointer none, .pointer none, .pointer none, .pointer none, .pointer none] 34)).heap[w.heap.size]? = some (.cells #[.pointer none, .pointer none, .pointer none, .pointer none, .pointer none, .pointer none, .pointer none, .pointer none] 34 (0, 0))) := ⟨blk_alloc (blk_new w _) _⟩
  have HA5 : Aside0 (((w.alloc (.cells #[.pointer none, .pointer none, .pointer none, .pointer none, .pointer none, .pointer none, .pointer none, .pointer none] 34)).alloc (.cells #[.pointer none, .pointer none, .pointer none, .pointer none, .pointer none, .pointer none, .pointer none, .pointer none] 34)).heap[w.heap.size + 1]? = some (.cells (outA g pre 7) 34 (0, 0))) := ⟨by rw [outA_start, ← hs]; exact blk_new _ _⟩
  have n0_ := Aside0.mk (below_alloc (below_alloc HB.out (.cells #[.pointer none, .pointer none, .pointer none, .pointer none, .pointer none, .pointer none, .pointer none, .pointer none] 34)) (.cells #[.pointer none, .pointer none, .pointer none, .pointer none, .pointer none, .pointer none, .pointer none, .pointer none] 34))
  clear HB hs
  have HB := n0_
  clear n0_
  generalize World.alloc (World.alloc w _) _ = w1 at *
  go_loopw [6, 7] (fun v6 v7 w' => ∃ (L : Int) (d r : List Nd), -1 ≤ L ∧ L ≤ 7 ∧ v6 = .pointer (some ⟨pos g d, 0, none⟩) ∧ v7 = .int .i64 L ∧ Aside0 (pre = d ++ r) ∧ Aside0 (∀ M : Nat, (M : Int) ≤ L → Reach d M) ∧ Aside0 (w'.heap[w.heap.size]? = some (.cells #[.pointer none, .pointer none, .pointer none, .pointer none, .pointer none, .pointer none, .pointer none, .pointer none] 34 (0, 0))) ∧ Aside0 (w'.heap[w.heap.size + 1]? = some (.cells (outA g pre L) 34 (0, 0))) ∧ Aside0 (Below w.heap.size w w')) (fun _ v7 _ => (intOf v7 + 1).toNat)
  case atStart => exact ⟨7, [], pre, by omega, by omega, rfl, rfl, ⟨rfl⟩, ⟨fun _ _ => Or.inl rfl⟩, HA4, HA5, HB⟩
  case round =>
    clear HA4 HA5 HB
    obtain ⟨L, d, r, hL0, hL7, rfl, rfl, HD, HRc, HA4, HA5, HB⟩ := hrel
    by_cases hL : 0 ≤ L
    · obtain ⟨M, rfl⟩ := Int.eq_ofNat_of_zero_le hL
      have hM8 : M < 8 := by omega
      have t0 : decide ((0 : Int) ≤ (M : Int)) = true := decide_eq_true hL
      have HR0 : Aside0 (Reach d M) := ⟨HRc.out M (Int.le_refl _)⟩
      clear HRc
      go_wp2_with (fail)
      go_loopg [6] r.length (fun kq v6 w' => ∃ (d r : List Nd), v6 = .pointer (some ⟨pos g d, 0, none⟩) ∧ Aside0 (r.length ≤ kq) ∧ Aside0 (pre = d ++ r) ∧ Aside0 (Reach d M) ∧ Aside0 (w'.heap[w.heap.size]? = some (.cells #[.pointer none, .pointer none, .pointer none, .pointer none, .pointer none, .pointer none, .pointer none, .pointer none] 34 (0, 0))) ∧ Aside0 (w'.heap[w.heap.size + 1]? = some (.cells (outA g pre M) 34 (0, 0))) ∧ Aside0 (Below w.heap.size w w'))
      case atStart => exact ⟨d, r, rfl, ⟨Nat.le_refl _⟩, HD, HR0, HA4, HA5, HB⟩
      case round =>
        clear HD HR0 HA4 HA5 HB
        obtain ⟨d, r, rfl, HG, HD, HR0, HA4, HA5, HB⟩ := hrel
        have HI1 : Aside0 (IsL w0 wr g (d ++ (r ++ post)) n t) := ⟨by rw [← List.append_assoc, ← HD.out]; exact HI.out.below HB.out⟩
        have y0 := HI1.out.next hM8 HR0.out
        have q0 : (0 : Int) ≤ (M : Int) := hL
        have q1 : (M : Int) < 8 := by omega
        rcases hf : first r M with _ | yb
        · rcases hg : first post M with _ | yb
          · rw [first_app, hf, hg] at y0
            have y1 : wr.cell? ⟨pos g d, 4 + M, none⟩ = some (.pointer none) := y0
            clear y0
            have c5 := oc_cell HA5.out hM8
            have f5 := blk_frozen HA5.out M
            have HLP := Aside0.mk (lastAt_pos (g := g) HR0.out hf)
            clear hf hg
            go_wp2_with (fail)
            go_roundw
            case rel => exact ⟨(M : Int) - 1, d, r, by omega, by omega, rfl, by go_num, HD, ⟨fun K hK => HR0.out.down (by omega)⟩, ⟨blk_far HA4.out (by show w.heap.size ≠ w.heap.size + 1; omega) _⟩, ⟨by rw [← outA_set g pre hM8, ← HLP.out, ← HD.out]; exact blk_put HA5.out M _ rfl⟩, ⟨below_set HB.out (by omega)⟩⟩
            case measure => first | (simp [intOf]; done) | (simp [intOf]; omega)
          · obtain ⟨p1, y, p2, hpe, rfl, hy, hp1⟩ := first_mem hg
            have HY : Aside0 (y ∈ post) := ⟨by rw [hpe]; simp⟩
            rw [first_app, hf, hg] at y0
            have y1 : wr.cell? ⟨pos g d, 4 + M, none⟩ = some (.pointer (some ⟨y.b, 0, none⟩)) := y0
            have hch : Ch wr ((d ++ (r ++ p1)) ++ y :: p2) := by have h2 := HI1.out.ch; rw [hpe] at h2; simpa using h2
            have z0 : wr.cell? ⟨y.b, 0, none⟩ = some (.string y.e.f0) := (blk_cell hch.blk 0).trans rfl
            have z1 : wr.cell? ⟨y.b, 1, none⟩ = some (.int .u64 y.e.f1) := (blk_cell hch.blk 1).trans rfl
            have z2 : wr.cell? ⟨y.b, 2, none⟩ = some (.int .i64 y.e.f2) := (blk_cell hch.blk 2).trans rfl
            have z3 : wr.cell? ⟨y.b, 3, none⟩ = some (.string y.e.f3) := (blk_cell hch.blk 3).trans rfl
            have HPY : Aside0 (p y.e = false) := ⟨HQ.out y HY.out⟩
            have HLP := Aside0.mk (lastAt_pos (g := g) HR0.out hf)
            clear hf hg y0 hch hpe hp1
            go_wp2_with (first | (go_at_call 204; refine (HF.out _ y HB.out (List.mem_append_right _ HY.out)).mono ?_; rintro e w6 ⟨rfl, hb⟩; rw [HPY.out]; have n0_ := Aside0.mk (blk_below HA4.out hb); have n1_ := Aside0.mk (blk_below HA5.out hb); have n2_ := Aside0.mk (below_step HB.out hb); clear HA4 HA5 HB hb y1 z0 z1 z2 z3; have HA4 := n0_; have HA5 := n1_; have HB := n2_; clear n0_ n1_ n2_; have c5 := oc_cell HA5.out hM8; have f5 := blk_frozen HA5.out M))
            go_roundw
            case rel => exact ⟨(M : Int) - 1, d, r, by omega, by omega, rfl, by go_num, HD, ⟨fun K hK => HR0.out.down (by omega)⟩, ⟨blk_far HA4.out (by show w.heap.size ≠ w.heap.size + 1; omega) _⟩, ⟨by rw [← outA_set g pre hM8, ← HLP.out, ← HD.out]; exact blk_put HA5.out M _ rfl⟩, ⟨below_set HB.out (by omega)⟩⟩
            case measure => first | (simp [intOf]; done) | (simp [intOf]; omega)
        · obtain ⟨r1, y, r2, hre, rfl, hy, hr1⟩ := first_mem hf
          have HY : Aside0 (y ∈ pre) := ⟨by rw [HD.out, hre]; simp⟩
          rw [first_app, hf] at y0
          have y1 : wr.cell? ⟨pos g d, 4 + M, none⟩ = some (.pointer (some ⟨y.b, 0, none⟩)) := y0
          have hch : Ch wr ((d ++ r1) ++ y :: (r2 ++ post)) := by have h2 := HI1.out.ch; rw [hre] at h2; simpa using h2
          have z0 : wr.cell? ⟨y.b, 0, none⟩ = some (.string y.e.f0) := (blk_cell hch.blk 0).trans rfl
          have z1 : wr.cell? ⟨y.b, 1, none⟩ = some (.int .u64 y.e.f1) := (blk_cell hch.blk 1).trans rfl
          have z2 : wr.cell? ⟨y.b, 2, none⟩ = some (.int .i64 y.e.f2) := (blk_cell hch.blk 2).trans rfl
          have z3 : wr.cell? ⟨y.b, 3, none⟩ = some (.string y.e.f3) := (blk_cell hch.blk 3).trans rfl
          have HPY : Aside0 (p y.e = true) := ⟨HP.out y HY.out⟩
          have HRE := Aside0.mk hre
          clear hf y0 hch hre hr1
          go_wp2_with (first | (go_at_call 204; refine (HF.out _ y HB.out (List.mem_append_left _ HY.out)).mono ?_; rintro e w6 ⟨rfl, hb⟩; rw [HPY.out]; have n0_ := Aside0.mk (blk_below HA4.out hb); have n1_ := Aside0.mk (blk_below HA5.out hb); have n2_ := Aside0.mk (below_step HB.out hb); have y2 := (hb.cell (World.block_lt_of_cell? _ _ y1)).trans y1; clear HA4 HA5 HB hb y1 z0 z1 z2 z3; have HA4 := n0_; have HA5 := n1_; have HB := n2_; clear n0_ n1_ n2_))
          go_roundg r2.length
          case measure =>
            have h1 := HG.out
            rw [HRE.out] at h1
            simp at h1
            omega
          case rel => exact ⟨d ++ r1 ++ [y], r2, by rw [pos_snoc], ⟨Nat.le_refl _⟩, ⟨by rw [HD.out, HRE.out]; simp⟩, ⟨Or.inr ⟨d ++ r1, y, rfl, hy⟩⟩, HA4, HA5, HB⟩
    · have hLe : L = -1 := by omega
      subst hLe
      rw [outA_end] at HA5
      have s0 : wr.cell? ⟨w.heap.size + 1, 0, none⟩ = some (.pointer (some ⟨(lastAt pre 0).getD g, 0, none⟩)) := (blk_cell HA5.out 0).trans rfl
      have r0 : wr.cell? ⟨w.heap.size, 0, none⟩ = some (.pointer none) := (blk_cell HA4.out 0).trans rfl
      have f0 := blk_frozen HA4.out 0
      have s1 : wr.cell? ⟨w.heap.size + 1, 1, none⟩ = some (.pointer (some ⟨(lastAt pre 1).getD g, 0, none⟩)) := (blk_cell HA5.out 1).trans rfl
      have r1 : wr.cell? ⟨w.heap.size, 1, none⟩ = some (.pointer none) := (blk_cell HA4.out 1).trans rfl
      have f1 := blk_frozen HA4.out 1
      have s2 : wr.cell? ⟨w.heap.size + 1, 2, none⟩ = some (.pointer (some ⟨(lastAt pre 2).getD g, 0, none⟩)) := (blk_cell HA5.out 2).trans rfl
      have r2 : wr.cell? ⟨w.heap.size, 2, none⟩ = some (.pointer none) := (blk_cell HA4.out 2).trans rfl
      have f2 := blk_frozen HA4.out 2
      have s3 : wr.cell? ⟨w.heap.size + 1, 3, none⟩ = some (.pointer (some ⟨(lastAt pre 3).getD g, 0, none⟩)) := (blk_cell HA5.out 3).trans rfl
      have r3 : wr.cell? ⟨w.heap.size, 3, none⟩ = some (.pointer none) := (blk_cell HA4.out 3).trans rfl
      have f3 := blk_frozen HA4.out 3
      have s4 : wr.cell? ⟨w.heap.size + 1, 4, none⟩ = some (.pointer (some ⟨(lastAt pre 4).getD g, 0, none⟩)) := (blk_cell HA5.out 4).trans rfl
      have r4 : wr.cell? ⟨w.heap.size, 4, none⟩ = some (.pointer none) := (blk_cell HA4.out 4).trans rfl
      have f4 := blk_frozen HA4.out 4
      have s5 : wr.cell? ⟨w.heap.size + 1, 5, none⟩ = some (.pointer (some ⟨(lastAt pre 5).getD g, 0, none⟩)) := (blk_cell HA5.out 5).trans rfl
      have r5 : wr.cell? ⟨w.heap.size, 5, none⟩ = some (.pointer none) := (blk_cell HA4.out 5).trans rfl
      have f5 := blk_frozen HA4.out 5
      have s6 : wr.cell? ⟨w.heap.size + 1, 6, none⟩ = some (.pointer (some ⟨(lastAt pre 6).getD g, 0, none⟩)) := (blk_cell HA5.out 6).trans rfl
      have r6 : wr.cell? ⟨w.heap.size, 6, none⟩ = some (.pointer none) := (blk_cell HA4.out 6).trans rfl
      have f6 := blk_frozen HA4.out 6
      have s7 : wr.cell? ⟨w.heap.size + 1, 7, none⟩ = some (.pointer (some ⟨(lastAt pre 7).getD g, 0, none⟩)) := (blk_cell HA5.out 7).trans rfl
      have r7 : wr.cell? ⟨w.heap.size, 7, none⟩ = some (.pointer none) := (blk_cell HA4.out 7).trans rfl
      have f7 := blk_frozen HA4.out 7
      go_wp2_with (fail)
      refine bodyPost_ret (results_cell_row rfl _ _ w.heap.size 34 (outs g pre) (0, 0) _ rfl (blk_put (blk_put (blk_put (blk_put (blk_put (blk_put (blk_put (blk_put (HA4.out) 0 _ rfl) 1 _ rfl) 2 _ rfl) 3 _ rfl) 4 _ rfl) 5 _ rfl) 6 _ rfl) 7 _ rfl) Tryz.underlying34 rfl (by kernel_rfl)) rfl ?_
      exact ⟨rfl, below_set (below_set (below_set (below_set (below_set (below_set (below_set (below_set (HB.out) (Nat.le_refl _)) (Nat.le_refl _)) (Nat.le_refl _)) (Nat.le_refl _)) (Nat.le_refl _)) (Nat.le_refl _)) (Nat.le_refl _)) (Nat.le_refl _)⟩
end Go.Proofs.YtchgpcgolgcfdaaGreat.Sk
end
section
namespace Go.Proofs.YtchgpcgolgcfdaaGreat.Sk
open Go Go.RowKit Go.Proofs.YtchgpcgolgcfdaaGreat.PNum Go.Proofs.YtchgpcgolgcfdaaGreat.SkM Go.Proofs.YtchgpcgolgcfdaaGreatW.PrintWords Go.Proofs.YtchgpcgolgcfdaaGreatW.PrintLast Go.Proofs.YtchgpcgolgcfdaaGreatW.PrintMore
set_option linter.unusedVariables false
set_option linter.unusedSimpArgs false
theorem lastAt_split {pre : List Nd} {L b : Nat} (h : lastAt pre L = some b) : ∃ d x r, pre = d ++ x :: r ∧ x.b = b ∧ L < x.h ∧ first r L = none := by
  induction pre with
  | nil => simp [lastAt] at h
  | cons y r ih =>
    rw [lastAt] at h
    cases hr : lastAt r L with
    | some c =>
      rw [hr] at h
      obtain ⟨d, x, r', rfl, h1, h2, h3⟩ := ih (by rw [hr]; exact h)
      exact ⟨y :: d, x, r', rfl, h1, h2, h3⟩
    | none =>
      rw [hr] at h
      simp only at h
      split at h
      · exact ⟨[], y, r, rfl, Option.some.inj h, by assumption, (first_none_iff r L).2 hr⟩
      · cases h
theorem IsL.nextLast {w0 V : World} {g : Nat} {pre post : List Nd} {n t : Int} (h : IsL w0 V g (pre ++ post) n t) {L : Nat} (hL : L < 8) : V.cell? ⟨(lastAt pre L).getD g, 4 + L, none⟩ = some (ptr (first post L)) := by
  cases hl : lastAt pre L with
  | none =>
    have h2 := cellL h.hd hL
    rw [first_app, (first_none_iff pre L).2 hl] at h2
    exact h2
  | some b =>
    obtain ⟨d, x, r, rfl, rfl, hx, hr⟩ := lastAt_split hl
    have h2 := h.ch
    rw [List.append_assoc] at h2
    have h3 : V.cell? ⟨x.b, 4 + L, none⟩ = some (ptr (first (r ++ post) L)) := cellN h2.blk hL hx
    rw [first_app, hr] at h3
    exact h3
theorem idx0 (v0 v1 v2 v3 v4 v5 v6 v7 : Value) (V : World) : (Instr.index 34 (.agg #[v0, v1, v2, v3, v4, v5, v6, v7]) (.int .i64 0)).run Tryz.prog V = .ok v0 V := by kernel_rfl
def lt (key : ByteArray) (e : E) : Bool := Op.bytesLess e.f0.toList key.toList
set_option maxHeartbeats 8000000 in
set_option maxRecDepth 100000 in
theorem first1 (w : World) (cb : Nat) (key : ByteArray) (x : E) (hc : w.heap[cb]? = some (.cells #[.string key] 9 (0, 0))) :
    Calls Tryz.prog 204 #[.agg #[.string (x).f0, .int .u64 (x).f1, .int .i64 (x).f2, .string (x).f3], .pointer (some ⟨cb, 0, none⟩)] w fun e w' => e = .returned (.bool (lt key x)) ∧ Below w.heap.size w w' := by
  have hlt := blk_lt hc
  have c0 : w.cell? ⟨cb, 0, none⟩ = some (.string key) := (blk_cell hc 0).trans rfl
  clear hc
  go_enter Tryz.func204, Tryz.ntmps204
  go_wp2_with (fail)
  go_ret
  exact ⟨rfl, below_alloc (Below.refl _ w) _⟩
set_option maxHeartbeats 8000000 in
set_option maxRecDepth 100000 in
theorem put1 (w : World) (cb : Nat) (y x : E) (hc : w.heap[cb]? = some (.cells #[.string y.f0, .int .u64 y.f1, .int .i64 y.f2, .string y.f3] 32 (0, 0))) :
    Calls Tryz.prog 98 #[.agg #[.string (x).f0, .int .u64 (x).f1, .int .i64 (x).f2, .string (x).f3], .pointer (some ⟨cb, 0, none⟩)] w fun e w' => e = .returned (.bool (decide (PuIkC.ce x y < 0))) ∧ Below w.heap.size w w' := by
  have hlt := blk_lt hc
  have c0 : w.cell? ⟨cb, 0, none⟩ = some (.string y.f0) := (blk_cell hc 0).trans rfl
  have c1 : w.cell? ⟨cb, 1, none⟩ = some (.int .u64 y.f1) := (blk_cell hc 1).trans rfl
  have c2 : w.cell? ⟨cb, 2, none⟩ = some (.int .i64 y.f2) := (blk_cell hc 2).trans rfl
  have c3 : w.cell? ⟨cb, 3, none⟩ = some (.string y.f3) := (blk_cell hc 3).trans rfl
  obtain ⟨k, hk⟩ := PuIkC.Compare_ev x y
  have HK := Aside0.mk (hk k (Nat.le_refl _))
  have HB := Aside0.mk (below_alloc (Below.refl w.heap.size w) (.cells #[.string x.f0, .int .u64 x.f1, .int .i64 x.f2, .string x.f3] 32))
  clear hc hk
  go_enter Tryz.func98, Tryz.ntmps98
  go_wp2_with (first | (go_at_call 47; refine (ikey_Compare.calls k _ _ _ _ _ _ _ _ _ _ HK.out).mono ?_; rintro e w1 ⟨rfl, hb⟩; have n0_ := Aside0.mk (below_step HB.out hb); clear HB hb; have HB := n0_; clear n0_))
  go_ret
  exact ⟨rfl, HB.out⟩
set_option maxHeartbeats 8000000 in
set_option maxRecDepth 100000 in
theorem first_calls (w0 w : World) (g : Nat) (pre post : List Nd) (n t : Int) (key : ByteArray) (hI : IsL w0 w g (pre ++ post) n t) (hp : ∀ x ∈ pre, lt key x.e = true) (hq : ∀ x ∈ post, lt key x.e = false) :
    Calls Tryz.prog 100 #[.pointer (some ⟨g, 0, none⟩), .string key] w fun e w' => e = .returned (ptr (first post 0)) ∧ Below w.heap.size w w' := by
  have HI := Aside0.mk hI
  have HP := Aside0.mk hp
  have HQ := Aside0.mk hq
  clear hI hp hq
  have HB := Aside0.mk (below_alloc (Below.refl w.heap.size w) (.cells #[.string key] 9))
  have HI1 := Aside0.mk (HI.out.below HB.out)
  have HF : Aside0 (∀ (V : World) (x : Nd), Below (w.alloc (.cells #[.string key] 9)).heap.size (w.alloc (.cells #[.string key] 9)) V → x ∈ pre ++ post → Calls Tryz.prog 204 #[.agg #[.string (x.e).f0, .int .u64 (x.e).f1, .int .i64 (x.e).f2, .string (x.e).f3], .pointer (some ⟨w.heap.size, 0, none⟩)] V fun e w' => e = .returned (.bool (lt key x.e)) ∧ Below V.heap.size V w') := ⟨fun V x hV _ => first1 V _ key x.e (blk_below (blk_new w _) hV)⟩
  have hix := idx0
  go_enter Tryz.func100, Tryz.ntmps100
  go_wp2_with (first | (go_at_call 97; refine (before_first w0 _ g w.heap.size pre post n t (lt key) HI1.out HP.out HQ.out HF.out).mono ?_; rintro e w1 ⟨rfl, hb⟩; have n0_ := Aside0.mk (below_step HB.out hb); have y0 := (HI1.out.below hb).nextLast (L := 0) (by omega); clear HB HI1 HF hb; have HB := n0_; clear n0_; unfold outs))
  go_ret
  exact ⟨rfl, HB.out⟩
set_option maxHeartbeats 8000000 in
set_option maxRecDepth 100000 in
theorem new_calls (w0 w : World) (hB : Below w0.heap.size w0 w) :
    Calls Tryz.prog 12 #[] w fun e w' => ∃ g, e = .returned (.pointer (some ⟨g, 0, none⟩)) ∧ IsL w0 w' g [] 0 0 ∧ w.heap.size ≤ g ∧ Below w.heap.size w w' := by
  have HB := Aside0.mk hB
  clear hB
  go_enter Tryz.func12, Tryz.ntmps12
  go_wp2_with (fail)
  go_ret
  exact ⟨_, rfl, ⟨blk_new w _, trivial, by simp [blocks], HB.out.size, by simp⟩, Nat.le_refl _, below_alloc (Below.refl _ w) _⟩
set_option maxHeartbeats 8000000 in
set_option maxRecDepth 100000 in
theorem len_calls (w0 w : World) (g : Nat) (ns : List Nd) (n t : Int) (hI : IsL w0 w g ns n t) :
    Calls Tryz.prog 21 #[.pointer (some ⟨g, 0, none⟩)] w fun e w' => e = .returned (.int .i64 n) ∧ w' = w := by
  have c0 : w.cell? ⟨g, 12, none⟩ = some (.int .i64 n) := (blk_cell hI.hd 12).trans rfl
  clear hI
  go_enter Tryz.func21, Tryz.ntmps21
  go_wp2_with (fail)
  go_ret
  exact ⟨rfl, rfl⟩
set_option maxHeartbeats 8000000 in
set_option maxRecDepth 100000 in
theorem height_calls (w0 w : World) (g : Nat) (ns : List Nd) (n t : Int) (hI : IsL w0 w g ns n t) :
    Calls Tryz.prog 28 #[.pointer (some ⟨g, 0, none⟩)] w fun e w' => e = .returned (.int .i64 t) ∧ w' = w := by
  have c0 : w.cell? ⟨g, 13, none⟩ = some (.int .i64 t) := (blk_cell hI.hd 13).trans rfl
  clear hI
  go_enter Tryz.func28, Tryz.ntmps28
  go_wp2_with (fail)
  go_ret
  exact ⟨rfl, rfl⟩
end Go.Proofs.YtchgpcgolgcfdaaGreat.Sk
end
section
namespace Go.Proofs.YtchgpcgolgcfdaaGreat.Sk
open Go Go.RowKit Go.Proofs.YtchgpcgolgcfdaaGreat.PNum Go.Proofs.YtchgpcgolgcfdaaGreat.SkM Go.Proofs.YtchgpcgolgcfdaaGreatW.PrintWords Go.Proofs.YtchgpcgolgcfdaaGreatW.PrintLast Go.Proofs.YtchgpcgolgcfdaaGreatW.PrintMore
set_option linter.unusedVariables false
set_option linter.unusedSimpArgs false
def getL (key : ByteArray) (s : Int) : List Nd → Option E
  | [] => none
  | x :: r => if x.e.f0.toList = key.toList then (if x.e.f1 ≤ s then some x.e else getL key s r) else none
def zE : E := ⟨⟨#[]⟩, 0, 0, ⟨#[]⟩⟩
theorem IsL.cellsAt {w0 V : World} {g : Nat} {a q : List Nd} {x : Nd} {n t : Int} (h : IsL w0 V g (a ++ x :: q) n t) : V.heap[x.b]? = some (.cells (cellsN x q) 36 (0, 0)) := h.ch.blk
theorem first_cons {x : Nd} {q : List Nd} (h : 1 ≤ x.h) : ptr (first (x :: q) 0) = .pointer (some ⟨x.b, 0, none⟩) := by
  rw [first, if_pos (by omega)]
  rfl
set_option maxHeartbeats 8000000 in
set_option maxRecDepth 100000 in
theorem get_calls (w0 w : World) (g : Nat) (pre post : List Nd) (n t : Int) (key : ByteArray) (hI : IsL w0 w g (pre ++ post) n t) (hp : ∀ x ∈ pre, lt key x.e = true) (hq : ∀ x ∈ post, lt key x.e = false) (hh : ∀ x ∈ pre ++ post, 1 ≤ x.h) (s : Int) :
    Calls Tryz.prog 22 #[.pointer (some ⟨g, 0, none⟩), .string key, .int .u64 s] w fun e w' => e = .returned (.tuple #[.agg #[.string ((getL key s post).getD zE).f0, .int .u64 ((getL key s post).getD zE).f1, .int .i64 ((getL key s post).getD zE).f2, .string ((getL key s post).getD zE).f3], .bool (getL key s post).isSome]) ∧ Below w.heap.size w w' := by
  have HI := Aside0.mk hI
  have HP := Aside0.mk hp
  have HQ := Aside0.mk hq
  have HH := Aside0.mk hh
  clear hI hp hq hh
  have HB := Aside0.mk (below_alloc (Below.refl w.heap.size w) (.cells #[.string ⟨#[]⟩, .int .u64 0, .int .i64 0, .string ⟨#[]⟩] 32))
  have HA : Aside0 ((w.alloc (.cells #[.string ⟨#[]⟩, .int .u64 0, .int .i64 0, .string ⟨#[]⟩] 32)).heap[w.heap.size]? = some (.cells #[.string ⟨#[]⟩, .int .u64 0, .int .i64 0, .string ⟨#[]⟩] 32 (0, 0))) := ⟨blk_new w _⟩
  have HI1 := Aside0.mk (HI.out.below HB.out)
  obtain ⟨rr, hrr⟩ : ∃ rr, rr = getL key s post := ⟨_, rfl⟩
  rw [← hrr]
  have HRR := Aside0.mk hrr
  clear hrr
  go_enter Tryz.func22, Tryz.ntmps22
  go_wp2_with (first | (go_at_call 100; refine (first_calls w0 _ g pre post n t key HI1.out HP.out HQ.out).mono ?_; rintro e w1 ⟨rfl, hb⟩; have n0_ := Aside0.mk (below_step HB.out hb); have n1_ := Aside0.mk (blk_below HA.out hb); clear HB HA hb; have HB := n0_; have HA := n1_; clear n0_ n1_))
  go_loopg [8] post.length (fun kq v8 w' => ∃ (d q : List Nd), v8 = ptr (first q 0) ∧ Aside0 (q.length ≤ kq) ∧ Aside0 (post = d ++ q) ∧ Aside0 (rr = getL key s q) ∧ Aside0 (w'.heap[w.heap.size]? = some (.cells #[.string ⟨#[]⟩, .int .u64 0, .int .i64 0, .string ⟨#[]⟩] 32 (0, 0))) ∧ Aside0 (Below w.heap.size w w'))
  case atStart => exact ⟨[], post, rfl, ⟨Nat.le_refl _⟩, ⟨rfl⟩, HRR, HA, HB⟩
  case round =>
    clear HB HA HI1 HRR
    obtain ⟨d, q, rfl, HG, HD, HRR, HA, HB⟩ := hrel
    have r0 : wr.cell? ⟨w.heap.size, 0, none⟩ = some (.string ⟨#[]⟩) := (blk_cell HA.out 0).trans rfl
    have r1 : wr.cell? ⟨w.heap.size, 1, none⟩ = some (.int .u64 0) := (blk_cell HA.out 1).trans rfl
    have r2 : wr.cell? ⟨w.heap.size, 2, none⟩ = some (.int .i64 0) := (blk_cell HA.out 2).trans rfl
    have r3 : wr.cell? ⟨w.heap.size, 3, none⟩ = some (.string ⟨#[]⟩) := (blk_cell HA.out 3).trans rfl
    have f0 := blk_frozen HA.out 0
    have f1 := blk_frozen HA.out 1
    have f2 := blk_frozen HA.out 2
    have f3 := blk_frozen HA.out 3
    cases q with
    | nil =>
      have HX : Aside0 (rr = none) := HRR
      rw [first]
      clear HRR
      unfold ptr
      go_wp2_with (fail)
      refine bodyPost_ret (results_ct rfl _ _ _ 32 #[.string ⟨#[]⟩, .int .u64 0, .int .i64 0, .string ⟨#[]⟩] (0, 0) _ rfl (blk_put (blk_put (blk_put (blk_put (HA.out) 0 _ rfl) 1 _ rfl) 2 _ rfl) 3 _ rfl) Tryz.underlying32 rfl (by kernel_rfl)) rfl ?_
      exact ⟨by rw [HX.out]; rfl, below_set (below_set (below_set (below_set (HB.out) (Nat.le_refl _)) (Nat.le_refl _)) (Nat.le_refl _)) (Nat.le_refl _)⟩
    | cons x q =>
      have HX : Aside0 (1 ≤ x.h) := ⟨HH.out x (by rw [HD.out]; simp)⟩
      have hcx := (HI.out.below HB.out)
      rw [HD.out, ← List.append_assoc] at hcx
      replace hcx := hcx.cellsAt
      have x0 : wr.cell? ⟨x.b, 4, none⟩ = some (ptr (first q 0)) := cellN hcx (L := 0) (by omega) HX.out
      have z0 : wr.cell? ⟨x.b, 0, none⟩ = some (.string x.e.f0) := (blk_cell hcx 0).trans rfl
      have z1 : wr.cell? ⟨x.b, 1, none⟩ = some (.int .u64 x.e.f1) := (blk_cell hcx 1).trans rfl
      have z2 : wr.cell? ⟨x.b, 2, none⟩ = some (.int .i64 x.e.f2) := (blk_cell hcx 2).trans rfl
      have z3 : wr.cell? ⟨x.b, 3, none⟩ = some (.string x.e.f3) := (blk_cell hcx 3).trans rfl
      clear hcx
      rw [first_cons HX.out]
      by_cases c1 : x.e.f0.toList = key.toList
      · have k1 : (x.e.f0.toList == key.toList) = true := beq_iff_eq.mpr c1
        by_cases c2 : x.e.f1 ≤ s
        · have k2 : decide (x.e.f1 ≤ s) = true := decide_eq_true c2
          have HX2 : Aside0 (rr = some x.e) := ⟨by rw [HRR.out, getL, if_pos c1, if_pos c2]⟩
          clear c1 HRR
          go_wp2_with (fail)
          refine bodyPost_ret (results_ct rfl _ _ _ 32 #[.string (x.e).f0, .int .u64 (x.e).f1, .int .i64 (x.e).f2, .string (x.e).f3] (0, 0) _ rfl (blk_put (blk_put (blk_put (blk_put (HA.out) 0 _ rfl) 1 _ rfl) 2 _ rfl) 3 _ rfl) Tryz.underlying32 rfl (by kernel_rfl)) rfl ?_
          exact ⟨by rw [HX2.out]; rfl, below_set (below_set (below_set (below_set (HB.out) (Nat.le_refl _)) (Nat.le_refl _)) (Nat.le_refl _)) (Nat.le_refl _)⟩
        · have k2 : decide (x.e.f1 ≤ s) = false := decide_eq_false c2
          have HX2 : Aside0 (rr = getL key s q) := ⟨by rw [HRR.out, getL, if_pos c1, if_neg c2]⟩
          clear c1 HRR
          go_wp2_with (fail)
          go_roundg q.length
          case measure =>
            have h1 := HG.out
            simp at h1
            omega
          case rel => exact ⟨d ++ [x], q, rfl, ⟨Nat.le_refl _⟩, ⟨by rw [HD.out]; simp⟩, HX2, HA, HB⟩
      · have k1 : (x.e.f0.toList == key.toList) = false := beq_eq_false_iff_ne.mpr c1
        have HX2 : Aside0 (rr = none) := ⟨by rw [HRR.out, getL, if_neg c1]⟩
        clear c1 HRR
        go_wp2_with (fail)
        refine bodyPost_ret (results_ct rfl _ _ _ 32 #[.string ⟨#[]⟩, .int .u64 0, .int .i64 0, .string ⟨#[]⟩] (0, 0) _ rfl (blk_put (blk_put (blk_put (blk_put (HA.out) 0 _ rfl) 1 _ rfl) 2 _ rfl) 3 _ rfl) Tryz.underlying32 rfl (by kernel_rfl)) rfl ?_
        exact ⟨by rw [HX2.out]; rfl, below_set (below_set (below_set (below_set (HB.out) (Nat.le_refl _)) (Nat.le_refl _)) (Nat.le_refl _)) (Nat.le_refl _)⟩
set_option maxHeartbeats 8000000 in
set_option maxRecDepth 100000 in
theorem from_calls (w0 w : World) (g : Nat) (pre post : List Nd) (n t : Int) (key : ByteArray) (hI : IsL w0 w g (pre ++ post) n t) (hp : ∀ x ∈ pre, lt key x.e = true) (hq : ∀ x ∈ post, lt key x.e = false) (hh : ∀ x ∈ pre ++ post, 1 ≤ x.h) (hl : post.length < 1000000) :
    Calls Tryz.prog 17 #[.pointer (some ⟨g, 0, none⟩), .string key] w fun e w' => ∃ v, e = .returned v ∧ Kd.R k32 32 w' w.heap.size (fun _ => True) v (post.map (·.e)) ∧ Below w.heap.size w w' := by
  have HI := Aside0.mk hI
  have HP := Aside0.mk hp
  have HQ := Aside0.mk hq
  have HH := Aside0.mk hh
  have HL := Aside0.mk hl
  clear hI hp hq hh hl
  have HB := Aside0.mk (Below.refl w.heap.size w)
  go_enter Tryz.func17, Tryz.ntmps17
  go_wp2_with (first | (go_at_call 100; refine (first_calls w0 _ g pre post n t key HI.out HP.out HQ.out).mono ?_; rintro e w1 ⟨rfl, hb⟩; have n0_ := Aside0.mk (below_step HB.out hb); clear HB hb; have HB := n0_; clear n0_))
  go_loopg [5, 6] post.length (fun kq v5 v6 w' => ∃ (d q : List Nd), v6 = ptr (first q 0) ∧ Aside0 (q.length ≤ kq) ∧ Aside0 (post = d ++ q) ∧ Aside0 (Kd.R k32 32 w' w.heap.size (fun _ => True) v5 (d.map (·.e))) ∧ Aside0 (Below w.heap.size w w'))
  case atStart => exact ⟨[], post, rfl, ⟨Nat.le_refl _⟩, ⟨rfl⟩, ⟨Kd.R_nil _ _ _ _ _⟩, HB⟩
  case round =>
    clear HB
    obtain ⟨d, q, rfl, HG, HD, HR, HB⟩ := hrel
    cases q with
    | nil =>
      have HX : Aside0 (d = post) := ⟨by rw [HD.out]; simp⟩
      rw [first]
      unfold ptr
      go_wp2_with (fail)
      go_ret
      exact ⟨_, rfl, by rw [← HX.out]; exact HR.out, HB.out⟩
    | cons x q =>
      have HX : Aside0 (1 ≤ x.h) := ⟨HH.out x (by rw [HD.out]; simp)⟩
      have HDL : Aside0 ((d.map (·.e)).length < 1000000) := ⟨by have h1 := HL.out; rw [HD.out] at h1; simp at h1 ⊢; omega⟩
      have hcx := (HI.out.below HB.out)
      rw [HD.out, ← List.append_assoc] at hcx
      replace hcx := hcx.cellsAt
      have z0 : wr.cell? ⟨x.b, 0, none⟩ = some (.string x.e.f0) := (blk_cell hcx 0).trans rfl
      have z1 : wr.cell? ⟨x.b, 1, none⟩ = some (.int .u64 x.e.f1) := (blk_cell hcx 1).trans rfl
      have z2 : wr.cell? ⟨x.b, 2, none⟩ = some (.int .i64 x.e.f2) := (blk_cell hcx 2).trans rfl
      have z3 : wr.cell? ⟨x.b, 3, none⟩ = some (.string x.e.f3) := (blk_cell hcx 3).trans rfl
      clear hcx
      rw [first_cons HX.out]
      go_wp2_with (first | ((with_reducible refine gate_builtin (b := .append) (xs := #[.tmp 17, .tmp 22]) rfl ?_); at_builtin; refine Kd.R_append k32 (w0 := w) w.heap.size rfl (.tmp 17) (.tmp 22) 22 32 (.agg #[(.string ⟨#[]⟩), (.int .u64 0), (.int .i64 0), (.string ⟨#[]⟩)]) 48 rfl Tryz.underlying22 info32 rfl (by decide) (by omega) u5 (d.map (·.e)) x.e [.string (x.e).f0, .int .u64 (x.e).f1, .int .i64 (x.e).f2, .string (x.e).f3] (fun _ => True) (fun _ => False) rfl rfl ?aP (fun _ hk => hk.elim) ?aF ?aO ?aB ?aS ?aL ?_; (case aP => exact k32_mkM _ _ _ _); (case aB => exact HB.out); (case aF => exact (fun _ _ => trivial)); (case aO => exact HR.out); (case aS => exact below_size HB.out); (case aL => have := HDL.out; omega); intro v7 w7 ho hb hg hat; have HO7 := Aside0.mk ho; have HB7 := Aside0.mk hb; clear ho hb hg hat z0 z1 z2 z3; have hcx := (HI.out.below HB7.out); rw [HD.out, ← List.append_assoc] at hcx; have x0 : w7.cell? ⟨x.b, 4, none⟩ = some (ptr (first q 0)) := cellN hcx.cellsAt (L := 0) (by omega) HX.out; clear hcx))
      go_roundg q.length
      case measure =>
        have h1 := HG.out
        simp at h1
        omega
      case rel => exact ⟨d ++ [x], q, rfl, ⟨Nat.le_refl _⟩, ⟨by rw [HD.out]; simp⟩, ⟨by rw [List.map_append]; exact HO7.out⟩, HB7⟩
end Go.Proofs.YtchgpcgolgcfdaaGreat.Sk
end
section
namespace Go.Proofs.YtchgpcgolgcfdaaGreat.Sk
open Go Go.RowKit Go.Proofs.YtchgpcgolgcfdaaGreat.PNum Go.Proofs.YtchgpcgolgcfdaaGreat.SkM Go.Proofs.YtchgpcgolgcfdaaGreatW.PrintWords Go.Proofs.YtchgpcgolgcfdaaGreatW.PrintLast Go.Proofs.YtchgpcgolgcfdaaGreatW.PrintMore
attribute [local go_sem] max2_int min2_int max_two min_two max_three min_three max_four min_four
set_option linter.unusedVariables false
set_option linter.unusedSimpArgs false
theorem blocks_app (p q : List Nd) : blocks (p ++ q) = blocks p ++ blocks q := by simp [blocks]
theorem IsL.ne {w0 V : World} {g : Nat} {ns : List Nd} {n t : Int} (h : IsL w0 V g ns n t) : g ∉ blocks ns := by
  intro hg
  obtain ⟨x, hx, rfl⟩ := List.mem_map.1 hg
  obtain ⟨p, q, rfl⟩ := List.append_of_mem hx
  have h2 := h.ch.blk
  rw [h.hd] at h2
  injection h2 with h2
  injection h2 with _ h3
  exact absurd h3 (by decide)
def up (V : World) (g x i : Nat) (pre post : List Nd) : World := (V.setCell ⟨x, 4 + i, none⟩ (ptr (first post i))).setCell ⟨(lastAt pre i).getD g, 4 + i, none⟩ (ptr (some x))
theorem IsL.step {w0 V : World} {g x i : Nat} {e : E} {pre post : List Nd} {n t : Int} (hi : i < 8) (h : IsL w0 V g (pre ++ ⟨x, i, e⟩ :: post) n t) : IsL w0 (up V g x i pre post) g (pre ++ ⟨x, i + 1, e⟩ :: post) n t := by
  have hgx : g ≠ x := by
    intro z
    apply h.ne
    rw [z]
    simp [blocks]
  have hnd : x ∉ blocks (pre ++ post) := by
    have h1 := h.nd
    rw [blocks_app] at h1
    intro hx
    rw [blocks_app] at hx
    rcases List.mem_append.1 hx with hx | hx
    · exact (List.nodup_append.1 h1).2.2 x hx x (by simp [blocks]) rfl
    · exact (List.nodup_cons.1 (List.nodup_append.1 h1).2.1).1 hx
  have hB : ∀ b, lastAt pre i = some b → b ∈ blocks pre := fun b hb => by
    obtain ⟨u, hu, hub, _⟩ := lastAt_mem hb
    exact List.mem_map.2 ⟨u, hu, hub⟩
  have hBx : x ≠ (lastAt pre i).getD g := by
    cases hl : lastAt pre i with
    | none => exact fun z => hgx z.symm
    | some b =>
      intro z
      apply hnd
      rw [blocks_app, z]
      exact List.mem_append_left _ (hB b hl)
  have hxc := h.ch.blk
  have h1 := blk_put hxc (4 + i) (ptr (first post i)) (cellsN_up hi)
  have h2 : (up V g x i pre post).heap[x]? = some (.cells (cellsN ⟨x, i + 1, e⟩ post) 36 (0, 0)) := blk_far h1 hBx _
  have far : ∀ k, k ≠ x → k ≠ (lastAt pre i).getD g → (up V g x i pre post).heap[k]? = V.heap[k]? := fun k h3 h4 => (Below.heap_setCell _ ⟨_, _, none⟩ _ k h4).trans (Below.heap_setCell _ ⟨_, _, none⟩ _ k h3)
  refine ⟨?_, ?_, ?_, h.gg, ?_⟩
  · cases hl : lastAt pre i with
    | none =>
      have hf := (first_none_iff pre i).2 hl
      have h3 := first_hit pre post x e i hf
      have h4 : (up V g x i pre post).heap[g]? = some (.cells ((cellsL (pre ++ ⟨x, i, e⟩ :: post) n t).setIfInBounds (4 + i) (ptr (some x))) 38 (0, 0)) := by
        unfold up
        rw [hl]
        exact blk_set (blk_far h.hd hgx _) (4 + i) (ptr (some x))
      rw [h4, ← h3.1, cellsL_set hi (fun L hL => first_step pre post x e i L (Or.inl hL))]
    | some b =>
      rw [far g hgx (by rw [hl]; intro z; apply h.ne; rw [blocks_app, z]; exact List.mem_append_left _ (hB b hl)), h.hd, cellsL_same (fun L => first_step pre post x e i L (Or.inr (fun z => by rw [(first_none_iff pre i).1 z] at hl; cases hl)))]
  · refine Ch.step hi h.ch h.nd h2 (fun k hk hl => far k (fun z => hnd (z ▸ hk)) (fun z => ?_)) (fun k cs hl hc => ?_)
    · cases h5 : lastAt pre i with
      | none =>
        rw [h5] at z
        apply h.ne
        rw [blocks_app] at hk ⊢
        have z2 : k = g := z
        rw [← z2]
        rcases List.mem_append.1 hk with hk | hk
        · exact List.mem_append_left _ hk
        · exact List.mem_append_right _ (by simp only [blocks, List.map_cons, List.mem_cons]; exact Or.inr hk)
      | some b =>
        rw [h5] at z
        exact hl (by rw [h5]; exact congrArg some z.symm)
    · have hkx : k ≠ x := fun z => hnd (by rw [blocks_app, ← z]; exact List.mem_append_left _ (hB k hl))
      unfold up
      rw [hl]
      exact blk_set (blk_far hc hkx _) (4 + i) (ptr (some x))
  · have h6 := h.nd
    simp only [blocks, List.map_append, List.map_cons] at h6 ⊢
    exact h6
  · intro y hy
    rcases List.mem_append.1 hy with hy | hy
    · exact h.gb y (List.mem_append_left _ hy)
    · rcases List.mem_cons.1 hy with rfl | hy
      · exact h.gb ⟨x, i, e⟩ (by simp)
      · exact h.gb y (by simp [hy])
theorem cellsN_new (x : Nat) (e : E) (post : List Nd) : cellsN ⟨x, 0, e⟩ post = #[.string e.f0, .int .u64 e.f1, .int .i64 e.f2, .string e.f3, .pointer none, .pointer none, .pointer none, .pointer none, .pointer none, .pointer none, .pointer none, .pointer none] := by simp [cellsN, at_, ptr]
theorem Ch.enter {V : World} {post : List Nd} {x : Nat} {e : E} (hx : V.heap[x]? = some (.cells (cellsN ⟨x, 0, e⟩ post) 36 (0, 0))) : ∀ {pre : List Nd}, Ch V (pre ++ post) → Ch V (pre ++ ⟨x, 0, e⟩ :: post)
  | [], h => ⟨hx, h⟩
  | y :: p, h => ⟨by
      rw [h.1]
      congr 2
      exact cellsN_same (fun L _ => by show first (p ++ post) L = first (p ++ _ :: post) L; rw [first_app, first_app]; rfl), Ch.enter hx h.2⟩
theorem IsL.enter {w0 V : World} {g x : Nat} {e : E} {pre post : List Nd} {n t : Int} (h : IsL w0 V g (pre ++ post) n t) (hx : V.heap[x]? = some (.cells (cellsN ⟨x, 0, e⟩ post) 36 (0, 0))) (hn : x ∉ blocks (pre ++ post)) (hw : w0.heap.size ≤ x) : IsL w0 V g (pre ++ ⟨x, 0, e⟩ :: post) n t := by
  refine ⟨?_, Ch.enter hx h.ch, ?_, h.gg, ?_⟩
  · rw [h.hd]
    congr 2
    exact cellsL_same (fun L => by rw [first_app, first_app]; rfl)
  · have h1 := h.nd
    rw [blocks_app] at h1 hn ⊢
    have h2 := List.nodup_append.1 h1
    refine List.nodup_append.2 ⟨h2.1, List.nodup_cons.2 ⟨fun z => hn (List.mem_append_right _ z), h2.2.1⟩, ?_⟩
    intro a ha b hb
    rcases List.mem_cons.1 hb with rfl | hb
    · rintro rfl
      exact hn (List.mem_append_left _ ha)
    · exact h2.2.2 a ha b hb
  · intro y hy
    rcases List.mem_append.1 hy with hy | hy
    · exact h.gb y (List.mem_append_left _ hy)
    · rcases List.mem_cons.1 hy with rfl | hy
      · exact hw
      · exact h.gb y (List.mem_append_right _ hy)
set_option maxHeartbeats 8000000 in
set_option maxRecDepth 100000 in
theorem clone_calls (s : ByteArray) (w : World) (hs : s.size ≤ 281474976710656) : Calls Tryz.prog 99 #[.string s] w fun e w' => e = .returned (.string s) ∧ Below w.heap.size w w' := by
  go_enter Tryz.func99, Tryz.ntmps99
  go_wp2_with (first | (go_at_call 203; refine (Tryz.stringslite_Clone s _ (by omega)).mono ?_; rintro e w1 ⟨rfl, hb⟩))
  go_ret
  exact ⟨rfl, hb⟩
theorem outs_cell {V : World} {b g : Nat} {pre : List Nd} (h : V.heap[b]? = some (.cells (outs g pre) 34 (0, 0))) {M : Nat} (hM : M < 8) : V.cell? ⟨b, M, none⟩ = some (.pointer (some ⟨(lastAt pre M).getD g, 0, none⟩)) := by
  match M, hM with
  | 0, _ => exact (blk_cell h 0).trans rfl
  | 1, _ => exact (blk_cell h 1).trans rfl
  | 2, _ => exact (blk_cell h 2).trans rfl
  | 3, _ => exact (blk_cell h 3).trans rfl
  | 4, _ => exact (blk_cell h 4).trans rfl
  | 5, _ => exact (blk_cell h 5).trans rfl
  | 6, _ => exact (blk_cell h 6).trans rfl
  | 7, _ => exact (blk_cell h 7).trans rfl
theorem cellAt {V : World} {b : Nat} {x : Nd} {r : List Nd} (h : V.heap[b]? = some (.cells (cellsN x r) 36 (0, 0))) {L : Nat} (hL : L < 8) : V.cell? ⟨b, 4 + L, none⟩ = some (at_ x r L) := by
  match L, hL with
  | 0, _ => exact (blk_cell h 4).trans rfl
  | 1, _ => exact (blk_cell h 5).trans rfl
  | 2, _ => exact (blk_cell h 6).trans rfl
  | 3, _ => exact (blk_cell h 7).trans rfl
  | 4, _ => exact (blk_cell h 8).trans rfl
  | 5, _ => exact (blk_cell h 9).trans rfl
  | 6, _ => exact (blk_cell h 10).trans rfl
  | 7, _ => exact (blk_cell h 11).trans rfl
theorem IsL.place {w0 V : World} {g : Nat} {pre post : List Nd} {n t : Int} (h : IsL w0 V g (pre ++ post) n t) (L : Nat) : (∃ cs ty, V.heap[(lastAt pre L).getD g]? = some (.cells cs ty (0, 0)) ∧ (ty = 36 ∨ ty = 38)) ∧ w0.heap.size ≤ (lastAt pre L).getD g ∧ ((lastAt pre L).getD g = g ∨ (lastAt pre L).getD g ∈ blocks pre) := by
  cases hl : lastAt pre L with
  | none => exact ⟨⟨_, _, h.hd, Or.inr rfl⟩, h.gg, Or.inl rfl⟩
  | some b =>
    obtain ⟨d, x, r, rfl, rfl, hx, hr⟩ := lastAt_split hl
    have h2 := h.ch
    rw [List.append_assoc] at h2
    exact ⟨⟨_, _, h2.blk, Or.inl rfl⟩, h.gb x (by simp), Or.inr (by simp [blocks])⟩
theorem IsL.bump {w0 V : World} {g : Nat} {ns : List Nd} {n t : Int} (h : IsL w0 V g ns n t) (n' t' : Int) : IsL w0 ((V.setCell ⟨g, 12, none⟩ (.int .i64 n')).setCell ⟨g, 13, none⟩ (.int .i64 t')) g ns n' t' := by
  have far : ∀ k, k ≠ g → ((V.setCell ⟨g, 12, none⟩ (.int .i64 n')).setCell ⟨g, 13, none⟩ (.int .i64 t')).heap[k]? = V.heap[k]? := fun k hk => (Below.heap_setCell _ ⟨_, _, none⟩ _ k hk).trans (Below.heap_setCell _ ⟨_, _, none⟩ _ k hk)
  refine ⟨blk_put (blk_put h.hd 12 _ rfl) 13 _ rfl, h.ch.congr (fun x hx => far x.b (fun z => h.ne (List.mem_map.2 ⟨x, hx, z⟩))), h.nd, h.gg, h.gb⟩
end Go.Proofs.YtchgpcgolgcfdaaGreat.Sk
end
section
namespace Go.Proofs.YtchgpcgolgcfdaaGreat.Sk
open Go Go.RowKit Go.Proofs.YtchgpcgolgcfdaaGreat.PNum Go.Proofs.YtchgpcgolgcfdaaGreat.SkM Go.Proofs.YtchgpcgolgcfdaaGreatW.PrintWords Go.Proofs.YtchgpcgolgcfdaaGreatW.PrintLast Go.Proofs.YtchgpcgolgcfdaaGreatW.PrintMore
attribute [local go_sem] max2_int min2_int max_two min_two max_three min_three max_four min_four
set_option linter.unusedVariables false
set_option linter.unusedSimpArgs false
theorem idx0' (v0 v1 v2 v3 v4 v5 v6 v7 : Value) (V : World) : (Instr.index 34 (.agg #[v0, v1, v2, v3, v4, v5, v6, v7]) (.int .i64 0)).run Tryz.prog V = .ok v0 V := idx0 _ _ _ _ _ _ _ _ V
def Fr (w V : World) (g : Nat) (pre : List Nd) : Prop := ∀ k, k < w.heap.size → k ≠ g → k ∉ blocks pre → V.heap[k]? = w.heap[k]?
theorem Fr.refl (w : World) (g : Nat) (pre : List Nd) : Fr w w g pre := fun _ _ _ _ => rfl
theorem Fr.below {w V V1 : World} {g : Nat} {pre : List Nd} (h : Fr w V g pre) (hs : w.heap.size ≤ V.heap.size) (hb : Below V.heap.size V V1) : Fr w V1 g pre := fun k h1 h2 h3 => (hb.block k (by omega)).trans (h k h1 h2 h3)
structure J (w0 w V : World) (g eb a : Nat) (pre post : List Nd) (n t : Int) (e : E) : Prop where
  li : IsL w0 V g (pre ++ post) n t
  box : V.heap[eb]? = some (.cells #[.string (e).f0, .int .u64 (e).f1, .int .i64 (e).f2, .string (e).f3] 32 (0, 0))
  arr : V.heap[a]? = some (.cells (outs g pre) 34 (0, 0))
  bel : Below w0.heap.size w0 V
  fr : Fr w V g pre
  sz : w.heap.size ≤ V.heap.size
  ge : w0.heap.size ≤ eb
  lo : w.heap.size ≤ eb
  la : w.heap.size ≤ a
theorem J.below {w0 w V V1 : World} {g eb a : Nat} {pre post : List Nd} {n t : Int} {e : E} (h : J w0 w V g eb a pre post n t e) (hb : Below V.heap.size V V1) : J w0 w V1 g eb a pre post n t e :=
  ⟨h.li.below hb, blk_below h.box hb, blk_below h.arr hb, below_step h.bel hb, h.fr.below h.sz hb, Nat.le_trans h.sz hb.size, h.ge, h.lo, h.la⟩
theorem J.drew {w0 w V : World} {g eb a : Nat} {pre post : List Nd} {n t : Int} {e : E} (h : J w0 w V g eb a pre post n t e) : J w0 w V.drew g eb a pre post n t e := h.below ⟨rfl, rfl, rfl, Nat.le_refl _, fun _ _ => rfl⟩
theorem J.same {w0 w V : World} {g eb a i : Nat} {pre post : List Nd} {n t : Int} {e : E} (h : J w0 w V g eb a pre post n t e) {u : Value} (hu : (#[.string (e).f0, .int .u64 (e).f1, .int .i64 (e).f2, .string (e).f3] : Array Value).setIfInBounds i u = #[.string (e).f0, .int .u64 (e).f1, .int .i64 (e).f2, .string (e).f3]) : J w0 w (V.setCell ⟨eb, i, none⟩ u) g eb a pre post n t e := by
  have same : ∀ k, (V.setCell ⟨eb, i, none⟩ u).heap[k]? = V.heap[k]? := fun k => by
    by_cases hk : k = eb
    · subst hk
      exact (blk_put h.box i u hu).trans h.box.symm
    · exact Below.heap_setCell V ⟨eb, i, none⟩ u k hk
  exact ⟨⟨(same g).trans h.li.hd, h.li.ch.congr (fun x _ => same x.b), h.li.nd, h.li.gg, h.li.gb⟩, (same eb).trans h.box, (same a).trans h.arr, below_set h.bel h.ge, fun k h1 h2 h3 => (same k).trans (h.fr k h1 h2 h3), by have := h.sz; simpa using this, h.ge, h.lo, h.la⟩
def CJ (w0 w V : World) (g eb a : Nat) (pre post : List Nd) (n t : Int) (e : E) : Prop := V.cell? ⟨eb, 0, none⟩ = some (.string e.f0) ∧ V.cell? ⟨eb, 3, none⟩ = some (.string e.f3) ∧ V.frozen? ⟨eb, 0, none⟩ = false ∧ V.frozen? ⟨eb, 3, none⟩ = false ∧ Aside0 (J w0 w V g eb a pre post n t e)
theorem J.out {w0 w V : World} {g eb a : Nat} {pre post : List Nd} {n t : Int} {e : E} (h : J w0 w V g eb a pre post n t e) : CJ w0 w V g eb a pre post n t e := ⟨(blk_cell h.box 0).trans rfl, (blk_cell h.box 3).trans rfl, blk_frozen h.box 0, blk_frozen h.box 3, ⟨h⟩⟩
theorem J.stepD {w0 w V : World} {g eb a : Nat} {pre post : List Nd} {n t : Int} {e : E} {V1 : World} (h : J w0 w V g eb a pre post n t e) (hb : Below V.drew.heap.size V.drew V1) : CJ w0 w V1 g eb a pre post n t e := (h.drew.below hb).out
theorem J.stepB {w0 w V : World} {g eb a : Nat} {pre post : List Nd} {n t : Int} {e : E} {V1 : World} (hb : Below V.heap.size V V1) (h : CJ w0 w V g eb a pre post n t e) : CJ w0 w V1 g eb a pre post n t e := (h.2.2.2.2.out.below hb).out
theorem J.stepS0 {w0 w V : World} {g eb a : Nat} {pre post : List Nd} {n t : Int} {e : E} (h : CJ w0 w V g eb a pre post n t e) : CJ w0 w (V.setCell ⟨eb, 0, none⟩ (.string e.f0)) g eb a pre post n t e := (h.2.2.2.2.out.same rfl).out
theorem J.stepS3 {w0 w V : World} {g eb a : Nat} {pre post : List Nd} {n t : Int} {e : E} (h : CJ w0 w V g eb a pre post n t e) : CJ w0 w (V.setCell ⟨eb, 3, none⟩ (.string e.f3)) g eb a pre post n t e := (h.2.2.2.2.out.same rfl).out
def CY (w0 w V : World) (g eb a : Nat) (pre : List Nd) (y : Nd) (r : List Nd) (n t : Int) (e : E) : Prop := V.cell? ⟨y.b, 0, none⟩ = some (.string y.e.f0) ∧ V.cell? ⟨y.b, 1, none⟩ = some (.int .u64 y.e.f1) ∧ V.cell? ⟨y.b, 2, none⟩ = some (.int .i64 y.e.f2) ∧ V.cell? ⟨y.b, 3, none⟩ = some (.string y.e.f3) ∧ V.cell? ⟨eb, 0, none⟩ = some (.string e.f0) ∧ V.cell? ⟨eb, 1, none⟩ = some (.int .u64 e.f1) ∧ V.cell? ⟨eb, 2, none⟩ = some (.int .i64 e.f2) ∧ V.cell? ⟨eb, 3, none⟩ = some (.string e.f3) ∧ Aside0 (J w0 w V g eb a pre (y :: r) n t e)
theorem J.outY {w0 w V : World} {g eb a : Nat} {pre r : List Nd} {y : Nd} {n t : Int} {e : E} (h : J w0 w V g eb a pre (y :: r) n t e) : CY w0 w V g eb a pre y r n t e :=
  ⟨(blk_cell h.li.ch.blk 0).trans rfl, (blk_cell h.li.ch.blk 1).trans rfl, (blk_cell h.li.ch.blk 2).trans rfl, (blk_cell h.li.ch.blk 3).trans rfl, (blk_cell h.box 0).trans rfl, (blk_cell h.box 1).trans rfl, (blk_cell h.box 2).trans rfl, (blk_cell h.box 3).trans rfl, ⟨h⟩⟩
set_option maxHeartbeats 8000000 in
set_option maxRecDepth 100000 in
theorem put_bad (w0 w : World) (g : Nat) (pre post : List Nd) (n t : Int) (e : E) (lv : Int) (hI : IsL w0 w g (pre ++ post) n t) (hB : Below w0.heap.size w0 w) (hv : PuIkC.valid e.f0 e.f2 e.f3 = false) :
    Calls Tryz.prog 15 #[.pointer (some ⟨g, 0, none⟩), .agg #[.string (e).f0, .int .u64 (e).f1, .int .i64 (e).f2, .string (e).f3], .int .i64 lv] w fun ee w' => ee = .returned (.bool false) ∧ Below w.heap.size w w' := by
  have HI := Aside0.mk hI
  have HBB := Aside0.mk hB
  have HB := Aside0.mk (below_alloc (Below.refl w.heap.size w) (.cells #[.string (e).f0, .int .u64 (e).f1, .int .i64 (e).f2, .string (e).f3] 32))
  obtain ⟨kv, hkv⟩ := PuIkC.Valid_ev e.f0 e.f1 e.f2 e.f3
  have HKV := Aside0.mk (hkv kv (Nat.le_refl _))
  have HX := Aside0.mk (blk_new w (.cells #[.string (e).f0, .int .u64 (e).f1, .int .i64 (e).f2, .string (e).f3] 32))
  clear hI hB hkv
  have HV := Aside0.mk hv
  clear hv
  go_enter Tryz.func15, Tryz.ntmps15
  go_wp2_with (first | (go_at_call 46; refine (ikey_Valid.calls kv _ _ _ _ _ _ HKV.out).mono ?_; rintro ee w1 ⟨rfl, hb⟩; rw [HV.out]; have n0_ := Aside0.mk (below_step HB.out hb); have n1_ := Aside0.mk (blk_below HX.out hb); clear HB HX hb; have HB := n0_; have HX := n1_; clear n0_ n1_))
  go_ret
  exact ⟨rfl, HB.out⟩
set_option maxHeartbeats 8000000 in
set_option maxRecDepth 100000 in
theorem put_same (w0 w : World) (g : Nat) (pre r : List Nd) (y : Nd) (n t : Int) (e : E) (lv : Int) (hI : IsL w0 w g (pre ++ y :: r) n t) (hB : Below w0.heap.size w0 w) (hp : ∀ x ∈ pre, decide (PuIkC.ce x.e e < 0) = true) (hq : ∀ x ∈ y :: r, decide (PuIkC.ce x.e e < 0) = false) (hv : PuIkC.valid e.f0 e.f2 e.f3 = true) (hne : PuIkC.ce y.e e = 0) (h1 : 1 ≤ y.h) :
    Calls Tryz.prog 15 #[.pointer (some ⟨g, 0, none⟩), .agg #[.string (e).f0, .int .u64 (e).f1, .int .i64 (e).f2, .string (e).f3], .int .i64 lv] w fun ee w' => ee = .returned (.bool false) ∧ Below w.heap.size w w' := by
  have HI := Aside0.mk hI
  have HBB := Aside0.mk hB
  have HB := Aside0.mk (below_alloc (Below.refl w.heap.size w) (.cells #[.string (e).f0, .int .u64 (e).f1, .int .i64 (e).f2, .string (e).f3] 32))
  obtain ⟨kv, hkv⟩ := PuIkC.Valid_ev e.f0 e.f1 e.f2 e.f3
  have HKV := Aside0.mk (hkv kv (Nat.le_refl _))
  have HX := Aside0.mk (blk_new w (.cells #[.string (e).f0, .int .u64 (e).f1, .int .i64 (e).f2, .string (e).f3] 32))
  clear hI hB hkv

  have HV := Aside0.mk hv
  have HP := Aside0.mk hp
  have HQ := Aside0.mk hq
  have HNE := Aside0.mk hne
  have HY := Aside0.mk h1
  clear hv hp hq hne h1
  have hix := idx0'
  go_enter Tryz.func15, Tryz.ntmps15
  go_upto_region 4 with (first | (go_at_call 46; refine (ikey_Valid.calls kv _ _ _ _ _ _ HKV.out).mono ?_; rintro ee w1 ⟨rfl, hb⟩; rw [HV.out]; have n0_ := Aside0.mk (below_step HB.out hb); have n1_ := Aside0.mk (blk_below HX.out hb); clear HB HX hb; have HB := n0_; have HX := n1_; clear n0_ n1_) | (go_at_call 97; have HF : Aside0 (∀ (V : World) (x : Nd), Below w1.heap.size w1 V → x ∈ pre ++ y :: r → Calls Tryz.prog 98 #[.agg #[.string (x.e).f0, .int .u64 (x.e).f1, .int .i64 (x.e).f2, .string (x.e).f3], .pointer (some ⟨w.heap.size, 0, none⟩)] V fun ee w' => ee = .returned (.bool (decide (PuIkC.ce x.e e < 0))) ∧ Below V.heap.size V w') := ⟨fun V x hV _ => put1 V _ e x.e (blk_below HX.out hV)⟩; refine (before_put w0 w1 g w.heap.size pre (y :: r) n t (fun x => decide (PuIkC.ce x e < 0)) (HI.out.below HB.out) HP.out HQ.out HF.out).mono ?_; rintro ee w2 ⟨rfl, hb⟩; have n0_ := Aside0.mk (below_step HB.out hb); have n1_ := Aside0.mk (blk_below HX.out hb); clear HB HX HF hb; have HB := n0_; have HX := n1_; clear n0_ n1_; unfold outs))
  have hj : J w0 w (w2.alloc (.cells (outs g pre) 34)) g w.heap.size w2.heap.size pre (y :: r) n t e := ⟨HI.out.below (below_alloc HB.out _), blk_alloc HX.out _, blk_new w2 _, below_step HBB.out (below_alloc HB.out _), (Fr.refl w g pre).below (Nat.le_refl _) (below_alloc HB.out _), (below_alloc HB.out _).size, HBB.out.size, Nat.le_refl _, HB.out.size⟩
  have HJ := Aside0.mk hj
  have HBW := Aside0.mk (below_alloc HB.out (.cells (outs g pre) 34))
  clear hj HB HX HI HBB hix
  unfold outs at HJ HBW
  generalize World.alloc w2 _ = V at *
  generalize w2.heap.size = a at *
  have c0 : V.cell? ⟨a, 0, none⟩ = some (.pointer (some ⟨(lastAt pre 0).getD g, 0, none⟩)) := (blk_cell HJ.out.arr 0).trans rfl
  have y0 := HJ.out.li.nextLast (L := 0) (by omega)
  have y1 : V.cell? ⟨(lastAt pre 0).getD g, 4, none⟩ = some (.pointer (some ⟨y.b, 0, none⟩)) := by
    rw [first_cons HY.out] at y0
    exact y0
  clear y0
  obtain ⟨kc, hkc⟩ := PuIkC.Compare_ev y.e e
  have HKC := Aside0.mk (hkc kc (Nat.le_refl _))
  have kne : (PuIkC.ce y.e e == 0) = true := beq_iff_eq.mpr HNE.out
  clear hkc
  go_wp2_with (fail)
  go_region_held3 (fun V => V.cell? ⟨y.b, 0, none⟩ = some (.string y.e.f0) ∧ V.cell? ⟨y.b, 1, none⟩ = some (.int .u64 y.e.f1) ∧ V.cell? ⟨y.b, 2, none⟩ = some (.int .i64 y.e.f2) ∧ V.cell? ⟨y.b, 3, none⟩ = some (.string y.e.f3) ∧ V.cell? ⟨w.heap.size, 0, none⟩ = some (.string e.f0) ∧ V.cell? ⟨w.heap.size, 1, none⟩ = some (.int .u64 e.f1) ∧ V.cell? ⟨w.heap.size, 2, none⟩ = some (.int .i64 e.f2) ∧ V.cell? ⟨w.heap.size, 3, none⟩ = some (.string e.f3) ∧ Aside0 (J w0 w V g w.heap.size a pre (y :: r) n t e)) (first | exact J.outY HJ.out | exact J.outY (J.drew HJ.out) | exact J.outY (HJ.out.drew.below hb)) (first | (go_at_call 47; refine (ikey_Compare.calls kc _ _ _ _ _ _ _ _ _ _ HKC.out).mono ?_; rintro ee w3 ⟨rfl, hb⟩))
  have HB3 := Aside0.mk (below_step (below_drew HBW.out) hb)
  clear hb
  go_wp2_with (fail)
  go_ret
  exact ⟨rfl, HB3.out⟩
end Go.Proofs.YtchgpcgolgcfdaaGreat.Sk
end
section
namespace Go.Proofs.YtchgpcgolgcfdaaGreat.Sk
open Go Go.RowKit Go.Proofs.YtchgpcgolgcfdaaGreat.PNum Go.Proofs.YtchgpcgolgcfdaaGreat.SkM Go.Proofs.YtchgpcgolgcfdaaGreatW.PrintWords Go.Proofs.YtchgpcgolgcfdaaGreatW.PrintLast Go.Proofs.YtchgpcgolgcfdaaGreatW.PrintMore
attribute [local go_sem] max2_int min2_int max_two min_two max_three min_three max_four min_four
set_option linter.unusedVariables false
set_option linter.unusedSimpArgs false
set_option maxHeartbeats 8000000 in
set_option maxRecDepth 100000 in
theorem put_yes (w0 w : World) (g : Nat) (pre post : List Nd) (n t : Int) (e : E) (lv : Int) (hI : IsL w0 w g (pre ++ post) n t) (hB : Below w0.heap.size w0 w) (hp : ∀ x ∈ pre, decide (PuIkC.ce x.e e < 0) = true) (hq : ∀ x ∈ post, decide (PuIkC.ce x.e e < 0) = false) (h : Nat) (hh : (h : Int) = min (max lv 1) 8) (hv : PuIkC.valid e.f0 e.f2 e.f3 = true) (hne : ∀ y r, post = y :: r → PuIkC.ce y.e e ≠ 0) (h1 : ∀ x ∈ pre ++ post, 1 ≤ x.h) (s0 : e.f0.size ≤ 281474976710656) (s3 : e.f3.size ≤ 281474976710656) :
    Calls Tryz.prog 15 #[.pointer (some ⟨g, 0, none⟩), .agg #[.string (e).f0, .int .u64 (e).f1, .int .i64 (e).f2, .string (e).f3], .int .i64 lv] w fun ee w' => ee = .returned (.bool true) ∧ ∃ xb, w.heap.size ≤ xb ∧ IsL w0 w' g (pre ++ ⟨xb, h, e⟩ :: post) (wrap64 (n + 1)) (max t h) ∧ Below w0.heap.size w0 w' ∧ Fr w w' g pre := by
  have HI := Aside0.mk hI
  have HBB := Aside0.mk hB
  have HB := Aside0.mk (below_alloc (Below.refl w.heap.size w) (.cells #[.string (e).f0, .int .u64 (e).f1, .int .i64 (e).f2, .string (e).f3] 32))
  obtain ⟨kv, hkv⟩ := PuIkC.Valid_ev e.f0 e.f1 e.f2 e.f3
  have HKV := Aside0.mk (hkv kv (Nat.le_refl _))
  have HX := Aside0.mk (blk_new w (.cells #[.string (e).f0, .int .u64 (e).f1, .int .i64 (e).f2, .string (e).f3] 32))
  clear hI hB hkv

  have HV := Aside0.mk hv
  have HP := Aside0.mk hp
  have HQ := Aside0.mk hq
  have HNE := Aside0.mk hne
  have HH := Aside0.mk hh
  have H1 := Aside0.mk h1
  have S0 := Aside0.mk s0
  have S3 := Aside0.mk s3
  clear hv hp hq hne hh h1 s0 s3
  have hix := idx0'
  go_enter Tryz.func15, Tryz.ntmps15
  go_upto_region 4 with (first | (go_at_call 46; refine (ikey_Valid.calls kv _ _ _ _ _ _ HKV.out).mono ?_; rintro ee w1 ⟨rfl, hb⟩; rw [HV.out]; have n0_ := Aside0.mk (below_step HB.out hb); have n1_ := Aside0.mk (blk_below HX.out hb); clear HB HX hb; have HB := n0_; have HX := n1_; clear n0_ n1_) | (go_at_call 97; have HF : Aside0 (∀ (V : World) (x : Nd), Below w1.heap.size w1 V → x ∈ pre ++ post → Calls Tryz.prog 98 #[.agg #[.string (x.e).f0, .int .u64 (x.e).f1, .int .i64 (x.e).f2, .string (x.e).f3], .pointer (some ⟨w.heap.size, 0, none⟩)] V fun ee w' => ee = .returned (.bool (decide (PuIkC.ce x.e e < 0))) ∧ Below V.heap.size V w') := ⟨fun V x hV _ => put1 V _ e x.e (blk_below HX.out hV)⟩; refine (before_put w0 w1 g w.heap.size pre post n t (fun x => decide (PuIkC.ce x e < 0)) (HI.out.below HB.out) HP.out HQ.out HF.out).mono ?_; rintro ee w2 ⟨rfl, hb⟩; have n0_ := Aside0.mk (below_step HB.out hb); have n1_ := Aside0.mk (blk_below HX.out hb); clear HB HX HF hb; have HB := n0_; have HX := n1_; clear n0_ n1_; unfold outs))
  have hj : J w0 w (w2.alloc (.cells (outs g pre) 34)) g w.heap.size w2.heap.size pre post n t e := ⟨HI.out.below (below_alloc HB.out _), blk_alloc HX.out _, blk_new w2 _, below_step HBB.out (below_alloc HB.out _), (Fr.refl w g pre).below (Nat.le_refl _) (below_alloc HB.out _), (below_alloc HB.out _).size, HBB.out.size, Nat.le_refl _, HB.out.size⟩
  have HJ := Aside0.mk hj
  clear hj HB HX HI HBB hix
  unfold outs at HJ
  generalize World.alloc w2 _ = V at *
  generalize w2.heap.size = a at *
  have c0 : V.cell? ⟨a, 0, none⟩ = some (.pointer (some ⟨(lastAt pre 0).getD g, 0, none⟩)) := (blk_cell HJ.out.arr 0).trans rfl
  have y0 := HJ.out.li.nextLast (L := 0) (by omega)
  cases post with
  | nil =>
    have y1 : V.cell? ⟨(lastAt pre 0).getD g, 4, none⟩ = some (.pointer none) := y0
    clear y0
    go_wp2_with (fail)
    go_quiet (fail)
    have HJ5 : Aside0 (J w0 w (V.drewN nq) g w.heap.size a pre [] n t e) := ⟨HJ.out.below (pw_below_drewN (Below.refl _ _) _)⟩
    generalize V.drewN nq = V5 at *
    clear HJ c0 y1
    go_wp2_with (fail)
    go_region_held3 (fun V => V.cell? ⟨w.heap.size, 0, none⟩ = some (.string e.f0) ∧ V.cell? ⟨w.heap.size, 3, none⟩ = some (.string e.f3) ∧ V.frozen? ⟨w.heap.size, 0, none⟩ = false ∧ V.frozen? ⟨w.heap.size, 3, none⟩ = false ∧ Aside0 (J w0 w V g w.heap.size a pre [] n t e)) (first | exact J.out HJ5.out | exact J.out (J.drew HJ5.out) | exact J.stepD HJ5.out hb | exact J.stepB hb (by assumption) | exact J.stepS0 (by assumption) | exact J.stepS3 (by assumption)) (first | (go_at_call 99; refine (clone_calls e.f0 _ S0.out).mono ?_; rintro ee w4 ⟨rfl, hb⟩) | (go_at_call 99; refine (clone_calls e.f3 _ S3.out).mono ?_; rintro ee w4 ⟨rfl, hb⟩))
    have hj : J w0 w ((w4.setCell ⟨w.heap.size, 0, none⟩ (.string e.f0)).setCell ⟨w.heap.size, 3, none⟩ (.string e.f3)) g w.heap.size a pre [] n t e := (show CJ w0 w ((w4.setCell ⟨w.heap.size, 0, none⟩ (.string e.f0)).setCell ⟨w.heap.size, 3, none⟩ (.string e.f3)) g w.heap.size a pre [] n t e from by unfold CJ; assumption).2.2.2.2.out
    generalize hV8 : World.setCell (World.setCell w4 _ _) _ _ = V8 at *
    have e0 : V8.cell? ⟨w.heap.size, 0, none⟩ = some (.string e.f0) := (blk_cell hj.box 0).trans rfl
    have e1 : V8.cell? ⟨w.heap.size, 1, none⟩ = some (.int .u64 e.f1) := (blk_cell hj.box 1).trans rfl
    have e2 : V8.cell? ⟨w.heap.size, 2, none⟩ = some (.int .i64 e.f2) := (blk_cell hj.box 2).trans rfl
    have e3 : V8.cell? ⟨w.heap.size, 3, none⟩ = some (.string e.f3) := (blk_cell hj.box 3).trans rfl
    have HJ8 := Aside0.mk hj
    clear hj hb hV8 HJ5
    go_upto_region 9 with (fail)
    have hxb : V8.heap.size ∉ blocks (pre ++ []) := fun z => by
      obtain ⟨u, hu, hub⟩ := List.mem_map.1 z
      have := HJ8.out.li.ch.lt u hu
      omega
    have HL : Aside0 (IsL w0 (V8.alloc (.cells #[.string (e).f0, .int .u64 (e).f1, .int .i64 (e).f2, .string (e).f3, .pointer none, .pointer none, .pointer none, .pointer none, .pointer none, .pointer none, .pointer none, .pointer none] 36)) g (pre ++ ⟨V8.heap.size, 0, e⟩ :: []) n t) := ⟨IsL.enter (HJ8.out.li.below (below_alloc (Below.refl _ V8) _)) (by rw [cellsN_new]; exact blk_new V8 _) hxb (Nat.le_trans HJ8.out.ge (by have := blk_lt HJ8.out.box; omega))⟩
    have HA : Aside0 ((V8.alloc (.cells #[.string (e).f0, .int .u64 (e).f1, .int .i64 (e).f2, .string (e).f3, .pointer none, .pointer none, .pointer none, .pointer none, .pointer none, .pointer none, .pointer none, .pointer none] 36)).heap[a]? = some (.cells (outs g pre) 34 (0, 0))) := ⟨blk_alloc HJ8.out.arr _⟩
    have HB : Aside0 (Below w0.heap.size w0 (V8.alloc (.cells #[.string (e).f0, .int .u64 (e).f1, .int .i64 (e).f2, .string (e).f3, .pointer none, .pointer none, .pointer none, .pointer none, .pointer none, .pointer none, .pointer none, .pointer none] 36))) := ⟨below_alloc HJ8.out.bel _⟩
    have HF : Aside0 (Fr w (V8.alloc (.cells #[.string (e).f0, .int .u64 (e).f1, .int .i64 (e).f2, .string (e).f3, .pointer none, .pointer none, .pointer none, .pointer none, .pointer none, .pointer none, .pointer none, .pointer none] 36)) g pre) := ⟨HJ8.out.fr.below HJ8.out.sz (below_alloc (Below.refl _ V8) _)⟩
    have HS : Aside0 (w.heap.size ≤ (V8.alloc (.cells #[.string (e).f0, .int .u64 (e).f1, .int .i64 (e).f2, .string (e).f3, .pointer none, .pointer none, .pointer none, .pointer none, .pointer none, .pointer none, .pointer none, .pointer none] 36)).heap.size) := ⟨Nat.le_trans HJ8.out.sz (below_alloc (Below.refl _ V8) _).size⟩
    have HXB : Aside0 (w.heap.size ≤ V8.heap.size) := ⟨HJ8.out.sz⟩
    have HXA : Aside0 (a ≠ V8.heap.size) := ⟨fun z => by have := blk_lt HJ8.out.arr; omega⟩
    clear HJ8 e0 e1 e2 e3 hxb
    generalize World.alloc V8 _ = V9 at *
    generalize V8.heap.size = xb at *
    go_cut [2] (fun v2 wc => v2 = .int .i64 (h : Int) ∧ Aside0 (IsL w0 wc g (pre ++ ⟨xb, 0, e⟩ :: []) n t) ∧ Aside0 (wc.heap[a]? = some (.cells (outs g pre) 34 (0, 0))) ∧ Aside0 (Below w0.heap.size w0 wc) ∧ Aside0 (Fr w wc g pre) ∧ Aside0 (w.heap.size ≤ wc.heap.size))
    case first =>
      rcases (show lv < 1 ∨ (1 ≤ lv ∧ lv ≤ 8) ∨ 8 < lv by omega) with c | ⟨c, d⟩ | c
      · have c2 : ¬ (8 < lv) := by omega
        go_wp2_with (fail)
        go_meet
        case rel => exact ⟨by have := HH.out; congr 1; omega, HL, HA, HB, HF, HS⟩
      · have c2 : ¬ (lv < 1) := by omega
        have c3 : ¬ (8 < lv) := by omega
        go_wp2_with (fail)
        go_meet
        case rel => exact ⟨by have := HH.out; congr 1; omega, HL, HA, HB, HF, HS⟩
      · have c2 : ¬ (lv < 1) := by omega
        go_wp2_with (fail)
        go_meet
        case rel => exact ⟨by have := HH.out; congr 1; omega, HL, HA, HB, HF, HS⟩
    case rest =>
      clear HL HA HB HF HS
      obtain ⟨rfl, HL, HA, HB, HF, HS⟩ := hcut
      have hh8 : h ≤ 8 := by have := HH.out; omega
      go_wp2_with (fail)
      go_loopw [10, 53] (fun v10 v53 w' => ∃ i : Nat, v53 = .int .i64 i ∧ i ≤ h ∧ Aside0 (IsL w0 w' g (pre ++ ⟨xb, i, e⟩ :: []) n t) ∧ Aside0 (w'.heap[a]? = some (.cells (outs g pre) 34 (0, 0))) ∧ Aside0 (Below w0.heap.size w0 w') ∧ Aside0 (Fr w w' g pre) ∧ Aside0 (w.heap.size ≤ w'.heap.size)) (fun _ v53 _ => h - (intOf v53).toNat)
      case atStart => exact ⟨0, rfl, Nat.zero_le _, HL, HA, HB, HF, HS⟩
      case round =>
        clear HL HA HB HF HS
        obtain ⟨i, rfl, hi, HL, HA, HB, HF, HS⟩ := hrel
        by_cases hih : i < h
        · have hi8 : i < 8 := by omega
          have t0 : decide ((i : Int) < (h : Int)) = true := decide_eq_true (by omega)
          have t0' : decide (i < h) = true := decide_eq_true hih
          have q0 : (0 : Int) ≤ (i : Int) := Int.natCast_nonneg _
          have q1 : (i : Int) < 8 := by omega
          have a0 := outs_cell HA.out hi8
          obtain ⟨oo, hoo⟩ : ∃ oo : Option Addr, oo = (first [] i).map fun b => ⟨b, 0, none⟩ := ⟨_, rfl⟩
          have y0 : wr.cell? ⟨(lastAt pre i).getD g, 4 + i, none⟩ = some (.pointer oo) := by
            have h5 := HL.out.nextLast hi8
            rw [first, if_neg (Nat.lt_irrefl i)] at h5
            rw [hoo]
            exact h5
          have x0 : wr.cell? ⟨xb, 4 + i, none⟩ = some (.pointer none) := by
            have h5 := cellAt HL.out.ch.blk hi8
            unfold at_ at h5
            rw [if_neg (Nat.lt_irrefl i)] at h5
            exact h5
          have HOO := Aside0.mk hoo
          clear hoo
          have hplace := HL.out.place i
          have f0 : wr.frozen? ⟨(lastAt pre i).getD g, 4 + i, none⟩ = false := by
            obtain ⟨⟨cs, ty, hcs, _⟩, _⟩ := hplace
            exact blk_frozen hcs _
          have f1 : wr.frozen? ⟨xb, 4 + i, none⟩ = false := blk_frozen HL.out.ch.blk _
          have hne : ¬ (lastAt pre i).getD g = xb := by
            obtain ⟨_, _, h6⟩ := hplace
            have hnd := HL.out.nd
            rw [blocks_app] at hnd
            rcases h6 with h6 | h6
            · rw [h6]
              intro z
              apply HL.out.ne
              rw [z]
              simp [blocks]
            · intro z
              rw [z] at h6
              exact (List.nodup_append.1 hnd).2.2 xb h6 xb (by simp [blocks]) rfl
          have hne2 : ¬ xb = (lastAt pre i).getD g := fun z => hne z.symm
          have HPL := Aside0.mk hplace
          have HIH := Aside0.mk hih
          clear hplace hih
          have hna : a ≠ (⟨xb, 4 + i, none⟩ : Addr).block := HXA.out
          have hnb : a ≠ (⟨(lastAt pre i).getD g, 4 + i, none⟩ : Addr).block := by
            obtain ⟨⟨cs, ty, hcs, hty⟩, _⟩ := HPL.out
            refine blk_ne HA.out hcs ?_
            rcases hty with rfl | rfl <;> decide
          have k0 : wr.drew.cell? ⟨a, i, none⟩ = some (.pointer (some ⟨(lastAt pre i).getD g, 0, none⟩)) := a0
          have k1 : (wr.drew.setCell ⟨xb, 4 + i, none⟩ (.pointer oo)).cell? ⟨a, i, none⟩ = some (.pointer (some ⟨(lastAt pre i).getD g, 0, none⟩)) := outs_cell (blk_far HA.out hna _) hi8
          have k2 : ((wr.drew.setCell ⟨xb, 4 + i, none⟩ (.pointer oo)).setCell ⟨(lastAt pre i).getD g, 4 + i, none⟩ (.pointer (some ⟨xb, 0, none⟩))).cell? ⟨a, i, none⟩ = some (.pointer (some ⟨(lastAt pre i).getD g, 0, none⟩)) := outs_cell (blk_far (blk_far HA.out hna _) hnb _) hi8
          have HK := Aside0.mk (And.intro k0 (And.intro k1 k2))
          have HNA := Aside0.mk hna
          have HNB := Aside0.mk hnb
          clear k0 k1 k2 hna hnb
          go_wp2_with (fail)
          go_region
          have hBk : ∀ k, k ≠ g → k ∉ blocks pre → k ≠ (lastAt pre i).getD g := fun k k2 k3 z => by
            rcases HPL.out.2.2 with h6 | h6
            · exact k2 (z.trans h6)
            · exact k3 (z ▸ h6)
          have HBK := Aside0.mk hBk
          clear hBk
          go_wp2_with (fail)
          go_roundw
          case rel => exact ⟨i + 1, by go_num, by have := HIH.out; omega, ⟨by have h9 := IsL.step hi8 (HL.out.below (below_drew (Below.refl _ wr))); unfold up ptr at h9; rw [HOO.out]; exact h9⟩, ⟨blk_far (blk_far HA.out HNA.out _) HNB.out _⟩, ⟨below_set (below_set (below_drew HB.out) (HL.out.gb ⟨xb, i, e⟩ (by simp))) HPL.out.2.1⟩, ⟨fun k k1 k2 k3 => (Below.heap_setCell _ ⟨_, _, none⟩ _ k (HBK.out k k2 k3)).trans ((Below.heap_setCell _ ⟨_, _, none⟩ _ k (by have := HXB.out; show k ≠ xb; omega)).trans (HF.out k k1 k2 k3))⟩, ⟨by have := HS.out; simpa using this⟩⟩
          case measure => have := HIH.out; simp [intOf]; omega
        · have hie : i = h := by omega
          subst hie
          have t0 : decide ((i : Int) < (i : Int)) = false := decide_eq_false (by omega)
          have c12 : wr.cell? ⟨g, 12, none⟩ = some (.int .i64 n) := (blk_cell HL.out.hd 12).trans rfl
          have c13 : wr.cell? ⟨g, 13, none⟩ = some (.int .i64 t) := (blk_cell HL.out.hd 13).trans rfl
          have f12 := blk_frozen HL.out.hd 12
          have f13 := blk_frozen HL.out.hd 13
          have HGG := Aside0.mk HL.out.gg
          by_cases ct : t < (i : Int)
          · go_wp2_with (fail)
            go_ret
            exact ⟨rfl, xb, HXB.out, by have h9 := IsL.bump HL.out (wrap64 (n + 1)) (max t (i : Int)); rw [show max t (i : Int) = (i : Int) from by omega] at h9 ⊢; exact h9, below_set (below_set HB.out HGG.out) HGG.out, fun k k1 k2 k3 => (Below.heap_setCell _ ⟨_, _, none⟩ _ k k2).trans ((Below.heap_setCell _ ⟨_, _, none⟩ _ k k2).trans (HF.out k k1 k2 k3))⟩
          · go_wp2_with (fail)
            go_ret
            exact ⟨rfl, xb, HXB.out, by have h9 := IsL.bump HL.out (wrap64 (n + 1)) (max t (i : Int)); rw [show max t (i : Int) = t from by omega] at h9 ⊢; exact h9, below_set (below_set HB.out HGG.out) HGG.out, fun k k1 k2 k3 => (Below.heap_setCell _ ⟨_, _, none⟩ _ k k2).trans ((Below.heap_setCell _ ⟨_, _, none⟩ _ k k2).trans (HF.out k k1 k2 k3))⟩
  | cons y r =>
    have HY : Aside0 (1 ≤ y.h) := ⟨H1.out y (by simp)⟩
    have y1 : V.cell? ⟨(lastAt pre 0).getD g, 4, none⟩ = some (.pointer (some ⟨y.b, 0, none⟩)) := by
      rw [first_cons HY.out] at y0
      exact y0
    clear y0
    obtain ⟨kc, hkc⟩ := PuIkC.Compare_ev y.e e
    have HKC := Aside0.mk (hkc kc (Nat.le_refl _))
    have kne : (PuIkC.ce y.e e == 0) = false := beq_eq_false_iff_ne.mpr (HNE.out y r rfl)
    clear hkc
    go_wp2_with (fail)
    go_region_held3 (fun V => V.cell? ⟨y.b, 0, none⟩ = some (.string y.e.f0) ∧ V.cell? ⟨y.b, 1, none⟩ = some (.int .u64 y.e.f1) ∧ V.cell? ⟨y.b, 2, none⟩ = some (.int .i64 y.e.f2) ∧ V.cell? ⟨y.b, 3, none⟩ = some (.string y.e.f3) ∧ V.cell? ⟨w.heap.size, 0, none⟩ = some (.string e.f0) ∧ V.cell? ⟨w.heap.size, 1, none⟩ = some (.int .u64 e.f1) ∧ V.cell? ⟨w.heap.size, 2, none⟩ = some (.int .i64 e.f2) ∧ V.cell? ⟨w.heap.size, 3, none⟩ = some (.string e.f3) ∧ Aside0 (J w0 w V g w.heap.size a pre (y :: r) n t e)) (first | exact J.outY HJ.out | exact J.outY (J.drew HJ.out) | exact J.outY (HJ.out.drew.below hb)) (first | (go_at_call 47; refine (ikey_Compare.calls kc _ _ _ _ _ _ _ _ _ _ HKC.out).mono ?_; rintro ee w3 ⟨rfl, hb⟩))
    have HJ5 : Aside0 (J w0 w w3 g w.heap.size a pre (y :: r) n t e) := ⟨(show CY w0 w w3 g w.heap.size a pre y r n t e from by unfold CY; assumption).2.2.2.2.2.2.2.2.out⟩
    clear HJ c0 y1 hb
    go_wp2_with (fail)
    go_region_held3 (fun V => V.cell? ⟨w.heap.size, 0, none⟩ = some (.string e.f0) ∧ V.cell? ⟨w.heap.size, 3, none⟩ = some (.string e.f3) ∧ V.frozen? ⟨w.heap.size, 0, none⟩ = false ∧ V.frozen? ⟨w.heap.size, 3, none⟩ = false ∧ Aside0 (J w0 w V g w.heap.size a pre (y :: r) n t e)) (first | exact J.out HJ5.out | exact J.out (J.drew HJ5.out) | exact J.stepD HJ5.out hb | exact J.stepB hb (by assumption) | exact J.stepS0 (by assumption) | exact J.stepS3 (by assumption)) (first | (go_at_call 99; refine (clone_calls e.f0 _ S0.out).mono ?_; rintro ee w4 ⟨rfl, hb⟩) | (go_at_call 99; refine (clone_calls e.f3 _ S3.out).mono ?_; rintro ee w4 ⟨rfl, hb⟩))
    have hj : J w0 w ((w4.setCell ⟨w.heap.size, 0, none⟩ (.string e.f0)).setCell ⟨w.heap.size, 3, none⟩ (.string e.f3)) g w.heap.size a pre (y :: r) n t e := (show CJ w0 w ((w4.setCell ⟨w.heap.size, 0, none⟩ (.string e.f0)).setCell ⟨w.heap.size, 3, none⟩ (.string e.f3)) g w.heap.size a pre (y :: r) n t e from by unfold CJ; assumption).2.2.2.2.out
    generalize hV8 : World.setCell (World.setCell w4 _ _) _ _ = V8 at *
    have e0 : V8.cell? ⟨w.heap.size, 0, none⟩ = some (.string e.f0) := (blk_cell hj.box 0).trans rfl
    have e1 : V8.cell? ⟨w.heap.size, 1, none⟩ = some (.int .u64 e.f1) := (blk_cell hj.box 1).trans rfl
    have e2 : V8.cell? ⟨w.heap.size, 2, none⟩ = some (.int .i64 e.f2) := (blk_cell hj.box 2).trans rfl
    have e3 : V8.cell? ⟨w.heap.size, 3, none⟩ = some (.string e.f3) := (blk_cell hj.box 3).trans rfl
    have HJ8 := Aside0.mk hj
    clear hj hb hV8 HJ5
    go_upto_region 9 with (fail)
    have hxb : V8.heap.size ∉ blocks (pre ++ (y :: r)) := fun z => by
      obtain ⟨u, hu, hub⟩ := List.mem_map.1 z
      have := HJ8.out.li.ch.lt u hu
      omega
    have HL : Aside0 (IsL w0 (V8.alloc (.cells #[.string (e).f0, .int .u64 (e).f1, .int .i64 (e).f2, .string (e).f3, .pointer none, .pointer none, .pointer none, .pointer none, .pointer none, .pointer none, .pointer none, .pointer none] 36)) g (pre ++ ⟨V8.heap.size, 0, e⟩ :: (y :: r)) n t) := ⟨IsL.enter (HJ8.out.li.below (below_alloc (Below.refl _ V8) _)) (by rw [cellsN_new]; exact blk_new V8 _) hxb (Nat.le_trans HJ8.out.ge (by have := blk_lt HJ8.out.box; omega))⟩
    have HA : Aside0 ((V8.alloc (.cells #[.string (e).f0, .int .u64 (e).f1, .int .i64 (e).f2, .string (e).f3, .pointer none, .pointer none, .pointer none, .pointer none, .pointer none, .pointer none, .pointer none, .pointer none] 36)).heap[a]? = some (.cells (outs g pre) 34 (0, 0))) := ⟨blk_alloc HJ8.out.arr _⟩
    have HB : Aside0 (Below w0.heap.size w0 (V8.alloc (.cells #[.string (e).f0, .int .u64 (e).f1, .int .i64 (e).f2, .string (e).f3, .pointer none, .pointer none, .pointer none, .pointer none, .pointer none, .pointer none, .pointer none, .pointer none] 36))) := ⟨below_alloc HJ8.out.bel _⟩
    have HF : Aside0 (Fr w (V8.alloc (.cells #[.string (e).f0, .int .u64 (e).f1, .int .i64 (e).f2, .string (e).f3, .pointer none, .pointer none, .pointer none, .pointer none, .pointer none, .pointer none, .pointer none, .pointer none] 36)) g pre) := ⟨HJ8.out.fr.below HJ8.out.sz (below_alloc (Below.refl _ V8) _)⟩
    have HS : Aside0 (w.heap.size ≤ (V8.alloc (.cells #[.string (e).f0, .int .u64 (e).f1, .int .i64 (e).f2, .string (e).f3, .pointer none, .pointer none, .pointer none, .pointer none, .pointer none, .pointer none, .pointer none, .pointer none] 36)).heap.size) := ⟨Nat.le_trans HJ8.out.sz (below_alloc (Below.refl _ V8) _).size⟩
    have HXB : Aside0 (w.heap.size ≤ V8.heap.size) := ⟨HJ8.out.sz⟩
    have HXA : Aside0 (a ≠ V8.heap.size) := ⟨fun z => by have := blk_lt HJ8.out.arr; omega⟩
    clear HJ8 e0 e1 e2 e3 hxb
    generalize World.alloc V8 _ = V9 at *
    generalize V8.heap.size = xb at *
    go_cut [2] (fun v2 wc => v2 = .int .i64 (h : Int) ∧ Aside0 (IsL w0 wc g (pre ++ ⟨xb, 0, e⟩ :: (y :: r)) n t) ∧ Aside0 (wc.heap[a]? = some (.cells (outs g pre) 34 (0, 0))) ∧ Aside0 (Below w0.heap.size w0 wc) ∧ Aside0 (Fr w wc g pre) ∧ Aside0 (w.heap.size ≤ wc.heap.size))
    case first =>
      rcases (show lv < 1 ∨ (1 ≤ lv ∧ lv ≤ 8) ∨ 8 < lv by omega) with c | ⟨c, d⟩ | c
      · have c2 : ¬ (8 < lv) := by omega
        go_wp2_with (fail)
        go_meet
        case rel => exact ⟨by have := HH.out; congr 1; omega, HL, HA, HB, HF, HS⟩
      · have c2 : ¬ (lv < 1) := by omega
        have c3 : ¬ (8 < lv) := by omega
        go_wp2_with (fail)
        go_meet
        case rel => exact ⟨by have := HH.out; congr 1; omega, HL, HA, HB, HF, HS⟩
      · have c2 : ¬ (lv < 1) := by omega
        go_wp2_with (fail)
        go_meet
        case rel => exact ⟨by have := HH.out; congr 1; omega, HL, HA, HB, HF, HS⟩
    case rest =>
      clear HL HA HB HF HS
      obtain ⟨rfl, HL, HA, HB, HF, HS⟩ := hcut
      have hh8 : h ≤ 8 := by have := HH.out; omega
      go_wp2_with (fail)
      go_loopw [10, 53] (fun v10 v53 w' => ∃ i : Nat, v53 = .int .i64 i ∧ i ≤ h ∧ Aside0 (IsL w0 w' g (pre ++ ⟨xb, i, e⟩ :: (y :: r)) n t) ∧ Aside0 (w'.heap[a]? = some (.cells (outs g pre) 34 (0, 0))) ∧ Aside0 (Below w0.heap.size w0 w') ∧ Aside0 (Fr w w' g pre) ∧ Aside0 (w.heap.size ≤ w'.heap.size)) (fun _ v53 _ => h - (intOf v53).toNat)
      case atStart => exact ⟨0, rfl, Nat.zero_le _, HL, HA, HB, HF, HS⟩
      case round =>
        clear HL HA HB HF HS
        obtain ⟨i, rfl, hi, HL, HA, HB, HF, HS⟩ := hrel
        by_cases hih : i < h
        · have hi8 : i < 8 := by omega
          have t0 : decide ((i : Int) < (h : Int)) = true := decide_eq_true (by omega)
          have t0' : decide (i < h) = true := decide_eq_true hih
          have q0 : (0 : Int) ≤ (i : Int) := Int.natCast_nonneg _
          have q1 : (i : Int) < 8 := by omega
          have a0 := outs_cell HA.out hi8
          obtain ⟨oo, hoo⟩ : ∃ oo : Option Addr, oo = (first (y :: r) i).map fun b => ⟨b, 0, none⟩ := ⟨_, rfl⟩
          have y0 : wr.cell? ⟨(lastAt pre i).getD g, 4 + i, none⟩ = some (.pointer oo) := by
            have h5 := HL.out.nextLast hi8
            rw [first, if_neg (Nat.lt_irrefl i)] at h5
            rw [hoo]
            exact h5
          have x0 : wr.cell? ⟨xb, 4 + i, none⟩ = some (.pointer none) := by
            have h5 := cellAt HL.out.ch.blk hi8
            unfold at_ at h5
            rw [if_neg (Nat.lt_irrefl i)] at h5
            exact h5
          have HOO := Aside0.mk hoo
          clear hoo
          have hplace := HL.out.place i
          have f0 : wr.frozen? ⟨(lastAt pre i).getD g, 4 + i, none⟩ = false := by
            obtain ⟨⟨cs, ty, hcs, _⟩, _⟩ := hplace
            exact blk_frozen hcs _
          have f1 : wr.frozen? ⟨xb, 4 + i, none⟩ = false := blk_frozen HL.out.ch.blk _
          have hne : ¬ (lastAt pre i).getD g = xb := by
            obtain ⟨_, _, h6⟩ := hplace
            have hnd := HL.out.nd
            rw [blocks_app] at hnd
            rcases h6 with h6 | h6
            · rw [h6]
              intro z
              apply HL.out.ne
              rw [z]
              simp [blocks]
            · intro z
              rw [z] at h6
              exact (List.nodup_append.1 hnd).2.2 xb h6 xb (by simp [blocks]) rfl
          have hne2 : ¬ xb = (lastAt pre i).getD g := fun z => hne z.symm
          have HPL := Aside0.mk hplace
          have HIH := Aside0.mk hih
          clear hplace hih
          have hna : a ≠ (⟨xb, 4 + i, none⟩ : Addr).block := HXA.out
          have hnb : a ≠ (⟨(lastAt pre i).getD g, 4 + i, none⟩ : Addr).block := by
            obtain ⟨⟨cs, ty, hcs, hty⟩, _⟩ := HPL.out
            refine blk_ne HA.out hcs ?_
            rcases hty with rfl | rfl <;> decide
          have k0 : wr.drew.cell? ⟨a, i, none⟩ = some (.pointer (some ⟨(lastAt pre i).getD g, 0, none⟩)) := a0
          have k1 : (wr.drew.setCell ⟨xb, 4 + i, none⟩ (.pointer oo)).cell? ⟨a, i, none⟩ = some (.pointer (some ⟨(lastAt pre i).getD g, 0, none⟩)) := outs_cell (blk_far HA.out hna _) hi8
          have k2 : ((wr.drew.setCell ⟨xb, 4 + i, none⟩ (.pointer oo)).setCell ⟨(lastAt pre i).getD g, 4 + i, none⟩ (.pointer (some ⟨xb, 0, none⟩))).cell? ⟨a, i, none⟩ = some (.pointer (some ⟨(lastAt pre i).getD g, 0, none⟩)) := outs_cell (blk_far (blk_far HA.out hna _) hnb _) hi8
          have HK := Aside0.mk (And.intro k0 (And.intro k1 k2))
          have HNA := Aside0.mk hna
          have HNB := Aside0.mk hnb
          clear k0 k1 k2 hna hnb
          go_wp2_with (fail)
          go_region
          have hBk : ∀ k, k ≠ g → k ∉ blocks pre → k ≠ (lastAt pre i).getD g := fun k k2 k3 z => by
            rcases HPL.out.2.2 with h6 | h6
            · exact k2 (z.trans h6)
            · exact k3 (z ▸ h6)
          have HBK := Aside0.mk hBk
          clear hBk
          go_wp2_with (fail)
          go_roundw
          case rel => exact ⟨i + 1, by go_num, by have := HIH.out; omega, ⟨by have h9 := IsL.step hi8 (HL.out.below (below_drew (Below.refl _ wr))); unfold up ptr at h9; rw [HOO.out]; exact h9⟩, ⟨blk_far (blk_far HA.out HNA.out _) HNB.out _⟩, ⟨below_set (below_set (below_drew HB.out) (HL.out.gb ⟨xb, i, e⟩ (by simp))) HPL.out.2.1⟩, ⟨fun k k1 k2 k3 => (Below.heap_setCell _ ⟨_, _, none⟩ _ k (HBK.out k k2 k3)).trans ((Below.heap_setCell _ ⟨_, _, none⟩ _ k (by have := HXB.out; show k ≠ xb; omega)).trans (HF.out k k1 k2 k3))⟩, ⟨by have := HS.out; simpa using this⟩⟩
          case measure => have := HIH.out; simp [intOf]; omega
        · have hie : i = h := by omega
          subst hie
          have t0 : decide ((i : Int) < (i : Int)) = false := decide_eq_false (by omega)
          have c12 : wr.cell? ⟨g, 12, none⟩ = some (.int .i64 n) := (blk_cell HL.out.hd 12).trans rfl
          have c13 : wr.cell? ⟨g, 13, none⟩ = some (.int .i64 t) := (blk_cell HL.out.hd 13).trans rfl
          have f12 := blk_frozen HL.out.hd 12
          have f13 := blk_frozen HL.out.hd 13
          have HGG := Aside0.mk HL.out.gg
          by_cases ct : t < (i : Int)
          · go_wp2_with (fail)
            go_ret
            exact ⟨rfl, xb, HXB.out, by have h9 := IsL.bump HL.out (wrap64 (n + 1)) (max t (i : Int)); rw [show max t (i : Int) = (i : Int) from by omega] at h9 ⊢; exact h9, below_set (below_set HB.out HGG.out) HGG.out, fun k k1 k2 k3 => (Below.heap_setCell _ ⟨_, _, none⟩ _ k k2).trans ((Below.heap_setCell _ ⟨_, _, none⟩ _ k k2).trans (HF.out k k1 k2 k3))⟩
          · go_wp2_with (fail)
            go_ret
            exact ⟨rfl, xb, HXB.out, by have h9 := IsL.bump HL.out (wrap64 (n + 1)) (max t (i : Int)); rw [show max t (i : Int) = t from by omega] at h9 ⊢; exact h9, below_set (below_set HB.out HGG.out) HGG.out, fun k k1 k2 k3 => (Below.heap_setCell _ ⟨_, _, none⟩ _ k k2).trans ((Below.heap_setCell _ ⟨_, _, none⟩ _ k k2).trans (HF.out k k1 k2 k3))⟩
end Go.Proofs.YtchgpcgolgcfdaaGreat.Sk
end
section
namespace Go.Proofs.YtchgpcgolgcfdaaGreat.Sk
open Go Go.RowKit Go.Proofs.YtchgpcgolgcfdaaGreat.PNum Go.Proofs.YtchgpcgolgcfdaaGreat.SkM Go.Proofs.YtchgpcgolgcfdaaGreatW.PrintWords Go.Proofs.YtchgpcgolgcfdaaGreatW.PrintLast Go.Proofs.YtchgpcgolgcfdaaGreatW.PrintMore
set_option linter.unusedVariables false
set_option linter.unusedSimpArgs false
def cntL (key : ByteArray) (L : Nat) : List Nd → Int
  | [] => 0
  | x :: r => if L < x.h then (if lt key x.e = true then cntL key L r + 1 else 0) else cntL key L r
theorem cntL_none {key : ByteArray} {L : Nat} : ∀ {q : List Nd}, first q L = none → cntL key L q = 0
  | [], _ => rfl
  | x :: r, h => by
    rw [first] at h
    rw [cntL]
    split at h
    · cases h
    · rename_i hx
      rw [if_neg hx]
      exact cntL_none h
theorem cntL_at {key : ByteArray} {L : Nat} {y : Nd} {q2 : List Nd} (hy : L < y.h) : ∀ {q1 : List Nd}, first q1 L = none → cntL key L (q1 ++ y :: q2) = if lt key y.e = true then cntL key L q2 + 1 else 0
  | [], _ => by rw [List.nil_append, cntL, if_pos hy]
  | x :: r, h => by
    rw [first] at h
    split at h
    · cases h
    · rename_i hx
      rw [List.cons_append, cntL, if_neg hx]
      exact cntL_at hy h
def pathL (key : ByteArray) (ns : List Nd) (T : Nat) : List Int := (List.range T).reverse.map fun L => cntL key L ns
theorem pathL_step {key : ByteArray} {ns : List Nd} {T j : Nat} (h : j < T) : (pathL key ns T).take (j + 1) = (pathL key ns T).take j ++ [cntL key (T - 1 - j) ns] := by
  have hl : j < (pathL key ns T).length := by simpa [pathL] using h
  rw [List.take_succ_eq_append_getElem hl]
  simp [pathL]
theorem pathL_len (key : ByteArray) (ns : List Nd) (T : Nat) : (pathL key ns T).length = T := by simp [pathL]
set_option maxHeartbeats 8000000 in
set_option maxRecDepth 100000 in
theorem path_calls (w0 w : World) (g : Nat) (ns : List Nd) (n : Int) (T : Nat) (key : ByteArray) (hI : IsL w0 w g ns n (T : Int)) (hT : T ≤ 8) (hl : ns.length < 1000000) :
    Calls Tryz.prog 24 #[.pointer (some ⟨g, 0, none⟩), .string key] w fun e w' => ∃ v, e = .returned v ∧ Kd.R (Kd.int .i64) 3 w' w.heap.size (fun _ => True) v (pathL key ns T) ∧ Below w.heap.size w w' := by
  have HI := Aside0.mk hI
  have HL := Aside0.mk hl
  clear hI hl
  have HB := Aside0.mk (Below.refl w.heap.size w)
  go_enter Tryz.func24, Tryz.ntmps24
  go_wp2_with (first | (go_at_call 28; refine (height_calls w0 _ g ns n T HI.out).mono ?_; rintro e w1 ⟨rfl, hw⟩; subst hw))
  go_loopw [5, 6] (fun v5 v6 w' => ∃ j : Nat, v6 = .int .i64 ((T : Int) - 1 - j) ∧ j ≤ T ∧ Aside0 (Kd.R (Kd.int .i64) 3 w' w1.heap.size (fun _ => True) v5 ((pathL key ns T).take j)) ∧ Aside0 (RowKit.Below w1.heap.size w1 w')) (fun _ v6 _ => (intOf v6 + 1).toNat)
  case atStart => exact ⟨0, by go_num, Nat.zero_le _, ⟨by rw [List.take_zero]; exact Kd.R_nil _ _ _ _ _⟩, HB⟩
  case round =>
    clear HB
    obtain ⟨j, rfl, hj, HR, HB⟩ := hrel
    by_cases hjt : j < T
    · obtain ⟨L, hL⟩ : ∃ L : Nat, L = T - 1 - j := ⟨_, rfl⟩
      have eL : (T : Int) - 1 - (j : Int) = (L : Int) := by omega
      have hL8 : L < 8 := by omega
      have HST := Aside0.mk (pathL_step (key := key) (ns := ns) hjt)
      rw [← hL] at HST
      rw [eL]
      have t0 : decide ((0 : Int) ≤ (L : Int)) = true := decide_eq_true (Int.natCast_nonneg _)
      have p0 : (0 : Int) ≤ (L : Int) := Int.natCast_nonneg _
      have p1 : (L : Int) < 8 := by omega
      have y0 : wr.cell? ⟨g, 4 + L, none⟩ = some (ptr (first ns L)) := cellL (HI.out.below HB.out).hd hL8
      have HTL : Aside0 (((pathL key ns T).take j).length ≤ 8) := ⟨by simp [pathL_len]; omega⟩
      have HEL := Aside0.mk eL
      have HJT := Aside0.mk hjt
      clear hL eL
      go_wp2_with (fail)
      go_loopg [7, 8] ns.length (fun kq v7 v8 w' => ∃ (d q : List Nd) (m : Int), v7 = .int .i64 m ∧ v8 = ptr (first q L) ∧ Aside0 (q.length ≤ kq) ∧ Aside0 (ns = d ++ q) ∧ 0 ≤ m ∧ m ≤ d.length ∧ Aside0 (m + cntL key L q = cntL key L ns) ∧ Aside0 (Kd.R (Kd.int .i64) 3 w' w1.heap.size (fun _ => True) u5 ((pathL key ns T).take j)) ∧ Aside0 (RowKit.Below w1.heap.size w1 w'))
      case atStart => exact ⟨[], ns, 0, rfl, rfl, ⟨Nat.le_refl _⟩, ⟨rfl⟩, by omega, by simp, ⟨by omega⟩, HR, HB⟩
      case round =>
        clear HR HB y0
        obtain ⟨d, q, m, rfl, rfl, HG, HD, hm0, hm1, HC, HR, HB⟩ := hrel
        have hdl : (d.length : Int) < 1000000 := by have h1 := HL.out; rw [HD.out] at h1; simp at h1; omega
        cases hf : first q L with
        | none =>
          have HM : Aside0 (m = cntL key L ns) := ⟨by have h1 := HC.out; rw [cntL_none hf] at h1; omega⟩
          clear hf
          unfold ptr
          go_wp2_with (first | ((with_reducible refine gate_builtin (b := .append) (xs := #[.tmp 42, .tmp 44]) rfl ?_); at_builtin; refine Kd.R_append (Kd.int .i64) (w0 := w1) w1.heap.size rfl (.tmp 42) (.tmp 44) 23 3 (.int .i64 0) 8 rfl Tryz.underlying23 info3 rfl (by decide) (by omega) u5 ((pathL key ns T).take j) m [.int .i64 m] (fun _ => True) (fun _ => False) rfl rfl ?aP (fun _ hk => hk.elim) ?aF ?aO ?aB ?aS ?aL ?_; (case aP => exact rfl); (case aB => exact HB.out); (case aF => exact (fun _ _ => trivial)); (case aO => exact HR.out); (case aS => exact below_size HB.out); (case aL => have := HTL.out; omega); intro v7 w7 ho hb hg hat; have HO7 := Aside0.mk ho; have HB7 := Aside0.mk hb; clear ho hb hg hat))
          go_roundw
          case rel => exact ⟨j + 1, by have h1 := HEL.out; congr 1; omega, by have h1 := HJT.out; omega, ⟨by rw [HST.out, ← HM.out]; exact HO7.out⟩, HB7⟩
          case measure => have h1 := HEL.out; have h2 := HJT.out; first | (simp [intOf]; done) | (simp [intOf]; omega)
        | some yb =>
          obtain ⟨q1, y, q2, hq, rfl, hy, hq1⟩ := first_mem hf
          have hcx := HI.out.below HB.out
          rw [HD.out, hq, ← List.append_assoc] at hcx
          have z0 : wr.cell? ⟨y.b, 0, none⟩ = some (.string y.e.f0) := (blk_cell hcx.cellsAt 0).trans rfl
          have x0 : wr.cell? ⟨y.b, 4 + L, none⟩ = some (ptr (first q2 L)) := cellN hcx.cellsAt hL8 hy
          have HCA := Aside0.mk (cntL_at (key := key) (q2 := q2) hy hq1)
          rw [← hq] at HCA
          have HQ := Aside0.mk hq
          clear hcx hq hq1 hf
          unfold ptr
          by_cases c1 : lt key y.e = true
          · have k1 : Op.bytesLess y.e.f0.toList key.toList = true := c1
            have HM : Aside0 ((m + 1) + cntL key L q2 = cntL key L ns) := ⟨by have h1 := HC.out; rw [HCA.out, if_pos c1] at h1; omega⟩
            clear c1
            go_wp2_with (fail)
            go_roundg q2.length
            case measure =>
              have h1 := HG.out
              rw [HQ.out] at h1
              simp at h1
              omega
            case rel => exact ⟨d ++ q1 ++ [y], q2, m + 1, by go_num, rfl, ⟨Nat.le_refl _⟩, ⟨by rw [HD.out, HQ.out]; simp⟩, by omega, by simp; omega, HM, HR, HB⟩
          · have k1 : Op.bytesLess y.e.f0.toList key.toList = false := by simpa [lt] using c1
            have HM : Aside0 (m = cntL key L ns) := ⟨by have h1 := HC.out; rw [HCA.out, if_neg c1] at h1; omega⟩
            clear c1
            go_wp2_with (first | ((with_reducible refine gate_builtin (b := .append) (xs := #[.tmp 42, .tmp 44]) rfl ?_); at_builtin; refine Kd.R_append (Kd.int .i64) (w0 := w1) w1.heap.size rfl (.tmp 42) (.tmp 44) 23 3 (.int .i64 0) 8 rfl Tryz.underlying23 info3 rfl (by decide) (by omega) u5 ((pathL key ns T).take j) m [.int .i64 m] (fun _ => True) (fun _ => False) rfl rfl ?aP (fun _ hk => hk.elim) ?aF ?aO ?aB ?aS ?aL ?_; (case aP => exact rfl); (case aB => exact HB.out); (case aF => exact (fun _ _ => trivial)); (case aO => exact HR.out); (case aS => exact below_size HB.out); (case aL => have := HTL.out; omega); intro v7 w7 ho hb hg hat; have HO7 := Aside0.mk ho; have HB7 := Aside0.mk hb; clear ho hb hg hat))
            go_roundw
            case rel => exact ⟨j + 1, by have h1 := HEL.out; congr 1; omega, by have h1 := HJT.out; omega, ⟨by rw [HST.out, ← HM.out]; exact HO7.out⟩, HB7⟩
            case measure => have h1 := HEL.out; have h2 := HJT.out; first | (simp [intOf]; done) | (simp [intOf]; omega)
    · have hje : j = T := by omega
      have eL : (T : Int) - 1 - (j : Int) = -1 := by omega
      rw [eL]
      have HX : Aside0 ((pathL key ns T).take j = pathL key ns T) := ⟨by rw [hje]; exact List.take_of_length_le (by rw [pathL_len]; exact Nat.le_refl _)⟩
      clear hje eL
      go_wp2_with (fail)
      go_ret
      exact ⟨_, rfl, by rw [← HX.out]; exact HR.out, HB.out⟩
set_option maxHeartbeats 8000000 in
set_option maxRecDepth 100000 in
theorem all_calls (w0 w : World) (g : Nat) (ns : List Nd) (n t : Int) (hI : IsL w0 w g ns n t) (hh : ∀ x ∈ ns, 1 ≤ x.h) (hl : ns.length < 1000000) :
    Calls Tryz.prog 16 #[.pointer (some ⟨g, 0, none⟩)] w fun e w' => ∃ v, e = .returned v ∧ Kd.R k32 32 w' w.heap.size (fun _ => True) v (ns.map (·.e)) ∧ Below w.heap.size w w' := by
  have HI := Aside0.mk hI
  have HH := Aside0.mk hh
  have HL := Aside0.mk hl
  clear hI hh hl
  have HN : Aside0 (∀ x ∈ ns, lt ⟨#[]⟩ x.e = false) := ⟨fun x _ => by unfold lt; rw [PuIkC.nil_toList]; cases x.e.f0.toList <;> rfl⟩
  go_enter Tryz.func16, Tryz.ntmps16
  go_wp2_with (first | (go_at_call 17; refine (from_calls w0 _ g [] ns n t ⟨#[]⟩ HI.out (fun _ h => by cases h) HN.out HH.out HL.out).mono ?_; rintro e w1 ⟨v, rfl, hr, hb⟩))
  go_ret
  exact ⟨v, rfl, hr, hb⟩
end Go.Proofs.YtchgpcgolgcfdaaGreat.Sk
end
section
namespace Go.Proofs.YtchgpcgolgcfdaaGreat.Sk
open Go Go.RowKit Go.Proofs.YtchgpcgolgcfdaaGreat.PNum Go.Proofs.YtchgpcgolgcfdaaGreat.SkM Go.Proofs.YtchgpcgolgcfdaaGreatW.PrintWords Go.Proofs.YtchgpcgolgcfdaaGreatW.PrintLast Go.Proofs.YtchgpcgolgcfdaaGreatW.PrintMore
set_option linter.unusedVariables false
set_option linter.unusedSimpArgs false
theorem first_path (xa xb : Nat) : pathL (⟨#[99]⟩ : ByteArray) [(⟨xa, 1, (⟨⟨#[97]⟩, 1, 1, ⟨#[]⟩⟩ : E)⟩ : Nd), ⟨xb, 2, (⟨⟨#[98]⟩, 1, 1, ⟨#[]⟩⟩ : E)⟩] 2 = [1, 2] := by
  have hA : lt (⟨#[99]⟩ : ByteArray) (⟨⟨#[97]⟩, 1, 1, ⟨#[]⟩⟩ : E) = true := by decide +kernel
  have hB : lt (⟨#[99]⟩ : ByteArray) (⟨⟨#[98]⟩, 1, 1, ⟨#[]⟩⟩ : E) = true := by decide +kernel
  simp [pathL, List.range_succ, cntL, hA, hB]
theorem first_got (xa xb : Nat) : getL (⟨#[97]⟩ : ByteArray) 9 [(⟨xa, 1, (⟨⟨#[97]⟩, 1, 1, ⟨#[]⟩⟩ : E)⟩ : Nd), ⟨xb, 2, (⟨⟨#[98]⟩, 1, 1, ⟨#[]⟩⟩ : E)⟩] = some (⟨⟨#[97]⟩, 1, 1, ⟨#[]⟩⟩ : E) := by rw [getL, if_pos rfl, if_pos (show (1 : Int) ≤ 9 by decide)]
theorem first_valid : PuIkC.valid (⟨#[97]⟩ : ByteArray) 1 (⟨#[]⟩ : ByteArray) = true ∧ PuIkC.valid (⟨#[98]⟩ : ByteArray) 1 (⟨#[]⟩ : ByteArray) = true := by decide +kernel
theorem first_order : decide (PuIkC.ce (⟨⟨#[97]⟩, 1, 1, ⟨#[]⟩⟩ : E) (⟨⟨#[98]⟩, 1, 1, ⟨#[]⟩⟩ : E) < 0) = true := by decide +kernel
theorem first_lt : lt (⟨#[97]⟩ : ByteArray) (⟨⟨#[97]⟩, 1, 1, ⟨#[]⟩⟩ : E) = false ∧ lt (⟨#[97]⟩ : ByteArray) (⟨⟨#[98]⟩, 1, 1, ⟨#[]⟩⟩ : E) = false := by decide +kernel
set_option maxHeartbeats 8000000 in
set_option maxRecDepth 100000 in
theorem alive_calls (w : World) :
    Calls Tryz.prog 11 #[] w fun e w' => e = .returned (.bool true) ∧ Below w.heap.size w w' := by
  have HB := Aside0.mk (Below.refl w.heap.size w)
  go_enter Tryz.func11, Tryz.ntmps11
  go_wp2_with (first | (go_at_call 12; refine (new_calls w _ HB.out).mono ?_; rintro e w1 ⟨g, rfl, hi, _, hb⟩; have HI := Aside0.mk hi; have n0_ := Aside0.mk (below_step HB.out hb); clear HB; have HB := n0_; clear n0_ hi hb) | (go_at_call 15; refine (put_yes w _ g [] [] 0 0 (⟨⟨#[97]⟩, 1, 1, ⟨#[]⟩⟩ : E) 1 HI.out HB.out (fun _ h => by cases h) (fun _ h => by cases h) 1 (by decide) first_valid.1 (fun _ _ h => by cases h) (fun _ h => by cases h) (by decide) (by decide)).mono ?_; rintro e w1 ⟨rfl, xa, _, hi, hb, _⟩; rw [show wrap64 (0 + 1) = 1 from by decide +kernel, show max (0 : Int) ((1 : Nat) : Int) = 1 from by decide] at hi; have HI2 : Aside0 (IsL w w1 g [(⟨xa, 1, (⟨⟨#[97]⟩, 1, 1, ⟨#[]⟩⟩ : E)⟩ : Nd)] 1 1) := ⟨hi⟩; clear HI HB; have HB := Aside0.mk hb; clear hi hb) | (go_at_call 15; refine (put_yes w _ g [(⟨xa, 1, (⟨⟨#[97]⟩, 1, 1, ⟨#[]⟩⟩ : E)⟩ : Nd)] [] 1 1 (⟨⟨#[98]⟩, 1, 1, ⟨#[]⟩⟩ : E) 2 HI2.out HB.out (fun x h => by rcases List.mem_singleton.1 h with rfl; exact first_order) (fun _ h => by cases h) 2 (by decide) first_valid.2 (fun _ _ h => by cases h) (fun x h => by rcases List.mem_singleton.1 h with rfl; exact Nat.le_refl 1) (by decide) (by decide)).mono ?_; rintro e w1 ⟨rfl, xb, _, hi, hb, _⟩; rw [show wrap64 (1 + 1) = 2 from by decide +kernel, show max (1 : Int) ((2 : Nat) : Int) = 2 from by decide] at hi; have HI3 : Aside0 (IsL w w1 g [(⟨xa, 1, (⟨⟨#[97]⟩, 1, 1, ⟨#[]⟩⟩ : E)⟩ : Nd), ⟨xb, 2, (⟨⟨#[98]⟩, 1, 1, ⟨#[]⟩⟩ : E)⟩] 2 2) := ⟨hi⟩; clear HI2 HB; have HB := Aside0.mk hb; clear hi hb) | (go_at_call 24; refine (path_calls w _ g [(⟨xa, 1, (⟨⟨#[97]⟩, 1, 1, ⟨#[]⟩⟩ : E)⟩ : Nd), ⟨xb, 2, (⟨⟨#[98]⟩, 1, 1, ⟨#[]⟩⟩ : E)⟩] 2 2 ⟨#[99]⟩ HI3.out (by decide) (by simp)).mono ?_; rintro e w2 ⟨v, rfl, hr, hb⟩; rw [first_path] at hr; obtain ⟨gm, c, rfl, _⟩ := Kd.R_form hr (by decide); obtain ⟨_, hcc, hC⟩ := Kd.R_reads' hr; obtain ⟨ad, e0, y0⟩ := Kd.at_int hC 0 (by omega) (by decide); obtain ⟨ad', e0', z0⟩ := Kd.at_int hC 1 (by omega) (by decide); cases e0; cases e0'; change w2.cell? ⟨gm, 0, none⟩ = some (.int .i64 1) at y0; change w2.cell? ⟨gm, 1, none⟩ = some (.int .i64 2) at z0; have hcap : 2 ≤ c := (by simpa using hcc); have n0_ := Aside0.mk (IsL.below HI3.out hb); have n1_ := Aside0.mk (below_step HB.out hb); clear HI3 HB hr hC hcc hb; have HI3 := n0_; have HB := n1_; clear n0_ n1_) | (go_at_call 22; refine (get_calls w _ g [] [(⟨xa, 1, (⟨⟨#[97]⟩, 1, 1, ⟨#[]⟩⟩ : E)⟩ : Nd), ⟨xb, 2, (⟨⟨#[98]⟩, 1, 1, ⟨#[]⟩⟩ : E)⟩] 2 2 ⟨#[97]⟩ HI3.out (fun _ h => by cases h) (fun x h => by simp only [List.mem_cons, List.not_mem_nil, or_false] at h; rcases h with rfl | rfl; exact first_lt.1; exact first_lt.2) (fun x h => by simp only [List.nil_append, List.mem_cons, List.not_mem_nil, or_false] at h; rcases h with rfl | rfl; exact Nat.le_refl 1; exact Nat.le_succ 1) 9).mono ?_; rintro e w3 ⟨rfl, hb⟩; rw [first_got]; have y1 := (hb.cell (World.block_lt_of_cell? _ _ y0)).trans y0; have z1 := (hb.cell (World.block_lt_of_cell? _ _ z0)).trans z0; have n0_ := Aside0.mk (IsL.below HI3.out hb); have n1_ := Aside0.mk (below_step HB.out hb); have hgm := World.block_lt_of_cell? _ _ y1; clear HI3 HB hb y0 z0; have HI3 := n0_; have HB := n1_; clear n0_ n1_) | (go_at_call 21; refine (len_calls w _ g [(⟨xa, 1, (⟨⟨#[97]⟩, 1, 1, ⟨#[]⟩⟩ : E)⟩ : Nd), ⟨xb, 2, (⟨⟨#[98]⟩, 1, 1, ⟨#[]⟩⟩ : E)⟩] 2 2 (HI3.out.below (below_alloc (Below.refl _ _) _))).mono ?_; rintro e w4 ⟨rfl, rfl⟩) | (go_at_call 28; refine (height_calls w _ g [(⟨xa, 1, (⟨⟨#[97]⟩, 1, 1, ⟨#[]⟩⟩ : E)⟩ : Nd), ⟨xb, 2, (⟨⟨#[98]⟩, 1, 1, ⟨#[]⟩⟩ : E)⟩] 2 2 (HI3.out.below (below_alloc (Below.refl _ _) _))).mono ?_; rintro e w4 ⟨rfl, rfl⟩))
  go_ret
  exact ⟨rfl, below_alloc HB.out _⟩
end Go.Proofs.YtchgpcgolgcfdaaGreat.Sk
end
section
namespace Go.Proofs.YtchgpcgolgcfdaaGreat.Sk
open Go Go.RowKit Go.Proofs.YtchgpcgolgcfdaaGreat.PNum Go.Proofs.YtchgpcgolgcfdaaGreat.SkM Go.Proofs.YtchgpcgolgcfdaaGreatW.PrintWords Go.Proofs.YtchgpcgolgcfdaaGreatW.PrintLast Go.Proofs.YtchgpcgolgcfdaaGreatW.PrintMore
set_option linter.unusedVariables false
set_option linter.unusedSimpArgs false
structure JN (w V : World) (eb zb : Nat) (e : E) : Prop where
  b1 : V.heap[eb]? = some (.cells #[.string (e).f0, .int .u64 (e).f1, .int .i64 (e).f2, .string (e).f3] 32 (0, 0))
  b2 : V.heap[zb]? = some (.cells #[.string ⟨#[]⟩, .int .u64 0, .int .i64 0, .string ⟨#[]⟩] 32 (0, 0))
  bel : Below w.heap.size w V
theorem JN.below {w V V1 : World} {eb zb : Nat} {e : E} (h : JN w V eb zb e) (hb : Below V.heap.size V V1) : JN w V1 eb zb e := ⟨blk_below h.b1 hb, blk_below h.b2 hb, below_step h.bel hb⟩
theorem JN.drew {w V : World} {eb zb : Nat} {e : E} (h : JN w V eb zb e) : JN w V.drew eb zb e := h.below (below_drew (Below.refl _ _))
def CN (w V : World) (eb zb : Nat) (e : E) : Prop := V.cell? ⟨eb, 0, none⟩ = some (.string e.f0) ∧ V.cell? ⟨eb, 1, none⟩ = some (.int .u64 e.f1) ∧ V.cell? ⟨eb, 2, none⟩ = some (.int .i64 e.f2) ∧ V.cell? ⟨eb, 3, none⟩ = some (.string e.f3) ∧ V.cell? ⟨zb, 0, none⟩ = some (.string ⟨#[]⟩) ∧ V.cell? ⟨zb, 1, none⟩ = some (.int .u64 0) ∧ V.cell? ⟨zb, 2, none⟩ = some (.int .i64 0) ∧ V.cell? ⟨zb, 3, none⟩ = some (.string ⟨#[]⟩) ∧ Aside0 (JN w V eb zb e)
theorem JN.out {w V : World} {eb zb : Nat} {e : E} (h : JN w V eb zb e) : CN w V eb zb e := ⟨(blk_cell h.b1 0).trans rfl, (blk_cell h.b1 1).trans rfl, (blk_cell h.b1 2).trans rfl, (blk_cell h.b1 3).trans rfl, (blk_cell h.b2 0).trans rfl, (blk_cell h.b2 1).trans rfl, (blk_cell h.b2 2).trans rfl, (blk_cell h.b2 3).trans rfl, ⟨h⟩⟩
theorem JN.stepB {w V V1 : World} {eb zb : Nat} {e : E} (hb : Below V.heap.size V V1) (h : CN w V eb zb e) : CN w V1 eb zb e := (h.2.2.2.2.2.2.2.2.out.below hb).out
theorem JN.stepD {w V V1 : World} {eb zb : Nat} {e : E} (h : JN w V eb zb e) (hb : Below V.drew.heap.size V.drew V1) : CN w V1 eb zb e := (h.drew.below hb).out
end Go.Proofs.YtchgpcgolgcfdaaGreat.Sk
end
section
namespace Go.Proofs.YtchgpcgolgcfdaaGreat.Sk
open Go Go.RowKit Go.Proofs.YtchgpcgolgcfdaaGreat.PNum Go.Proofs.YtchgpcgolgcfdaaGreat.SkM Go.Proofs.YtchgpcgolgcfdaaGreatW.PrintWords Go.Proofs.YtchgpcgolgcfdaaGreatW.PrintLast Go.Proofs.YtchgpcgolgcfdaaGreatW.PrintMore
open PuIkC Go.Proofs.YtchgpcgolgcfdaaGreatW.Pu
set_option linter.unusedVariables false
set_option linter.unusedSimpArgs false
theorem less_cl : ∀ (x y : List UInt8), Op.bytesLess x y = decide (Lib.compareBytes x y = -1)
  | [], [] => rfl
  | [], b :: y => rfl
  | a :: x, [] => rfl
  | a :: x, b :: y => by
    rw [Op.bytesLess, less_cl x y, Lib.compareBytes]
    by_cases h : a < b
    · simp [h]
    · by_cases k : b < a
      · have hn : ¬ a = b := fun q => absurd (q ▸ k) (UInt8.lt_irrefl _)
        simp [h, k, hn]
      · have hab : a = b := UInt8.le_antisymm (UInt8.not_lt.1 k) (UInt8.not_lt.1 h)
        subst hab
        simp [h]
theorem lt_cb (key : ByteArray) (e : E) : lt key e = decide (cb e.f0 key = -1) := by
  unfold lt cb
  rw [less_cl, YtchgpcgolgcfdaaGreatW.Pu.toList_data, YtchgpcgolgcfdaaGreatW.Pu.toList_data]
theorem cb_trans {a b c : ByteArray} (h : cb a b = -1) (k : cb b c = -1) : cb a c = -1 := cl_trans _ _ _ h k
theorem ce_cases {a b : E} (h : ce a b = -1) : cb a.f0 b.f0 = -1 ∨ (a.f0 = b.f0 ∧ b.f1 < a.f1) := by
  unfold ce at h
  split at h
  · rename_i h0
    refine Or.inr ⟨(cb_zero _ _).1 h0, ?_⟩
    unfold cs at h
    split at h
    · assumption
    · split at h <;> cases h
  · exact Or.inl h
theorem lt_down (key : ByteArray) (x y : E) (h : ce x y = -1) (k : lt key y = true) : lt key x = true := by
  rw [lt_cb] at k ⊢
  have k1 := of_decide_eq_true k
  refine decide_eq_true ?_
  rcases ce_cases h with h | ⟨h, _⟩
  · exact cb_trans h k1
  · rw [h]; exact k1
theorem ce_down (e : E) (x y : E) (h : ce x y = -1) (k : decide (ce y e < 0) = true) : decide (ce x e < 0) = true := by
  have k1 := of_decide_eq_true k
  refine decide_eq_true ?_
  have k2 : ce y e = -1 := by rcases ce_range y e with q | q | q <;> omega
  rw [ce_trans h k2]
  decide
def Srt (ns : List Nd) : Prop := ns.Pairwise fun x y => ce x.e y.e = -1
theorem split_by (p : E → Bool) (hp : ∀ x y, ce x y = -1 → p y = true → p x = true) : ∀ {ns : List Nd}, Srt ns → ∃ pre post, ns = pre ++ post ∧ (∀ x ∈ pre, p x.e = true) ∧ (∀ x ∈ post, p x.e = false)
  | [], _ => ⟨[], [], rfl, (fun _ h => by cases h), (fun _ h => by cases h)⟩
  | x :: r, h => by
    have h2 := List.pairwise_cons.1 h
    cases hx : p x.e with
    | true =>
      obtain ⟨pre, post, rfl, h3, h4⟩ := split_by p hp h2.2
      refine ⟨x :: pre, post, rfl, fun y hy => ?_, h4⟩
      rcases List.mem_cons.1 hy with rfl | hy
      · exact hx
      · exact h3 y hy
    | false =>
      refine ⟨[], x :: r, rfl, (fun _ h => by cases h), fun y hy => ?_⟩
      rcases List.mem_cons.1 hy with rfl | hy
      · exact hx
      · cases hp2 : p y.e with
        | false => rfl
        | true => rw [hp _ _ (h2.1 y hy) hp2] at hx; cases hx
def ins (e : E) : List E → List E
  | [] => [e]
  | x :: r => if ce x e < 0 then x :: ins e r else if ce x e = 0 then x :: r else e :: x :: r
def insV (e : E) (l : List E) : List E := if valid e.f0 e.f2 e.f3 = true then ins e l else l
def fresh (e : E) (l : List E) : Bool := valid e.f0 e.f2 e.f3 && l.all fun x => ce x e != 0
theorem ins_app (e : E) : ∀ (p q : List E), (∀ x ∈ p, ce x e < 0) → ins e (p ++ q) = p ++ ins e q
  | [], _, _ => rfl
  | x :: r, q, h => by
    rw [List.cons_append, ins, if_pos (h x (by simp)), ins_app e r q (fun y hy => h y (by simp [hy]))]
    rfl
structure OkL (w0 V : World) (g : Nat) (ns : List Nd) : Prop where
  isl : ∃ t, IsL w0 V g ns (ns.length : Int) t
  srt : Srt ns
  hts : ∀ x ∈ ns, 1 ≤ x.h
theorem OkL.below {w0 V V1 : World} {g : Nat} {ns : List Nd} (h : OkL w0 V g ns) (hb : Below V.heap.size V V1) : OkL w0 V1 g ns := by
  obtain ⟨⟨t, h1⟩, h2, h3⟩ := h
  exact ⟨⟨t, h1.below hb⟩, h2, h3⟩
theorem OkL.lt {w0 V : World} {g : Nat} {ns : List Nd} (h : OkL w0 V g ns) : ∀ k, (k = g ∨ k ∈ blocks ns) → k < V.heap.size := by
  obtain ⟨⟨t, h1⟩, _, _⟩ := h
  rintro k (rfl | hk)
  · exact blk_lt h1.hd
  · obtain ⟨x, hx, rfl⟩ := List.mem_map.1 hk
    exact h1.ch.lt x hx
theorem OkL.far {w0 V V1 : World} {g : Nat} {ns : List Nd} (h : OkL w0 V g ns) (hk : ∀ k, (k = g ∨ k ∈ blocks ns) → V1.heap[k]? = V.heap[k]?) : OkL w0 V1 g ns := by
  obtain ⟨⟨t, h1⟩, h2, h3⟩ := h
  exact ⟨⟨t, (hk g (Or.inl rfl)).trans h1.hd, h1.ch.congr (fun x hx => hk x.b (Or.inr (List.mem_map.2 ⟨x, hx, rfl⟩))), h1.nd, h1.gg, h1.gb⟩, h2, h3⟩
theorem len_ok (w0 w : World) (g : Nat) (ns : List Nd) (h : OkL w0 w g ns) :
    Calls Tryz.prog 21 #[.pointer (some ⟨g, 0, none⟩)] w fun e w' => e = .returned (.int .i64 (ns.length : Int)) ∧ w' = w := by
  obtain ⟨t, h1⟩ := h.isl
  exact len_calls w0 w g ns _ t h1
theorem all_ok (w0 w : World) (g : Nat) (ns : List Nd) (h : OkL w0 w g ns) (hl : ns.length < 1000000) :
    Calls Tryz.prog 16 #[.pointer (some ⟨g, 0, none⟩)] w fun e w' => ∃ v, e = .returned v ∧ Kd.R k32 32 w' w.heap.size (fun _ => True) v (ns.map (·.e)) ∧ Below w.heap.size w w' := by
  obtain ⟨t, h1⟩ := h.isl
  exact all_calls w0 w g ns _ t h1 h.hts hl
def fromL (key : ByteArray) (l : List E) : List E := l.dropWhile fun x => lt key x
theorem drop_split {p : E → Bool} : ∀ {pre post : List Nd}, (∀ x ∈ pre, p x.e = true) → (∀ x ∈ post, p x.e = false) → ((pre ++ post).map (·.e)).dropWhile p = post.map (·.e)
  | [], [], _, _ => rfl
  | [], x :: r, _, h => by
    rw [List.nil_append, List.map_cons, List.dropWhile_cons, h x (by simp)]
    rfl
  | x :: p1, q, h, k => by
    rw [List.cons_append, List.map_cons, List.dropWhile_cons, h x (by simp), if_pos rfl]
    exact drop_split (fun y hy => h y (by simp [hy])) k
theorem from_ok (w0 w : World) (g : Nat) (ns : List Nd) (key : ByteArray) (h : OkL w0 w g ns) (hl : ns.length < 1000000) :
    Calls Tryz.prog 17 #[.pointer (some ⟨g, 0, none⟩), .string key] w fun e w' => ∃ v, e = .returned v ∧ Kd.R k32 32 w' w.heap.size (fun _ => True) v (fromL key (ns.map (·.e))) ∧ Below w.heap.size w w' := by
  obtain ⟨t, h1⟩ := h.isl
  obtain ⟨pre, post, rfl, hp, hq⟩ := split_by (fun x => lt key x) (lt_down key) h.srt
  unfold fromL
  rw [drop_split hp hq]
  exact from_calls w0 w g pre post _ t key h1 hp hq h.hts (by simp at hl; omega)
def pickL (key : ByteArray) (s : Int) : List E → Option E
  | [] => none
  | x :: r => if x.f0 = key ∧ x.f1 ≤ s then some x else pickL key s r
theorem pick_ahead {key : ByteArray} {s : Int} {q : List E} : ∀ {p : List Nd}, (∀ x ∈ p, lt key x.e = true) → pickL key s (p.map (·.e) ++ q) = pickL key s q
  | [], _ => rfl
  | x :: r, h => by
    rw [List.map_cons, List.cons_append, pickL, if_neg, pick_ahead (fun y hy => h y (by simp [hy]))]
    rintro ⟨k, _⟩
    have h1 := h x (by simp)
    rw [lt_cb, k] at h1
    have h2 := of_decide_eq_true h1
    rw [(cb_zero key key).2 rfl] at h2
    omega
theorem pick_none {key : ByteArray} {s : Int} : ∀ {p : List Nd}, (∀ x ∈ p, x.e.f0 ≠ key) → pickL key s (p.map (·.e)) = none
  | [], _ => rfl
  | x :: r, h => by
    rw [List.map_cons, pickL, if_neg (fun k => h x (by simp) k.1)]
    exact pick_none (fun y hy => h y (by simp [hy]))
theorem get_pick {key : ByteArray} {s : Int} : ∀ {q : List Nd}, Srt q → (∀ x ∈ q, lt key x.e = false) → getL key s q = pickL key s (q.map (·.e))
  | [], _, _ => rfl
  | x :: r, hs, h => by
    have h2 := List.pairwise_cons.1 hs
    rw [getL, List.map_cons, pickL]
    by_cases k : x.e.f0.toList = key.toList
    · have k2 := tl_ext.1 k
      rw [if_pos k]
      by_cases k3 : x.e.f1 ≤ s
      · rw [if_pos k3, if_pos ⟨k2, k3⟩]
      · rw [if_neg k3, if_neg (fun z => k3 z.2)]
        exact get_pick h2.2 (fun y hy => h y (by simp [hy]))
    · have k2 : ¬ x.e.f0 = key := fun z => k (by rw [z])
      rw [if_neg k, if_neg (fun z => k2 z.1)]
      refine (pick_none fun y hy z => ?_).symm
      have h3 := h x (by simp)
      rw [lt_cb] at h3
      have h4 := of_decide_eq_false h3
      rcases ce_cases (h2.1 y hy) with h5 | ⟨h5, _⟩
      · rw [z] at h5; exact h4 h5
      · exact k2 (h5.trans z)
theorem get_ok (w0 w : World) (g : Nat) (ns : List Nd) (key : ByteArray) (s : Int) (h : OkL w0 w g ns) :
    Calls Tryz.prog 22 #[.pointer (some ⟨g, 0, none⟩), .string key, .int .u64 s] w fun e w' => e = .returned (.tuple #[.agg #[.string ((pickL key s (ns.map (·.e))).getD zE).f0, .int .u64 ((pickL key s (ns.map (·.e))).getD zE).f1, .int .i64 ((pickL key s (ns.map (·.e))).getD zE).f2, .string ((pickL key s (ns.map (·.e))).getD zE).f3], .bool (pickL key s (ns.map (·.e))).isSome]) ∧ Below w.heap.size w w' := by
  obtain ⟨t, h1⟩ := h.isl
  obtain ⟨pre, post, rfl, hp, hq⟩ := split_by (fun x => lt key x) (lt_down key) h.srt
  have h2 : pickL key s ((pre ++ post).map (·.e)) = getL key s post := by
    rw [List.map_append, pick_ahead hp, get_pick (List.pairwise_append.1 h.srt).2.1 hq]
  rw [h2]
  exact get_calls w0 w g pre post _ t key h1 hp hq h.hts s
theorem srt_map {ns : List Nd} (h : Srt ns) : (ns.map (·.e)).Pairwise (fun x y => ce x y = -1) := List.pairwise_map.2 h
def FrO (w V : World) (g : Nat) (ns : List Nd) : Prop := ∀ k, k < w.heap.size → k ≠ g → k ∉ blocks ns → V.heap[k]? = w.heap[k]?
end Go.Proofs.YtchgpcgolgcfdaaGreat.Sk
end
