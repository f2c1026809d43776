/- A skip list in memory, told by the list of its nodes in order: each node's block, its height and its version; what each cell of each node holds. -/
import Derived.Test.YtchgpcgolgcfdaaPNumx0
import Derived.Test.YtchgpcgolgcfdaaWRd
import Derived.Carry
namespace Go.Proofs.Ytchgpcgolgcfdaa.RkM
open Go Go.RowKit Go.Proofs.Ytchgpcgolgcfdaa.PNum Go.Proofs.YtchgpcgolgcfdaaW.PrintWords Go.Proofs.YtchgpcgolgcfdaaW.PrintMore
abbrev E := S29
structure Nd where
  b : Nat
  h : Nat
  e : E
def ptr (o : Option Nat) : Value := .pointer (o.map fun b => ⟨b, 0, none⟩)
/-- The first node that reaches a level. -/
def first : List Nd → Nat → Option Nat
  | [], _ => none
  | x :: r, L => if L < x.h then some x.b else first r L
def at_ (x : Nd) (r : List Nd) (L : Nat) : Value := ptr (if L < x.h then first r L else none)
/-- What a node's block holds; r: the nodes behind it. -/
def cellsN (x : Nd) (r : List Nd) : Array Value := #[.string x.e.f0, .int .u64 x.e.f1, .int .i64 x.e.f2, .string x.e.f3, at_ x r 0, at_ x r 1, at_ x r 2, at_ x r 3, at_ x r 4, at_ x r 5, at_ x r 6, at_ x r 7]
/-- The block that a list stands in: its type, the cells behind the list. -/
structure Root where
  ty : Nat
  tl : List Value
  ne : ty ≠ 87
  na : ty ≠ 85
/-- What the list's own block holds: a node's cells without a version, how many nodes there are, the greatest height. -/
def cellsL (R : Root) (ns : List Nd) (n t : Int) : Array Value := ⟨[.string ⟨#[]⟩, .int .u64 0, .int .i64 0, .string ⟨#[]⟩, ptr (first ns 0), ptr (first ns 1), ptr (first ns 2), ptr (first ns 3), ptr (first ns 4), ptr (first ns 5), ptr (first ns 6), ptr (first ns 7), .int .i64 n, .int .i64 t] ++ R.tl⟩
def Ch (V : World) : List Nd → Prop
  | [] => True
  | x :: r => V.heap[x.b]? = some (.cells (cellsN x r) 87 (0, 0)) ∧ Ch V r
theorem Ch.congr {V V' : World} : ∀ {ns : List Nd}, Ch V ns → (∀ x ∈ ns, V'.heap[x.b]? = V.heap[x.b]?) → Ch V' ns
  | [], _, _ => trivial
  | x :: r, h, hk => ⟨(hk x (by simp)).trans h.1, Ch.congr h.2 (fun y hy => hk y (by simp [hy]))⟩
theorem Ch.tail {V : World} : ∀ {p q : List Nd}, Ch V (p ++ q) → Ch V q
  | [], _, h => h
  | _ :: _, _, h => Ch.tail h.2
theorem Ch.blk {V : World} {p q : List Nd} {x : Nd} (h : Ch V (p ++ x :: q)) : V.heap[x.b]? = some (.cells (cellsN x q) 87 (0, 0)) := (Ch.tail h).1
theorem Ch.lt {V : World} : ∀ {ns : List Nd}, Ch V ns → ∀ x ∈ ns, x.b < V.heap.size
  | y :: r, h, x, hx => by
    rcases List.mem_cons.1 hx with rfl | hx
    · exact blk_lt h.1
    · exact Ch.lt h.2 x hx
/-- The last node of a list that reaches a level. -/
def lastAt : List Nd → Nat → Option Nat
  | [], _ => none
  | x :: r, L => match lastAt r L with
    | some b => some b
    | none => if L < x.h then some x.b else none
theorem first_app (p q : List Nd) (L : Nat) : first (p ++ q) L = (first p L).or (first q L) := by
  induction p with
  | nil => rfl
  | cons x r ih =>
    rw [List.cons_append, first, first]
    split
    · rfl
    · exact ih
theorem first_none_iff (p : List Nd) (L : Nat) : first p L = none ↔ lastAt p L = none := by
  induction p with
  | nil => simp [first, lastAt]
  | cons x r ih =>
    rw [first, lastAt]
    by_cases h : L < x.h
    · rw [if_pos h, if_pos h]
      cases lastAt r L <;> simp
    · rw [if_neg h, if_neg h, ih]
      cases lastAt r L <;> simp
theorem first_mem {p : List Nd} {L b : Nat} (h : first p L = some b) : ∃ p1 x p2, p = p1 ++ x :: p2 ∧ x.b = b ∧ L < x.h ∧ first p1 L = none := by
  induction p with
  | nil => simp [first] at h
  | cons x r ih =>
    rw [first] at h
    by_cases hl : L < x.h
    · rw [if_pos hl] at h
      exact ⟨[], x, r, rfl, Option.some.inj h, hl, rfl⟩
    · rw [if_neg hl] at h
      obtain ⟨p1, y, p2, rfl, h1, h2, h3⟩ := ih h
      exact ⟨x :: p1, y, p2, rfl, h1, h2, by rw [first, if_neg hl, h3]⟩
theorem lastAt_mem {p : List Nd} {L b : Nat} (h : lastAt p L = some b) : ∃ x ∈ p, x.b = b ∧ L < x.h := by
  induction p with
  | nil => simp [lastAt] at h
  | cons x r ih =>
    rw [lastAt] at h
    cases hr : lastAt r L with
    | some c =>
      rw [hr] at h
      obtain ⟨y, hy, h1, h2⟩ := ih (by rw [hr]; exact h)
      exact ⟨y, by simp [hy], h1, h2⟩
    | none =>
      rw [hr] at h
      simp only at h
      split at h
      · exact ⟨x, by simp, Option.some.inj h, by assumption⟩
      · cases h
theorem first_step (p post : List Nd) (x : Nat) (e : E) (i L : Nat) (h : L ≠ i ∨ first p i ≠ none) : first (p ++ ⟨x, i, e⟩ :: post) L = first (p ++ ⟨x, i + 1, e⟩ :: post) L := by
  rw [first_app, first_app, first, first]
  by_cases hL : L = i
  · subst hL
    obtain ⟨b, hb⟩ := Option.ne_none_iff_exists'.1 (h.resolve_left (fun z => z rfl))
    rw [hb]
    rfl
  · congr 1
    by_cases h2 : L < i
    · rw [if_pos h2, if_pos (show L < i + 1 by omega)]
    · rw [if_neg h2, if_neg (show ¬ L < i + 1 by omega)]
theorem first_hit (p post : List Nd) (x : Nat) (e : E) (i : Nat) (h : first p i = none) : first (p ++ ⟨x, i + 1, e⟩ :: post) i = some x ∧ first (p ++ ⟨x, i, e⟩ :: post) i = first post i := by
  rw [first_app, first_app, first, first, h, if_pos (show i < i + 1 by omega), if_neg (Nat.lt_irrefl i)]
  exact ⟨rfl, by simp⟩
theorem cellsN_same {y : Nd} {r r' : List Nd} (h : ∀ L, L < y.h → first r L = first r' L) : cellsN y r = cellsN y r' := by
  have g : ∀ L, at_ y r L = at_ y r' L := fun L => by
    unfold at_
    by_cases hl : L < y.h
    · rw [if_pos hl, if_pos hl, h L hl]
    · rw [if_neg hl, if_neg hl]
  simp [cellsN, g]
theorem cellsN_set {y : Nd} {r r' : List Nd} {i : Nat} (hi : i < 8) (hy : i < y.h) (h : ∀ L, L ≠ i → first r L = first r' L) : (cellsN y r).setIfInBounds (4 + i) (ptr (first r' i)) = cellsN y r' := by
  have g : ∀ L, L ≠ i → at_ y r L = at_ y r' L := fun L hL => by
    unfold at_
    by_cases hl : L < y.h
    · rw [if_pos hl, if_pos hl, h L hL]
    · rw [if_neg hl, if_neg hl]
  have g2 : at_ y r' i = ptr (first r' i) := by unfold at_; rw [if_pos hy]
  rw [← g2]
  match i, hi with
  | 0, _ => simp [cellsN, g 1 (by omega), g 2 (by omega), g 3 (by omega), g 4 (by omega), g 5 (by omega), g 6 (by omega), g 7 (by omega)]
  | 1, _ => simp [cellsN, g 0 (by omega), g 2 (by omega), g 3 (by omega), g 4 (by omega), g 5 (by omega), g 6 (by omega), g 7 (by omega)]
  | 2, _ => simp [cellsN, g 0 (by omega), g 1 (by omega), g 3 (by omega), g 4 (by omega), g 5 (by omega), g 6 (by omega), g 7 (by omega)]
  | 3, _ => simp [cellsN, g 0 (by omega), g 1 (by omega), g 2 (by omega), g 4 (by omega), g 5 (by omega), g 6 (by omega), g 7 (by omega)]
  | 4, _ => simp [cellsN, g 0 (by omega), g 1 (by omega), g 2 (by omega), g 3 (by omega), g 5 (by omega), g 6 (by omega), g 7 (by omega)]
  | 5, _ => simp [cellsN, g 0 (by omega), g 1 (by omega), g 2 (by omega), g 3 (by omega), g 4 (by omega), g 6 (by omega), g 7 (by omega)]
  | 6, _ => simp [cellsN, g 0 (by omega), g 1 (by omega), g 2 (by omega), g 3 (by omega), g 4 (by omega), g 5 (by omega), g 7 (by omega)]
  | 7, _ => simp [cellsN, g 0 (by omega), g 1 (by omega), g 2 (by omega), g 3 (by omega), g 4 (by omega), g 5 (by omega), g 6 (by omega)]
theorem cellsL_set {R : Root} {r r' : List Nd} {i : Nat} {n t : Int} (hi : i < 8) (h : ∀ L, L ≠ i → first r L = first r' L) : (cellsL R r n t).setIfInBounds (4 + i) (ptr (first r' i)) = cellsL R r' n t := by
  match i, hi with
  | 0, _ => simp [cellsL, h 1 (by omega), h 2 (by omega), h 3 (by omega), h 4 (by omega), h 5 (by omega), h 6 (by omega), h 7 (by omega)]
  | 1, _ => simp [cellsL, h 0 (by omega), h 2 (by omega), h 3 (by omega), h 4 (by omega), h 5 (by omega), h 6 (by omega), h 7 (by omega)]
  | 2, _ => simp [cellsL, h 0 (by omega), h 1 (by omega), h 3 (by omega), h 4 (by omega), h 5 (by omega), h 6 (by omega), h 7 (by omega)]
  | 3, _ => simp [cellsL, h 0 (by omega), h 1 (by omega), h 2 (by omega), h 4 (by omega), h 5 (by omega), h 6 (by omega), h 7 (by omega)]
  | 4, _ => simp [cellsL, h 0 (by omega), h 1 (by omega), h 2 (by omega), h 3 (by omega), h 5 (by omega), h 6 (by omega), h 7 (by omega)]
  | 5, _ => simp [cellsL, h 0 (by omega), h 1 (by omega), h 2 (by omega), h 3 (by omega), h 4 (by omega), h 6 (by omega), h 7 (by omega)]
  | 6, _ => simp [cellsL, h 0 (by omega), h 1 (by omega), h 2 (by omega), h 3 (by omega), h 4 (by omega), h 5 (by omega), h 7 (by omega)]
  | 7, _ => simp [cellsL, h 0 (by omega), h 1 (by omega), h 2 (by omega), h 3 (by omega), h 4 (by omega), h 5 (by omega), h 6 (by omega)]
theorem cellsL_same {R : Root} {r r' : List Nd} {n t : Int} (h : ∀ L, first r L = first r' L) : cellsL R r n t = cellsL R r' n t := by simp [cellsL, h]
/-- A node's own new level: it points to what stands behind it. -/
theorem cellsN_up {x i : Nat} {e : E} {post : List Nd} (hi : i < 8) : (cellsN ⟨x, i, e⟩ post).setIfInBounds (4 + i) (ptr (first post i)) = cellsN ⟨x, i + 1, e⟩ post := by
  have g : ∀ L, L ≠ i → at_ ⟨x, i, e⟩ post L = at_ ⟨x, i + 1, e⟩ post L := fun L hL => by
    unfold at_
    by_cases hl : L < i
    · rw [if_pos hl, if_pos (show L < i + 1 by omega)]
    · rw [if_neg hl, if_neg (show ¬ L < i + 1 by omega)]
  have g2 : at_ ⟨x, i + 1, e⟩ post i = ptr (first post i) := by unfold at_; rw [if_pos (show i < i + 1 by omega)]
  rw [← g2]
  match i, hi with
  | 0, _ => simp [cellsN, g 1 (by omega), g 2 (by omega), g 3 (by omega), g 4 (by omega), g 5 (by omega), g 6 (by omega), g 7 (by omega)]
  | 1, _ => simp [cellsN, g 0 (by omega), g 2 (by omega), g 3 (by omega), g 4 (by omega), g 5 (by omega), g 6 (by omega), g 7 (by omega)]
  | 2, _ => simp [cellsN, g 0 (by omega), g 1 (by omega), g 3 (by omega), g 4 (by omega), g 5 (by omega), g 6 (by omega), g 7 (by omega)]
  | 3, _ => simp [cellsN, g 0 (by omega), g 1 (by omega), g 2 (by omega), g 4 (by omega), g 5 (by omega), g 6 (by omega), g 7 (by omega)]
  | 4, _ => simp [cellsN, g 0 (by omega), g 1 (by omega), g 2 (by omega), g 3 (by omega), g 5 (by omega), g 6 (by omega), g 7 (by omega)]
  | 5, _ => simp [cellsN, g 0 (by omega), g 1 (by omega), g 2 (by omega), g 3 (by omega), g 4 (by omega), g 6 (by omega), g 7 (by omega)]
  | 6, _ => simp [cellsN, g 0 (by omega), g 1 (by omega), g 2 (by omega), g 3 (by omega), g 4 (by omega), g 5 (by omega), g 7 (by omega)]
  | 7, _ => simp [cellsN, g 0 (by omega), g 1 (by omega), g 2 (by omega), g 3 (by omega), g 4 (by omega), g 5 (by omega), g 6 (by omega)]
def blocks (ns : List Nd) : List Nat := ns.map (·.b)
/-- One level more of a node that is put in: V1 is V with the node's cell turned, V2 is V1 with the cell ahead turned. -/
theorem Ch.step {V V2 : World} {post : List Nd} {x i : Nat} {e : E} (hi : i < 8) : ∀ {pre : List Nd}, Ch V (pre ++ ⟨x, i, e⟩ :: post) → (blocks (pre ++ ⟨x, i, e⟩ :: post)).Nodup →
    V2.heap[x]? = some (.cells (cellsN ⟨x, i + 1, e⟩ post) 87 (0, 0)) →
    (∀ k ∈ blocks (pre ++ post), lastAt pre i ≠ some k → V2.heap[k]? = V.heap[k]?) →
    (∀ k cs, lastAt pre i = some k → V.heap[k]? = some (.cells cs 87 (0, 0)) → V2.heap[k]? = some (.cells (cs.setIfInBounds (4 + i) (ptr (some x))) 87 (0, 0))) →
    Ch V2 (pre ++ ⟨x, i + 1, e⟩ :: post)
  | [], h, hn, hx, hk, _ => ⟨hx, h.2.congr (fun y hy => hk y.b (by simpa [blocks] using ⟨y, hy, rfl⟩) (by simp [lastAt]))⟩
  | y :: p, h, hn, hx, hk, ha => by
    have hn' : (blocks (p ++ ⟨x, i, e⟩ :: post)).Nodup := (List.nodup_cons.1 hn).2
    have hny : y.b ∉ blocks (p ++ ⟨x, i, e⟩ :: post) := (List.nodup_cons.1 hn).1
    have hb := h.1
    by_cases hp : lastAt p i = none
    · have hf := (first_none_iff p i).2 hp
      have tl : Ch V2 (p ++ ⟨x, i + 1, e⟩ :: post) := by
        refine Ch.step hi h.2 hn' hx (fun k hk2 hl => hk k (by simp only [blocks, List.cons_append, List.map_cons, List.mem_cons] at hk2 ⊢; exact Or.inr hk2) ?_) (fun k cs hl => by rw [hp] at hl; cases hl)
        rw [lastAt, hp]
        simp only
        split
        · intro z
          injection z with z
          subst z
          apply hny
          simp only [blocks, List.map_append, List.mem_append, List.map_cons, List.mem_cons] at hk2 ⊢
          rcases hk2 with hk2 | hk2
          · exact Or.inl hk2
          · exact Or.inr (Or.inr hk2)
        · simp
      refine ⟨?_, tl⟩
      by_cases hy : i < y.h
      · have hl : lastAt (y :: p) i = some y.b := by rw [lastAt, hp]; simp only; rw [if_pos hy]
        have h2 := ha y.b _ hl hb
        rw [h2]
        congr 2
        have h3 := first_hit p post x e i hf
        rw [← h3.1]
        exact cellsN_set hi hy (fun L hL => first_step p post x e i L (Or.inl hL))
      · have hl : lastAt (y :: p) i = none := by rw [lastAt, hp]; simp only; rw [if_neg hy]
        have h2 := hk y.b (by simp [blocks]) (by rw [hl]; simp)
        show V2.heap[y.b]? = _
        rw [h2, hb]
        congr 2
        exact cellsN_same (fun L hL => first_step p post x e i L (Or.inl (by omega)))
    · have hl : lastAt (y :: p) i = lastAt p i := by
        rw [lastAt]
        cases h4 : lastAt p i with
        | none => exact absurd h4 hp
        | some c => rfl
      have tl : Ch V2 (p ++ ⟨x, i + 1, e⟩ :: post) := Ch.step hi h.2 hn' hx (fun k hk2 hl2 => hk k (by simp only [blocks, List.cons_append, List.map_cons, List.mem_cons] at hk2 ⊢; exact Or.inr hk2) (by rw [hl]; exact hl2)) (fun k cs hl2 => ha k cs (by rw [hl]; exact hl2))
      refine ⟨?_, tl⟩
      have h2 := hk y.b (by simp [blocks]) (by
        rw [hl]
        intro z
        obtain ⟨u, hu, hub, _⟩ := lastAt_mem z
        apply hny
        simp only [blocks, List.map_append, List.mem_append]
        exact Or.inl (List.mem_map.2 ⟨u, hu, hub⟩))
      show V2.heap[y.b]? = _
      rw [h2, hb]
      congr 2
      exact cellsN_same (fun L hL => first_step p post x e i L (Or.inr (fun z => hp ((first_none_iff p i).1 z))))
end Go.Proofs.Ytchgpcgolgcfdaa.RkM
