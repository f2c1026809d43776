/- What the versions of writes put in one behind the other tell: at each number the last write of a key up to it. -/
import Derived.Test.YtapgbpghdeimpaaMt3
namespace Go.Proofs.Ytapgbpghdeimpaa.PuSee
open Go Go.RowKit Go.Proofs.Ytapgbpghdeimpaa.PNum Go.Proofs.Ytapgbpghdeimpaa.RkM Go.Proofs.Ytapgbpghdeimpaa.Rk Go.Proofs.Ytapgbpghdeimpaa.Mt Go.Proofs.YtapgbpghdeimpaaW.PrintWords Go.Proofs.YtapgbpghdeimpaaW.PrintLast Go.Proofs.YtapgbpghdeimpaaW.PrintMore
abbrev Wr := S32
/-- The last write of a key. -/
def lw (key : ByteArray) (l : List Wr) : Option Wr := l.foldl (fun o x => if x.f0 = key then some x else o) none
def vOf (o : Option Wr) : ByteArray := (o.map (·.f1)).getD ⟨#[]⟩
def dOf (o : Option Wr) : Bool := (o.map (·.f2)).getD false
theorem lw_take {key : ByteArray} {l : List Wr} {i : Nat} (h : i < l.length) : lw key (l.take (i + 1)) = if l[i].f0 = key then some l[i] else lw key (l.take i) := by
  unfold lw
  rw [List.take_succ_eq_append_getElem h, List.foldl_append]
  rfl
theorem lw_snoc (key : ByteArray) (l : List Wr) (x : Wr) : lw key (l ++ [x]) = if x.f0 = key then some x else lw key l := by simp [lw]
theorem lw_app_none {key : ByteArray} : ∀ (b a : List Wr), (∀ y ∈ b, y.f0 ≠ key) → lw key (a ++ b) = lw key a
  | [], a, _ => by rw [List.append_nil]
  | x :: r, a, h => by
    have e : a ++ x :: r = (a ++ [x]) ++ r := by simp
    rw [e, lw_app_none r (a ++ [x]) (fun y hy => h y (by simp [hy])), lw_snoc, if_neg (h x (by simp))]
theorem lw_none {key : ByteArray} {l : List Wr} (h : ∀ y ∈ l, y.f0 ≠ key) : lw key l = none := by
  have := lw_app_none l [] h
  simpa [lw] using this
theorem lw_last {key : ByteArray} {a b : List Wr} {x : Wr} (hx : x.f0 = key) (hb : ∀ y ∈ b, y.f0 ≠ key) : lw key (a ++ x :: b) = some x := by
  have e : a ++ x :: b = (a ++ [x]) ++ b := by simp
  rw [e, lw_app_none b _ hb, lw_snoc, if_pos hx]
theorem valid_of {x : Wr} (h : rightW x = true) (f : Int) (i : Nat) : PuIkC.valid (eOf f i x).f0 (eOf f i x).f2 (eOf f i x).f3 = true := by
  have h1 := of_decide_eq_true h
  unfold PuIkC.valid eOf
  refine decide_eq_true ⟨h1.1, h1.2.1, ?_⟩
  cases hx : x.f2 with
  | true => simpa using h1.2.2 hx
  | false => simp
theorem mem_ins (e y : E) : ∀ (l : List E), (∀ x ∈ l, x.f1 ≠ e.f1) → (y ∈ ins e l ↔ y = e ∨ y ∈ l)
  | [], _ => by simp [ins]
  | x :: r, h => by
    rw [ins]
    split
    · rw [List.mem_cons, mem_ins e y r (fun z hz => h z (by simp [hz])), List.mem_cons]
      constructor
      · rintro (h1 | h1 | h1)
        · exact Or.inr (Or.inl h1)
        · exact Or.inl h1
        · exact Or.inr (Or.inr h1)
      · rintro (h1 | h1 | h1)
        · exact Or.inr (Or.inl h1)
        · exact Or.inl h1
        · exact Or.inr (Or.inr h1)
    · split
      · rename_i h0
        exact absurd ((PuIkC.ce_zero x e).1 h0).2 (h x (by simp))
      · simp
theorem mem_insV {e y : E} {l : List E} (hv : PuIkC.valid e.f0 e.f2 e.f3 = true) (h : ∀ x ∈ l, x.f1 ≠ e.f1) : y ∈ insV e l ↔ y = e ∨ y ∈ l := by
  unfold insV
  rw [if_pos hv]
  exact mem_ins e y l h
/-- The version of the write at place i. -/
def ent (l : List Wr) (i : Nat) : E := eOf ((i : Int) + 1) 0 (l.getD i ⟨⟨#[]⟩, ⟨#[]⟩, false⟩)
/-- The versions of the first j writes. -/
def Has (l : List Wr) (j : Nat) (L : List E) : Prop := ∀ e, e ∈ L ↔ ∃ i, i < j ∧ e = ent l i
theorem Has.zero (l : List Wr) : Has l 0 [] := fun e => by simp
theorem ent_seq (l : List Wr) (i : Nat) : (ent l i).f1 = (i : Int) + 1 := by simp [ent, eOf]
theorem Has.step {l : List Wr} {j : Nat} {L : List E} (h : Has l j L) (hj : j < l.length) (hr : rightW l[j] = true) : Has l (j + 1) (addL ((j : Int) + 1) 0 [l[j]] L) := by
  have e0 : eOf ((j : Int) + 1) 0 l[j] = ent l j := by simp [ent, List.getD_eq_getElem?_getD, hj]
  intro e
  rw [addL, addL, mem_insV (valid_of hr _ _) (fun x hx => ?_), e0, h e]
  · constructor
    · rintro (h1 | ⟨i, hi, h1⟩)
      · exact ⟨j, by omega, h1⟩
      · exact ⟨i, by omega, h1⟩
    · rintro ⟨i, hi, h1⟩
      by_cases hij : i = j
      · subst hij
        exact Or.inl h1
      · exact Or.inr ⟨i, by omega, h1⟩
  · obtain ⟨i, hi, rfl⟩ := (h x).1 hx
    rw [e0, ent_seq, ent_seq]
    omega
theorem srt_of {w0 V : World} {g : Nat} {d : Value} {ds : List Int} {ns : List Nd} {size last : Int} (h : OkT w0 V g d ds ns size last) : (ns.map (·.e)).Pairwise (fun x y => PuIkC.ce x y = -1) := by
  obtain ⟨⟨a, ⟨_, h4, _⟩, _⟩, _⟩ := h
  exact srt_map h4
/-- What is told at a number. -/
theorem sees {l : List Wr} {L : List E} {key : ByteArray} (h : Has l l.length L) (hs : L.Pairwise (fun x y => PuIkC.ce x y = -1)) {i : Nat} (hi : i < l.length) :
    (pickL key ((i : Int) + 1) L = none ∧ lw key (l.take (i + 1)) = none) ∨ ∃ e x, pickL key ((i : Int) + 1) L = some e ∧ lw key (l.take (i + 1)) = some x ∧ e.f3 = x.f1 ∧ (e.f2 = 2 ↔ x.f2 = true) := by
  have hmem : ∀ y ∈ l.take (i + 1), ∃ k, k ≤ i ∧ y = l.getD k ⟨⟨#[]⟩, ⟨#[]⟩, false⟩ := by
    intro y hy
    obtain ⟨k, hk, rfl⟩ := List.mem_iff_getElem.1 hy
    have hk2 : k < i + 1 := by rw [List.length_take] at hk; omega
    refine ⟨k, by omega, ?_⟩
    have hkl : k < l.length := by omega
    simp [hkl]
  cases hp : pickL key ((i : Int) + 1) L with
  | none =>
    refine Or.inl ⟨rfl, lw_none fun y hy hk => ?_⟩
    obtain ⟨k, hki, rfl⟩ := hmem y hy
    obtain ⟨e, h1, _⟩ := pick_newest hs (ent l k) ((h _).2 ⟨k, by omega, rfl⟩) hk (s := (i : Int) + 1) (by rw [ent_seq]; omega)
    rw [hp] at h1
    cases h1
  | some e =>
    obtain ⟨h1, h2, h3⟩ := pick_in hp
    obtain ⟨j, hj, rfl⟩ := (h e).1 h1
    have hji : j ≤ i := by rw [ent_seq] at h3; omega
    have hgj : l.getD j ⟨⟨#[]⟩, ⟨#[]⟩, false⟩ = l[j] := by simp [hj]
    refine Or.inr ⟨_, l[j], rfl, ?_, ?_, ?_⟩
    · have hsp : l.take (i + 1) = l.take j ++ l[j] :: (l.take (i + 1)).drop (j + 1) := by
        have hj2 : j < (l.take (i + 1)).length := by rw [List.length_take]; omega
        have e1 := List.take_append_drop j (l.take (i + 1))
        rw [List.drop_eq_getElem_cons hj2, List.getElem_take, List.take_take, Nat.min_eq_left (by omega)] at e1
        exact e1.symm
      rw [hsp]
      refine lw_last ?_ (fun y hy hk => ?_)
      · have : (ent l j).f0 = key := h2
        unfold ent at this
        rw [hgj] at this
        exact this
      · obtain ⟨m, hm, rfl⟩ := List.mem_iff_getElem.1 hy
        rw [List.length_drop, List.length_take] at hm
        rw [List.getElem_drop, List.getElem_take] at hk
        have hlt : j + 1 + m < l.length := by omega
        obtain ⟨e2, h4, h5⟩ := pick_newest hs (ent l (j + 1 + m)) ((h _).2 ⟨j + 1 + m, hlt, rfl⟩) (key := key) (by unfold ent eOf; simp [hlt]; exact hk) (s := (i : Int) + 1) (by rw [ent_seq]; omega)
        rw [hp] at h4
        obtain rfl := Option.some.inj h4
        rw [ent_seq, ent_seq] at h5
        omega
    · unfold ent
      rw [hgj]
      rfl
    · unfold ent
      rw [hgj]
      unfold eOf
      cases l[j].f2 <;> simp
end Go.Proofs.Ytapgbpghdeimpaa.PuSee
