/- A row of one's own with a mark behind its end (lists that are lent). -/
import Derived.Test.YtkpjipfjhniddaaWWords
import Derived.Test.YtkpjipfjhniddaaWMore
import Derived.Test.YtkpjipfjhniddaaWLast
namespace Go.Proofs.Ytkpjipfjhniddaa.Lent
open Go Go.RowKit Go.Proofs.YtkpjipfjhniddaaW.PrintWords Go.Proofs.YtkpjipfjhniddaaW.PrintLast Go.Proofs.YtkpjipfjhniddaaW.PrintMore
section
variable {α : Type} {d : Kd α} {mark : α} {e : Nat} {w w1 : World} {base : Nat} {ok : Nat → Prop} {v : Value} {xs : List α}
def RM (d : Kd α) (mark : α) (e : Nat) (w : World) (base : Nat) (ok : Nat → Prop) (v : Value) (xs : List α) : Prop := ∃ A c, v = .slice A xs.length c ∧ d.R e w base ok (.slice A (xs.length + 1) c) (xs ++ [mark])
/-- A row that is read, and the mark behind it. -/
def CM (d : Kd α) (mark : α) (w : World) (A : Option Addr) (n : Nat) (xs : List α) : Prop := d.C w A (n + 1) (xs ++ [mark]) ∧ d.C w A n xs
theorem R_lower {base' : Nat} (h : RM d mark e w base ok v xs) (hb : base' ≤ base) : RM d mark e w base' ok v xs := by
  obtain ⟨A, c, hv, hr⟩ := h
  exact ⟨A, c, hv, Kd.R_lower hr hb⟩
theorem R_below (h : RM d mark e w base ok v xs) (hb : Below w.heap.size w w1) : RM d mark e w1 base ok v xs := by
  obtain ⟨A, c, hv, hr⟩ := h
  exact ⟨A, c, hv, Kd.R_below hr hb⟩
theorem R_alloc (h : RM d mark e w base ok v xs) (o : Obj) : RM d mark e (w.alloc o) base ok v xs := R_below h (below_alloc (Below.refl _ _) o)
theorem R_drew (h : RM d mark e w base ok v xs) : RM d mark e w.drew base ok v xs := R_below h (below_drew (Below.refl _ _))
theorem R_drewN (h : RM d mark e w base ok v xs) (m : Nat) : RM d mark e (w.drewN m) base ok v xs := R_below h (pw_below_drewN (Below.refl _ _) m)
theorem R_slice (h : RM d mark e w base ok v xs) : ∃ A c, v = .slice A xs.length c := by
  obtain ⟨A, c, hv, _⟩ := h
  exact ⟨A, c, hv⟩
theorem R_R (h : RM d mark e w base ok v xs) : d.R e w base ok v xs := by
  obtain ⟨A, c, rfl, hr⟩ := h
  have := Kd.R_take (m := xs.length) hr (by simp)
  simpa using this
theorem R_reads' {A : Option Addr} {n c : Nat} (h : RM d mark e w base ok (.slice A n c) xs) : n = xs.length ∧ n ≤ c ∧ d.C w A xs.length xs := Kd.R_reads' (R_R h)
theorem R_mark {A : Option Addr} {n c : Nat} (h : RM d mark e w base ok (.slice A n c) xs) : n + 1 ≤ c ∧ CM d mark w A xs.length xs := by
  have h2 := R_reads' h
  obtain ⟨A', c', hv, hr⟩ := h
  injection hv with e1 e2 e3
  subst e1; subst e2; subst e3
  have h1 := Kd.R_reads' hr
  refine ⟨h1.2.1, ?_, h2.2.2⟩
  have := h1.2.2
  simpa using this
theorem C_alloc {A : Option Addr} {n : Nat} (h : CM d mark w A n xs) (o : Obj) : CM d mark (w.alloc o) A n xs := ⟨Kd.C_alloc h.1 o, Kd.C_alloc h.2 o⟩
theorem C_drew {A : Option Addr} {n : Nat} (h : CM d mark w A n xs) : CM d mark w.drew A n xs := ⟨Kd.C_drew h.1, Kd.C_drew h.2⟩
theorem C_drewN {A : Option Addr} {n : Nat} (h : CM d mark w A n xs) (m : Nat) : CM d mark (w.drewN m) A n xs := ⟨Kd.C_drewN h.1 m, Kd.C_drewN h.2 m⟩
end
/-- A cut beyond the length, within the room. -/
theorem cut_room {P : Program} (t e : TypeId) (kh : IntKind) {i : TypeInfo} (ht : P.underlying t = some (.slice e)) (hi : P.info? e = some i) (A : Option Addr) (n c : Nat) (j : Int) (h0 : 0 ≤ j) (hm : j ≤ c) :
    ∀ W : World, (Instr.slice t (.slice A n c) none (some (.int kh j)) none).run P W = .ok (.slice A j.toNat c) W := by
  intro W
  have hel : P.elem t = e := by simp [Program.elem, ht]
  have hu : P.underlying t = some (.slice (P.elem t)) := by rw [hel]; exact ht
  have ha : (A.map fun x => x.add 0) = A := by cases A <;> simp [Addr.add]
  rw [run_slice_h W t A n c hu kh j h0 (by omega), hel]
  simp [sizeOf, typeInfo, hi, sliced, Result.andThen, ha]
end Go.Proofs.Ytkpjipfjhniddaa.Lent
