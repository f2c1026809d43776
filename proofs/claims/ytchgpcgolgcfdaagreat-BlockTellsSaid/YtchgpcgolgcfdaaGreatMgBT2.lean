/- Texts of this claim, put together and cut down to what is used (BT2). -/
import Derived.Test.YtchgpcgolgcfdaaGreatMgBT0
import Derived.Test.YtchgpcgolgcfdaaGreatMgBT1
section
namespace Go.Proofs.YtchgpcgolgcfdaaGreat
open Go Go.RowKit Go.Proofs.YtchgpcgolgcfdaaGreatW.PrintWords Go.Proofs.YtchgpcgolgcfdaaGreatW.PrintLast
abbrev J : Bool := true
abbrev Z : Bool := false
theorem a_k {p : Prop} (h : p) : Aside0 p := ⟨h⟩
theorem b_a {w W : World} (h : Below w.heap.size w W) (o : Obj) : Below w.heap.size w (W.alloc o) := below_alloc h o
theorem b_n {B : Nat} {w W : World} (h : Below B w W) (n : Nat) : Below B w (W.drewN n) := pw_below_drewN h n
theorem b_d {B : Nat} {w W : World} (h : Below B w W) : Below B w W.drew := below_drew1 h
theorem c_b {w w' : World} {a : Addr} {v : Value} (h : Below w.heap.size w w') (c : w.cell? a = some v) : w'.cell? a = some v := (h.cell (World.block_lt_of_cell? w _ c)).trans c
theorem l_s {α : Type} {l : List α} {i : Nat} {a : α} : l.toArray.setIfInBounds i a = (l.set i a).toArray := List.setIfInBounds_toArray ..
theorem l_0 {α : Type} {x : α} {xs : List α} {a : α} : (x :: xs).set 0 a = a :: xs := List.set_cons_zero
theorem l_1 {α : Type} {x : α} {xs : List α} {n : Nat} {a : α} : (x :: xs).set (n + 1) a = x :: xs.set n a := List.set_cons_succ
theorem m_a {α β : Type} {f : α → β} {l : List α} : l.toArray.map f = (l.map f).toArray := List.map_toArray ..
theorem m_c {α β : Type} {f : α → β} {a : α} {l : List α} : (a :: l).map f = f a :: l.map f := List.map_cons ..
theorem m_n {α β : Type} {f : α → β} : ([] : List α).map f = [] := List.map_nil ..
end Go.Proofs.YtchgpcgolgcfdaaGreat
end
section
namespace Go.Proofs.YtchgpcgolgcfdaaGreat.Lent
open Go Go.RowKit Go.Proofs.YtchgpcgolgcfdaaGreatW.PrintWords Go.Proofs.YtchgpcgolgcfdaaGreatW.PrintLast Go.Proofs.YtchgpcgolgcfdaaGreatW.PrintMore
section
variable {α : Type} {d : Kd α} {mark : α} {e : Nat} {w w1 : World} {base : Nat} {ok : Nat → Prop} {v : Value} {xs : List α}
def RM (d : Kd α) (mark : α) (e : Nat) (w : World) (base : Nat) (ok : Nat → Prop) (v : Value) (xs : List α) : Prop := ∃ A c, v = .slice A xs.length c ∧ d.R e w base ok (.slice A (xs.length + 1) c) (xs ++ [mark])
def CM (d : Kd α) (mark : α) (w : World) (A : Option Addr) (n : Nat) (xs : List α) : Prop := d.C w A (n + 1) (xs ++ [mark]) ∧ d.C w A n xs
theorem R_lower {base' : Nat} (h : RM d mark e w base ok v xs) (hb : base' ≤ base) : RM d mark e w base' ok v xs := by
 obtain ⟨A, c, hv, hr⟩ := h
 exact ⟨A, c, hv, Kd.R_lower hr hb⟩
theorem R_below (h : RM d mark e w base ok v xs) (hb : Below w.heap.size w w1) : RM d mark e w1 base ok v xs := by
 obtain ⟨A, c, hv, hr⟩ := h
 exact ⟨A, c, hv, Kd.R_below hr hb⟩
theorem R_alloc (h : RM d mark e w base ok v xs) (o : Obj) : RM d mark e (w.alloc o) base ok v xs := R_below h (below_alloc (Below.refl _ _) o)
theorem R_drew (h : RM d mark e w base ok v xs) : RM d mark e w.drew base ok v xs := R_below h (below_drew (Below.refl _ _))
theorem R_drewN (h : RM d mark e w base ok v xs) (m : Nat) : RM d mark e (w.drewN m) base ok v xs := R_below h (pw_below_drewN (Below.refl _ _) m)
theorem R_slice (h : RM d mark e w base ok v xs) : ∃ A c, v = .slice A xs.length c := by
 obtain ⟨A, c, hv, _⟩ := h
 exact ⟨A, c, hv⟩
theorem R_R (h : RM d mark e w base ok v xs) : d.R e w base ok v xs := by
 obtain ⟨A, c, rfl, hr⟩ := h
 have := Kd.R_take (m := xs.length) hr (by simp)
 simpa using this
theorem R_reads' {A : Option Addr} {n c : Nat} (h : RM d mark e w base ok (.slice A n c) xs) : n = xs.length ∧ n ≤ c ∧ d.C w A xs.length xs := Kd.R_reads' (R_R h)
theorem C_alloc {A : Option Addr} {n : Nat} (h : CM d mark w A n xs) (o : Obj) : CM d mark (w.alloc o) A n xs := ⟨Kd.C_alloc h.1 o, Kd.C_alloc h.2 o⟩
theorem C_drew {A : Option Addr} {n : Nat} (h : CM d mark w A n xs) : CM d mark w.drew A n xs := ⟨Kd.C_drew h.1, Kd.C_drew h.2⟩
theorem C_drewN {A : Option Addr} {n : Nat} (h : CM d mark w A n xs) (m : Nat) : CM d mark (w.drewN m) A n xs := ⟨Kd.C_drewN h.1 m, Kd.C_drewN h.2 m⟩
end
end Go.Proofs.YtchgpcgolgcfdaaGreat.Lent
end
