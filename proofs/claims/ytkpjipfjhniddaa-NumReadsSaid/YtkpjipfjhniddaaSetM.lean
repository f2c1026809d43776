/- A set of whole numbers ('map[uint64]struct{}') that a call makes and keeps to itself: what it holds, told as a list. -/
import Derived.Test.YtkpjipfjhniddaaProg
import Derived.Test.YtkpjipfjhniddaaWWords
import Derived.Maps.OwnSet
import Derived.Maps.Own
import Derived.Maps.Keyed
import Derived.Carry
import Derived.KernelRfl
namespace Go.Proofs.Ytkpjipfjhniddaa.SetM
open Go Go.RowKit Go.Maps Go.Proofs.YtkpjipfjhniddaaW.PrintWords
theorem law : Keyed Try.prog 24 := int_keyed Try.underlying24
theorem unit0 (w : World) : (zeroValue 83).run Try.prog w = .ok (.agg #[]) w := by kernel_rfl
def lits (L : List Int) : List Lit := L.map (Lit.int .u64)
def D (L : List Int) : DataW Unit := setOf (.agg []) (lits L)
/-- Block b is a map that holds just these. -/
def Is (W : World) (b : Nat) (L : List Int) : Prop := W.ownsMap Try.prog 24 (unitElem (H := Unit)) b L.length (D L)
theorem any_int (x : Int) : ∀ l : List Int, l.any ((fun y : Lit => y.sameKey (.int .u64 x)) ∘ Lit.int .u64) = l.contains x
  | [] => rfl
  | a :: r => by
    rw [List.any_cons, List.contains_cons, any_int x r]
    congr 1
    show decide (IntKind.u64 = IntKind.u64 ∧ a = x) = (x == a)
    by_cases e : a = x
    · subst e
      simp
    · have e' : ¬ x = a := fun h => e h.symm
      simp [e, e']
theorem has_D (L : List Int) (x : Int) : Maps.has (D L) (.int .u64 x) = L.contains x := by
  unfold D lits
  rw [has_setOf _ _ _ (fun y hy => by obtain ⟨_, _, rfl⟩ := List.mem_map.1 hy; trivial), List.any_map]
  exact any_int x _
theorem D_snoc (L : List Int) (x : Int) : (D L).put (.int .u64 x) (.agg []) = D (L ++ [x]) := by
  unfold D lits
  rw [List.map_append]
  exact (setOf_snoc _ _ _).symm
theorem Is.new (w : World) : Is (w.alloc (.map #[] 0)) w.heap.size [] := World.ownsMap_made _ _ _ _
theorem Is.lt {W : World} {b : Nat} {L : List Int} (h : Is W b L) : b < W.heap.size := World.ownsMap.lt h
theorem Is.grown {W W1 : World} {b : Nat} {L : List Int} {row : Option Nat} (h : Is W b L) (hg : W.grownBy W1 row) (hne : some b ≠ row) : Is W1 b L := World.ownsMap.kept h hg hne
theorem Is.below {W W1 : World} {b : Nat} {L : List Int} (h : Is W b L) (hb : Below W.heap.size W W1) : Is W1 b L := h.grown (grown_of_below hb none) (by simp)
theorem Is.alloc {W : World} {b : Nat} {L : List Int} (h : Is W b L) (o : Obj) : Is (W.alloc o) b L := World.ownsMap.alloc h o
theorem Is.drewN {W : World} {b : Nat} {L : List Int} (h : Is W b L) (m : Nat) : Is (W.drewN m) b L := h
theorem Is.map {W : World} {b : Nat} {L : List Int} (h : Is W b L) : ∃ es c, W.heap[b]? = some (.map es c) := by
  obtain ⟨es, c, hb, _⟩ := h
  exact ⟨es, c, hb⟩
theorem Is.ne {W : World} {b : Nat} {L : List Int} (h : Is W b L) {k : Nat} {cs : Array Value} {t : TypeId} {fr : Nat × Nat} (hk : W.heap[k]? = some (.cells cs t fr)) : b ≠ k := by
  rintro rfl
  obtain ⟨es, c, hb⟩ := h.map
  rw [hb] at hk
  cases hk
theorem Is.far {W : World} {b : Nat} {L : List Int} (h : Is W b L) {p : Addr} (hp : b ≠ p.block) (u : Value) : Is (W.setCell p u) b L := World.ownsMap.setCell h hp u
/-- A row of the call's own is none of a map's blocks: it stays where the map is written. -/
theorem R_map {α : Type} {d : Kd α} {e : Nat} {W W1 : World} {base : Nat} {ok : Nat → Prop} {v : Value} {xs : List α} {b : Nat} {L : List Int} (h : d.R e W base ok v xs) (hm : Is W b L) (hg : W.grownBy W1 (some b)) : d.R e W1 base ok v xs :=
  Kd.R_mono (Kd.R_move (Kd.R_bound h) (fun k hk => by
    obtain ⟨_, _, hlt, _, _, cells, hc⟩ := hk
    refine hg.block k hlt ?_
    intro e
    injection e with e
    exact hm.ne hc e.symm)) (fun _ hk => hk.1)
theorem row_ne {α : Type} {d : Kd α} {e : Nat} {W : World} {base : Nat} {ok : Nat → Prop} {v : Value} {xs : List α} {b : Nat} {L : List Int} (h : d.R e W base ok v xs) (hm : Is W b L) : some b ≠ v.ownBlock := by
  intro he
  obtain ⟨inner, ho⟩ := Kd.R_own h
  obtain ⟨cells, hc⟩ := own_typed ho b he.symm
  exact hm.ne hc rfl
theorem key {x : Int} (h : (Lit.int .u64 x).wf = true) : keyOf Try.prog 24 (.int .u64 x) = some (.int .u64 x) := keyOf_int_mk Try.underlying24 h
end Go.Proofs.Ytkpjipfjhniddaa.SetM
