/- Texts of this claim, put together and cut down to what is used (T3). -/
import Derived.Test.YtchgpcgolgcfdaaGreatProg
import Derived.Maps.OwnSet
import Derived.Maps.Own
import Derived.Maps.Keyed
import Derived.Carry
import Derived.KernelRfl
import Derived.Lib.Strings
import Derived.Lib.Slices
import Derived.Lib.Walk
import Derived.Lib.Builder
import Derived.Lib.AppendStr
import Derived.Lib.UnsafeStr
import Derived.WalkKit
import Derived.Laws.Externs
import Derived.Laws.IdiomCopy
import Derived.Laws.BitsLemmas
import Derived.Below
import Derived.Deep.Draws
import Derived.Deep.AppendLies
import Derived.Maps.AppendAt
import Derived.OwnWalk
import Derived.Laws.BytesArg
import Derived.Laws.MakeOwn
import Derived.Laws.OwnMore
import Derived.Deep.OwnRows
import Derived.Tactics
import Derived.Lib.ConvBytes
import Derived.Laws.Slices
import Derived.RowKit3
import Derived.Deep.LoopGhost
import Derived.Deep.QuietTactic
import Derived.BigQuiet
import Derived.WideLaws
import Derived.Deep.DeepCutAuto
import Derived.Deep.CutBlock
import Derived.Deep.RegionHeld3
import Derived.Laws.Rows
import Derived.ArgAppend
import Derived.OrdersHeld
import Derived.RowKit
import Derived.Test.YtchgpcgolgcfdaaGreatMgT0
import Derived.Test.YtchgpcgolgcfdaaGreatMgT1
import Derived.Test.YtchgpcgolgcfdaaGreatMgT2
section
namespace Go.Proofs.YtchgpcgolgcfdaaGreat.Lent
open Go Go.RowKit Go.Proofs.YtchgpcgolgcfdaaGreatW.PrintWords Go.Proofs.YtchgpcgolgcfdaaGreatW.PrintLast Go.Proofs.YtchgpcgolgcfdaaGreatW.PrintMore
section
variable {α : Type} {d : Kd α} {mark : α} {e : Nat} {w w1 : World} {base : Nat} {ok : Nat → Prop} {v : Value} {xs : List α}
def RM (d : Kd α) (mark : α) (e : Nat) (w : World) (base : Nat) (ok : Nat → Prop) (v : Value) (xs : List α) : Prop := ∃ A c, v = .slice A xs.length c ∧ d.R e w base ok (.slice A (xs.length + 1) c) (xs ++ [mark])
def CM (d : Kd α) (mark : α) (w : World) (A : Option Addr) (n : Nat) (xs : List α) : Prop := d.C w A (n + 1) (xs ++ [mark]) ∧ d.C w A n xs
theorem R_lower {base' : Nat} (h : RM d mark e w base ok v xs) (hb : base' ≤ base) : RM d mark e w base' ok v xs := by
 obtain ⟨A, c, hv, hr⟩ := h
 exact ⟨A, c, hv, Kd.R_lower hr hb⟩
theorem R_below (h : RM d mark e w base ok v xs) (hb : Below w.heap.size w w1) : RM d mark e w1 base ok v xs := by
 obtain ⟨A, c, hv, hr⟩ := h
 exact ⟨A, c, hv, Kd.R_below hr hb⟩
theorem R_alloc (h : RM d mark e w base ok v xs) (o : Obj) : RM d mark e (w.alloc o) base ok v xs := R_below h (below_alloc (Below.refl _ _) o)
theorem R_drew (h : RM d mark e w base ok v xs) : RM d mark e w.drew base ok v xs := R_below h (below_drew (Below.refl _ _))
theorem R_drewN (h : RM d mark e w base ok v xs) (m : Nat) : RM d mark e (w.drewN m) base ok v xs := R_below h (pw_below_drewN (Below.refl _ _) m)
theorem R_slice (h : RM d mark e w base ok v xs) : ∃ A c, v = .slice A xs.length c := by
 obtain ⟨A, c, hv, _⟩ := h
 exact ⟨A, c, hv⟩
theorem R_R (h : RM d mark e w base ok v xs) : d.R e w base ok v xs := by
 obtain ⟨A, c, rfl, hr⟩ := h
 have := Kd.R_take (m := xs.length) hr (by simp)
 simpa using this
theorem R_reads' {A : Option Addr} {n c : Nat} (h : RM d mark e w base ok (.slice A n c) xs) : n = xs.length ∧ n ≤ c ∧ d.C w A xs.length xs := Kd.R_reads' (R_R h)
theorem C_alloc {A : Option Addr} {n : Nat} (h : CM d mark w A n xs) (o : Obj) : CM d mark (w.alloc o) A n xs := ⟨Kd.C_alloc h.1 o, Kd.C_alloc h.2 o⟩
theorem C_drew {A : Option Addr} {n : Nat} (h : CM d mark w A n xs) : CM d mark w.drew A n xs := ⟨Kd.C_drew h.1, Kd.C_drew h.2⟩
theorem C_drewN {A : Option Addr} {n : Nat} (h : CM d mark w A n xs) (m : Nat) : CM d mark (w.drewN m) A n xs := ⟨Kd.C_drewN h.1 m, Kd.C_drewN h.2 m⟩
end
theorem cut_room {P : Program} (t e : TypeId) (kh : IntKind) {i : TypeInfo} (ht : P.underlying t = some (.slice e)) (hi : P.info? e = some i) (A : Option Addr) (n c : Nat) (j : Int) (h0 : 0 ≤ j) (hm : j ≤ c) :
  ∀ W : World, (Instr.slice t (.slice A n c) none (some (.int kh j)) none).run P W = .ok (.slice A j.toNat c) W := by
 intro W
 have hel : P.elem t = e := by simp [Program.elem, ht]
 have hu : P.underlying t = some (.slice (P.elem t)) := by rw [hel]; exact ht
 have ha : (A.map fun x => x.add 0) = A := by cases A <;> simp [Addr.add]
 rw [run_slice_h W t A n c hu kh j h0 (by omega), hel]
 simp [sizeOf, typeInfo, hi, sliced, Result.andThen, ha]
end Go.Proofs.YtchgpcgolgcfdaaGreat.Lent
end
section
namespace Go.Proofs.YtchgpcgolgcfdaaGreat.SetM
open Go Go.RowKit Go.Maps Go.Proofs.YtchgpcgolgcfdaaGreatW.PrintWords
theorem law : Keyed Tryz.prog 25 := int_keyed Tryz.underlying25
theorem unit0 (w : World) : (zeroValue 196).run Tryz.prog w = .ok (.agg #[]) w := by kernel_rfl
def lits (L : List Int) : List Lit := L.map (Lit.int .u64)
def D (L : List Int) : DataW Unit := setOf (.agg []) (lits L)
def Is (W : World) (b : Nat) (L : List Int) : Prop := W.ownsMap Tryz.prog 25 (unitElem (H := Unit)) b L.length (D L)
theorem any_int (x : Int) : ∀ l : List Int, l.any ((fun y : Lit => y.sameKey (.int .u64 x)) ∘ Lit.int .u64) = l.contains x
 | [] => rfl
 | a :: r => by
  rw [List.any_cons, List.contains_cons, any_int x r]
  congr 1
  show decide (IntKind.u64 = IntKind.u64 ∧ a = x) = (x == a)
  by_cases e : a = x
  ·subst e
   simp
  ·have e' : ¬ x = a := fun h => e h.symm
   simp [e, e']
theorem has_D (L : List Int) (x : Int) : Maps.has (D L) (.int .u64 x) = L.contains x := by
 unfold D lits
 rw [has_setOf _ _ _ (fun y hy => by obtain ⟨_, _, rfl⟩ := List.mem_map.1 hy; trivial), List.any_map]
 exact any_int x _
theorem D_snoc (L : List Int) (x : Int) : (D L).put (.int .u64 x) (.agg []) = D (L ++ [x]) := by
 unfold D lits
 rw [List.map_append]
 exact (setOf_snoc _ _ _).symm
theorem Is.new (w : World) : Is (w.alloc (.map #[] 0)) w.heap.size [] := World.ownsMap_made _ _ _ _
theorem Is.lt {W : World} {b : Nat} {L : List Int} (h : Is W b L) : b < W.heap.size := World.ownsMap.lt h
theorem Is.grown {W W1 : World} {b : Nat} {L : List Int} {row : Option Nat} (h : Is W b L) (hg : W.grownBy W1 row) (hne : some b ≠ row) : Is W1 b L := World.ownsMap.kept h hg hne
theorem Is.below {W W1 : World} {b : Nat} {L : List Int} (h : Is W b L) (hb : Below W.heap.size W W1) : Is W1 b L := h.grown (grown_of_below hb none) (by simp)
theorem Is.alloc {W : World} {b : Nat} {L : List Int} (h : Is W b L) (o : Obj) : Is (W.alloc o) b L := World.ownsMap.alloc h o
theorem Is.drewN {W : World} {b : Nat} {L : List Int} (h : Is W b L) (m : Nat) : Is (W.drewN m) b L := h
theorem Is.map {W : World} {b : Nat} {L : List Int} (h : Is W b L) : ∃ es c, W.heap[b]? = some (.map es c) := by
 obtain ⟨es, c, hb, _⟩ := h
 exact ⟨es, c, hb⟩
theorem Is.ne {W : World} {b : Nat} {L : List Int} (h : Is W b L) {k : Nat} {cs : Array Value} {t : TypeId} {fr : Nat × Nat} (hk : W.heap[k]? = some (.cells cs t fr)) : b ≠ k := by
 rintro rfl
 obtain ⟨es, c, hb⟩ := h.map
 rw [hb] at hk
 cases hk
theorem Is.far {W : World} {b : Nat} {L : List Int} (h : Is W b L) {p : Addr} (hp : b ≠ p.block) (u : Value) : Is (W.setCell p u) b L := World.ownsMap.setCell h hp u
theorem R_map {α : Type} {d : Kd α} {e : Nat} {W W1 : World} {base : Nat} {ok : Nat → Prop} {v : Value} {xs : List α} {b : Nat} {L : List Int} (h : d.R e W base ok v xs) (hm : Is W b L) (hg : W.grownBy W1 (some b)) : d.R e W1 base ok v xs :=
 Kd.R_mono (Kd.R_move (Kd.R_bound h) (fun k hk => by
  obtain ⟨_, _, hlt, _, _, cells, hc⟩ := hk
  refine hg.block k hlt ?_
  intro e
  injection e with e
  exact hm.ne hc e.symm)) (fun _ hk => hk.1)
theorem row_ne {α : Type} {d : Kd α} {e : Nat} {W : World} {base : Nat} {ok : Nat → Prop} {v : Value} {xs : List α} {b : Nat} {L : List Int} (h : d.R e W base ok v xs) (hm : Is W b L) : some b ≠ v.ownBlock := by
 intro he
 obtain ⟨inner, ho⟩ := Kd.R_own h
 obtain ⟨cells, hc⟩ := own_typed ho b he.symm
 exact hm.ne hc rfl
theorem key {x : Int} (h : (Lit.int .u64 x).wf = true) : keyOf Tryz.prog 25 (.int .u64 x) = some (.int .u64 x) := keyOf_int_mk Tryz.underlying25 h
end Go.Proofs.YtchgpcgolgcfdaaGreat.SetM
end
section
namespace Go.Proofs.YtchgpcgolgcfdaaGreat.Bld
open Go Go.RowKit
theorem sizeBuilder : (Tryz.prog.info? 221).map (·.size) = some 2 := by kernel_rfl
end Go.Proofs.YtchgpcgolgcfdaaGreat.Bld
end
section
namespace Go.Proofs.YtchgpcgolgcfdaaGreat.NilR
set_option linter.unusedVariables false
open Go Go.RowKit Go.Proofs.YtchgpcgolgcfdaaGreatW.PrintWords Go.Proofs.YtchgpcgolgcfdaaGreatW.PrintLast Go.Proofs.YtchgpcgolgcfdaaGreatW.PrintMore
theorem off (w : World) : Calls Tryz.prog 234 #[.pointer none] w fun e w' => e = .returned (.bool true) ∧ Drawn0 w w' := by
 go_enter Tryz.func234, Tryz.ntmps234
 go_wp2
 go_ret
 exact ⟨rfl, Drawn0.refl _⟩
def take.f (n : Int) : Option ByteArray := some ⟨#[]⟩
theorem take.calls (n : Int) (r : ByteArray) (w : World) (h : take.f n = some r) : Calls Tryz.prog 232 #[.pointer none, .int .i64 n] w fun e w' => e = .returned (.string r) ∧ Drawn0 w w' := by
 obtain rfl := Option.some.inj h
 go_enter Tryz.func232, Tryz.ntmps232
 go_wp2_with (first | (go_at_call 234; refine (off _).mono ?_; rintro e w' ⟨rfl, ⟨nd, rfl⟩⟩))
 go_ret
 exact ⟨rfl, by repeat (first | exact Drawn0.refl _ | apply Drawn0.step)⟩
end Go.Proofs.YtchgpcgolgcfdaaGreat.NilR
end
section
namespace Go.Proofs.YtchgpcgolgcfdaaGreat.PNum
open Go.RowKit Go.Proofs.YtchgpcgolgcfdaaGreatW.PrintWords Go.Proofs.YtchgpcgolgcfdaaGreatW.PrintLast Go.Proofs.YtchgpcgolgcfdaaGreatW.PrintMore
attribute [local go_sem] max2_int min2_int max_two min_two max_three min_three max_four min_four   -- for this text's walks alone
set_option linter.unusedVariables false
set_option linter.unusedSimpArgs false
def errW : Option Int → Value
 | none => .nilIface
 | some c => .iface 0 (.int .i64 c)
theorem errW_none : errW none = .nilIface := rfl
theorem errW_some (c : Int) : errW (some c) = .iface 0 (.int .i64 c) := rfl
theorem info22 : (Tryz.prog.info? 22).map (fun i => (i.zero, i.size, i.bytes)) = some (some (.slice none 0 0), 1, 24) := by kernel_rfl
theorem info32 : (Tryz.prog.info? 32).map (fun i => (i.zero, i.size, i.bytes)) = some (some (.agg #[(.string ⟨#[]⟩), (.int .u64 0), (.int .i64 0), (.string ⟨#[]⟩)]), 4, 48) := by kernel_rfl
theorem info184 : (Tryz.prog.info? 184).map (fun i => (i.zero, i.size, i.bytes)) = some (some (.agg #[(.string ⟨#[]⟩), (.string ⟨#[]⟩)]), 2, 32) := by kernel_rfl
structure S32 where
 f0 : ByteArray
 f1 : Int
 f2 : Int
 f3 : ByteArray
def z32 : S32 := ⟨(⟨#[]⟩ : ByteArray), (0 : Int), (0 : Int), (⟨#[]⟩ : ByteArray)⟩
def k32 : Kd S32 := Kd.iso (Kd.pair Kd.string (Kd.pair (Kd.int .u64) (Kd.pair (Kd.int .i64) Kd.string))) (fun x : S32 => (x.f0, x.f1, x.f2, x.f3))
theorem k32_open {w : World} {x : S32} {cs : List Value} (h : k32.K w x cs) : cs = [.string x.f0, .int .u64 x.f1, .int .i64 x.f2, .string x.f3] := by
 obtain ⟨_, _, rfl, rfl, ⟨_, _, rfl, rfl, ⟨_, _, rfl, rfl, rfl⟩⟩⟩ := h
 exact rfl
theorem k32_openM {w : World} {base : Nat} {ok : Nat → Prop} {x : S32} {cs : List Value} (h : k32.M w base ok x cs) : cs = [.string x.f0, .int .u64 x.f1, .int .i64 x.f2, .string x.f3] := by
 obtain ⟨_, _, rfl, rfl, ⟨_, _, rfl, rfl, ⟨_, _, rfl, rfl, rfl⟩⟩⟩ := h
 exact rfl
theorem k32_mk (w : World) (x : S32)  : k32.K w x [.string x.f0, .int .u64 x.f1, .int .i64 x.f2, .string x.f3] := ⟨[.string x.f0], [.int .u64 x.f1, .int .i64 x.f2, .string x.f3], rfl, rfl, ⟨[.int .u64 x.f1], [.int .i64 x.f2, .string x.f3], rfl, rfl, ⟨[.int .i64 x.f2], [.string x.f3], rfl, rfl, rfl⟩⟩⟩
theorem k32_mkM (w : World) (base : Nat) (ok : Nat → Prop) (x : S32)  : k32.M w base ok x [.string x.f0, .int .u64 x.f1, .int .i64 x.f2, .string x.f3] := ⟨[.string x.f0], [.int .u64 x.f1, .int .i64 x.f2, .string x.f3], rfl, rfl, ⟨[.int .u64 x.f1], [.int .i64 x.f2, .string x.f3], rfl, rfl, ⟨[.int .i64 x.f2], [.string x.f3], rfl, rfl, rfl⟩⟩⟩
def rd_T32 (xs : List S32) (i : Int) : S32 := xs.getD i.toNat z32
theorem at_T32 {w : World} {A : Option Addr} {n : Nat} {xs : List S32} (h : Kd.C k32 w A n xs) (i : Int) (h0 : 0 ≤ i) (h1 : i < n) : ∃ ad , A = some ad ∧ w.cell? (ad.add (i.toNat * 4)) = some (.string (rd_T32 xs i).f0) ∧ w.cell? ⟨(ad.add (i.toNat * 4)).block, (ad.add (i.toNat * 4)).off + 1, none⟩ = some (.int .u64 (rd_T32 xs i).f1) ∧ w.cell? ⟨(ad.add (i.toNat * 4)).block, (ad.add (i.toNat * 4)).off + 2, none⟩ = some (.int .i64 (rd_T32 xs i).f2) ∧ w.cell? ⟨(ad.add (i.toNat * 4)).block, (ad.add (i.toNat * 4)).off + 3, none⟩ = some (.string (rd_T32 xs i).f3) := by
 obtain ⟨ad, c, e, _, hK, hc0⟩ := Kd.C_get h z32 i h0 h1
 have hc : ∀ j u, c[j]? = some u → w.cell? (ad.add (i.toNat * 4 + j)) = some u := hc0
 obtain rfl := k32_open hK
 exact ⟨ad, e, hc 0 _ rfl, by rw [← add_field _ _ 1 (by omega)]; exact hc 1 _ rfl, by rw [← add_field _ _ 2 (by omega)]; exact hc 2 _ rfl, by rw [← add_field _ _ 3 (by omega)]; exact hc 3 _ rfl⟩
structure S184 where
 f0 : ByteArray
 f1 : ByteArray
def z184 : S184 := ⟨(⟨#[]⟩ : ByteArray), (⟨#[]⟩ : ByteArray)⟩
def k184 : Kd S184 := Kd.iso (Kd.pair Kd.string Kd.string) (fun x : S184 => (x.f0, x.f1))
theorem k184_open {w : World} {x : S184} {cs : List Value} (h : k184.K w x cs) : cs = [.string x.f0, .string x.f1] := by
 obtain ⟨_, _, rfl, rfl, rfl⟩ := h
 exact rfl
theorem k184_openM {w : World} {base : Nat} {ok : Nat → Prop} {x : S184} {cs : List Value} (h : k184.M w base ok x cs) : cs = [.string x.f0, .string x.f1] := by
 obtain ⟨_, _, rfl, rfl, rfl⟩ := h
 exact rfl
theorem k184_mk (w : World) (x : S184)  : k184.K w x [.string x.f0, .string x.f1] := ⟨[.string x.f0], [.string x.f1], rfl, rfl, rfl⟩
theorem k184_mkM (w : World) (base : Nat) (ok : Nat → Prop) (x : S184)  : k184.M w base ok x [.string x.f0, .string x.f1] := ⟨[.string x.f0], [.string x.f1], rfl, rfl, rfl⟩
def rd_T184 (xs : List S184) (i : Int) : S184 := xs.getD i.toNat z184
theorem at_T184 {w : World} {A : Option Addr} {n : Nat} {xs : List S184} (h : Kd.C k184 w A n xs) (i : Int) (h0 : 0 ≤ i) (h1 : i < n) : ∃ ad , A = some ad ∧ w.cell? (ad.add (i.toNat * 2)) = some (.string (rd_T184 xs i).f0) ∧ w.cell? ⟨(ad.add (i.toNat * 2)).block, (ad.add (i.toNat * 2)).off + 1, none⟩ = some (.string (rd_T184 xs i).f1) := by
 obtain ⟨ad, c, e, _, hK, hc0⟩ := Kd.C_get h z184 i h0 h1
 have hc : ∀ j u, c[j]? = some u → w.cell? (ad.add (i.toNat * 2 + j)) = some u := hc0
 obtain rfl := k184_open hK
 exact ⟨ad, e, hc 0 _ rfl, by rw [← add_field _ _ 1 (by omega)]; exact hc 1 _ rfl⟩
def rd_L18 (xs : List (List S32)) (i : Int) : (List S32) := xs.getD i.toNat ([] : List S32)
theorem at_L18 {w : World} {A : Option Addr} {n : Nat} {xs : List (List S32)} (h : Kd.C (Kd.slice 32 k32) w A n xs) (i : Int) (h0 : 0 ≤ i) (h1 : i < n) : ∃ ad A0 c0, A = some ad ∧ w.cell? (ad.add i.toNat) = some (.slice A0 (rd_L18 xs i).length c0) ∧ (rd_L18 xs i).length ≤ c0 ∧ k32.C w A0 (rd_L18 xs i).length (rd_L18 xs i) := by
 obtain ⟨ad, c, e, _, hK, hc0⟩ := Kd.C_get h ([] : List S32) i h0 h1
 have hc : ∀ j u, c[j]? = some u → w.cell? (ad.add (i.toNat * 1 + j)) = some u := hc0
 obtain ⟨A0, c0, rfl, l0, g0⟩ := hK
 exact ⟨ad, A0, c0, e, by have hq := hc 0 _ rfl; rwa [Nat.mul_one, Nat.add_zero] at hq, l0, g0⟩
def rd_L19 (xs : List (List S184)) (i : Int) : (List S184) := xs.getD i.toNat ([] : List S184)
theorem at_L19 {w : World} {A : Option Addr} {n : Nat} {xs : List (List S184)} (h : Kd.C (Kd.slice 184 k184) w A n xs) (i : Int) (h0 : 0 ≤ i) (h1 : i < n) : ∃ ad A0 c0, A = some ad ∧ w.cell? (ad.add i.toNat) = some (.slice A0 (rd_L19 xs i).length c0) ∧ (rd_L19 xs i).length ≤ c0 ∧ k184.C w A0 (rd_L19 xs i).length (rd_L19 xs i) := by
 obtain ⟨ad, c, e, _, hK, hc0⟩ := Kd.C_get h ([] : List S184) i h0 h1
 have hc : ∀ j u, c[j]? = some u → w.cell? (ad.add (i.toNat * 1 + j)) = some u := hc0
 obtain ⟨A0, c0, rfl, l0, g0⟩ := hK
 exact ⟨ad, A0, c0, e, by have hq := hc 0 _ rfl; rwa [Nat.mul_one, Nat.add_zero] at hq, l0, g0⟩
def wfS32 (x : S32) : Prop := x.f0.size ≤ 140737488351232 ∧ (Lit.int .u64 x.f1).wf = true ∧ (Lit.int .i64 x.f2).wf = true ∧ x.f3.size ≤ 140737488351232
end Go.Proofs.YtchgpcgolgcfdaaGreat.PNum
end
section
namespace Go.Proofs.YtchgpcgolgcfdaaGreat.BkW
open Go Go.RowKit Go.Proofs.YtchgpcgolgcfdaaGreatW.PrintWords Go.Proofs.YtchgpcgolgcfdaaGreatW.PrintLast Go.Proofs.YtchgpcgolgcfdaaGreatW.PrintMore
set_option linter.unusedVariables false
def Rw (w : World) (e : TypeId) (sz : Nat) (v : Value) (n : Nat) (cs : List Value) : Prop :=
 cs.length = n * sz ∧ ((v = .slice none 0 0 ∧ n = 0) ∨ ∃ g o c cur, v = .slice (some ⟨g, o, none⟩) n c ∧ w.heap[g]? = some (.cells cur e (0, 0)) ∧ n ≤ c ∧ c ≤ maxLen ∧ o + c * sz ≤ cur.size ∧ (cur.toList.drop o).take (n * sz) = cs)
section
variable {w w1 : World} {e : TypeId} {sz n base : Nat} {v : Value} {cs : List Value}
theorem Rw.of_own (h : w.ownsRow base e sz v n cs) : Rw w e sz v n cs := by
 obtain ⟨h1, h2⟩ := h
 refine ⟨h1, ?_⟩
 rcases h2 with h2 | ⟨g, cap, cur, rfl, hb, hh, hnc, hcm, hcs, ht⟩
 ·exact .inl h2
 ·exact .inr ⟨g, 0, cap, cur, rfl, hh, hnc, hcm, by omega, by rw [List.drop_zero]; exact ht⟩
theorem Rw.nil (w : World) (e : TypeId) (sz : Nat) : Rw w e sz (.slice none 0 0) 0 [] := ⟨by simp, .inl ⟨rfl, rfl⟩⟩
theorem Rw.move (h : Rw w e sz v n cs) (hm : ∀ k, v.ownBlock = some k → w1.heap[k]? = w.heap[k]?) : Rw w1 e sz v n cs := by
 obtain ⟨h1, h2⟩ := h
 refine ⟨h1, ?_⟩
 rcases h2 with h2 | ⟨g, o, c, cur, rfl, hh, r⟩
 ·exact .inl h2
 ·exact .inr ⟨g, o, c, cur, rfl, (hm g (by simp [Value.ownBlock])).trans hh, r⟩
theorem Rw.typed (h : Rw w e sz v n cs) (k : Nat) (hk : v.ownBlock = some k) : ∃ cur, w.heap[k]? = some (.cells cur e (0, 0)) := by
 rcases h.2 with ⟨rfl, _⟩ | ⟨g, o, c, cur, rfl, hh, r⟩
 ·simp [Value.ownBlock] at hk
 ·have : g = k := by simpa [Value.ownBlock] using hk
  subst this
  exact ⟨cur, hh⟩
theorem Rw.lt (h : Rw w e sz v n cs) (k : Nat) (hk : v.ownBlock = some k) : k < w.heap.size := by
 obtain ⟨cur, hc⟩ := h.typed k hk
 exact blk_lt hc
theorem Rw.below (h : Rw w e sz v n cs) (hb : Below w.heap.size w w1) : Rw w1 e sz v n cs := h.move (fun k hk => hb.block k (h.lt k hk))
theorem Rw.grown (h : Rw w e sz v n cs) {row : Option Nat} (hg : w.grownBy w1 row) (hne : v.ownBlock = none ∨ v.ownBlock ≠ row) : Rw w1 e sz v n cs := h.move (fun k hk => hg.block k (h.lt k hk) (by
 intro e
 rcases hne with h2 | h2
 ·rw [h2] at hk; cases hk
 ·exact h2 (hk.trans e)))
theorem Rw.slice (h : Rw w e sz v n cs) : ∃ A c, v = .slice A n c ∧ n ≤ c := by
 rcases h.2 with ⟨rfl, rfl⟩ | ⟨g, o, c, cur, rfl, hh, hnc, r⟩
 ·exact ⟨none, 0, rfl, Nat.le_refl _⟩
 ·exact ⟨_, c, rfl, hnc⟩
theorem Rw.form (h : Rw w e sz v n cs) (hn : 0 < n) : ∃ g o c, v = .slice (some ⟨g, o, none⟩) n c ∧ n ≤ c ∧ (∀ j, w.frozen? ⟨g, j, none⟩ = false) ∧ ∀ j u, cs[j]? = some u → w.cell? ⟨g, o + j, none⟩ = some u := by
 rcases h.2 with ⟨rfl, rfl⟩ | ⟨g, o, c, cur, rfl, hh, hnc, hcm, hcs, ht⟩
 ·omega
 ·refine ⟨g, o, c, rfl, hnc, fun j => blk_frozen hh j, fun j u hu => ?_⟩
  rw [cell_of_row w g _ cur e (0, 0) hh, ← Array.getElem?_toList]
  rw [← ht, List.getElem?_take] at hu
  split at hu
  ·rw [List.getElem?_drop] at hu
   exact hu
  ·cases hu
theorem Rw.take {A : Option Addr} {m c : Nat} (h : Rw w e sz (.slice A n c) n cs) (hm : m ≤ n) : Rw w e sz (.slice A m c) m (cs.take (m * sz)) := by
 have hle : m * sz ≤ n * sz := Nat.mul_le_mul_right _ hm
 refine ⟨by rw [List.length_take, h.1]; omega, ?_⟩
 rcases h.2 with ⟨h2, h3⟩ | ⟨g, o, c', cur, h2, hh, hnc, hcm, hcs, ht⟩
 ·left
  injection h2 with h4 h5 h6
  subst h4; subst h6; subst h5
  obtain rfl : m = 0 := by omega
  exact ⟨rfl, rfl⟩
 ·right
  injection h2 with h4 h5 h6
  subst h4; subst h6
  exact ⟨g, o, c, cur, rfl, hh, by omega, hcm, hcs, by rw [← ht, List.take_take, Nat.min_eq_left hle]⟩
theorem Rw.max (h : Rw w e sz v n cs) : n ≤ 9223372036854775807 := by
 rcases h.2 with ⟨rfl, rfl⟩ | ⟨g, o, c, cur, rfl, hh, hnc, hcm, r⟩
 ·omega
 ·unfold maxLen at hcm; omega
theorem Rw.put {g o c : Nat} (h : Rw w e sz (.slice (some ⟨g, o, none⟩) n c) n cs) {p : Nat} {seg : List Value} (hp : p + seg.length ≤ cs.length) :
  Rw (w.setCells g (o + p) seg) e sz (.slice (some ⟨g, o, none⟩) n c) n (cs.take p ++ seg ++ cs.drop (p + seg.length)) := by
 obtain ⟨h1, h2⟩ := h
 rcases h2 with ⟨h2, _⟩ | ⟨g', o', c', cur, h2, hh, hnc, hcm, hcs, ht⟩
 ·cases h2
 injection h2 with ha _ hc
 injection ha with ha
 injection ha with hg ho
 subst hg; subst ho; subst hc
 have hle : n * sz ≤ c * sz := Nat.mul_le_mul_right _ hnc
 have hcl : cur.toList.length = cur.size := Array.length_toList
 have hfit : o + p + seg.length ≤ cur.toList.length := by omega
 obtain ⟨cur', h3, h4, h5⟩ := setCells_row seg (o + p) w cur hh (by omega)
 refine ⟨by simp only [List.length_append, List.length_take, List.length_drop]; omega, .inr ⟨g, o, c, cur', rfl, h3, hnc, hcm, by rw [h4]; exact hcs, ?_⟩⟩
 apply List.ext_getElem?
 intro q
 rw [h5, List.getElem?_take, List.getElem?_drop, seg_get cur.toList seg (o + p) hfit (o + q), seg_get cs seg p (by omega) q]
 have hat : ∀ q, q < n * sz → cur.toList[o + q]? = cs[q]? := fun q hq => by rw [← ht, List.getElem?_take, if_pos hq, List.getElem?_drop]
 by_cases hq : q < n * sz
 ·rw [if_pos hq]
  by_cases hq1 : q < p
  ·rw [if_pos (by omega), if_pos hq1, hat q hq]
  ·rw [if_neg (by omega), if_neg hq1]
   by_cases hq2 : q < p + seg.length
   ·rw [if_pos (by omega), if_pos hq2]
    congr 1
    omega
   ·rw [if_neg (by omega), if_neg hq2, hat q hq]
 ·rw [if_neg hq, if_neg (by omega), if_neg (by omega), List.getElem?_eq_none (by omega)]
end
section
variable {P : Program}
theorem Rw.append (w : World) (t ty e : TypeId) (i : TypeInfo) (z : Value) (size bytes : Nat) (ht : P.underlying t = some (.slice e)) (hi : P.info? e = some i) (hz : i.zero = some z)
  (hsize : i.size = size) (hby : i.bytes = bytes) (hzs : z.cells.size = size) (hsz : 0 < size)
  (v : Value) (n : Nat) (xs : List Value) (hown : Rw w e size v n xs)
  (a : Addr) (m c : Nat) (news : List Value) (hl : news.length = m * size) (hnews : ∀ j u, news[j]? = some u → w.cell? (a.add j) = some u) (h1 : ∀ u ∈ news, u.oneCell' = true) (hm : 0 < m)
  (h63 : n + m ≤ maxLen) (hbytes : (n + m) * bytes ≤ 140737488355328) :
  ∃ v' w', (Builtin.append_ #[t, t] ty #[v, .slice (some a) m c]).run P w = .ok v' w' ∧ Rw w' e size v' (n + m) (xs ++ news) ∧ Rw w' e size v n xs ∧ w.grownBy w' v.ownBlock ∧ ((∃ A c', v = .slice A n c' ∧ v' = .slice A (n + m) c') ∨ ∃ b, v'.ownBlock = some b ∧ w.heap.size ≤ b) := by
 rcases hown.2 with ⟨hv, h0⟩ | ⟨g, o, cap, cur, hv, hg, hnc, hcm, hcs, htake⟩
 ·have ho : w.ownsRow 0 e size v n xs := ⟨hown.1, .inl ⟨hv, h0⟩⟩
  obtain ⟨v', w', hr, ho', hgr, _, hat⟩ := run_append_own_at (P := P) w 0 t ty e i z size bytes ht hi hz hsize hby hzs hsz v n xs ho a m c news hl hnews h1 h63 hbytes (Nat.zero_le _)
  refine ⟨v', w', hr, Rw.of_own ho', hown.move (fun k hk => by rw [hv] at hk; simp [Value.ownBlock] at hk), hgr, ?_⟩
  obtain ⟨g', cap', he, hb, _⟩ := ho'.form (by omega)
  rcases hat with hat | hat
  ·rw [hv, he] at hat
   simp [Value.ownBlock] at hat
  ·exact .inr ⟨_, hat, Nat.le_refl _⟩
 ·by_cases hroom : n + m ≤ cap
  ·have hfit : o + n * size + news.length ≤ cur.size := by
    have : (n + m) * size ≤ cap * size := Nat.mul_le_mul_right _ hroom
    rw [hl]
    rw [Nat.add_mul] at this
    omega
   subst hsize
   have hr := run_append_room_cells (P := P) (w := w) t ty e i ht hi g o n cap a m c news hl hnews h1 hroom
    (fun j hj => by rw [cell_of_row w g _ cur e (0, 0) hg]; simp; omega) (fun j _ => blk_frozen hg _)
   obtain ⟨cur', h3, h4, h5⟩ := setCells_row news (o + n * i.size) w cur hg hfit
   obtain ⟨s1, s2, s3, s4⟩ := setCells_same g news (o + n * i.size) w
   have hxs : (cur'.toList.drop o).take ((n + m) * i.size) = xs ++ news := by
    rw [h5, List.append_assoc, List.drop_append_of_le_length (by rw [List.length_take, Array.length_toList]; omega), List.drop_take]
    rw [show o + n * i.size - o = n * i.size by omega, htake]
    rw [← List.append_assoc]
    exact List.take_left' (by rw [List.length_append, hown.1, hl, Nat.add_mul])
   refine ⟨_, _, by rw [hv]; exact hr, ⟨by rw [List.length_append, hown.1, hl, Nat.add_mul], .inr ⟨g, o, cap, cur', rfl, h3, hroom, hcm, by rw [h4]; exact hcs, hxs⟩⟩,
    ⟨hown.1, .inr ⟨g, o, cap, cur', hv, h3, hnc, hcm, by rw [h4]; exact hcs, ?_⟩⟩,
    ⟨s1, s2, s3, by rw [s4]; exact Nat.le_refl _, fun k _ hk => setCells_far news _ k (fun he => hk (by rw [hv, he]; simp [Value.ownBlock]))⟩, .inl ⟨_, cap, hv, rfl⟩⟩
   have h6 := congrArg (List.take (n * i.size)) hxs
   rw [List.take_take, Nat.min_eq_left (by rw [Nat.add_mul]; omega)] at h6
   rw [h6]
   exact List.take_left' hown.1
  ·obtain ⟨v', w', hr, ho, hgr⟩ := run_append_arg_grows (P := P) (w := w) t ty e i z size bytes ht hi hz hsize hby hzs hsz ⟨g, o, none⟩ n cap xs hown.1 (fun j u hu => by
    rw [add_at, cell_of_row w g _ cur e (0, 0) hg]
    rw [← htake, List.getElem?_take] at hu
    split at hu
    ·rw [List.getElem?_drop] at hu
     rw [← Array.getElem?_toList]
     exact hu
    ·cases hu) a m c news hl hnews (by omega) h63 hbytes
   refine ⟨v', w', by rw [hv]; exact hr, Rw.of_own ho, hown.move (fun k hk => hgr.block k (hown.lt k hk) (by simp)), ⟨hgr.os, hgr.tape, hgr.output, hgr.size, fun k hk _ => hgr.block k hk (by simp)⟩, ?_⟩
   obtain ⟨g', cap', he, hb, _⟩ := ho.form (by omega)
   exact .inr ⟨g', by rw [he]; simp [Value.ownBlock], hb⟩
end
section
variable {P : Program}
theorem Rw.append_any (w : World) (t ty e : TypeId) (i : TypeInfo) (z : Value) (size bytes : Nat) (ht : P.underlying t = some (.slice e)) (hi : P.info? e = some i) (hz : i.zero = some z)
  (hsize : i.size = size) (hby : i.bytes = bytes) (hzs : z.cells.size = size) (hsz : 0 < size)
  (v : Value) (n : Nat) (xs : List Value) (hown : Rw w e size v n xs)
  (A : Option Addr) (m c : Nat) (news : List Value) (hl : news.length = m * size) (hnews : 0 < m → ∃ a, A = some a ∧ ∀ j u, news[j]? = some u → w.cell? (a.add j) = some u) (h1 : ∀ u ∈ news, u.oneCell' = true)
  (h63 : n + m ≤ maxLen) (hbytes : (n + m) * bytes ≤ 140737488355328) :
  ∃ v' w', (Builtin.append_ #[t, t] ty #[v, .slice A m c]).run P w = .ok v' w' ∧ Rw w' e size v' (n + m) (xs ++ news) ∧ Rw w' e size v n xs ∧ w.grownBy w' v.ownBlock ∧ ((∃ A c', v = .slice A n c' ∧ v' = .slice A (n + m) c') ∨ ∃ b, v'.ownBlock = some b ∧ w.heap.size ≤ b) := by
 rcases Nat.eq_zero_or_pos m with h0 | h0
 ·subst h0
  obtain rfl : news = [] := List.eq_nil_of_length_eq_zero (by rw [hl, Nat.zero_mul])
  rcases A with _ | ad
  ·refine ⟨v, w, ?_, by rw [List.append_nil]; exact hown, hown, World.grownBy.refl w _, ?_⟩
   ·rcases hown.2 with ⟨rfl, rfl⟩ | ⟨g, o, cap, cur, rfl, _, hnc, _⟩
    ·simp [Builtin.append_, run_underlying ht, sizeOf, typeInfo, hi, Builtin.lenOf, Builtin.firstCells]
    ·simp [Builtin.append_, run_underlying ht, sizeOf, typeInfo, hi, Builtin.lenOf, Builtin.firstCells, hnc, storeCells]
   ·obtain ⟨A', c', e', _⟩ := hown.slice
    exact .inl ⟨A', c', e', e'⟩
  ·rcases hown.2 with ⟨hv, hn0⟩ | ⟨g, o, cap, cur, hv, hg, hnc, hcm, hcs, htake⟩
   ·have ho : w.ownsRow 0 e size v n xs := ⟨hown.1, .inl ⟨hv, hn0⟩⟩
    obtain ⟨v', w', hr, ho', hgr, hiff, hat⟩ := run_append_own_at (P := P) w 0 t ty e i z size bytes ht hi hz hsize hby hzs hsz v n xs ho ad 0 c [] (by simp) (fun j u hu => by simp at hu) h1 h63 hbytes (Nat.zero_le _)
    have hv' := hiff.2 ⟨hv, rfl⟩
    refine ⟨v', w', hr, Rw.of_own ho', hown.move (fun k hk => by rw [hv] at hk; simp [Value.ownBlock] at hk), hgr, .inl ⟨none, 0, by rw [hv, hn0], by rw [hv', hn0]⟩⟩
   ·subst hsize
    have hr := run_append_room_cells (P := P) (w := w) t ty e i ht hi g o n cap ad 0 c [] (by simp) (fun j u hu => by simp at hu) h1 hnc (fun j hj => by simp at hj) (fun j hj => by simp at hj)
    refine ⟨_, _, by rw [hv]; exact hr, by rw [List.append_nil]; show Rw w e i.size (.slice (some ⟨g, o, none⟩) n cap) n xs; rw [← hv]; exact hown, hown, World.grownBy.refl w _, .inl ⟨_, cap, hv, rfl⟩⟩
 ·obtain ⟨a, rfl, hc⟩ := hnews h0
  exact Rw.append w t ty e i z size bytes ht hi hz hsize hby hzs hsz v n xs hown a m c news hl hc h1 h0 h63 hbytes
end
structure Flat {α : Type} (d : Kd α) (enc : α → List Value) : Prop where
 len : ∀ x, (enc x).length = d.sz
 Mo : ∀ {w base ok x cs}, d.M w base ok x cs → cs = enc x
 Km : ∀ w x, d.K w x (enc x)
 Ko : ∀ {w x cs}, d.K w x cs → cs = enc x
section
variable {α : Type} {d : Kd α} {enc : α → List Value} {w W : World} {base e : Nat} {ok : Nat → Prop} {v : Value} {xs : List α}
def encL (enc : α → List Value) (xs : List α) : List Value := xs.flatMap enc
theorem encL_append (xs ys : List α) : encL enc (xs ++ ys) = encL enc xs ++ encL enc ys := by simp [encL]
theorem Flat.lenL (h : Flat d enc) (xs : List α) : (encL enc xs).length = xs.length * d.sz := by
 induction xs with
 | nil => simp [encL]
 | cons x r ih =>
  have : encL enc (x :: r) = enc x ++ encL enc r := rfl
  rw [this, List.length_append, ih, h.len, List.length_cons, Nat.succ_mul]
  omega
theorem Flat.at_ (h : Flat d enc) : ∀ (xs : List α) (j : Nat) (x : α), xs[j]? = some x → ((encL enc xs).drop (j * d.sz)).take d.sz = enc x
 | [], j, x, hj => by simp at hj
 | y :: r, 0, x, hj => by
  have hy : y = x := by simpa using hj
  subst hy
  have : encL enc (y :: r) = enc y ++ encL enc r := rfl
  rw [this, Nat.zero_mul, List.drop_zero]
  exact List.take_left' (h.len y)
 | y :: r, j + 1, x, hj => by
  have hj' : r[j]? = some x := by simpa using hj
  have : encL enc (y :: r) = enc y ++ encL enc r := rfl
  rw [this, Nat.succ_mul, ← h.at_ r j x hj']
  rw [List.drop_append, List.drop_eq_nil_of_le (by rw [h.len]; omega), h.len, List.nil_append]
  congr 2
  omega
theorem Flat.cell (h : Flat d enc) {xs : List α} {j : Nat} {x : α} (hj : xs[j]? = some x) {i : Nat} {u : Value} (hu : (enc x)[i]? = some u) : (encL enc xs)[j * d.sz + i]? = some u := by
 rw [← h.at_ xs j x hj, List.getElem?_take] at hu
 split at hu
 ·rw [List.getElem?_drop] at hu
  exact hu
 ·cases hu
theorem Flat.set (h : Flat d enc) : ∀ (xs : List α) (j : Nat) (x : α), j < xs.length → (encL enc xs).take (j * d.sz) ++ enc x ++ (encL enc xs).drop (j * d.sz + (enc x).length) = encL enc (xs.set j x)
 | [], j, x, hj => by simp at hj
 | y :: r, 0, x, _ => by
  have : encL enc (y :: r) = enc y ++ encL enc r := rfl
  rw [this, Nat.zero_mul, List.take_zero, List.nil_append, Nat.zero_add, List.drop_left' (by rw [h.len, h.len])]
  rfl
 | y :: r, j + 1, x, hj => by
  have : encL enc (y :: r) = enc y ++ encL enc r := rfl
  have h2 := h.set r j x (by simpa using hj)
  have e1 : (j + 1) * d.sz = (enc y).length + j * d.sz := by rw [h.len, Nat.succ_mul]; omega
  rw [this, e1, List.take_append, List.drop_append, List.take_of_length_le (by omega), List.drop_eq_nil_of_le (by omega)]
  rw [show (enc y).length + j * d.sz - (enc y).length = j * d.sz from by omega, show (enc y).length + j * d.sz + (enc x).length - (enc y).length = j * d.sz + (enc x).length from by omega]
  rw [List.nil_append, List.append_assoc, List.append_assoc, ← List.append_assoc ((encL enc r).take _), h2]
  rfl
theorem Flat.reps (h : Flat d enc) {inner : List Value} (hr : Reps (d.M w base ok) d.sz xs inner) : inner = encL enc xs := by
 apply List.ext_getElem?
 intro q
 have hl := h.lenL xs
 by_cases hs : d.sz = 0
 ·have h1 : inner = [] := List.eq_nil_of_length_eq_zero (by rw [hr.1, hs, Nat.mul_zero])
  have h2 : encL enc xs = [] := List.eq_nil_of_length_eq_zero (by rw [hl, hs, Nat.mul_zero])
  rw [h1, h2]
 ·by_cases hq : q < xs.length * d.sz
  ·have hj : q / d.sz < xs.length := Nat.div_lt_of_lt_mul (by rw [Nat.mul_comm]; exact hq)
   have h2 := h.Mo (hr.2 (q / d.sz) _ (List.getElem?_eq_getElem hj))
   have h3 := h.at_ xs (q / d.sz) _ (List.getElem?_eq_getElem hj)
   have h4 := h2.trans h3.symm
   have hm : q % d.sz < d.sz := Nat.mod_lt _ (by omega)
   have he : q / d.sz * d.sz + q % d.sz = q := by rw [Nat.mul_comm]; exact Nat.div_add_mod q d.sz
   have h5 := congrArg (fun l => l[q % d.sz]?) h4
   simp only [List.getElem?_take, if_pos hm, List.getElem?_drop, he] at h5
   exact h5
  ·rw [List.getElem?_eq_none (by rw [hr.1]; omega), List.getElem?_eq_none (by rw [hl]; omega)]
theorem Flat.of_R (h : Flat d enc) (hR : d.R e w base ok v xs) : Rw w e d.sz v xs.length (encL enc xs) := by
 obtain ⟨_, inner, ho, hr⟩ := hR
 rw [← h.reps hr]
 exact Rw.of_own ho
theorem Flat.to_C (h : Flat d enc) {A : Option Addr} {n c : Nat} (hw : Rw w e d.sz (.slice A n c) n (encL enc xs)) (hn : xs.length = n) : d.C w A n xs := by
 refine ⟨hn, hw.max, fun h0 => ?_⟩
 obtain ⟨g, o, c', he, _, _, hc⟩ := hw.form h0
 injection he with he
 subst he
 refine ⟨_, rfl, fun j p hj => ⟨enc p, h.len p, h.Km w p, fun i u hu => ?_⟩⟩
 rw [add_at]
 exact hc _ u (h.cell hj hu)
theorem Flat.news (h : Flat d enc) {A : Option Addr} {n : Nat} (hC : d.C w A n xs) (h0 : 0 < n) : ∃ a, A = some a ∧ ∀ j u, (encL enc xs)[j]? = some u → w.cell? (a.add j) = some u := by
 obtain ⟨ad, rfl, hc⟩ := hC.2.2 h0
 refine ⟨ad, rfl, fun q u hu => ?_⟩
 have hl := h.lenL xs
 have hq : q < xs.length * d.sz := by rw [← hl]; exact (List.getElem?_eq_some_iff.1 hu).1
 have hs : 0 < d.sz := Nat.pos_of_ne_zero (fun z => by rw [z, Nat.mul_zero] at hq; omega)
 have hj : q / d.sz < xs.length := Nat.div_lt_of_lt_mul (by rw [Nat.mul_comm]; exact hq)
 obtain ⟨c, _, hK, hcell⟩ := hc (q / d.sz) _ (List.getElem?_eq_getElem hj)
 have he : q / d.sz * d.sz + q % d.sz = q := by rw [Nat.mul_comm]; exact Nat.div_add_mod q d.sz
 rw [← he]
 refine hcell _ u ?_
 rw [h.Ko hK, ← h.at_ xs _ _ (List.getElem?_eq_getElem hj), List.getElem?_take, if_pos (Nat.mod_lt _ hs), List.getElem?_drop, he]
 exact hu
theorem Flat.one (h : Flat d enc) (w : World) : ∀ u ∈ encL enc xs, u.oneCell' = true := by
 intro u hu
 obtain ⟨x, _, hx⟩ := List.mem_flatMap.1 hu
 exact d.K_one (h.Km w x) u hx
end
section
variable {P : Program} {ops : Array Oper} {rest : List Oper} {o : Oper} {a : Act} {Q : Exit → Act → World → Prop} {α : Type} {d : Kd α} {enc : α → List Value}
theorem wp_append_rw (hf : Flat d enc) {W : World} (hgd : o.guard = none) (s x : Operand) (t e : TypeId) (z : Value) (bytes : Nat)
  (ho : o.op = .call { callee := .builtin .append, args := #[s, x], argTypes := #[t, t] })
  (ht : P.underlying t = some (.slice e)) (hinfo : (P.info? e).map (fun i => (i.zero, i.size, i.bytes)) = some (some z, d.sz, bytes)) (hz : z.cells.size = d.sz) (hs0 : 0 < d.sz)
  (v : Value) (xs ys : List α) (A : Option Addr) (m c : Nat) (hs : a.eval s = v) (hx : a.eval x = .slice A m c) (HO : Rw W e d.sz v xs.length (encL enc xs)) (HR : d.C W A m ys) (hm : 0 < m)
  (hl : (xs.length + m) * bytes ≤ 140737488355328) (hl2 : xs.length + m ≤ maxLen)
  (h : ∀ v1 w1, Rw w1 e d.sz v1 (xs ++ ys).length (encL enc (xs ++ ys)) → Rw w1 e d.sz v xs.length (encL enc xs) → W.grownBy w1 v.ownBlock → ((∃ A' c', v = .slice A' xs.length c' ∧ v1 = .slice A' (xs.length + m) c') ∨ ∃ b, v1.ownBlock = some b ∧ W.heap.size ≤ b) → wpList P ops Q rest (a.put o.dst v1) w1) :
  wpList P ops Q (o :: rest) a W := by
 obtain ⟨i0, hi, hzz⟩ := Option.map_eq_some_iff.1 hinfo
 simp only [Prod.mk.injEq] at hzz
 obtain ⟨hz0, hz1, hz2⟩ := hzz
 have hn : ys.length = m := HR.1
 obtain ⟨ad, rfl, hnews⟩ := hf.news HR hm
 obtain ⟨v1, w1, hr, h1, h2, h3, h4⟩ := Rw.append (P := P) W t o.type e i0 z d.sz bytes ht hi hz0 hz1 hz2 hz hs0 v xs.length _ HO ad m c (encL enc ys) (by rw [hf.lenL, hn]) hnews (hf.one W) hm hl2 hl
 refine wpList_plain hgd fun K hK => ?_
 unfold Oper.wp execOp
 simp only [ho, resolve, invoke, builtin, Sem.run_bind, Sem.run_pure, Result.andThen_ok, List.map_toArray, List.map_cons, List.map_nil, hs, hx, hr]
 exact hK _ _ (h v1 w1 (by rw [List.length_append, hn, encL_append]; exact h1) h2 h3 h4)
end
section
variable {P : Program} {ops : Array Oper} {o : Oper} {a : Act} {Q : Exit → Act → World → Prop} {Kc : Act → World → Prop} {α : Type} {d : Kd α} {enc : α → List Value}
theorem step_append_rw (hf : Flat d enc) {W : World} (hw : Region.wanted o (yielded ops a.tmps) = true) (s x : Operand) (t e : TypeId) (z : Value) (bytes : Nat)
  (ho : o.op = .call { callee := .builtin .append, args := #[s, x], argTypes := #[t, t] })
  (ht : P.underlying t = some (.slice e)) (hinfo : (P.info? e).map (fun i => (i.zero, i.size, i.bytes)) = some (some z, d.sz, bytes)) (hz : z.cells.size = d.sz) (hs0 : 0 < d.sz)
  (v : Value) (xs ys : List α) (A : Option Addr) (m c : Nat) (hs : a.eval s = v) (hx : a.eval x = .slice A m c) (HO : Rw W e d.sz v xs.length (encL enc xs)) (HR : d.C W A m ys)
  (hl : (xs.length + m) * bytes ≤ 140737488355328) (hl2 : xs.length + m ≤ maxLen)
  (h : ∀ v1 w1, Rw w1 e d.sz v1 (xs ++ ys).length (encL enc (xs ++ ys)) → Rw w1 e d.sz v xs.length (encL enc xs) → W.grownBy w1 v.ownBlock → ((∃ A' c', v = .slice A' xs.length c' ∧ v1 = .slice A' (xs.length + m) c') ∨ ∃ b, v1.ownBlock = some b ∧ W.heap.size ≤ b) → Kc (a.put o.dst v1) w1) :
  if Region.wanted o (yielded ops a.tmps) = true then Oper.wp P o a W Kc Q else Kc (a.put o.dst undef) W := by
 obtain ⟨i0, hi, hzz⟩ := Option.map_eq_some_iff.1 hinfo
 simp only [Prod.mk.injEq] at hzz
 obtain ⟨hz0, hz1, hz2⟩ := hzz
 have hn : ys.length = m := HR.1
 obtain ⟨v1, w1, hr, h1, h2, h3, h4⟩ := Rw.append_any (P := P) W t o.type e i0 z d.sz bytes ht hi hz0 hz1 hz2 hz hs0 v xs.length _ HO A m c (encL enc ys) (by rw [hf.lenL, hn]) (fun h0 => hf.news HR h0) (hf.one W) hl2 hl
 rw [if_pos hw]
 unfold Oper.wp execOp
 simp only [ho, resolve, invoke, builtin, Sem.run_bind, Sem.run_pure, Result.andThen_ok, List.map_toArray, List.map_cons, List.map_nil, hs, hx, hr]
 exact h v1 w1 (by rw [List.length_append, hn, encL_append]; exact h1) h2 h3 h4
end
def Still (T : List TypeId) (w w1 : World) : Prop := ∀ k, k < w.heap.size → (∀ cur t, t ∈ T → w.heap[k]? ≠ some (.cells cur t (0, 0))) → w1.heap[k]? = w.heap[k]?
section
variable {T : List TypeId} {w w1 w2 : World}
theorem Still.refl (T : List TypeId) (w : World) : Still T w w := fun _ _ _ => rfl
theorem Still.trans (h : Still T w w1) (hs : w.heap.size ≤ w1.heap.size) (k : Still T w1 w2) : Still T w w2 := fun i hi hn => by
 have h1 := h i hi hn
 exact (k i (by omega) (fun cur t ht => by rw [h1]; exact hn cur t ht)).trans h1
theorem Still.of_below (h : Below w.heap.size w w1) : Still T w w1 := fun k hk _ => h.block k hk
theorem Still.below (h : Still T w w1) (hs : w.heap.size ≤ w1.heap.size) (hb : Below w1.heap.size w1 w2) : Still T w w2 := h.trans hs (Still.of_below hb)
theorem Still.of_grown {row : Option Nat} (h : w.grownBy w1 row) (hr : ∀ k, row = some k → ∃ cur t, t ∈ T ∧ w.heap[k]? = some (.cells cur t (0, 0))) : Still T w w1 := fun k hk hn => h.block k hk (fun e => by
 obtain ⟨cur, t, ht, hc⟩ := hr k e.symm
 exact hn cur t ht hc)
theorem Still.of_far {g : Nat} (h : ∀ k, k ≠ g → w1.heap[k]? = w.heap[k]?) (hg : ∃ cur t, t ∈ T ∧ w.heap[g]? = some (.cells cur t (0, 0))) : Still T w w1 := fun k hk hn => h k (fun e => by
 subst e
 obtain ⟨cur, t, ht, hc⟩ := hg
 exact hn cur t ht hc)
theorem Still.blk (h : Still T w w1) {k : Nat} {cur : Array Value} {t : TypeId} (hk : w.heap[k]? = some (.cells cur t (0, 0))) (ht : t ∉ T) : w1.heap[k]? = some (.cells cur t (0, 0)) := (h k (blk_lt hk) (fun cur' t' ht' e => by
 rw [hk] at e
 injection e with e
 injection e with _ e
 exact ht (e ▸ ht'))).trans hk
theorem Still.own (h : Still T w w1) {base n sz : Nat} {e : TypeId} {v : Value} {xs : List Value} (ho : w.ownsRow base e sz v n xs) (ht : e ∉ T) : w1.ownsRow base e sz v n xs := own_move ho (fun k hk => by
 obtain ⟨cur, hc⟩ := own_typed ho k hk
 exact (h.blk hc ht).trans hc.symm)
theorem Still.rw_ (h : Still T w w1) {n sz : Nat} {e : TypeId} {v : Value} {xs : List Value} (ho : Rw w e sz v n xs) (ht : e ∉ T) : Rw w1 e sz v n xs := ho.move (fun k hk => by
 obtain ⟨cur, hc⟩ := ho.typed k hk
 exact (h.blk hc ht).trans hc.symm)
end
def Frm (w w1 : World) (g : Nat) (p q : Value) : Prop := ∀ k, k < w.heap.size → k ≠ g → p.ownBlock ≠ some k → q.ownBlock ≠ some k → w1.heap[k]? = w.heap[k]?
theorem Frm.start {w w1 : World} {g : Nat} {p q : Value} (hg : w.grownBy w1 p.ownBlock) : Frm w w1 g p q := fun k hk _ hp _ => hg.block k hk (fun e => hp e.symm)
theorem Frm.far {w w1 w2 : World} {g : Nat} {p q : Value} (h : Frm w w1 g p q) (hm : ∀ k, k ≠ g → w2.heap[k]? = w1.heap[k]?) : Frm w w2 g p q := fun k hk hg hp hq => (hm k hg).trans (h k hk hg hp hq)
theorem Frm.below {w w1 w2 : World} {g : Nat} {p q : Value} (h : Frm w w1 g p q) (hz : w.heap.size ≤ w1.heap.size) (hb : Below w1.heap.size w1 w2) : Frm w w2 g p q := fun k hk hg hp hq => (hb.block k (Nat.lt_of_lt_of_le hk hz)).trans (h k hk hg hp hq)
theorem Frm.grown {w w1 w2 : World} {g : Nat} {p q : Value} (h : Frm w w1 g p q) (hz : w.heap.size ≤ w1.heap.size) (hg : w1.grownBy w2 q.ownBlock) : Frm w w2 g p q := fun k hk hk2 hp hq => (hg.block k (Nat.lt_of_lt_of_le hk hz) (fun e => hq e.symm)).trans (h k hk hk2 hp hq)
def NewOr (w : World) (p p1 : Value) : Prop := ∀ k, p1.ownBlock = some k → p.ownBlock = some k ∨ w.heap.size ≤ k
theorem NewOr.of {w : World} {p p1 : Value} (h : p1.ownBlock = p.ownBlock ∨ ∃ b, p1.ownBlock = some b ∧ w.heap.size ≤ b) : NewOr w p p1 := fun k hk => by
 rcases h with e | ⟨b, e, hb⟩
 ·exact .inl (e ▸ hk)
 ·rw [hk] at e
  obtain rfl := Option.some.inj e
  exact .inr hb
theorem NewOr.mono {w w1 : World} {p p1 : Value} (h : NewOr w1 p p1) (hz : w.heap.size ≤ w1.heap.size) : NewOr w p p1 := fun k hk => (h k hk).imp id (fun h2 => Nat.le_trans hz h2)
def ap (a b : Value) : Prop := ∀ k, a.ownBlock = some k → b.ownBlock ≠ some k
theorem ap.symm {a b : Value} (h : ap a b) : ap b a := fun k hb ha => h k ha hb
theorem ap.ne {a b : Value} (h : ap a b) : a.ownBlock = none ∨ a.ownBlock ≠ b.ownBlock := by
 cases e : a.ownBlock with
 | none => exact .inl rfl
 | some k => exact .inr (fun h2 => h k e h2.symm)
structure Ent (α : Type) where
 v : Value
 u : Value
 xs : List α
structure Kept {α : Type} (enc : α → List Value) (sz : Nat) (tS tE : TypeId) (w : World) (base : Nat) (p q : Value) (es : List (Ent α)) : Prop where
 rp : w.ownsRow base tS 1 p es.length (es.map (·.v))
 rq : w.ownsRow base tS 1 q es.length (es.map (·.u))
 el : ∀ x ∈ es, Rw w tE sz x.v x.xs.length (encL enc x.xs) ∧ Rw w tE sz x.u x.xs.length (encL enc x.xs) ∧ ∀ k, x.v.ownBlock = some k → base ≤ k
 dv : (es.map (·.v)).Pairwise ap
 dpq : ap p q
structure Half {α : Type} (enc : α → List Value) (sz : Nat) (tS tE : TypeId) (w : World) (base : Nat) (p q : Value) (es : List (Ent α)) (v : Value) (xs : List α) : Prop where
 rp : w.ownsRow base tS 1 p (es.length + 1) (es.map (·.v) ++ [v])
 rq : w.ownsRow base tS 1 q es.length (es.map (·.u))
 el : ∀ x ∈ es, Rw w tE sz x.v x.xs.length (encL enc x.xs) ∧ Rw w tE sz x.u x.xs.length (encL enc x.xs) ∧ ∀ k, x.v.ownBlock = some k → base ≤ k
 ev : Rw w tE sz v xs.length (encL enc xs) ∧ ∀ k, v.ownBlock = some k → base ≤ k
 dv : (es.map (·.v) ++ [v]).Pairwise ap
 dpq : ap p q
section
variable {α : Type} {enc : α → List Value} {sz base : Nat} {tS tE : TypeId} {w w1 w2 : World} {p q p1 q1 v u : Value} {es : List (Ent α)} {xs : List α}
theorem Kept.none_ (enc : α → List Value) (sz : Nat) (tS tE : TypeId) (w : World) (base : Nat) : Kept enc sz tS tE w base (.slice none 0 0) (.slice none 0 0) [] :=
 ⟨own_nil _ _ _ _, own_nil _ _ _ _, fun x hx => by simp at hx, List.Pairwise.nil, fun k hk => by simp [Value.ownBlock] at hk⟩
theorem Kept.still (h : Kept enc sz tS tE w base p q es) {T : List TypeId} (hs : Still T w w1) (h1 : tS ∉ T) (h2 : tE ∉ T) : Kept enc sz tS tE w1 base p q es :=
 ⟨hs.own h.rp h1, hs.own h.rq h1, fun x hx => ⟨hs.rw_ (h.el x hx).1 h2, hs.rw_ (h.el x hx).2.1 h2, (h.el x hx).2.2⟩, h.dv, h.dpq⟩
theorem Kept.turn (h : Kept enc sz tS tE w base p q es) {T : List TypeId} (hs : Still T w w1) (h2 : tE ∉ T) (hp : ∀ k, p.ownBlock = some k → w1.heap[k]? = w.heap[k]?) (hq : ∀ k, q.ownBlock = some k → w1.heap[k]? = w.heap[k]?) : Kept enc sz tS tE w1 base p q es :=
 ⟨own_move h.rp hp, own_move h.rq hq, fun x hx => ⟨hs.rw_ (h.el x hx).1 h2, hs.rw_ (h.el x hx).2.1 h2, (h.el x hx).2.2⟩, h.dv, h.dpq⟩
theorem Kept.below (h : Kept enc sz tS tE w base p q es) (hb : Below w.heap.size w w1) : Kept enc sz tS tE w1 base p q es := h.still (T := []) (Still.of_below hb) (by simp) (by simp)
theorem Half.still (h : Half enc sz tS tE w base p q es v xs) {T : List TypeId} (hs : Still T w w1) (h1 : tS ∉ T) (h2 : tE ∉ T) : Half enc sz tS tE w1 base p q es v xs :=
 ⟨hs.own h.rp h1, hs.own h.rq h1, fun x hx => ⟨hs.rw_ (h.el x hx).1 h2, hs.rw_ (h.el x hx).2.1 h2, (h.el x hx).2.2⟩, ⟨hs.rw_ h.ev.1 h2, h.ev.2⟩, h.dv, h.dpq⟩
theorem Half.below (h : Half enc sz tS tE w base p q es v xs) (hb : Below w.heap.size w w1) : Half enc sz tS tE w1 base p q es v xs := h.still (T := []) (Still.of_below hb) (by simp) (by simp)
theorem rw_over (h : Rw w tE sz v xs.length (encL enc xs)) {b n : Nat} {ys : List Value} (hp : w.ownsRow b tS 1 p n ys) (hg : w.grownBy w1 p.ownBlock) (hne : tS ≠ tE) : Rw w1 tE sz v xs.length (encL enc xs) := h.grown hg (by
 cases e : v.ownBlock with
 | none => exact .inl rfl
 | some k =>
  right
  intro h2
  obtain ⟨c1, hc1⟩ := h.typed k e
  obtain ⟨c2, hc2⟩ := own_typed hp k h2.symm
  rw [hc1] at hc2
  injection hc2 with hc2
  injection hc2 with _ hc2
  exact hne hc2.symm)
theorem ap_new (h : ap p q) (hat : p1.ownBlock = p.ownBlock ∨ ∃ b, p1.ownBlock = some b ∧ w.heap.size ≤ b) {b n : Nat} {ys : List Value} (hq : w.ownsRow b tS 1 q n ys) : ap p1 q := fun k hk => by
 rcases hat with hat | ⟨b, hb, hle⟩
 ·exact h k (hat ▸ hk)
 ·intro hq2
  have := own_lt hq k hq2
  rw [hb] at hk
  injection hk with hk
  omega
theorem Kept.step1 (h : Kept enc sz tS tE w base p q es) (hne : tS ≠ tE) (hv : Rw w tE sz v xs.length (encL enc xs)) (hvb : ∀ k, v.ownBlock = some k → base ≤ k) (hva : ∀ x ∈ es, ap x.v v)
  (ho : w1.ownsRow base tS 1 p1 (es.length + 1) (es.map (·.v) ++ [v])) (hg : w.grownBy w1 p.ownBlock) (hat : p1.ownBlock = p.ownBlock ∨ ∃ b, p1.ownBlock = some b ∧ w.heap.size ≤ b) : Half enc sz tS tE w1 base p1 q es v xs :=
 ⟨ho, own_other h.rq hg h.dpq.symm.ne, fun x hx => ⟨rw_over (h.el x hx).1 h.rp hg hne, rw_over (h.el x hx).2.1 h.rp hg hne, (h.el x hx).2.2⟩, ⟨rw_over hv h.rp hg hne, hvb⟩,
  List.pairwise_append.2 ⟨h.dv, List.pairwise_singleton _ _, fun a ha b hb => by
   rw [List.mem_singleton.1 hb]
   obtain ⟨x, hx, rfl⟩ := List.mem_map.1 ha
   exact hva x hx⟩, ap_new h.dpq hat h.rq⟩
theorem Half.step2 (h : Half enc sz tS tE w base p q es v xs) (hne : tS ≠ tE) (hu : Rw w tE sz u xs.length (encL enc xs))
  (ho : w1.ownsRow base tS 1 q1 (es.length + 1) (es.map (·.u) ++ [u])) (hg : w.grownBy w1 q.ownBlock) (hat : q1.ownBlock = q.ownBlock ∨ ∃ b, q1.ownBlock = some b ∧ w.heap.size ≤ b) : Kept enc sz tS tE w1 base p q1 (es ++ [⟨v, u, xs⟩]) := by
 refine ⟨?_, ?_, fun x hx => ?_, by simpa using h.dv, (ap_new h.dpq.symm hat h.rp).symm⟩
 ·simpa using own_other h.rp hg h.dpq.ne
 ·simpa using ho
 ·rcases List.mem_append.1 hx with hx | hx
  ·exact ⟨rw_over (h.el x hx).1 h.rq hg hne, rw_over (h.el x hx).2.1 h.rq hg hne, (h.el x hx).2.2⟩
  ·rw [List.mem_singleton.1 hx]
   exact ⟨rw_over h.ev.1 h.rq hg hne, rw_over hu h.rq hg hne, h.ev.2⟩
end
structure Held {α : Type} (enc : α → List Value) (sz : Nat) (tS tE : TypeId) (w : World) (base : Nat) (p : Value) (vs : List Value) (X : Nat → List α) : Prop where
 rp : w.ownsRow base tS 1 p vs.length vs
 el : ∀ i v, vs[i]? = some v → Rw w tE sz v (X i).length (encL enc (X i)) ∧ ∀ k, v.ownBlock = some k → base ≤ k
 dv : vs.Pairwise ap
section
variable {α : Type} {enc : α → List Value} {sz base : Nat} {tS tE : TypeId} {w w1 w2 : World} {p q p1 q1 v u : Value} {es : List (Ent α)} {vs : List Value} {X Y : Nat → List α}
theorem Kept.held (h : Kept enc sz tS tE w base p q es) : Held enc sz tS tE w base p (es.map (·.v)) (fun i => ((es.map (·.xs))[i]?).getD []) := by
 refine ⟨by simpa using h.rp, fun i v hv => ?_, h.dv⟩
 rw [List.getElem?_map] at hv
 obtain ⟨x, hx, rfl⟩ := Option.map_eq_some_iff.1 hv
 have e : ((es.map (·.xs))[i]?).getD [] = x.xs := by rw [List.getElem?_map, hx]; rfl
 have hm : x ∈ es := List.mem_of_getElem? hx
 simp only [e]
 exact ⟨(h.el x hm).1, (h.el x hm).2.2⟩
theorem Held.still (h : Held enc sz tS tE w base p vs X) {T : List TypeId} (hs : Still T w w1) (h1 : tS ∉ T) (h2 : tE ∉ T) : Held enc sz tS tE w1 base p vs X :=
 ⟨hs.own h.rp h1, fun i v hv => ⟨hs.rw_ (h.el i v hv).1 h2, (h.el i v hv).2⟩, h.dv⟩
theorem Held.below (h : Held enc sz tS tE w base p vs X) (hb : Below w.heap.size w w1) : Held enc sz tS tE w1 base p vs X := h.still (T := []) (Still.of_below hb) (by simp) (by simp)
theorem Held.congr (h : Held enc sz tS tE w base p vs X) (hx : ∀ i, i < vs.length → X i = Y i) : Held enc sz tS tE w base p vs Y :=
 ⟨h.rp, fun i v hv => by rw [← hx i (List.getElem?_eq_some_iff.1 hv).1]; exact h.el i v hv, h.dv⟩
theorem ap_of (h : vs.Pairwise ap) {i j : Nat} {a b : Value} (hi : vs[i]? = some a) (hj : vs[j]? = some b) (hne : i ≠ j) : ap a b := by
 obtain ⟨li, ei⟩ := List.getElem?_eq_some_iff.1 hi
 obtain ⟨lj, ej⟩ := List.getElem?_eq_some_iff.1 hj
 subst ei; subst ej
 rcases Nat.lt_or_gt_of_ne hne with h2 | h2
 ·exact List.pairwise_iff_getElem.1 h i j li lj h2
 ·exact (List.pairwise_iff_getElem.1 h j i lj li h2).symm
theorem Held.put {d : Kd α} (hf : Flat d enc) (h : Held enc d.sz tS tE w base p vs X) (hne : tS ≠ tE) {i m g o n c : Nat} (hv : vs[i]? = some (.slice (some ⟨g, o, none⟩) n c)) (hm : m < (X i).length) (x : α) :
  Held enc d.sz tS tE (w.setCells g (o + m * d.sz) (enc x)) base p vs (fun k => if k = i then (X i).set m x else X k) := by
 have h1 := (h.el i _ hv).1
 obtain rfl : n = (X i).length := by
  obtain ⟨A, c', e, _⟩ := h1.slice
  injection e
 have hlen := hf.lenL (X i)
 have hle : (m + 1) * d.sz ≤ (X i).length * d.sz := Nat.mul_le_mul_right _ hm
 rw [Nat.succ_mul] at hle
 have h2 := h1.put (p := m * d.sz) (seg := enc x) (by rw [hf.len, hlen]; exact hle)
 rw [hf.set _ _ _ hm] at h2
 have hfar : ∀ k, k ≠ g → (w.setCells g (o + m * d.sz) (enc x)).heap[k]? = w.heap[k]? := fun k hk => setCells_far _ _ k hk
 refine ⟨own_move h.rp (fun k hk => hfar k ?_), fun j v hj => ⟨?_, (h.el j v hj).2⟩, h.dv⟩
 ·rintro rfl
  obtain ⟨c1, hc1⟩ := own_typed h.rp k hk
  obtain ⟨c2, hc2⟩ := h1.typed k (by simp [Value.ownBlock])
  rw [hc1] at hc2
  injection hc2 with hc2
  injection hc2 with _ hc2
  exact hne hc2
 ·by_cases hji : j = i
  ·subst hji
   rw [hv] at hj
   injection hj with hj
   subst hj
   simp only [if_pos]
   rw [List.length_set]
   exact h2
  ·simp only [if_neg hji]
   refine (h.el j v hj).1.move (fun k hk => hfar k ?_)
   rintro rfl
   exact ap_of h.dv hj hv hji k hk (by simp [Value.ownBlock])
end
section
variable {w : World} {g o : Nat} {vs : List Value}
theorem below_setCells {B : Nat} {a : World} (h : Below B a w) (hg : B ≤ g) : Below B a (w.setCells g o vs) := by
 obtain ⟨s1, s2, s3, s4⟩ := setCells_same g vs o w
 exact h.trans ⟨s1, s2, s3, by rw [s4]; exact Nat.le_refl _, fun k hk => setCells_far vs o k (by omega)⟩
theorem still_setCells {T : List TypeId} {cur : Array Value} {t : TypeId} (hb : w.heap[g]? = some (.cells cur t (0, 0))) (ht : t ∈ T) : Still T w (w.setCells g o vs) := Still.of_far (g := g) (fun k hk => setCells_far vs o k hk) ⟨cur, t, ht, hb⟩
theorem size_setCells : (w.setCells g o vs).heap.size = w.heap.size := (setCells_same g vs o w).2.2.2
end
theorem Still.grown_new {T : List TypeId} {w w1 w2 : World} (h : Still T w w1) (hs : w.heap.size ≤ w1.heap.size) {row : Option Nat} (hg : w1.grownBy w2 row) (hr : ∀ k, row = some k → w.heap.size ≤ k) : Still T w w2 := fun k hk hn => (hg.block k (by omega) (fun e => by have := hr k e.symm; omega)).trans (h k hk hn)
theorem own_sl (A : Option Addr) (n c n' c' : Nat) : (Value.slice A n c).ownBlock = (Value.slice A n' c').ownBlock := by cases A <;> rfl
theorem xs_le {α : Type} {es : List (Ent α)} {N : Nat} (h : ∀ x ∈ es, x.xs.length ≤ N) (i : Nat) : (((es.map (·.xs))[i]?).getD []).length ≤ N := by
 rw [List.getElem?_map]
 cases e : es[i]? with
 | none => exact Nat.zero_le _
 | some x => exact h x (List.mem_of_getElem? e)
theorem mem_snoc_imp {α : Type} {P : α → Prop} {es : List α} {y : α} (h1 : ∀ x ∈ es, P x) (h2 : P y) : ∀ x ∈ es ++ [y], P x := fun x hx => by
 rcases List.mem_append.1 hx with h | h
 ·exact h1 x h
 ·rw [List.mem_singleton.1 h]
  exact h2
end Go.Proofs.YtchgpcgolgcfdaaGreat.BkW
end
section
namespace Go.Proofs.YtchgpcgolgcfdaaGreat.BkN
open Go Go.RowKit Go.Proofs.YtchgpcgolgcfdaaGreatW.PrintWords Go.Proofs.YtchgpcgolgcfdaaGreatW.PrintLast Go.Proofs.YtchgpcgolgcfdaaGreatW.PrintMore
set_option linter.unusedVariables false
set_option linter.unusedSimpArgs false
set_option maxHeartbeats 1000000 in
set_option maxRecDepth 100000 in
theorem stillTexts (w : World) (g : Nat) (c6 : w.cell? ⟨g, 0, none⟩ = some (.slice none 0 0)) : Calls Tryz.prog 104 #[.pointer (some ⟨g, 0, none⟩)] w fun e w' => e = .returned (.bool true) ∧ w' = w := by
 go_enter Tryz.func104, Tryz.ntmps104
 go_wp2_with (fail)
 go_loop [3] (fun i => i = .int .i64 0) (fun _ => 0)
 case atStart => rfl
 case round =>
  obtain rfl := hrel
  go_wp2_with (fail)
  go_ret
  exact ⟨rfl, rfl⟩
set_option maxHeartbeats 1000000 in
set_option maxRecDepth 100000 in
theorem putTexts (w : World) (g : Nat) (c6 : w.cell? ⟨g, 0, none⟩ = some (.slice none 0 0)) : Calls Tryz.prog 120 #[.pointer (some ⟨g, 0, none⟩)] w fun e w' => e = .returned (.tuple #[]) ∧ w' = w := by
 go_enter Tryz.func120, Tryz.ntmps120
 go_wp2_with (fail)
 go_loop [2] (fun i => i = .int .i64 0) (fun _ => 0)
 case atStart => rfl
 case round =>
  obtain rfl := hrel
  go_wp2_with (fail)
  go_end0
  exact ⟨rfl, rfl⟩
set_option maxHeartbeats 1000000 in
set_option maxRecDepth 100000 in
theorem growTexts (w : World) (g : Nat) (c6 : w.cell? ⟨g, 0, none⟩ = some (.slice none 0 0)) : Calls Tryz.prog 132 #[.pointer (some ⟨g, 0, none⟩)] w fun e w' => e = .returned (.slice none 0 0) ∧ w' = w := by
 go_enter Tryz.func132, Tryz.ntmps132
 go_wp2_with (fail)
 go_loop [3, 4] (fun v i => v = .slice none 0 0 ∧ i = .int .i64 0) (fun _ _ => 0)
 case atStart => exact ⟨rfl, rfl⟩
 case round =>
  obtain ⟨rfl, rfl⟩ := hrel
  go_wp2_with (fail)
  go_ret
  exact ⟨rfl, rfl⟩
set_option maxHeartbeats 1000000 in
set_option maxRecDepth 100000 in
theorem markedTexts (w : World) : Calls Tryz.prog 146 #[.slice none 0 0] w fun e w' => e = .returned (.bool true) ∧ w' = w := by
 go_enter Tryz.func146, Tryz.ntmps146
 go_wp2_with (fail)
 go_loop [3] (fun i => i = .int .i64 0) (fun _ => 0)
 case atStart => rfl
 case round =>
  obtain rfl := hrel
  go_wp2_with (fail)
  go_ret
  exact ⟨rfl, rfl⟩
set_option maxHeartbeats 1000000 in
set_option maxRecDepth 100000 in
theorem stillInts (w : World) (g : Nat) (c6 : w.cell? ⟨g, 2, none⟩ = some (.slice none 0 0)) : Calls Tryz.prog 105 #[.pointer (some ⟨g, 0, none⟩)] w fun e w' => e = .returned (.bool true) ∧ w' = w := by
 go_enter Tryz.func105, Tryz.ntmps105
 go_wp2_with (fail)
 go_loop [3] (fun i => i = .int .i64 0) (fun _ => 0)
 case atStart => rfl
 case round =>
  obtain rfl := hrel
  go_wp2_with (fail)
  go_ret
  exact ⟨rfl, rfl⟩
set_option maxHeartbeats 1000000 in
set_option maxRecDepth 100000 in
theorem putInts (w : World) (g : Nat) (c6 : w.cell? ⟨g, 2, none⟩ = some (.slice none 0 0)) : Calls Tryz.prog 121 #[.pointer (some ⟨g, 0, none⟩)] w fun e w' => e = .returned (.tuple #[]) ∧ w' = w := by
 go_enter Tryz.func121, Tryz.ntmps121
 go_wp2_with (fail)
 go_loop [2] (fun i => i = .int .i64 0) (fun _ => 0)
 case atStart => rfl
 case round =>
  obtain rfl := hrel
  go_wp2_with (fail)
  go_end0
  exact ⟨rfl, rfl⟩
set_option maxHeartbeats 1000000 in
set_option maxRecDepth 100000 in
theorem growInts (w : World) (g : Nat) (c6 : w.cell? ⟨g, 2, none⟩ = some (.slice none 0 0)) : Calls Tryz.prog 133 #[.pointer (some ⟨g, 0, none⟩)] w fun e w' => e = .returned (.slice none 0 0) ∧ w' = w := by
 go_enter Tryz.func133, Tryz.ntmps133
 go_wp2_with (fail)
 go_loop [3, 4] (fun v i => v = .slice none 0 0 ∧ i = .int .i64 0) (fun _ _ => 0)
 case atStart => exact ⟨rfl, rfl⟩
 case round =>
  obtain ⟨rfl, rfl⟩ := hrel
  go_wp2_with (fail)
  go_ret
  exact ⟨rfl, rfl⟩
set_option maxHeartbeats 1000000 in
set_option maxRecDepth 100000 in
theorem markedInts (w : World) : Calls Tryz.prog 147 #[.slice none 0 0] w fun e w' => e = .returned (.bool true) ∧ w' = w := by
 go_enter Tryz.func147, Tryz.ntmps147
 go_wp2_with (fail)
 go_loop [3] (fun i => i = .int .i64 0) (fun _ => 0)
 case atStart => rfl
 case round =>
  obtain rfl := hrel
  go_wp2_with (fail)
  go_ret
  exact ⟨rfl, rfl⟩
set_option maxHeartbeats 1000000 in
set_option maxRecDepth 100000 in
theorem stillNums (w : World) (g : Nat) (c6 : w.cell? ⟨g, 4, none⟩ = some (.slice none 0 0)) : Calls Tryz.prog 106 #[.pointer (some ⟨g, 0, none⟩)] w fun e w' => e = .returned (.bool true) ∧ w' = w := by
 go_enter Tryz.func106, Tryz.ntmps106
 go_wp2_with (fail)
 go_loop [3] (fun i => i = .int .i64 0) (fun _ => 0)
 case atStart => rfl
 case round =>
  obtain rfl := hrel
  go_wp2_with (fail)
  go_ret
  exact ⟨rfl, rfl⟩
set_option maxHeartbeats 1000000 in
set_option maxRecDepth 100000 in
theorem putNums (w : World) (g : Nat) (c6 : w.cell? ⟨g, 4, none⟩ = some (.slice none 0 0)) : Calls Tryz.prog 122 #[.pointer (some ⟨g, 0, none⟩)] w fun e w' => e = .returned (.tuple #[]) ∧ w' = w := by
 go_enter Tryz.func122, Tryz.ntmps122
 go_wp2_with (fail)
 go_loop [2] (fun i => i = .int .i64 0) (fun _ => 0)
 case atStart => rfl
 case round =>
  obtain rfl := hrel
  go_wp2_with (fail)
  go_end0
  exact ⟨rfl, rfl⟩
set_option maxHeartbeats 1000000 in
set_option maxRecDepth 100000 in
theorem growNums (w : World) (g : Nat) (c6 : w.cell? ⟨g, 4, none⟩ = some (.slice none 0 0)) : Calls Tryz.prog 134 #[.pointer (some ⟨g, 0, none⟩)] w fun e w' => e = .returned (.slice none 0 0) ∧ w' = w := by
 go_enter Tryz.func134, Tryz.ntmps134
 go_wp2_with (fail)
 go_loop [3, 4] (fun v i => v = .slice none 0 0 ∧ i = .int .i64 0) (fun _ _ => 0)
 case atStart => exact ⟨rfl, rfl⟩
 case round =>
  obtain ⟨rfl, rfl⟩ := hrel
  go_wp2_with (fail)
  go_ret
  exact ⟨rfl, rfl⟩
set_option maxHeartbeats 1000000 in
set_option maxRecDepth 100000 in
theorem markedNums (w : World) : Calls Tryz.prog 148 #[.slice none 0 0] w fun e w' => e = .returned (.bool true) ∧ w' = w := by
 go_enter Tryz.func148, Tryz.ntmps148
 go_wp2_with (fail)
 go_loop [3] (fun i => i = .int .i64 0) (fun _ => 0)
 case atStart => rfl
 case round =>
  obtain rfl := hrel
  go_wp2_with (fail)
  go_ret
  exact ⟨rfl, rfl⟩
set_option maxHeartbeats 1000000 in
set_option maxRecDepth 100000 in
theorem stillWrites (w : World) (g : Nat) (c6 : w.cell? ⟨g, 10, none⟩ = some (.slice none 0 0)) : Calls Tryz.prog 109 #[.pointer (some ⟨g, 0, none⟩)] w fun e w' => e = .returned (.bool true) ∧ w' = w := by
 go_enter Tryz.func109, Tryz.ntmps109
 go_wp2_with (fail)
 go_loop [3] (fun i => i = .int .i64 0) (fun _ => 0)
 case atStart => rfl
 case round =>
  obtain rfl := hrel
  go_wp2_with (fail)
  go_ret
  exact ⟨rfl, rfl⟩
set_option maxHeartbeats 1000000 in
set_option maxRecDepth 100000 in
theorem putWrites (w : World) (g : Nat) (c6 : w.cell? ⟨g, 10, none⟩ = some (.slice none 0 0)) : Calls Tryz.prog 125 #[.pointer (some ⟨g, 0, none⟩)] w fun e w' => e = .returned (.tuple #[]) ∧ w' = w := by
 go_enter Tryz.func125, Tryz.ntmps125
 go_wp2_with (fail)
 go_loop [2] (fun i => i = .int .i64 0) (fun _ => 0)
 case atStart => rfl
 case round =>
  obtain rfl := hrel
  go_wp2_with (fail)
  go_end0
  exact ⟨rfl, rfl⟩
set_option maxHeartbeats 1000000 in
set_option maxRecDepth 100000 in
theorem growWrites (w : World) (g : Nat) (c6 : w.cell? ⟨g, 10, none⟩ = some (.slice none 0 0)) : Calls Tryz.prog 137 #[.pointer (some ⟨g, 0, none⟩)] w fun e w' => e = .returned (.slice none 0 0) ∧ w' = w := by
 go_enter Tryz.func137, Tryz.ntmps137
 go_wp2_with (fail)
 go_loop [3, 4] (fun v i => v = .slice none 0 0 ∧ i = .int .i64 0) (fun _ _ => 0)
 case atStart => exact ⟨rfl, rfl⟩
 case round =>
  obtain ⟨rfl, rfl⟩ := hrel
  go_wp2_with (fail)
  go_ret
  exact ⟨rfl, rfl⟩
set_option maxHeartbeats 1000000 in
set_option maxRecDepth 100000 in
theorem markedWrites (w : World) : Calls Tryz.prog 151 #[.slice none 0 0] w fun e w' => e = .returned (.bool true) ∧ w' = w := by
 go_enter Tryz.func151, Tryz.ntmps151
 go_wp2_with (fail)
 go_loop [3] (fun i => i = .int .i64 0) (fun _ => 0)
 case atStart => rfl
 case round =>
  obtain rfl := hrel
  go_wp2_with (fail)
  go_ret
  exact ⟨rfl, rfl⟩
set_option maxHeartbeats 1000000 in
set_option maxRecDepth 100000 in
theorem stillTables (w : World) (g : Nat) (c6 : w.cell? ⟨g, 12, none⟩ = some (.slice none 0 0)) : Calls Tryz.prog 110 #[.pointer (some ⟨g, 0, none⟩)] w fun e w' => e = .returned (.bool true) ∧ w' = w := by
 go_enter Tryz.func110, Tryz.ntmps110
 go_wp2_with (fail)
 go_loop [3] (fun i => i = .int .i64 0) (fun _ => 0)
 case atStart => rfl
 case round =>
  obtain rfl := hrel
  go_wp2_with (fail)
  go_ret
  exact ⟨rfl, rfl⟩
set_option maxHeartbeats 1000000 in
set_option maxRecDepth 100000 in
theorem putTables (w : World) (g : Nat) (c6 : w.cell? ⟨g, 12, none⟩ = some (.slice none 0 0)) : Calls Tryz.prog 126 #[.pointer (some ⟨g, 0, none⟩)] w fun e w' => e = .returned (.tuple #[]) ∧ w' = w := by
 go_enter Tryz.func126, Tryz.ntmps126
 go_wp2_with (fail)
 go_loop [2] (fun i => i = .int .i64 0) (fun _ => 0)
 case atStart => rfl
 case round =>
  obtain rfl := hrel
  go_wp2_with (fail)
  go_end0
  exact ⟨rfl, rfl⟩
set_option maxHeartbeats 1000000 in
set_option maxRecDepth 100000 in
theorem growTables (w : World) (g : Nat) (c6 : w.cell? ⟨g, 12, none⟩ = some (.slice none 0 0)) : Calls Tryz.prog 138 #[.pointer (some ⟨g, 0, none⟩)] w fun e w' => e = .returned (.slice none 0 0) ∧ w' = w := by
 go_enter Tryz.func138, Tryz.ntmps138
 go_wp2_with (fail)
 go_loop [3, 4] (fun v i => v = .slice none 0 0 ∧ i = .int .i64 0) (fun _ _ => 0)
 case atStart => exact ⟨rfl, rfl⟩
 case round =>
  obtain ⟨rfl, rfl⟩ := hrel
  go_wp2_with (fail)
  go_ret
  exact ⟨rfl, rfl⟩
set_option maxHeartbeats 1000000 in
set_option maxRecDepth 100000 in
theorem markedTables (w : World) : Calls Tryz.prog 152 #[.slice none 0 0] w fun e w' => e = .returned (.bool true) ∧ w' = w := by
 go_enter Tryz.func152, Tryz.ntmps152
 go_wp2_with (fail)
 go_loop [3] (fun i => i = .int .i64 0) (fun _ => 0)
 case atStart => rfl
 case round =>
  obtain rfl := hrel
  go_wp2_with (fail)
  go_ret
  exact ⟨rfl, rfl⟩
set_option maxHeartbeats 1000000 in
set_option maxRecDepth 100000 in
theorem stillDots (w : World) (g : Nat) (c6 : w.cell? ⟨g, 14, none⟩ = some (.slice none 0 0)) : Calls Tryz.prog 111 #[.pointer (some ⟨g, 0, none⟩)] w fun e w' => e = .returned (.bool true) ∧ w' = w := by
 go_enter Tryz.func111, Tryz.ntmps111
 go_wp2_with (fail)
 go_loop [3] (fun i => i = .int .i64 0) (fun _ => 0)
 case atStart => rfl
 case round =>
  obtain rfl := hrel
  go_wp2_with (fail)
  go_ret
  exact ⟨rfl, rfl⟩
set_option maxHeartbeats 1000000 in
set_option maxRecDepth 100000 in
theorem putDots (w : World) (g : Nat) (c6 : w.cell? ⟨g, 14, none⟩ = some (.slice none 0 0)) : Calls Tryz.prog 127 #[.pointer (some ⟨g, 0, none⟩)] w fun e w' => e = .returned (.tuple #[]) ∧ w' = w := by
 go_enter Tryz.func127, Tryz.ntmps127
 go_wp2_with (fail)
 go_loop [2] (fun i => i = .int .i64 0) (fun _ => 0)
 case atStart => rfl
 case round =>
  obtain rfl := hrel
  go_wp2_with (fail)
  go_end0
  exact ⟨rfl, rfl⟩
set_option maxHeartbeats 1000000 in
set_option maxRecDepth 100000 in
theorem growDots (w : World) (g : Nat) (c6 : w.cell? ⟨g, 14, none⟩ = some (.slice none 0 0)) : Calls Tryz.prog 139 #[.pointer (some ⟨g, 0, none⟩)] w fun e w' => e = .returned (.slice none 0 0) ∧ w' = w := by
 go_enter Tryz.func139, Tryz.ntmps139
 go_wp2_with (fail)
 go_loop [3, 4] (fun v i => v = .slice none 0 0 ∧ i = .int .i64 0) (fun _ _ => 0)
 case atStart => exact ⟨rfl, rfl⟩
 case round =>
  obtain ⟨rfl, rfl⟩ := hrel
  go_wp2_with (fail)
  go_ret
  exact ⟨rfl, rfl⟩
set_option maxHeartbeats 1000000 in
set_option maxRecDepth 100000 in
theorem markedDots (w : World) : Calls Tryz.prog 153 #[.slice none 0 0] w fun e w' => e = .returned (.bool true) ∧ w' = w := by
 go_enter Tryz.func153, Tryz.ntmps153
 go_wp2_with (fail)
 go_loop [3] (fun i => i = .int .i64 0) (fun _ => 0)
 case atStart => rfl
 case round =>
  obtain rfl := hrel
  go_wp2_with (fail)
  go_ret
  exact ⟨rfl, rfl⟩
set_option maxHeartbeats 1000000 in
set_option maxRecDepth 100000 in
theorem stillSpans (w : World) (g : Nat) (c6 : w.cell? ⟨g, 16, none⟩ = some (.slice none 0 0)) : Calls Tryz.prog 112 #[.pointer (some ⟨g, 0, none⟩)] w fun e w' => e = .returned (.bool true) ∧ w' = w := by
 go_enter Tryz.func112, Tryz.ntmps112
 go_wp2_with (fail)
 go_loop [3] (fun i => i = .int .i64 0) (fun _ => 0)
 case atStart => rfl
 case round =>
  obtain rfl := hrel
  go_wp2_with (fail)
  go_ret
  exact ⟨rfl, rfl⟩
set_option maxHeartbeats 1000000 in
set_option maxRecDepth 100000 in
theorem putSpans (w : World) (g : Nat) (c6 : w.cell? ⟨g, 16, none⟩ = some (.slice none 0 0)) : Calls Tryz.prog 128 #[.pointer (some ⟨g, 0, none⟩)] w fun e w' => e = .returned (.tuple #[]) ∧ w' = w := by
 go_enter Tryz.func128, Tryz.ntmps128
 go_wp2_with (fail)
 go_loop [2] (fun i => i = .int .i64 0) (fun _ => 0)
 case atStart => rfl
 case round =>
  obtain rfl := hrel
  go_wp2_with (fail)
  go_end0
  exact ⟨rfl, rfl⟩
set_option maxHeartbeats 1000000 in
set_option maxRecDepth 100000 in
theorem growSpans (w : World) (g : Nat) (c6 : w.cell? ⟨g, 16, none⟩ = some (.slice none 0 0)) : Calls Tryz.prog 140 #[.pointer (some ⟨g, 0, none⟩)] w fun e w' => e = .returned (.slice none 0 0) ∧ w' = w := by
 go_enter Tryz.func140, Tryz.ntmps140
 go_wp2_with (fail)
 go_loop [3, 4] (fun v i => v = .slice none 0 0 ∧ i = .int .i64 0) (fun _ _ => 0)
 case atStart => exact ⟨rfl, rfl⟩
 case round =>
  obtain ⟨rfl, rfl⟩ := hrel
  go_wp2_with (fail)
  go_ret
  exact ⟨rfl, rfl⟩
set_option maxHeartbeats 1000000 in
set_option maxRecDepth 100000 in
theorem markedSpans (w : World) : Calls Tryz.prog 154 #[.slice none 0 0] w fun e w' => e = .returned (.bool true) ∧ w' = w := by
 go_enter Tryz.func154, Tryz.ntmps154
 go_wp2_with (fail)
 go_loop [3] (fun i => i = .int .i64 0) (fun _ => 0)
 case atStart => rfl
 case round =>
  obtain rfl := hrel
  go_wp2_with (fail)
  go_ret
  exact ⟨rfl, rfl⟩
set_option maxHeartbeats 1000000 in
set_option maxRecDepth 100000 in
theorem stillItems (w : World) (g : Nat) (c6 : w.cell? ⟨g, 18, none⟩ = some (.slice none 0 0)) : Calls Tryz.prog 113 #[.pointer (some ⟨g, 0, none⟩)] w fun e w' => e = .returned (.bool true) ∧ w' = w := by
 go_enter Tryz.func113, Tryz.ntmps113
 go_wp2_with (fail)
 go_loop [3] (fun i => i = .int .i64 0) (fun _ => 0)
 case atStart => rfl
 case round =>
  obtain rfl := hrel
  go_wp2_with (fail)
  go_ret
  exact ⟨rfl, rfl⟩
set_option maxHeartbeats 1000000 in
set_option maxRecDepth 100000 in
theorem putItems (w : World) (g : Nat) (c6 : w.cell? ⟨g, 18, none⟩ = some (.slice none 0 0)) : Calls Tryz.prog 129 #[.pointer (some ⟨g, 0, none⟩)] w fun e w' => e = .returned (.tuple #[]) ∧ w' = w := by
 go_enter Tryz.func129, Tryz.ntmps129
 go_wp2_with (fail)
 go_loop [2] (fun i => i = .int .i64 0) (fun _ => 0)
 case atStart => rfl
 case round =>
  obtain rfl := hrel
  go_wp2_with (fail)
  go_end0
  exact ⟨rfl, rfl⟩
set_option maxHeartbeats 1000000 in
set_option maxRecDepth 100000 in
theorem growItems (w : World) (g : Nat) (c6 : w.cell? ⟨g, 18, none⟩ = some (.slice none 0 0)) : Calls Tryz.prog 141 #[.pointer (some ⟨g, 0, none⟩)] w fun e w' => e = .returned (.slice none 0 0) ∧ w' = w := by
 go_enter Tryz.func141, Tryz.ntmps141
 go_wp2_with (fail)
 go_loop [3, 4] (fun v i => v = .slice none 0 0 ∧ i = .int .i64 0) (fun _ _ => 0)
 case atStart => exact ⟨rfl, rfl⟩
 case round =>
  obtain ⟨rfl, rfl⟩ := hrel
  go_wp2_with (fail)
  go_ret
  exact ⟨rfl, rfl⟩
set_option maxHeartbeats 1000000 in
set_option maxRecDepth 100000 in
theorem markedItems (w : World) : Calls Tryz.prog 155 #[.slice none 0 0] w fun e w' => e = .returned (.bool true) ∧ w' = w := by
 go_enter Tryz.func155, Tryz.ntmps155
 go_wp2_with (fail)
 go_loop [3] (fun i => i = .int .i64 0) (fun _ => 0)
 case atStart => rfl
 case round =>
  obtain rfl := hrel
  go_wp2_with (fail)
  go_ret
  exact ⟨rfl, rfl⟩
set_option maxHeartbeats 1000000 in
set_option maxRecDepth 100000 in
theorem stillParts (w : World) (g : Nat) (c6 : w.cell? ⟨g, 20, none⟩ = some (.slice none 0 0)) : Calls Tryz.prog 114 #[.pointer (some ⟨g, 0, none⟩)] w fun e w' => e = .returned (.bool true) ∧ w' = w := by
 go_enter Tryz.func114, Tryz.ntmps114
 go_wp2_with (fail)
 go_loop [3] (fun i => i = .int .i64 0) (fun _ => 0)
 case atStart => rfl
 case round =>
  obtain rfl := hrel
  go_wp2_with (fail)
  go_ret
  exact ⟨rfl, rfl⟩
set_option maxHeartbeats 1000000 in
set_option maxRecDepth 100000 in
theorem putParts (w : World) (g : Nat) (c6 : w.cell? ⟨g, 20, none⟩ = some (.slice none 0 0)) : Calls Tryz.prog 130 #[.pointer (some ⟨g, 0, none⟩)] w fun e w' => e = .returned (.tuple #[]) ∧ w' = w := by
 go_enter Tryz.func130, Tryz.ntmps130
 go_wp2_with (fail)
 go_loop [2] (fun i => i = .int .i64 0) (fun _ => 0)
 case atStart => rfl
 case round =>
  obtain rfl := hrel
  go_wp2_with (fail)
  go_end0
  exact ⟨rfl, rfl⟩
set_option maxHeartbeats 1000000 in
set_option maxRecDepth 100000 in
theorem growParts (w : World) (g : Nat) (c6 : w.cell? ⟨g, 20, none⟩ = some (.slice none 0 0)) : Calls Tryz.prog 142 #[.pointer (some ⟨g, 0, none⟩)] w fun e w' => e = .returned (.slice none 0 0) ∧ w' = w := by
 go_enter Tryz.func142, Tryz.ntmps142
 go_wp2_with (fail)
 go_loop [3, 4] (fun v i => v = .slice none 0 0 ∧ i = .int .i64 0) (fun _ _ => 0)
 case atStart => exact ⟨rfl, rfl⟩
 case round =>
  obtain ⟨rfl, rfl⟩ := hrel
  go_wp2_with (fail)
  go_ret
  exact ⟨rfl, rfl⟩
set_option maxHeartbeats 1000000 in
set_option maxRecDepth 100000 in
theorem markedParts (w : World) : Calls Tryz.prog 156 #[.slice none 0 0] w fun e w' => e = .returned (.bool true) ∧ w' = w := by
 go_enter Tryz.func156, Tryz.ntmps156
 go_wp2_with (fail)
 go_loop [3] (fun i => i = .int .i64 0) (fun _ => 0)
 case atStart => rfl
 case round =>
  obtain rfl := hrel
  go_wp2_with (fail)
  go_ret
  exact ⟨rfl, rfl⟩
set_option maxHeartbeats 1000000 in
set_option maxRecDepth 100000 in
theorem stillBatches (w : World) (g : Nat) (c6 : w.cell? ⟨g, 22, none⟩ = some (.slice none 0 0)) : Calls Tryz.prog 115 #[.pointer (some ⟨g, 0, none⟩)] w fun e w' => e = .returned (.bool true) ∧ w' = w := by
 go_enter Tryz.func115, Tryz.ntmps115
 go_wp2_with (fail)
 go_loop [3] (fun i => i = .int .i64 0) (fun _ => 0)
 case atStart => rfl
 case round =>
  obtain rfl := hrel
  go_wp2_with (fail)
  go_ret
  exact ⟨rfl, rfl⟩
set_option maxHeartbeats 1000000 in
set_option maxRecDepth 100000 in
theorem putBatches (w : World) (g : Nat) (c6 : w.cell? ⟨g, 22, none⟩ = some (.slice none 0 0)) : Calls Tryz.prog 118 #[.pointer (some ⟨g, 0, none⟩)] w fun e w' => e = .returned (.tuple #[]) ∧ w' = w := by
 go_enter Tryz.func118, Tryz.ntmps118
 go_wp2_with (fail)
 go_loop [2] (fun i => i = .int .i64 0) (fun _ => 0)
 case atStart => rfl
 case round =>
  obtain rfl := hrel
  go_wp2_with (fail)
  go_end0
  exact ⟨rfl, rfl⟩
set_option maxHeartbeats 1000000 in
set_option maxRecDepth 100000 in
theorem growBatches (w : World) (g : Nat) (c6 : w.cell? ⟨g, 22, none⟩ = some (.slice none 0 0)) : Calls Tryz.prog 143 #[.pointer (some ⟨g, 0, none⟩)] w fun e w' => e = .returned (.slice none 0 0) ∧ w' = w := by
 go_enter Tryz.func143, Tryz.ntmps143
 go_wp2_with (fail)
 go_loop [3, 4] (fun v i => v = .slice none 0 0 ∧ i = .int .i64 0) (fun _ _ => 0)
 case atStart => exact ⟨rfl, rfl⟩
 case round =>
  obtain ⟨rfl, rfl⟩ := hrel
  go_wp2_with (fail)
  go_ret
  exact ⟨rfl, rfl⟩
set_option maxHeartbeats 1000000 in
set_option maxRecDepth 100000 in
theorem markedBatches (w : World) : Calls Tryz.prog 157 #[.slice none 0 0] w fun e w' => e = .returned (.bool true) ∧ w' = w := by
 go_enter Tryz.func157, Tryz.ntmps157
 go_wp2_with (fail)
 go_loop [3] (fun i => i = .int .i64 0) (fun _ => 0)
 case atStart => rfl
 case round =>
  obtain rfl := hrel
  go_wp2_with (fail)
  go_ret
  exact ⟨rfl, rfl⟩
set_option maxHeartbeats 1000000 in
set_option maxRecDepth 100000 in
theorem stillPackets (w : World) (g : Nat) (c6 : w.cell? ⟨g, 24, none⟩ = some (.slice none 0 0)) : Calls Tryz.prog 116 #[.pointer (some ⟨g, 0, none⟩)] w fun e w' => e = .returned (.bool true) ∧ w' = w := by
 go_enter Tryz.func116, Tryz.ntmps116
 go_wp2_with (fail)
 go_loop [3] (fun i => i = .int .i64 0) (fun _ => 0)
 case atStart => rfl
 case round =>
  obtain rfl := hrel
  go_wp2_with (fail)
  go_ret
  exact ⟨rfl, rfl⟩
set_option maxHeartbeats 1000000 in
set_option maxRecDepth 100000 in
theorem putPackets (w : World) (g : Nat) (c6 : w.cell? ⟨g, 24, none⟩ = some (.slice none 0 0)) : Calls Tryz.prog 131 #[.pointer (some ⟨g, 0, none⟩)] w fun e w' => e = .returned (.tuple #[]) ∧ w' = w := by
 go_enter Tryz.func131, Tryz.ntmps131
 go_wp2_with (fail)
 go_loop [2] (fun i => i = .int .i64 0) (fun _ => 0)
 case atStart => rfl
 case round =>
  obtain rfl := hrel
  go_wp2_with (fail)
  go_end0
  exact ⟨rfl, rfl⟩
set_option maxHeartbeats 1000000 in
set_option maxRecDepth 100000 in
theorem growPackets (w : World) (g : Nat) (c6 : w.cell? ⟨g, 24, none⟩ = some (.slice none 0 0)) : Calls Tryz.prog 144 #[.pointer (some ⟨g, 0, none⟩)] w fun e w' => e = .returned (.slice none 0 0) ∧ w' = w := by
 go_enter Tryz.func144, Tryz.ntmps144
 go_wp2_with (fail)
 go_loop [3, 4] (fun v i => v = .slice none 0 0 ∧ i = .int .i64 0) (fun _ _ => 0)
 case atStart => exact ⟨rfl, rfl⟩
 case round =>
  obtain ⟨rfl, rfl⟩ := hrel
  go_wp2_with (fail)
  go_ret
  exact ⟨rfl, rfl⟩
set_option maxHeartbeats 1000000 in
set_option maxRecDepth 100000 in
theorem markedPackets (w : World) : Calls Tryz.prog 158 #[.slice none 0 0] w fun e w' => e = .returned (.bool true) ∧ w' = w := by
 go_enter Tryz.func158, Tryz.ntmps158
 go_wp2_with (fail)
 go_loop [3] (fun i => i = .int .i64 0) (fun _ => 0)
 case atStart => rfl
 case round =>
  obtain rfl := hrel
  go_wp2_with (fail)
  go_ret
  exact ⟨rfl, rfl⟩
set_option maxHeartbeats 1000000 in
set_option maxRecDepth 100000 in
theorem stillSteps (w : World) (g : Nat) (c6 : w.cell? ⟨g, 26, none⟩ = some (.slice none 0 0)) : Calls Tryz.prog 117 #[.pointer (some ⟨g, 0, none⟩)] w fun e w' => e = .returned (.bool true) ∧ w' = w := by
 go_enter Tryz.func117, Tryz.ntmps117
 go_wp2_with (fail)
 go_loop [3] (fun i => i = .int .i64 0) (fun _ => 0)
 case atStart => rfl
 case round =>
  obtain rfl := hrel
  go_wp2_with (fail)
  go_ret
  exact ⟨rfl, rfl⟩
set_option maxHeartbeats 1000000 in
set_option maxRecDepth 100000 in
theorem putSteps (w : World) (g : Nat) (c6 : w.cell? ⟨g, 26, none⟩ = some (.slice none 0 0)) : Calls Tryz.prog 119 #[.pointer (some ⟨g, 0, none⟩)] w fun e w' => e = .returned (.tuple #[]) ∧ w' = w := by
 go_enter Tryz.func119, Tryz.ntmps119
 go_wp2_with (fail)
 go_loop [2] (fun i => i = .int .i64 0) (fun _ => 0)
 case atStart => rfl
 case round =>
  obtain rfl := hrel
  go_wp2_with (fail)
  go_end0
  exact ⟨rfl, rfl⟩
set_option maxHeartbeats 1000000 in
set_option maxRecDepth 100000 in
theorem growSteps (w : World) (g : Nat) (c6 : w.cell? ⟨g, 26, none⟩ = some (.slice none 0 0)) : Calls Tryz.prog 145 #[.pointer (some ⟨g, 0, none⟩)] w fun e w' => e = .returned (.slice none 0 0) ∧ w' = w := by
 go_enter Tryz.func145, Tryz.ntmps145
 go_wp2_with (fail)
 go_loop [3, 4] (fun v i => v = .slice none 0 0 ∧ i = .int .i64 0) (fun _ _ => 0)
 case atStart => exact ⟨rfl, rfl⟩
 case round =>
  obtain ⟨rfl, rfl⟩ := hrel
  go_wp2_with (fail)
  go_ret
  exact ⟨rfl, rfl⟩
set_option maxHeartbeats 1000000 in
set_option maxRecDepth 100000 in
theorem markedSteps (w : World) : Calls Tryz.prog 159 #[.slice none 0 0] w fun e w' => e = .returned (.bool true) ∧ w' = w := by
 go_enter Tryz.func159, Tryz.ntmps159
 go_wp2_with (fail)
 go_loop [3] (fun i => i = .int .i64 0) (fun _ => 0)
 case atStart => rfl
 case round =>
  obtain rfl := hrel
  go_wp2_with (fail)
  go_ret
  exact ⟨rfl, rfl⟩
end Go.Proofs.YtchgpcgolgcfdaaGreat.BkN
end
section
namespace Go.Proofs.YtchgpcgolgcfdaaGreat.PNum
open Go.RowKit Go.Proofs.YtchgpcgolgcfdaaGreatW.PrintWords Go.Proofs.YtchgpcgolgcfdaaGreatW.PrintLast Go.Proofs.YtchgpcgolgcfdaaGreatW.PrintMore
attribute [local go_sem] max2_int min2_int max_two min_two max_three min_three max_four min_four   -- for this text's walks alone
set_option linter.unusedVariables false
set_option linter.unusedSimpArgs false
theorem eqA32 (d : Nat) (w : World) (x0 y0 : ByteArray) (x1 y1 : Int) (x2 y2 : Int) (x3 y3 : ByteArray) :
  (Op.equalIn (d + 2) 32 (.agg #[.string x0, .int .u64 x1, .int .i64 x2, .string x3]) (.agg #[.string y0, .int .u64 y1, .int .i64 y2, .string y3])).run Tryz.prog w = .ok (x0.toList == y0.toList && (x1 == y1 && (x2 == y2 && (x3.toList == y3.toList)))) w := by
 refine eqA_of Tryz.underlying32 (by kernel_rfl) ?_
 refine eqf_cons (by rfl) (by go_simp; rfl) (by go_simp; rfl) (by go_simp) ?_
 refine eqf_cons (by rfl) (by go_simp; rfl) (by go_simp; rfl) (by go_simp) ?_
 refine eqf_cons (by rfl) (by go_simp; rfl) (by go_simp; rfl) (by go_simp) ?_
 exact eqf_last (by rfl) (by go_simp; rfl) (by go_simp; rfl) (by go_simp)
end Go.Proofs.YtchgpcgolgcfdaaGreat.PNum
end
section
namespace Go.Proofs.YtchgpcgolgcfdaaGreat.PNum
open Go.RowKit Go.Proofs.YtchgpcgolgcfdaaGreatW.PrintWords Go.Proofs.YtchgpcgolgcfdaaGreatW.PrintLast Go.Proofs.YtchgpcgolgcfdaaGreatW.PrintMore
attribute [local go_sem] max2_int min2_int max_two min_two max_three min_three max_four min_four   -- for this text's walks alone
set_option linter.unusedVariables false
set_option linter.unusedSimpArgs false
mutual
def cornucopiaref1_Less.l0 : Nat → ByteArray → ByteArray → Int → Option (Bool)
 | 0, _, _, _ => none
 | k + 1, x0, x1, x5 => if x5 < (x0.size : Int) then (cornucopiaref1_Less.j1 k x0 x1 x5 (decide (x5 < (x1.size : Int)))) else (cornucopiaref1_Less.j1 k x0 x1 x5 false)
def cornucopiaref1_Less.j1 : Nat → ByteArray → ByteArray → Int → Bool → Option (Bool)
 | 0, _, _, _, _ => none
 | k + 1, x0, x1, x5, x15 => if x15 = true then (if 0 ≤ x5 then (if x5 < (x0.size : Int) then (if x5 < (x1.size : Int) then (if (bt x0 x5) = (bt x1 x5) then (cornucopiaref1_Less.l0 k x0 x1 (wrap64 (x5 + 1))) else (some (decide ((bt x0 x5) < (bt x1 x5))))) else (none)) else (none)) else (none)) else (some (decide ((x0.size : Int) < (x1.size : Int))))
end
def cornucopiaref1_Less.f (k : Nat) (a0 : ByteArray) (a1 : ByteArray) : Option (Bool) := cornucopiaref1_Less.l0 k a0 a1 0
theorem cornucopiaref1_Less.mono_l : ∀ k, (∀ y0 y1 y2, LeO (cornucopiaref1_Less.l0 k y0 y1 y2) (cornucopiaref1_Less.l0 (k + 1) y0 y1 y2)) ∧ (∀ y0 y1 y2 y3, LeO (cornucopiaref1_Less.j1 k y0 y1 y2 y3) (cornucopiaref1_Less.j1 (k + 1) y0 y1 y2 y3))
 | 0 => ⟨fun _ _ _ r h => by simp [cornucopiaref1_Less.l0] at h, fun _ _ _ _ r h => by simp [cornucopiaref1_Less.j1] at h⟩
 | k + 1 => by
  obtain ⟨ih0, ih1⟩ := cornucopiaref1_Less.mono_l k
  refine ⟨?_, ?_⟩
  ·intro y0 y1 y2
   unfold cornucopiaref1_Less.l0
   repeat' first
   | (with_reducible exact ih0 _ _ _)
   | (with_reducible exact ih1 _ _ _ _)
   | (with_reducible exact LeO.refl _)
   | (with_reducible exact LeO.none _)
   | (with_reducible refine LeO.ite ?_ ?_)
   | (with_reducible refine LeO.bind ?_ (fun _ => ?_))
   | exact ih0 _ _ _
   | exact ih1 _ _ _ _
   | exact LeO.none _
   | refine LeO.ite ?_ ?_
   | refine LeO.bind ?_ (fun _ => ?_)
  ·intro y0 y1 y2 y3
   unfold cornucopiaref1_Less.j1
   repeat' first
   | (with_reducible exact ih0 _ _ _)
   | (with_reducible exact ih1 _ _ _ _)
   | (with_reducible exact LeO.refl _)
   | (with_reducible exact LeO.none _)
   | (with_reducible refine LeO.ite ?_ ?_)
   | (with_reducible refine LeO.bind ?_ (fun _ => ?_))
   | exact ih0 _ _ _
   | exact ih1 _ _ _ _
   | exact LeO.none _
   | refine LeO.ite ?_ ?_
   | refine LeO.bind ?_ (fun _ => ?_)
theorem cornucopiaref1_Less.mono : ∀ a0 a1 k, LeO (cornucopiaref1_Less.f k a0 a1) (cornucopiaref1_Less.f (k + 1) a0 a1) := by
 intro a0 a1 k
 obtain ⟨ih0, ih1⟩ := cornucopiaref1_Less.mono_l k
 unfold cornucopiaref1_Less.f
 repeat' first
   | (with_reducible exact ih0 _ _ _)
   | (with_reducible exact ih1 _ _ _ _)
   | (with_reducible exact LeO.refl _)
   | (with_reducible exact LeO.none _)
   | (with_reducible refine LeO.ite ?_ ?_)
   | (with_reducible refine LeO.bind ?_ (fun _ => ?_))
   | exact ih0 _ _ _
   | exact ih1 _ _ _ _
   | exact LeO.none _
   | refine LeO.ite ?_ ?_
   | refine LeO.bind ?_ (fun _ => ?_)
set_option maxHeartbeats 8000000 in
set_option maxRecDepth 100000 in
theorem cornucopiaref1_Less.calls (k : Nat) (a0 : ByteArray) (a1 : ByteArray) (r : Bool) (w : World) (h : cornucopiaref1_Less.f k a0 a1 = some r) :
  Calls Tryz.prog 102 #[.string a0, .string a1] w fun e w' => e = .returned (.bool r) ∧ Drawn0 w w' := by
 have H : (cornucopiaref1_Less.l0 k a0 a1 0) = some r := h
 clear h
 have H' := Aside0.mk H
 clear H
 go_enter Tryz.func102, Tryz.ntmps102
 go_wp2
 repeat (go_quiet (fail); try go_wp2)
 go_loopg [5] k (fun kq v5 w' => ∃ (x5_1 : Int), v5 = .int .i64 x5_1 ∧ Aside0 (cornucopiaref1_Less.l0 kq a0 a1 x5_1 = some r) ∧ Aside0 (kq ≤ k) ∧ Drawn0 w w')
 case atStart => exact ⟨(0), (by first | rfl | (simp; done) | (simp [*]; done)), H', ⟨Nat.le_refl _⟩, by repeat (first | exact Drawn0.refl _ | apply Drawn0.step)⟩
 case round =>
  clear H'
  try clear c1
  try clear p2
  obtain ⟨x5_1, rfl, HA, HK1, ⟨m1, rfl⟩⟩ := hrel
  cases gk with
  | zero => exact absurd HA.out (by simp [cornucopiaref1_Less.l0])
  | succ k1 =>
   have H := HA.out
   clear HA
   simp only [cornucopiaref1_Less.l0] at H
   have HC3 := Aside0.mk H
   clear H
   go_upto_region 2 with (fail)
   repeat (go_quiet (fail); go_upto_region 2 with (fail))
   go_cut [15] (fun v15 wc => ∃ (kq : Nat) (x15_2 : Bool), v15 = .bool x15_2 ∧ Aside0 (cornucopiaref1_Less.j1 kq a0 a1 x5_1 x15_2 = some r) ∧ Aside0 (kq ≤ k1) ∧ Drawn0 w wc)
   case first =>
    have H := HC3.out
    clear HC3
    by_cases c4 : x5_1 < (a0.size : Int)
    ·rw [if_pos c4] at H
     have c4b0 : decide (x5_1 < (a0.size : Int)) = true := decide_eq_true c4
     clear c4
     (first | rw [c4b0] | (simp only [i64_w, i32_w]; rw [c4b0]) | skip)
     have H' := Aside0.mk H
     clear H
     go_wp2
     repeat (go_quiet (fail); try go_wp2)
     go_meet
     case rel => exact ⟨_, (decide (x5_1 < (a1.size : Int))), (by first | rfl | (simp; done) | (simp [*]; done)), H', ⟨by have := HK1.out; first | omega | exact Nat.le_refl _⟩, by repeat (first | exact Drawn0.refl _ | apply Drawn0.step)⟩
    ·rw [if_neg c4] at H
     have c4b0 : decide (x5_1 < (a0.size : Int)) = false := decide_eq_false c4
     clear c4
     (first | rw [c4b0] | (simp only [i64_w, i32_w]; rw [c4b0]) | skip)
     have H' := Aside0.mk H
     clear H
     go_wp2
     repeat (go_quiet (fail); try go_wp2)
     go_meet
     case rel => exact ⟨_, (false), (by first | rfl | (simp; done) | (simp [*]; done)), H', ⟨by have := HK1.out; first | omega | exact Nat.le_refl _⟩, by repeat (first | exact Drawn0.refl _ | apply Drawn0.step)⟩
   case rest =>
    clear HC3
    try clear c1
    try clear p2
    try clear c4
    try clear c4b0
    try clear p2
    obtain ⟨kq, x15_2, rfl, HA, HJ2, ⟨mc2, rfl⟩⟩ := hcut
    cases kq with
    | zero => exact absurd HA.out (by simp [cornucopiaref1_Less.j1])
    | succ kj2 =>
     have H := HA.out
     clear HA
     simp only [cornucopiaref1_Less.j1] at H
     by_cases c5 : x15_2 = true
     ·subst c5
      have H1 : (if 0 ≤ x5_1 then (if x5_1 < (a0.size : Int) then (if x5_1 < (a1.size : Int) then (if (bt a0 x5_1) = (bt a1 x5_1) then (cornucopiaref1_Less.l0 kj2 a0 a1 (wrap64 (x5_1 + 1))) else (some (decide ((bt a0 x5_1) < (bt a1 x5_1))))) else (none)) else (none)) else (none)) = some r := by rw [if_pos rfl] at H; exact H
      clear H
      have H := H1
      clear H1
      by_cases c6 : 0 ≤ x5_1
      ·rw [if_pos c6] at H
       have c6b0 : decide (0 ≤ x5_1) = true := decide_eq_true c6
       clear c6
       by_cases c7 : x5_1 < (a0.size : Int)
       ·rw [if_pos c7] at H
        have c7b0 : decide (x5_1 < (a0.size : Int)) = true := decide_eq_true c7
        clear c7
        by_cases c9 : x5_1 < (a1.size : Int)
        ·rw [if_pos c9] at H
         have c9b0 : decide (x5_1 < (a1.size : Int)) = true := decide_eq_true c9
         clear c9
         by_cases c11 : (bt a0 x5_1) = (bt a1 x5_1)
         ·rw [if_pos c11] at H
          have c11b0 : ((bt a0 x5_1) == (bt a1 x5_1)) = true := beq_iff_eq.mpr c11
          have c11b1 : ((bt a0 x5_1) != (bt a1 x5_1)) = false := bne_eq_false_iff_eq.mpr c11
          clear c11
          have H' := Aside0.mk H
          clear H
          have p8 : 0 ≤ (x5_1 : Int) := of_decide_eq_true (by first | (with_reducible assumption) | assumption)
          have q8 : x5_1 < (a0.size : Int) := of_decide_eq_true (by first | (with_reducible assumption) | assumption)
          have hx8 := bt_at a0 x5_1
          replace p8 := eq_true p8
          replace q8 := eq_true q8
          have p10 : 0 ≤ (x5_1 : Int) := of_decide_eq_true (by first | (with_reducible assumption) | assumption)
          have q10 : x5_1 < (a1.size : Int) := of_decide_eq_true (by first | (with_reducible assumption) | assumption)
          have hx10 := bt_at a1 x5_1
          replace p10 := eq_true p10
          replace q10 := eq_true q10
          go_wp2
          repeat (go_quiet (fail); try go_wp2)
          go_roundg kj2
          case measure => have := HK1.out; have := HJ2.out; omega
          case rel => exact ⟨(wrap64 (x5_1 + 1)), (by first | rfl | (simp; done) | (simp [*]; done)), H', ⟨by have := HK1.out; have := HJ2.out; omega⟩, by repeat (first | exact Drawn0.refl _ | apply Drawn0.step)⟩
         ·rw [if_neg c11] at H
          have c11b0 : ((bt a0 x5_1) == (bt a1 x5_1)) = false := beq_eq_false_iff_ne.mpr c11
          have c11b1 : ((bt a0 x5_1) != (bt a1 x5_1)) = true := bne_iff_ne.mpr c11
          obtain rfl := Option.some.inj H
          have p8 : 0 ≤ (x5_1 : Int) := of_decide_eq_true (by first | (with_reducible assumption) | assumption)
          have q8 : x5_1 < (a0.size : Int) := of_decide_eq_true (by first | (with_reducible assumption) | assumption)
          have hx8 := bt_at a0 x5_1
          replace p8 := eq_true p8
          replace q8 := eq_true q8
          have p10 : 0 ≤ (x5_1 : Int) := of_decide_eq_true (by first | (with_reducible assumption) | assumption)
          have q10 : x5_1 < (a1.size : Int) := of_decide_eq_true (by first | (with_reducible assumption) | assumption)
          have hx10 := bt_at a1 x5_1
          replace p10 := eq_true p10
          replace q10 := eq_true q10
          have p12 : 0 ≤ (x5_1 : Int) := of_decide_eq_true (by first | (with_reducible assumption) | assumption)
          have q12 : x5_1 < (a0.size : Int) := of_decide_eq_true (by first | (with_reducible assumption) | assumption)
          have hx12 := bt_at a0 x5_1
          replace p12 := eq_true p12
          replace q12 := eq_true q12
          have p13 : 0 ≤ (x5_1 : Int) := of_decide_eq_true (by first | (with_reducible assumption) | assumption)
          have q13 : x5_1 < (a1.size : Int) := of_decide_eq_true (by first | (with_reducible assumption) | assumption)
          have hx13 := bt_at a1 x5_1
          replace p13 := eq_true p13
          replace q13 := eq_true q13
          go_wp2
          repeat (go_quiet (fail); try go_wp2)
          go_ret
          exact ⟨by first | rfl | (simp; done) | (simp [*]; done), by repeat (first | exact Drawn0.refl _ | apply Drawn0.step)⟩
        ·rw [if_neg c9] at H
         exact absurd H (by simp)
       ·rw [if_neg c7] at H
        exact absurd H (by simp)
      ·rw [if_neg c6] at H
       exact absurd H (by simp)
     ·replace c5 := Bool.eq_false_iff.mpr c5
      subst c5
      have H1 : (some (decide ((a0.size : Int) < (a1.size : Int)))) = some r := by rw [if_neg (show ¬ (false = true) by decide)] at H; exact H
      clear H
      have H := H1
      clear H1
      obtain rfl := Option.some.inj H
      go_wp2
      repeat (go_quiet (fail); try go_wp2)
      go_ret
      exact ⟨by first | rfl | (simp; done) | (simp [*]; done), by repeat (first | exact Drawn0.refl _ | apply Drawn0.step)⟩
def cornucopiaref5_Compare.f (k : Nat) (a0_0 : ByteArray) (a0_1 : Int) (a0_2 : Int) (a0_3 : ByteArray) (a1_0 : ByteArray) (a1_1 : Int) (a1_2 : Int) (a1_3 : ByteArray) : Option (Int) := (cornucopiaref1_Less.f k a0_0 a1_0).bind fun t129 => (if t129 = true then (some (-1)) else ((cornucopiaref1_Less.f k a1_0 a0_0).bind fun t130 => (if t130 = true then (some 1) else (if a0_1 > a1_1 then (some (-1)) else (if a0_1 < a1_1 then (some 1) else (some 0))))))
theorem cornucopiaref5_Compare.mono : ∀ a0 a1 a2 a3 a4 a5 a6 a7 k, LeO (cornucopiaref5_Compare.f k a0 a1 a2 a3 a4 a5 a6 a7) (cornucopiaref5_Compare.f (k + 1) a0 a1 a2 a3 a4 a5 a6 a7) := by
 intro a0 a1 a2 a3 a4 a5 a6 a7 k
 unfold cornucopiaref5_Compare.f
 repeat' first
   | (with_reducible exact cornucopiaref1_Less.mono _ _ _)
   | (with_reducible exact LeO.refl _)
   | (with_reducible exact LeO.none _)
   | (with_reducible refine LeO.ite ?_ ?_)
   | (with_reducible refine LeO.bind ?_ (fun _ => ?_))
   | exact cornucopiaref1_Less.mono _ _ _
   | exact LeO.none _
   | refine LeO.ite ?_ ?_
   | refine LeO.bind ?_ (fun _ => ?_)
set_option maxHeartbeats 8000000 in
set_option maxRecDepth 100000 in
theorem cornucopiaref5_Compare.calls (k : Nat) (a0_0 : ByteArray) (a0_1 : Int) (a0_2 : Int) (a0_3 : ByteArray) (a1_0 : ByteArray) (a1_1 : Int) (a1_2 : Int) (a1_3 : ByteArray) (r : Int) (w : World) (h : cornucopiaref5_Compare.f k a0_0 a0_1 a0_2 a0_3 a1_0 a1_1 a1_2 a1_3 = some r) :
  Calls Tryz.prog 48 #[.agg #[.string a0_0, .int .u64 a0_1, .int .i64 a0_2, .string a0_3], .agg #[.string a1_0, .int .u64 a1_1, .int .i64 a1_2, .string a1_3]] w fun e w' => e = .returned (.int .i64 r) ∧ Below w.heap.size w w' := by
 have hu32 := Tryz.underlying32
 have HB := Aside0.mk (Below.refl w.heap.size w)
 have H : ((cornucopiaref1_Less.f k a0_0 a1_0).bind fun t129 => (if t129 = true then (some (-1)) else ((cornucopiaref1_Less.f k a1_0 a0_0).bind fun t130 => (if t130 = true then (some 1) else (if a0_1 > a1_1 then (some (-1)) else (if a0_1 < a1_1 then (some 1) else (some 0))))))) = some r := h
 clear h
 replace H := Option.bind_eq_some_iff.mp H
 obtain ⟨t129, A30, H⟩ := H
 replace H : (if t129 = true then (some (-1)) else ((cornucopiaref1_Less.f k a1_0 a0_0).bind fun t130 => (if t130 = true then (some 1) else (if a0_1 > a1_1 then (some (-1)) else (if a0_1 < a1_1 then (some 1) else (some 0)))))) = some r := H
 have A3 := Aside0.mk A30
 clear A30
 by_cases c4 : t129 = true
 ·subst c4
  have H1 : (some (-1)) = some r := by rw [if_pos rfl] at H; exact H
  clear H
  have H := H1
  clear H1
  obtain rfl := Option.some.inj H
  go_enter Tryz.func48, Tryz.ntmps48
  go_wp2_with (first | ((with_reducible refine gate_dst (N := 2) rfl ?_); refine box_event ?hg (N := 2) ?hd (cs := #[.string a0_0, .int .u64 a0_1, .int .i64 a0_2, .string a0_3]) (t := 32) ?hr ?_; (case hd => rfl); (case hg => rfl); (case hr => first | (go_simp; done) | (go_simp; rfl)); intro gb127 hg w5 hbox hb; have n0_ := Aside0.mk (below_step (by repeat (first | (with_reducible first | exact HB.out | apply below_alloc | apply pw_below_drewN | apply below_drew1) | exact HB.out)) hb); have n1_ := Aside0.mk (hbox); have n2_ := Aside0.mk ((by rw [hg]; exact (below_size (by repeat (first | (with_reducible first | exact HB.out | apply below_alloc | apply pw_below_drewN | apply below_drew1) | exact HB.out))) : w.heap.size ≤ gb127)); have n3_ := Aside0.mk ((by rw [hg]; exact (below_size (by repeat (first | (with_reducible first | exact HB.out | apply below_alloc | apply pw_below_drewN | apply below_drew1) | exact HB.out))) : w.heap.size ≤ gb127)); clear HB; have HB := n0_; have BK127 := n1_; have GW127 := n2_; have GE127 := n3_; clear n0_ n1_ n2_ n3_; clear hb hbox hg) | ((with_reducible refine gate_dst (N := 3) rfl ?_); refine box_event ?hg (N := 3) ?hd (cs := #[.string a1_0, .int .u64 a1_1, .int .i64 a1_2, .string a1_3]) (t := 32) ?hr ?_; (case hd => rfl); (case hg => rfl); (case hr => first | (go_simp; done) | (go_simp; rfl)); intro gb128 hg w6 hbox hb; have n0_ := Aside0.mk (blk_below (g := gb127) (o := .cells #[.string a0_0, .int .u64 a0_1, .int .i64 a0_2, .string a0_3] 32 (0, 0)) (by (with_reducible repeat (first | refine blk_drewN ?_ _ | refine blk_drew ?_ | refine blk_alloc ?_ _)); exact BK127.out) hb); have n1_ := Aside0.mk (below_step (by repeat (first | (with_reducible first | exact HB.out | apply below_alloc | apply pw_below_drewN | apply below_drew1 | refine below_set ?_ GE127.out) | exact HB.out)) hb); have n2_ := Aside0.mk (hbox); have n3_ := Aside0.mk ((by rw [hg]; exact (below_size (by repeat (first | (with_reducible first | exact HB.out | apply below_alloc | apply pw_below_drewN | apply below_drew1 | refine below_set ?_ GE127.out) | exact HB.out))) : w.heap.size ≤ gb128)); have n4_ := Aside0.mk ((by rw [hg]; exact (below_size (by repeat (first | (with_reducible first | exact HB.out | apply below_alloc | apply pw_below_drewN | apply below_drew1 | refine below_set ?_ GE127.out) | exact HB.out))) : w.heap.size ≤ gb128)); have n5_ := Aside0.mk ((by rw [hg]; exact Nat.ne_of_lt (blk_lt (g := gb127) (o := .cells #[.string a0_0, .int .u64 a0_1, .int .i64 a0_2, .string a0_3] 32 (0, 0)) (by (with_reducible repeat (first | refine blk_drewN ?_ _ | refine blk_drew ?_ | refine blk_alloc ?_ _)); exact BK127.out)) : gb127 ≠ gb128)); have n6_ := Aside0.mk ((by rw [hg]; exact Nat.ne_of_gt (blk_lt (g := gb127) (o := .cells #[.string a0_0, .int .u64 a0_1, .int .i64 a0_2, .string a0_3] 32 (0, 0)) (by (with_reducible repeat (first | refine blk_drewN ?_ _ | refine blk_drew ?_ | refine blk_alloc ?_ _)); exact BK127.out)) : gb128 ≠ gb127)); clear BK127; clear HB; have BK127 := n0_; have HB := n1_; have BK128 := n2_; have GW128 := n3_; have GE128 := n4_; have NB127_128 := n5_; have NB128_127 := n6_; clear n0_ n1_ n2_ n3_ n4_ n5_ n6_; clear hb hbox hg; have hnb7 := NB127_128.out; have hnc7 := NB128_127.out; have hcz8_0 : w6.cell? ⟨gb127, 0, none⟩ = some (.string a0_0) := (blk_cell BK127.out 0).trans rfl; have hcz8_1 : w6.cell? ⟨gb127, 1, none⟩ = some (.int .u64 a0_1) := (blk_cell BK127.out 1).trans rfl; have hcz8_2 : w6.cell? ⟨gb127, 2, none⟩ = some (.int .i64 a0_2) := (blk_cell BK127.out 2).trans rfl; have hcz8_3 : w6.cell? ⟨gb127, 3, none⟩ = some (.string a0_3) := (blk_cell BK127.out 3).trans rfl; have hfz8_0 := blk_frozen BK127.out 0; have hfz8_1 := blk_frozen BK127.out 1; have hfz8_2 := blk_frozen BK127.out 2; have hfz8_3 := blk_frozen BK127.out 3; have hcz9_0 : w6.cell? ⟨gb128, 0, none⟩ = some (.string a1_0) := (blk_cell BK128.out 0).trans rfl; have hcz9_1 : w6.cell? ⟨gb128, 1, none⟩ = some (.int .u64 a1_1) := (blk_cell BK128.out 1).trans rfl; have hcz9_2 : w6.cell? ⟨gb128, 2, none⟩ = some (.int .i64 a1_2) := (blk_cell BK128.out 2).trans rfl; have hcz9_3 : w6.cell? ⟨gb128, 3, none⟩ = some (.string a1_3) := (blk_cell BK128.out 3).trans rfl; have hfz9_0 := blk_frozen BK128.out 0; have hfz9_1 := blk_frozen BK128.out 1; have hfz9_2 := blk_frozen BK128.out 2; have hfz9_3 := blk_frozen BK128.out 3) | ((with_reducible refine gate_callee (f := 102) rfl ?_); refine goesL_ (some 10) rfl rfl Tryz.func102 (by kernel_rfl) rfl #[.string a0_0, .string a1_0] rfl (by (try simp only [List.map_toArray, List.map_cons, List.map_nil]); first | done | rfl | (simp only [List.length_drop, List.length_take]; rfl)) ?_; (with_reducible refine (cornucopiaref1_Less.calls k a0_0 a1_0 true _ A3.out).mono ?_); rintro e w' ⟨rfl, ⟨nd, rfl⟩⟩; refine ⟨_, rfl, ?_⟩))
  go_ret
  exact ⟨by first | rfl | (simp [errW_none, errW_some] <;> rfl) | (simp [*, errW_none, errW_some] <;> rfl), by repeat (first | (with_reducible first | exact HB.out | apply below_alloc | apply pw_below_drewN | apply below_drew1 | refine below_set ?_ GE127.out | refine below_set ?_ GE128.out) | exact HB.out)⟩
 ·replace c4 := Bool.eq_false_iff.mpr c4
  subst c4
  have H1 : ((cornucopiaref1_Less.f k a1_0 a0_0).bind fun t130 => (if t130 = true then (some 1) else (if a0_1 > a1_1 then (some (-1)) else (if a0_1 < a1_1 then (some 1) else (some 0))))) = some r := by rw [if_neg (show ¬ (false = true) by decide)] at H; exact H
  clear H
  have H := H1
  clear H1
  replace H := Option.bind_eq_some_iff.mp H
  obtain ⟨t130, A100, H⟩ := H
  replace H : (if t130 = true then (some 1) else (if a0_1 > a1_1 then (some (-1)) else (if a0_1 < a1_1 then (some 1) else (some 0)))) = some r := H
  have A10 := Aside0.mk A100
  clear A100
  by_cases c11 : t130 = true
  ·subst c11
   have H1 : (some 1) = some r := by rw [if_pos rfl] at H; exact H
   clear H
   have H := H1
   clear H1
   obtain rfl := Option.some.inj H
   go_enter Tryz.func48, Tryz.ntmps48
   go_wp2_with (first | ((with_reducible refine gate_dst (N := 2) rfl ?_); refine box_event ?hg (N := 2) ?hd (cs := #[.string a0_0, .int .u64 a0_1, .int .i64 a0_2, .string a0_3]) (t := 32) ?hr ?_; (case hd => rfl); (case hg => rfl); (case hr => first | (go_simp; done) | (go_simp; rfl)); intro gb127 hg w12 hbox hb; have n0_ := Aside0.mk (below_step (by repeat (first | (with_reducible first | exact HB.out | apply below_alloc | apply pw_below_drewN | apply below_drew1) | exact HB.out)) hb); have n1_ := Aside0.mk (hbox); have n2_ := Aside0.mk ((by rw [hg]; exact (below_size (by repeat (first | (with_reducible first | exact HB.out | apply below_alloc | apply pw_below_drewN | apply below_drew1) | exact HB.out))) : w.heap.size ≤ gb127)); have n3_ := Aside0.mk ((by rw [hg]; exact (below_size (by repeat (first | (with_reducible first | exact HB.out | apply below_alloc | apply pw_below_drewN | apply below_drew1) | exact HB.out))) : w.heap.size ≤ gb127)); clear HB; have HB := n0_; have BK127 := n1_; have GW127 := n2_; have GE127 := n3_; clear n0_ n1_ n2_ n3_; clear hb hbox hg) | ((with_reducible refine gate_dst (N := 3) rfl ?_); refine box_event ?hg (N := 3) ?hd (cs := #[.string a1_0, .int .u64 a1_1, .int .i64 a1_2, .string a1_3]) (t := 32) ?hr ?_; (case hd => rfl); (case hg => rfl); (case hr => first | (go_simp; done) | (go_simp; rfl)); intro gb128 hg w13 hbox hb; have n0_ := Aside0.mk (blk_below (g := gb127) (o := .cells #[.string a0_0, .int .u64 a0_1, .int .i64 a0_2, .string a0_3] 32 (0, 0)) (by (with_reducible repeat (first | refine blk_drewN ?_ _ | refine blk_drew ?_ | refine blk_alloc ?_ _)); exact BK127.out) hb); have n1_ := Aside0.mk (below_step (by repeat (first | (with_reducible first | exact HB.out | apply below_alloc | apply pw_below_drewN | apply below_drew1 | refine below_set ?_ GE127.out) | exact HB.out)) hb); have n2_ := Aside0.mk (hbox); have n3_ := Aside0.mk ((by rw [hg]; exact (below_size (by repeat (first | (with_reducible first | exact HB.out | apply below_alloc | apply pw_below_drewN | apply below_drew1 | refine below_set ?_ GE127.out) | exact HB.out))) : w.heap.size ≤ gb128)); have n4_ := Aside0.mk ((by rw [hg]; exact (below_size (by repeat (first | (with_reducible first | exact HB.out | apply below_alloc | apply pw_below_drewN | apply below_drew1 | refine below_set ?_ GE127.out) | exact HB.out))) : w.heap.size ≤ gb128)); have n5_ := Aside0.mk ((by rw [hg]; exact Nat.ne_of_lt (blk_lt (g := gb127) (o := .cells #[.string a0_0, .int .u64 a0_1, .int .i64 a0_2, .string a0_3] 32 (0, 0)) (by (with_reducible repeat (first | refine blk_drewN ?_ _ | refine blk_drew ?_ | refine blk_alloc ?_ _)); exact BK127.out)) : gb127 ≠ gb128)); have n6_ := Aside0.mk ((by rw [hg]; exact Nat.ne_of_gt (blk_lt (g := gb127) (o := .cells #[.string a0_0, .int .u64 a0_1, .int .i64 a0_2, .string a0_3] 32 (0, 0)) (by (with_reducible repeat (first | refine blk_drewN ?_ _ | refine blk_drew ?_ | refine blk_alloc ?_ _)); exact BK127.out)) : gb128 ≠ gb127)); clear BK127; clear HB; have BK127 := n0_; have HB := n1_; have BK128 := n2_; have GW128 := n3_; have GE128 := n4_; have NB127_128 := n5_; have NB128_127 := n6_; clear n0_ n1_ n2_ n3_ n4_ n5_ n6_; clear hb hbox hg; have hnb14 := NB127_128.out; have hnc14 := NB128_127.out; have hcz15_0 : w13.cell? ⟨gb127, 0, none⟩ = some (.string a0_0) := (blk_cell BK127.out 0).trans rfl; have hcz15_1 : w13.cell? ⟨gb127, 1, none⟩ = some (.int .u64 a0_1) := (blk_cell BK127.out 1).trans rfl; have hcz15_2 : w13.cell? ⟨gb127, 2, none⟩ = some (.int .i64 a0_2) := (blk_cell BK127.out 2).trans rfl; have hcz15_3 : w13.cell? ⟨gb127, 3, none⟩ = some (.string a0_3) := (blk_cell BK127.out 3).trans rfl; have hfz15_0 := blk_frozen BK127.out 0; have hfz15_1 := blk_frozen BK127.out 1; have hfz15_2 := blk_frozen BK127.out 2; have hfz15_3 := blk_frozen BK127.out 3; have hcz16_0 : w13.cell? ⟨gb128, 0, none⟩ = some (.string a1_0) := (blk_cell BK128.out 0).trans rfl; have hcz16_1 : w13.cell? ⟨gb128, 1, none⟩ = some (.int .u64 a1_1) := (blk_cell BK128.out 1).trans rfl; have hcz16_2 : w13.cell? ⟨gb128, 2, none⟩ = some (.int .i64 a1_2) := (blk_cell BK128.out 2).trans rfl; have hcz16_3 : w13.cell? ⟨gb128, 3, none⟩ = some (.string a1_3) := (blk_cell BK128.out 3).trans rfl; have hfz16_0 := blk_frozen BK128.out 0; have hfz16_1 := blk_frozen BK128.out 1; have hfz16_2 := blk_frozen BK128.out 2; have hfz16_3 := blk_frozen BK128.out 3) | ((with_reducible refine gate_callee (f := 102) rfl ?_); refine goesL_ (some 10) rfl rfl Tryz.func102 (by kernel_rfl) rfl #[.string a0_0, .string a1_0] rfl (by (try simp only [List.map_toArray, List.map_cons, List.map_nil]); first | done | rfl | (simp only [List.length_drop, List.length_take]; rfl)) ?_; (with_reducible refine (cornucopiaref1_Less.calls k a0_0 a1_0 false _ A3.out).mono ?_); rintro e w' ⟨rfl, ⟨nd, rfl⟩⟩; refine ⟨_, rfl, ?_⟩) | ((with_reducible refine gate_callee (f := 102) rfl ?_); refine goesL_ (some 16) rfl rfl Tryz.func102 (by kernel_rfl) rfl #[.string a1_0, .string a0_0] rfl (by (try simp only [List.map_toArray, List.map_cons, List.map_nil]); first | done | rfl | (simp only [List.length_drop, List.length_take]; rfl)) ?_; (with_reducible refine (cornucopiaref1_Less.calls k a1_0 a0_0 true _ A10.out).mono ?_); rintro e w' ⟨rfl, ⟨nd, rfl⟩⟩; refine ⟨_, rfl, ?_⟩))
   go_ret
   exact ⟨by first | rfl | (simp [errW_none, errW_some] <;> rfl) | (simp [*, errW_none, errW_some] <;> rfl), by repeat (first | (with_reducible first | exact HB.out | apply below_alloc | apply pw_below_drewN | apply below_drew1 | refine below_set ?_ GE127.out | refine below_set ?_ GE128.out) | exact HB.out)⟩
  ·replace c11 := Bool.eq_false_iff.mpr c11
   subst c11
   have H1 : (if a0_1 > a1_1 then (some (-1)) else (if a0_1 < a1_1 then (some 1) else (some 0))) = some r := by rw [if_neg (show ¬ (false = true) by decide)] at H; exact H
   clear H
   have H := H1
   clear H1
   by_cases c17 : a0_1 > a1_1
   ·rw [if_pos c17] at H
    have c17b0 : decide (a1_1 < a0_1) = true := decide_eq_true c17
    clear c17
    obtain rfl := Option.some.inj H
    go_enter Tryz.func48, Tryz.ntmps48
    go_wp2_with (first | ((with_reducible refine gate_dst (N := 2) rfl ?_); refine box_event ?hg (N := 2) ?hd (cs := #[.string a0_0, .int .u64 a0_1, .int .i64 a0_2, .string a0_3]) (t := 32) ?hr ?_; (case hd => rfl); (case hg => rfl); (case hr => first | (go_simp; done) | (go_simp; rfl)); intro gb127 hg w18 hbox hb; have n0_ := Aside0.mk (below_step (by repeat (first | (with_reducible first | exact HB.out | apply below_alloc | apply pw_below_drewN | apply below_drew1) | exact HB.out)) hb); have n1_ := Aside0.mk (hbox); have n2_ := Aside0.mk ((by rw [hg]; exact (below_size (by repeat (first | (with_reducible first | exact HB.out | apply below_alloc | apply pw_below_drewN | apply below_drew1) | exact HB.out))) : w.heap.size ≤ gb127)); have n3_ := Aside0.mk ((by rw [hg]; exact (below_size (by repeat (first | (with_reducible first | exact HB.out | apply below_alloc | apply pw_below_drewN | apply below_drew1) | exact HB.out))) : w.heap.size ≤ gb127)); clear HB; have HB := n0_; have BK127 := n1_; have GW127 := n2_; have GE127 := n3_; clear n0_ n1_ n2_ n3_; clear hb hbox hg) | ((with_reducible refine gate_dst (N := 3) rfl ?_); refine box_event ?hg (N := 3) ?hd (cs := #[.string a1_0, .int .u64 a1_1, .int .i64 a1_2, .string a1_3]) (t := 32) ?hr ?_; (case hd => rfl); (case hg => rfl); (case hr => first | (go_simp; done) | (go_simp; rfl)); intro gb128 hg w19 hbox hb; have n0_ := Aside0.mk (blk_below (g := gb127) (o := .cells #[.string a0_0, .int .u64 a0_1, .int .i64 a0_2, .string a0_3] 32 (0, 0)) (by (with_reducible repeat (first | refine blk_drewN ?_ _ | refine blk_drew ?_ | refine blk_alloc ?_ _)); exact BK127.out) hb); have n1_ := Aside0.mk (below_step (by repeat (first | (with_reducible first | exact HB.out | apply below_alloc | apply pw_below_drewN | apply below_drew1 | refine below_set ?_ GE127.out) | exact HB.out)) hb); have n2_ := Aside0.mk (hbox); have n3_ := Aside0.mk ((by rw [hg]; exact (below_size (by repeat (first | (with_reducible first | exact HB.out | apply below_alloc | apply pw_below_drewN | apply below_drew1 | refine below_set ?_ GE127.out) | exact HB.out))) : w.heap.size ≤ gb128)); have n4_ := Aside0.mk ((by rw [hg]; exact (below_size (by repeat (first | (with_reducible first | exact HB.out | apply below_alloc | apply pw_below_drewN | apply below_drew1 | refine below_set ?_ GE127.out) | exact HB.out))) : w.heap.size ≤ gb128)); have n5_ := Aside0.mk ((by rw [hg]; exact Nat.ne_of_lt (blk_lt (g := gb127) (o := .cells #[.string a0_0, .int .u64 a0_1, .int .i64 a0_2, .string a0_3] 32 (0, 0)) (by (with_reducible repeat (first | refine blk_drewN ?_ _ | refine blk_drew ?_ | refine blk_alloc ?_ _)); exact BK127.out)) : gb127 ≠ gb128)); have n6_ := Aside0.mk ((by rw [hg]; exact Nat.ne_of_gt (blk_lt (g := gb127) (o := .cells #[.string a0_0, .int .u64 a0_1, .int .i64 a0_2, .string a0_3] 32 (0, 0)) (by (with_reducible repeat (first | refine blk_drewN ?_ _ | refine blk_drew ?_ | refine blk_alloc ?_ _)); exact BK127.out)) : gb128 ≠ gb127)); clear BK127; clear HB; have BK127 := n0_; have HB := n1_; have BK128 := n2_; have GW128 := n3_; have GE128 := n4_; have NB127_128 := n5_; have NB128_127 := n6_; clear n0_ n1_ n2_ n3_ n4_ n5_ n6_; clear hb hbox hg; have hnb20 := NB127_128.out; have hnc20 := NB128_127.out; have hcz21_0 : w19.cell? ⟨gb127, 0, none⟩ = some (.string a0_0) := (blk_cell BK127.out 0).trans rfl; have hcz21_1 : w19.cell? ⟨gb127, 1, none⟩ = some (.int .u64 a0_1) := (blk_cell BK127.out 1).trans rfl; have hcz21_2 : w19.cell? ⟨gb127, 2, none⟩ = some (.int .i64 a0_2) := (blk_cell BK127.out 2).trans rfl; have hcz21_3 : w19.cell? ⟨gb127, 3, none⟩ = some (.string a0_3) := (blk_cell BK127.out 3).trans rfl; have hfz21_0 := blk_frozen BK127.out 0; have hfz21_1 := blk_frozen BK127.out 1; have hfz21_2 := blk_frozen BK127.out 2; have hfz21_3 := blk_frozen BK127.out 3; have hcz22_0 : w19.cell? ⟨gb128, 0, none⟩ = some (.string a1_0) := (blk_cell BK128.out 0).trans rfl; have hcz22_1 : w19.cell? ⟨gb128, 1, none⟩ = some (.int .u64 a1_1) := (blk_cell BK128.out 1).trans rfl; have hcz22_2 : w19.cell? ⟨gb128, 2, none⟩ = some (.int .i64 a1_2) := (blk_cell BK128.out 2).trans rfl; have hcz22_3 : w19.cell? ⟨gb128, 3, none⟩ = some (.string a1_3) := (blk_cell BK128.out 3).trans rfl; have hfz22_0 := blk_frozen BK128.out 0; have hfz22_1 := blk_frozen BK128.out 1; have hfz22_2 := blk_frozen BK128.out 2; have hfz22_3 := blk_frozen BK128.out 3) | ((with_reducible refine gate_callee (f := 102) rfl ?_); refine goesL_ (some 10) rfl rfl Tryz.func102 (by kernel_rfl) rfl #[.string a0_0, .string a1_0] rfl (by (try simp only [List.map_toArray, List.map_cons, List.map_nil]); first | done | rfl | (simp only [List.length_drop, List.length_take]; rfl)) ?_; (with_reducible refine (cornucopiaref1_Less.calls k a0_0 a1_0 false _ A3.out).mono ?_); rintro e w' ⟨rfl, ⟨nd, rfl⟩⟩; refine ⟨_, rfl, ?_⟩) | ((with_reducible refine gate_callee (f := 102) rfl ?_); refine goesL_ (some 16) rfl rfl Tryz.func102 (by kernel_rfl) rfl #[.string a1_0, .string a0_0] rfl (by (try simp only [List.map_toArray, List.map_cons, List.map_nil]); first | done | rfl | (simp only [List.length_drop, List.length_take]; rfl)) ?_; (with_reducible refine (cornucopiaref1_Less.calls k a1_0 a0_0 false _ A10.out).mono ?_); rintro e w' ⟨rfl, ⟨nd, rfl⟩⟩; refine ⟨_, rfl, ?_⟩))
    go_ret
    exact ⟨by first | rfl | (simp [errW_none, errW_some] <;> rfl) | (simp [*, errW_none, errW_some] <;> rfl), by repeat (first | (with_reducible first | exact HB.out | apply below_alloc | apply pw_below_drewN | apply below_drew1 | refine below_set ?_ GE127.out | refine below_set ?_ GE128.out) | exact HB.out)⟩
   ·rw [if_neg c17] at H
    have c17b0 : decide (a1_1 < a0_1) = false := decide_eq_false c17
    clear c17
    by_cases c23 : a0_1 < a1_1
    ·rw [if_pos c23] at H
     have c23b0 : decide (a0_1 < a1_1) = true := decide_eq_true c23
     clear c23
     obtain rfl := Option.some.inj H
     go_enter Tryz.func48, Tryz.ntmps48
     go_wp2_with (first | ((with_reducible refine gate_dst (N := 2) rfl ?_); refine box_event ?hg (N := 2) ?hd (cs := #[.string a0_0, .int .u64 a0_1, .int .i64 a0_2, .string a0_3]) (t := 32) ?hr ?_; (case hd => rfl); (case hg => rfl); (case hr => first | (go_simp; done) | (go_simp; rfl)); intro gb127 hg w24 hbox hb; have n0_ := Aside0.mk (below_step (by repeat (first | (with_reducible first | exact HB.out | apply below_alloc | apply pw_below_drewN | apply below_drew1) | exact HB.out)) hb); have n1_ := Aside0.mk (hbox); have n2_ := Aside0.mk ((by rw [hg]; exact (below_size (by repeat (first | (with_reducible first | exact HB.out | apply below_alloc | apply pw_below_drewN | apply below_drew1) | exact HB.out))) : w.heap.size ≤ gb127)); have n3_ := Aside0.mk ((by rw [hg]; exact (below_size (by repeat (first | (with_reducible first | exact HB.out | apply below_alloc | apply pw_below_drewN | apply below_drew1) | exact HB.out))) : w.heap.size ≤ gb127)); clear HB; have HB := n0_; have BK127 := n1_; have GW127 := n2_; have GE127 := n3_; clear n0_ n1_ n2_ n3_; clear hb hbox hg) | ((with_reducible refine gate_dst (N := 3) rfl ?_); refine box_event ?hg (N := 3) ?hd (cs := #[.string a1_0, .int .u64 a1_1, .int .i64 a1_2, .string a1_3]) (t := 32) ?hr ?_; (case hd => rfl); (case hg => rfl); (case hr => first | (go_simp; done) | (go_simp; rfl)); intro gb128 hg w25 hbox hb; have n0_ := Aside0.mk (blk_below (g := gb127) (o := .cells #[.string a0_0, .int .u64 a0_1, .int .i64 a0_2, .string a0_3] 32 (0, 0)) (by (with_reducible repeat (first | refine blk_drewN ?_ _ | refine blk_drew ?_ | refine blk_alloc ?_ _)); exact BK127.out) hb); have n1_ := Aside0.mk (below_step (by repeat (first | (with_reducible first | exact HB.out | apply below_alloc | apply pw_below_drewN | apply below_drew1 | refine below_set ?_ GE127.out) | exact HB.out)) hb); have n2_ := Aside0.mk (hbox); have n3_ := Aside0.mk ((by rw [hg]; exact (below_size (by repeat (first | (with_reducible first | exact HB.out | apply below_alloc | apply pw_below_drewN | apply below_drew1 | refine below_set ?_ GE127.out) | exact HB.out))) : w.heap.size ≤ gb128)); have n4_ := Aside0.mk ((by rw [hg]; exact (below_size (by repeat (first | (with_reducible first | exact HB.out | apply below_alloc | apply pw_below_drewN | apply below_drew1 | refine below_set ?_ GE127.out) | exact HB.out))) : w.heap.size ≤ gb128)); have n5_ := Aside0.mk ((by rw [hg]; exact Nat.ne_of_lt (blk_lt (g := gb127) (o := .cells #[.string a0_0, .int .u64 a0_1, .int .i64 a0_2, .string a0_3] 32 (0, 0)) (by (with_reducible repeat (first | refine blk_drewN ?_ _ | refine blk_drew ?_ | refine blk_alloc ?_ _)); exact BK127.out)) : gb127 ≠ gb128)); have n6_ := Aside0.mk ((by rw [hg]; exact Nat.ne_of_gt (blk_lt (g := gb127) (o := .cells #[.string a0_0, .int .u64 a0_1, .int .i64 a0_2, .string a0_3] 32 (0, 0)) (by (with_reducible repeat (first | refine blk_drewN ?_ _ | refine blk_drew ?_ | refine blk_alloc ?_ _)); exact BK127.out)) : gb128 ≠ gb127)); clear BK127; clear HB; have BK127 := n0_; have HB := n1_; have BK128 := n2_; have GW128 := n3_; have GE128 := n4_; have NB127_128 := n5_; have NB128_127 := n6_; clear n0_ n1_ n2_ n3_ n4_ n5_ n6_; clear hb hbox hg; have hnb26 := NB127_128.out; have hnc26 := NB128_127.out; have hcz27_0 : w25.cell? ⟨gb127, 0, none⟩ = some (.string a0_0) := (blk_cell BK127.out 0).trans rfl; have hcz27_1 : w25.cell? ⟨gb127, 1, none⟩ = some (.int .u64 a0_1) := (blk_cell BK127.out 1).trans rfl; have hcz27_2 : w25.cell? ⟨gb127, 2, none⟩ = some (.int .i64 a0_2) := (blk_cell BK127.out 2).trans rfl; have hcz27_3 : w25.cell? ⟨gb127, 3, none⟩ = some (.string a0_3) := (blk_cell BK127.out 3).trans rfl; have hfz27_0 := blk_frozen BK127.out 0; have hfz27_1 := blk_frozen BK127.out 1; have hfz27_2 := blk_frozen BK127.out 2; have hfz27_3 := blk_frozen BK127.out 3; have hcz28_0 : w25.cell? ⟨gb128, 0, none⟩ = some (.string a1_0) := (blk_cell BK128.out 0).trans rfl; have hcz28_1 : w25.cell? ⟨gb128, 1, none⟩ = some (.int .u64 a1_1) := (blk_cell BK128.out 1).trans rfl; have hcz28_2 : w25.cell? ⟨gb128, 2, none⟩ = some (.int .i64 a1_2) := (blk_cell BK128.out 2).trans rfl; have hcz28_3 : w25.cell? ⟨gb128, 3, none⟩ = some (.string a1_3) := (blk_cell BK128.out 3).trans rfl; have hfz28_0 := blk_frozen BK128.out 0; have hfz28_1 := blk_frozen BK128.out 1; have hfz28_2 := blk_frozen BK128.out 2; have hfz28_3 := blk_frozen BK128.out 3) | ((with_reducible refine gate_callee (f := 102) rfl ?_); refine goesL_ (some 10) rfl rfl Tryz.func102 (by kernel_rfl) rfl #[.string a0_0, .string a1_0] rfl (by (try simp only [List.map_toArray, List.map_cons, List.map_nil]); first | done | rfl | (simp only [List.length_drop, List.length_take]; rfl)) ?_; (with_reducible refine (cornucopiaref1_Less.calls k a0_0 a1_0 false _ A3.out).mono ?_); rintro e w' ⟨rfl, ⟨nd, rfl⟩⟩; refine ⟨_, rfl, ?_⟩) | ((with_reducible refine gate_callee (f := 102) rfl ?_); refine goesL_ (some 16) rfl rfl Tryz.func102 (by kernel_rfl) rfl #[.string a1_0, .string a0_0] rfl (by (try simp only [List.map_toArray, List.map_cons, List.map_nil]); first | done | rfl | (simp only [List.length_drop, List.length_take]; rfl)) ?_; (with_reducible refine (cornucopiaref1_Less.calls k a1_0 a0_0 false _ A10.out).mono ?_); rintro e w' ⟨rfl, ⟨nd, rfl⟩⟩; refine ⟨_, rfl, ?_⟩))
     go_ret
     exact ⟨by first | rfl | (simp [errW_none, errW_some] <;> rfl) | (simp [*, errW_none, errW_some] <;> rfl), by repeat (first | (with_reducible first | exact HB.out | apply below_alloc | apply pw_below_drewN | apply below_drew1 | refine below_set ?_ GE127.out | refine below_set ?_ GE128.out) | exact HB.out)⟩
    ·rw [if_neg c23] at H
     have c23b0 : decide (a0_1 < a1_1) = false := decide_eq_false c23
     clear c23
     obtain rfl := Option.some.inj H
     go_enter Tryz.func48, Tryz.ntmps48
     go_wp2_with (first | ((with_reducible refine gate_dst (N := 2) rfl ?_); refine box_event ?hg (N := 2) ?hd (cs := #[.string a0_0, .int .u64 a0_1, .int .i64 a0_2, .string a0_3]) (t := 32) ?hr ?_; (case hd => rfl); (case hg => rfl); (case hr => first | (go_simp; done) | (go_simp; rfl)); intro gb127 hg w29 hbox hb; have n0_ := Aside0.mk (below_step (by repeat (first | (with_reducible first | exact HB.out | apply below_alloc | apply pw_below_drewN | apply below_drew1) | exact HB.out)) hb); have n1_ := Aside0.mk (hbox); have n2_ := Aside0.mk ((by rw [hg]; exact (below_size (by repeat (first | (with_reducible first | exact HB.out | apply below_alloc | apply pw_below_drewN | apply below_drew1) | exact HB.out))) : w.heap.size ≤ gb127)); have n3_ := Aside0.mk ((by rw [hg]; exact (below_size (by repeat (first | (with_reducible first | exact HB.out | apply below_alloc | apply pw_below_drewN | apply below_drew1) | exact HB.out))) : w.heap.size ≤ gb127)); clear HB; have HB := n0_; have BK127 := n1_; have GW127 := n2_; have GE127 := n3_; clear n0_ n1_ n2_ n3_; clear hb hbox hg) | ((with_reducible refine gate_dst (N := 3) rfl ?_); refine box_event ?hg (N := 3) ?hd (cs := #[.string a1_0, .int .u64 a1_1, .int .i64 a1_2, .string a1_3]) (t := 32) ?hr ?_; (case hd => rfl); (case hg => rfl); (case hr => first | (go_simp; done) | (go_simp; rfl)); intro gb128 hg w30 hbox hb; have n0_ := Aside0.mk (blk_below (g := gb127) (o := .cells #[.string a0_0, .int .u64 a0_1, .int .i64 a0_2, .string a0_3] 32 (0, 0)) (by (with_reducible repeat (first | refine blk_drewN ?_ _ | refine blk_drew ?_ | refine blk_alloc ?_ _)); exact BK127.out) hb); have n1_ := Aside0.mk (below_step (by repeat (first | (with_reducible first | exact HB.out | apply below_alloc | apply pw_below_drewN | apply below_drew1 | refine below_set ?_ GE127.out) | exact HB.out)) hb); have n2_ := Aside0.mk (hbox); have n3_ := Aside0.mk ((by rw [hg]; exact (below_size (by repeat (first | (with_reducible first | exact HB.out | apply below_alloc | apply pw_below_drewN | apply below_drew1 | refine below_set ?_ GE127.out) | exact HB.out))) : w.heap.size ≤ gb128)); have n4_ := Aside0.mk ((by rw [hg]; exact (below_size (by repeat (first | (with_reducible first | exact HB.out | apply below_alloc | apply pw_below_drewN | apply below_drew1 | refine below_set ?_ GE127.out) | exact HB.out))) : w.heap.size ≤ gb128)); have n5_ := Aside0.mk ((by rw [hg]; exact Nat.ne_of_lt (blk_lt (g := gb127) (o := .cells #[.string a0_0, .int .u64 a0_1, .int .i64 a0_2, .string a0_3] 32 (0, 0)) (by (with_reducible repeat (first | refine blk_drewN ?_ _ | refine blk_drew ?_ | refine blk_alloc ?_ _)); exact BK127.out)) : gb127 ≠ gb128)); have n6_ := Aside0.mk ((by rw [hg]; exact Nat.ne_of_gt (blk_lt (g := gb127) (o := .cells #[.string a0_0, .int .u64 a0_1, .int .i64 a0_2, .string a0_3] 32 (0, 0)) (by (with_reducible repeat (first | refine blk_drewN ?_ _ | refine blk_drew ?_ | refine blk_alloc ?_ _)); exact BK127.out)) : gb128 ≠ gb127)); clear BK127; clear HB; have BK127 := n0_; have HB := n1_; have BK128 := n2_; have GW128 := n3_; have GE128 := n4_; have NB127_128 := n5_; have NB128_127 := n6_; clear n0_ n1_ n2_ n3_ n4_ n5_ n6_; clear hb hbox hg; have hnb31 := NB127_128.out; have hnc31 := NB128_127.out; have hcz32_0 : w30.cell? ⟨gb127, 0, none⟩ = some (.string a0_0) := (blk_cell BK127.out 0).trans rfl; have hcz32_1 : w30.cell? ⟨gb127, 1, none⟩ = some (.int .u64 a0_1) := (blk_cell BK127.out 1).trans rfl; have hcz32_2 : w30.cell? ⟨gb127, 2, none⟩ = some (.int .i64 a0_2) := (blk_cell BK127.out 2).trans rfl; have hcz32_3 : w30.cell? ⟨gb127, 3, none⟩ = some (.string a0_3) := (blk_cell BK127.out 3).trans rfl; have hfz32_0 := blk_frozen BK127.out 0; have hfz32_1 := blk_frozen BK127.out 1; have hfz32_2 := blk_frozen BK127.out 2; have hfz32_3 := blk_frozen BK127.out 3; have hcz33_0 : w30.cell? ⟨gb128, 0, none⟩ = some (.string a1_0) := (blk_cell BK128.out 0).trans rfl; have hcz33_1 : w30.cell? ⟨gb128, 1, none⟩ = some (.int .u64 a1_1) := (blk_cell BK128.out 1).trans rfl; have hcz33_2 : w30.cell? ⟨gb128, 2, none⟩ = some (.int .i64 a1_2) := (blk_cell BK128.out 2).trans rfl; have hcz33_3 : w30.cell? ⟨gb128, 3, none⟩ = some (.string a1_3) := (blk_cell BK128.out 3).trans rfl; have hfz33_0 := blk_frozen BK128.out 0; have hfz33_1 := blk_frozen BK128.out 1; have hfz33_2 := blk_frozen BK128.out 2; have hfz33_3 := blk_frozen BK128.out 3) | ((with_reducible refine gate_callee (f := 102) rfl ?_); refine goesL_ (some 10) rfl rfl Tryz.func102 (by kernel_rfl) rfl #[.string a0_0, .string a1_0] rfl (by (try simp only [List.map_toArray, List.map_cons, List.map_nil]); first | done | rfl | (simp only [List.length_drop, List.length_take]; rfl)) ?_; (with_reducible refine (cornucopiaref1_Less.calls k a0_0 a1_0 false _ A3.out).mono ?_); rintro e w' ⟨rfl, ⟨nd, rfl⟩⟩; refine ⟨_, rfl, ?_⟩) | ((with_reducible refine gate_callee (f := 102) rfl ?_); refine goesL_ (some 16) rfl rfl Tryz.func102 (by kernel_rfl) rfl #[.string a1_0, .string a0_0] rfl (by (try simp only [List.map_toArray, List.map_cons, List.map_nil]); first | done | rfl | (simp only [List.length_drop, List.length_take]; rfl)) ?_; (with_reducible refine (cornucopiaref1_Less.calls k a1_0 a0_0 false _ A10.out).mono ?_); rintro e w' ⟨rfl, ⟨nd, rfl⟩⟩; refine ⟨_, rfl, ?_⟩))
     go_ret
     exact ⟨by first | rfl | (simp [errW_none, errW_some] <;> rfl) | (simp [*, errW_none, errW_some] <;> rfl), by repeat (first | (with_reducible first | exact HB.out | apply below_alloc | apply pw_below_drewN | apply below_drew1 | refine below_set ?_ GE127.out | refine below_set ?_ GE128.out) | exact HB.out)⟩
end Go.Proofs.YtchgpcgolgcfdaaGreat.PNum
end
section
namespace Go.Proofs.YtchgpcgolgcfdaaGreat.PNum
open Go.RowKit Go.Proofs.YtchgpcgolgcfdaaGreatW.PrintWords Go.Proofs.YtchgpcgolgcfdaaGreatW.PrintLast Go.Proofs.YtchgpcgolgcfdaaGreatW.PrintMore
attribute [local go_sem] max2_int min2_int max_two min_two max_three min_three max_four min_four   -- for this text's walks alone
set_option linter.unusedVariables false
set_option linter.unusedSimpArgs false
attribute [local go_sem high] eqA32
def cornucopiabook_copyEntries.f (l0 : List (S32)) : Option ((List (S32))) := if ([] : List (S32)).length + l0.length < 2932031007402 then (some (([] : List (S32)) ++ l0)) else (none)
set_option maxHeartbeats 8000000 in
set_option maxRecDepth 100000 in
theorem cornucopiabook_copyEntries.calls (A0 : Option Addr) (c0 : Nat) (l0 : List (S32)) (r : List (S32)) (w : World) (hr0 : Kd.C k32 w A0 l0.length l0) (hc0 : l0.length ≤ c0) (h : cornucopiabook_copyEntries.f l0 = some r) :
  Calls Tryz.prog 101 #[.slice A0 l0.length c0] w fun e w' => ∃ v0_ : Value, e = .returned (v0_) ∧ Kd.R k32 32 w' w.heap.size (fun _ => True) v0_ r ∧ Below w.heap.size w w' := by
 have HR0 := Aside0.mk hr0
 have HC0 := Aside0.mk hc0
 clear hr0 hc0
 have HB := Aside0.mk (Below.refl w.heap.size w)
 have H : (if ([] : List (S32)).length + l0.length < 2932031007402 then (some (([] : List (S32)) ++ l0)) else (none)) = some r := h
 clear h
 by_cases c2 : ([] : List (S32)).length + l0.length < 2932031007402
 ·rw [if_pos c2] at H
  have LMc2 := Aside0.mk c2
  clear c2
  obtain ⟨y177, hy177⟩ : ∃ y_ : List (S32), y_ = (([] : List (S32)) ++ l0) := ⟨_, rfl⟩
  replace H : (some y177) = some r := by first | (rw [hy177]; with_reducible exact H) | (have H2_ := (Option.bind_some _ _).symm.trans H; rw [hy177]; with_reducible exact H2_) | (have H2_ := (Option.bind_some _ _).symm.trans H; with_reducible exact H2_) | with_reducible exact H | (rw [hy177]; exact H) | exact H
  have Ny177 := Aside0.mk hy177
  clear hy177
  obtain rfl := Option.some.inj H
  go_enter Tryz.func101, Tryz.ntmps101
  go_wp2_with (first | ((with_reducible refine gate_builtin (b := .append) (xs := #[.const (.slice none 0 0), .tmp 3]) rfl ?_); at_builtin; refine Kd.R_append_rows k32 (w0 := w) w.heap.size rfl (.const (.slice none 0 0)) (.tmp 3) 22 32 (.agg #[(.string ⟨#[]⟩), (.int .u64 0), (.int .i64 0), (.string ⟨#[]⟩)]) 48 rfl Tryz.underlying22 info32 rfl (by decide) (by omega) (.slice none 0 0) ([] : List (S32)) l0 _ _ _ (fun _ => True) (fun _ => False) rfl rfl ?aO ?aR (fun _ _ h => h) (fun _ h => h.elim) ?aF ?aB ?aS ?aL ?_; (case aR => (try (change Kd.C k32 _ _ _ _)); repeat (first | exact HR0.out | (with_reducible refine Kd.C_alloc ?_ _) | (with_reducible refine Kd.C_drewN ?_ _) | (with_reducible refine Kd.C_drew ?_))); (case aB => exact (by repeat (first | (with_reducible first | exact HB.out | apply below_alloc | apply pw_below_drewN | apply below_drew1) | exact HB.out))); (case aF => exact (fun _ _ => trivial)); (case aO => exact ((Kd.R_nil _ _ _ _ (fun _ => True)))); (case aS => exact (below_size (by repeat (first | (with_reducible first | exact HB.out | apply below_alloc | apply pw_below_drewN | apply below_drew1) | exact HB.out)))); (case aL => have := LMc2.out; omega); intro v178 w3 ho hb hg hat; rw [← Ny177.out] at ho; have n0_ := Aside0.mk (hb); have n1_ := Aside0.mk (ho); clear HB; have HB := n0_; have HO179 := n1_; clear n0_ n1_; clear ho hb hg hat))
  go_ret
  exact ⟨_, by first | rfl | (simp [errW_none, errW_some] <;> rfl) | (simp [*, errW_none, errW_some] <;> rfl), by (with_reducible repeat (first | apply Kd.R_alloc | apply Kd.R_drewN | apply Kd.R_drew)); exact HO179.out, by repeat (first | (with_reducible first | exact HB.out | apply below_alloc | apply pw_below_drewN | apply below_drew1) | exact HB.out)⟩
 ·rw [if_neg c2] at H
  exact absurd H (by simp)
def cornucopiabook_SameEntries.l0 : Nat → List (S32) → List (S32) → Int → Option (Bool)
 | 0, _, _, _ => none
 | k + 1, x0, x1, x5 => if x5 < (x0.length : Int) then (if 0 ≤ x5 then (if x5 < (x1.length : Int) then (if ((((rd_T32 x0 x5).f0).toList) == (((rd_T32 x1 x5).f0).toList) && (((rd_T32 x0 x5).f1) == ((rd_T32 x1 x5).f1) && (((rd_T32 x0 x5).f2) == ((rd_T32 x1 x5).f2) && ((((rd_T32 x0 x5).f3).toList) == (((rd_T32 x1 x5).f3).toList))))) = true then (cornucopiabook_SameEntries.l0 k x0 x1 (wrap64 (x5 + 1))) else (some false)) else (none)) else (none)) else (some true)
def cornucopiabook_SameEntries.f (k : Nat) (l0 : List (S32)) (l1 : List (S32)) : Option (Bool) := if (l0.length : Int) = (l1.length : Int) then (cornucopiabook_SameEntries.l0 k l0 l1 0) else (some false)
theorem cornucopiabook_SameEntries.mono_l : ∀ k, (∀ y0 y1 y2, LeO (cornucopiabook_SameEntries.l0 k y0 y1 y2) (cornucopiabook_SameEntries.l0 (k + 1) y0 y1 y2))
 | 0 => fun _ _ _ r h => by simp [cornucopiabook_SameEntries.l0] at h
 | k + 1 => by
  have ih0 := cornucopiabook_SameEntries.mono_l k
  ·intro y0 y1 y2
   unfold cornucopiabook_SameEntries.l0
   repeat' first
   | (with_reducible exact ih0 _ _ _)
   | (with_reducible exact LeO.refl _)
   | (with_reducible exact LeO.none _)
   | (with_reducible refine LeO.ite ?_ ?_)
   | (with_reducible refine LeO.bind ?_ (fun _ => ?_))
   | exact ih0 _ _ _
   | exact LeO.none _
   | refine LeO.ite ?_ ?_
   | refine LeO.bind ?_ (fun _ => ?_)
theorem cornucopiabook_SameEntries.mono : ∀ a0 a1 k, LeO (cornucopiabook_SameEntries.f k a0 a1) (cornucopiabook_SameEntries.f (k + 1) a0 a1) := by
 intro a0 a1 k
 have ih0 := cornucopiabook_SameEntries.mono_l k
 unfold cornucopiabook_SameEntries.f
 repeat' first
   | (with_reducible exact ih0 _ _ _)
   | (with_reducible exact LeO.refl _)
   | (with_reducible exact LeO.none _)
   | (with_reducible refine LeO.ite ?_ ?_)
   | (with_reducible refine LeO.bind ?_ (fun _ => ?_))
   | exact ih0 _ _ _
   | exact LeO.none _
   | refine LeO.ite ?_ ?_
   | refine LeO.bind ?_ (fun _ => ?_)
set_option maxHeartbeats 8000000 in
set_option maxRecDepth 100000 in
theorem cornucopiabook_SameEntries.calls (k : Nat) (A0 : Option Addr) (c0 : Nat) (l0 : List (S32)) (A1 : Option Addr) (c1 : Nat) (l1 : List (S32)) (r : Bool) (w : World) (hr0 : Kd.C k32 w A0 l0.length l0) (hc0 : l0.length ≤ c0) (hr1 : Kd.C k32 w A1 l1.length l1) (hc1 : l1.length ≤ c1) (h : cornucopiabook_SameEntries.f k l0 l1 = some r) :
  Calls Tryz.prog 19 #[.slice A0 l0.length c0, .slice A1 l1.length c1] w fun e w' => e = .returned (.bool r) ∧ Drawn0 w w' := by
 have hu32 := Tryz.underlying32
 have HR0 := Aside0.mk hr0
 have HC0 := Aside0.mk hc0
 clear hr0 hc0
 have HR1 := Aside0.mk hr1
 have HC1 := Aside0.mk hc1
 clear hr1 hc1
 have H : (if (l0.length : Int) = (l1.length : Int) then (cornucopiabook_SameEntries.l0 k l0 l1 0) else (some false)) = some r := h
 clear h
 by_cases c3 : (l0.length : Int) = (l1.length : Int)
 ·rw [if_pos c3] at H
  have c3b0 : ((l0.length : Int) == (l1.length : Int)) = true := beq_iff_eq.mpr c3
  have c3b1 : ((l0.length : Int) != (l1.length : Int)) = false := bne_eq_false_iff_eq.mpr c3
  have c3b2 : (l0.length == l1.length) = true := by first | simpa using c3 | (simp at c3 ⊢; omega)
  clear c3
  have H' := Aside0.mk H
  clear H
  go_enter Tryz.func19, Tryz.ntmps19
  go_wp2
  repeat (go_quiet (fail); try go_wp2)
  go_loopg [5] k (fun kq v5 w' => ∃ (x5_1 : Int), v5 = .int .i64 x5_1 ∧ Aside0 (cornucopiabook_SameEntries.l0 kq l0 l1 x5_1 = some r) ∧ Aside0 (kq ≤ k) ∧ Drawn0 w w')
  case atStart => exact ⟨(0), (by first | rfl | (simp; done) | (simp [*]; done)), H', ⟨Nat.le_refl _⟩, by repeat (first | exact Drawn0.refl _ | apply Drawn0.step)⟩
  case round =>
   clear H'
   try clear c1
   try clear p2
   try clear c3
   try clear c3b0
   try clear c3b1
   try clear c3b2
   obtain ⟨x5_1, rfl, HA, HK1, ⟨m1, rfl⟩⟩ := hrel
   cases gk with
   | zero => exact absurd HA.out (by simp [cornucopiabook_SameEntries.l0])
   | succ k1 =>
    have H := HA.out
    clear HA
    simp only [cornucopiabook_SameEntries.l0] at H
    by_cases c4 : x5_1 < (l0.length : Int)
    ·rw [if_pos c4] at H
     have c4b0 : decide (x5_1 < (l0.length : Int)) = true := decide_eq_true c4
     clear c4
     by_cases c5 : 0 ≤ x5_1
     ·rw [if_pos c5] at H
      have c5b0 : decide (0 ≤ x5_1) = true := decide_eq_true c5
      clear c5
      by_cases c6 : x5_1 < (l1.length : Int)
      ·rw [if_pos c6] at H
       have c6b0 : decide (x5_1 < (l1.length : Int)) = true := decide_eq_true c6
       clear c6
       by_cases c7 : ((((rd_T32 l0 x5_1).f0).toList) == (((rd_T32 l1 x5_1).f0).toList) && (((rd_T32 l0 x5_1).f1) == ((rd_T32 l1 x5_1).f1) && (((rd_T32 l0 x5_1).f2) == ((rd_T32 l1 x5_1).f2) && ((((rd_T32 l0 x5_1).f3).toList) == (((rd_T32 l1 x5_1).f3).toList))))) = true
       ·rw [if_pos c7] at H
        have c7b0 : ((((rd_T32 l0 x5_1).f0).toList) == (((rd_T32 l1 x5_1).f0).toList) && (((rd_T32 l0 x5_1).f1) == ((rd_T32 l1 x5_1).f1) && (((rd_T32 l0 x5_1).f2) == ((rd_T32 l1 x5_1).f2) && ((((rd_T32 l0 x5_1).f3).toList) == (((rd_T32 l1 x5_1).f3).toList))))) = true := c7
        (try (have c7b1 : decide ((((rd_T32 l0 x5_1).f0).toList) = (((rd_T32 l1 x5_1).f0).toList) && (((rd_T32 l0 x5_1).f1) == ((rd_T32 l1 x5_1).f1) && (((rd_T32 l0 x5_1).f2) == ((rd_T32 l1 x5_1).f2) && ((((rd_T32 l0 x5_1).f3).toList) == (((rd_T32 l1 x5_1).f3).toList))))) = true := by simpa using c7))
        (try (have c7b2 : ((((rd_T32 l0 x5_1).f0).toList) == (((rd_T32 l1 x5_1).f0).toList) && (((rd_T32 l0 x5_1).f1) == ((rd_T32 l1 x5_1).f1) && (((rd_T32 l0 x5_1).f2) == ((rd_T32 l1 x5_1).f2) && ((((rd_T32 l0 x5_1).f3).toList) == (((rd_T32 l1 x5_1).f3).toList))))) = true := by simpa using c7))
        clear c7
        have H' := Aside0.mk H
        clear H
        have p180 : 0 ≤ (x5_1 : Int) := of_decide_eq_true (by first | (with_reducible assumption) | assumption)
        have q180 : x5_1 < (l0.length : Int) := of_decide_eq_true (by first | (with_reducible assumption) | assumption)
        obtain ⟨ad180, e180, hx180_0, hx180_1, hx180_2, hx180_3⟩ := at_T32 HR0.out x5_1 p180 q180
        cases e180
        replace p180 := eq_true p180
        replace q180 := eq_true q180
        have p181 : 0 ≤ (x5_1 : Int) := of_decide_eq_true (by first | (with_reducible assumption) | assumption)
        have q181 : x5_1 < (l1.length : Int) := of_decide_eq_true (by first | (with_reducible assumption) | assumption)
        obtain ⟨ad181, e181, hx181_0, hx181_1, hx181_2, hx181_3⟩ := at_T32 HR1.out x5_1 p181 q181
        cases e181
        replace p181 := eq_true p181
        replace q181 := eq_true q181
        go_wp2
        repeat (go_quiet (fail); try go_wp2)
        go_roundg k1
        case measure => have := HK1.out; omega
        case rel => exact ⟨(wrap64 (x5_1 + 1)), (by first | rfl | (simp; done) | (simp [*]; done)), H', ⟨by have := HK1.out; omega⟩, by repeat (first | exact Drawn0.refl _ | apply Drawn0.step)⟩
       ·rw [if_neg c7] at H
        have c7b0 : ((((rd_T32 l0 x5_1).f0).toList) == (((rd_T32 l1 x5_1).f0).toList) && (((rd_T32 l0 x5_1).f1) == ((rd_T32 l1 x5_1).f1) && (((rd_T32 l0 x5_1).f2) == ((rd_T32 l1 x5_1).f2) && ((((rd_T32 l0 x5_1).f3).toList) == (((rd_T32 l1 x5_1).f3).toList))))) = false := by simpa using c7
        (try (have c7b1 : decide ((((rd_T32 l0 x5_1).f0).toList) = (((rd_T32 l1 x5_1).f0).toList) && (((rd_T32 l0 x5_1).f1) == ((rd_T32 l1 x5_1).f1) && (((rd_T32 l0 x5_1).f2) == ((rd_T32 l1 x5_1).f2) && ((((rd_T32 l0 x5_1).f3).toList) == (((rd_T32 l1 x5_1).f3).toList))))) = false := by simpa using c7))
        (try (have c7b2 : ((((rd_T32 l0 x5_1).f0).toList) == (((rd_T32 l1 x5_1).f0).toList) && (((rd_T32 l0 x5_1).f1) == ((rd_T32 l1 x5_1).f1) && (((rd_T32 l0 x5_1).f2) == ((rd_T32 l1 x5_1).f2) && ((((rd_T32 l0 x5_1).f3).toList) == (((rd_T32 l1 x5_1).f3).toList))))) = false := by simpa using c7))
        (try (have c7b3 : ¬ ((((rd_T32 l0 x5_1).f0).toList) = (((rd_T32 l1 x5_1).f0).toList) && (((rd_T32 l0 x5_1).f1) == ((rd_T32 l1 x5_1).f1) && (((rd_T32 l0 x5_1).f2) == ((rd_T32 l1 x5_1).f2) && ((((rd_T32 l0 x5_1).f3).toList) == (((rd_T32 l1 x5_1).f3).toList))))) := by simpa using c7))
        clear c7
        obtain rfl := Option.some.inj H
        have p180 : 0 ≤ (x5_1 : Int) := of_decide_eq_true (by first | (with_reducible assumption) | assumption)
        have q180 : x5_1 < (l0.length : Int) := of_decide_eq_true (by first | (with_reducible assumption) | assumption)
        obtain ⟨ad180, e180, hx180_0, hx180_1, hx180_2, hx180_3⟩ := at_T32 HR0.out x5_1 p180 q180
        cases e180
        replace p180 := eq_true p180
        replace q180 := eq_true q180
        have p181 : 0 ≤ (x5_1 : Int) := of_decide_eq_true (by first | (with_reducible assumption) | assumption)
        have q181 : x5_1 < (l1.length : Int) := of_decide_eq_true (by first | (with_reducible assumption) | assumption)
        obtain ⟨ad181, e181, hx181_0, hx181_1, hx181_2, hx181_3⟩ := at_T32 HR1.out x5_1 p181 q181
        cases e181
        replace p181 := eq_true p181
        replace q181 := eq_true q181
        go_wp2
        repeat (go_quiet (fail); try go_wp2)
        go_ret
        exact ⟨by first | rfl | (simp; done) | (simp [*]; done), by repeat (first | exact Drawn0.refl _ | apply Drawn0.step)⟩
      ·rw [if_neg c6] at H
       exact absurd H (by simp)
     ·rw [if_neg c5] at H
      exact absurd H (by simp)
    ·rw [if_neg c4] at H
     have c4b0 : decide (x5_1 < (l0.length : Int)) = false := decide_eq_false c4
     clear c4
     obtain rfl := Option.some.inj H
     go_wp2
     repeat (go_quiet (fail); try go_wp2)
     go_ret
     exact ⟨by first | rfl | (simp; done) | (simp [*]; done), by repeat (first | exact Drawn0.refl _ | apply Drawn0.step)⟩
 ·rw [if_neg c3] at H
  have c3b0 : ((l0.length : Int) == (l1.length : Int)) = false := beq_eq_false_iff_ne.mpr c3
  have c3b1 : ((l0.length : Int) != (l1.length : Int)) = true := bne_iff_ne.mpr c3
  have c3b2 : (l0.length == l1.length) = false := by first | simpa using c3 | (simp at c3 ⊢; omega)
  obtain rfl := Option.some.inj H
  go_enter Tryz.func19, Tryz.ntmps19
  go_wp2
  repeat (go_quiet (fail); try go_wp2)
  go_ret
  exact ⟨by first | rfl | (simp; done) | (simp [*]; done), by repeat (first | exact Drawn0.refl _ | apply Drawn0.step)⟩
end Go.Proofs.YtchgpcgolgcfdaaGreat.PNum
end
section
namespace Go.Proofs.YtchgpcgolgcfdaaGreat.PNum
open Go.RowKit Go.Proofs.YtchgpcgolgcfdaaGreatW.PrintWords Go.Proofs.YtchgpcgolgcfdaaGreatW.PrintLast Go.Proofs.YtchgpcgolgcfdaaGreatW.PrintMore
attribute [local go_sem] max2_int min2_int max_two min_two max_three min_three max_four min_four   -- for this text's walks alone
set_option linter.unusedVariables false
set_option linter.unusedSimpArgs false
def cornucopiabook_name.f (a0 : Int) (a1 : Int) : Option (ByteArray) := some (strOfNums (([109, (wrap64 (65 + (Int.tmod a0 26))) % 256, (wrap64 (65 + (Int.tmod (wrap64 (Int.tdiv a0 26)) 26))) % 256, (wrap64 (48 + (Int.tmod a1 10))) % 256, (wrap64 (48 + (Int.tmod (wrap64 (Int.tdiv a1 10)) 10))) % 256, (wrap64 (48 + (Int.tmod (wrap64 (Int.tdiv a1 100)) 10))) % 256] : List Int)))
set_option maxHeartbeats 8000000 in
set_option maxRecDepth 100000 in
theorem cornucopiabook_name.calls (a0 : Int) (a1 : Int) (r : ByteArray) (w : World) (h : cornucopiabook_name.f a0 a1 = some r) :
  Calls Tryz.prog 249 #[.int .i64 a0, .int .i64 a1] w fun e w' => e = .returned (.string r) ∧ Below w.heap.size w w' := by
 have HB := Aside0.mk (Below.refl w.heap.size w)
 have H : (some (strOfNums (([109, (wrap64 (65 + (Int.tmod a0 26))) % 256, (wrap64 (65 + (Int.tmod (wrap64 (Int.tdiv a0 26)) 26))) % 256, (wrap64 (48 + (Int.tmod a1 10))) % 256, (wrap64 (48 + (Int.tmod (wrap64 (Int.tdiv a1 10)) 10))) % 256, (wrap64 (48 + (Int.tmod (wrap64 (Int.tdiv a1 100)) 10))) % 256] : List Int)))) = some r := h
 clear h
 obtain ⟨y244, hy244⟩ : ∃ y_ : List Int, y_ = (([109, (wrap64 (65 + (Int.tmod a0 26))) % 256, (wrap64 (65 + (Int.tmod (wrap64 (Int.tdiv a0 26)) 26))) % 256, (wrap64 (48 + (Int.tmod a1 10))) % 256, (wrap64 (48 + (Int.tmod (wrap64 (Int.tdiv a1 10)) 10))) % 256, (wrap64 (48 + (Int.tmod (wrap64 (Int.tdiv a1 100)) 10))) % 256] : List Int)) := ⟨_, rfl⟩
 replace H : (some (strOfNums y244)) = some r := by first | (rw [hy244]; with_reducible exact H) | (have H2_ := (Option.bind_some _ _).symm.trans H; rw [hy244]; with_reducible exact H2_) | (have H2_ := (Option.bind_some _ _).symm.trans H; with_reducible exact H2_) | with_reducible exact H | (rw [hy244]; exact H) | exact H
 have Ny244 := Aside0.mk hy244
 clear hy244
 obtain rfl := Option.some.inj H
 go_enter Tryz.func249, Tryz.ntmps249
 go_wp2_with (first | ((with_reducible refine gate_dst (N := 28) rfl ?_); refine Kd.R_lit (Kd.int .u8) _ 5 ?hg (N := 28) ?hd (xs := ([109, (wrap64 (65 + (Int.tmod a0 26))) % 256, (wrap64 (65 + (Int.tmod (wrap64 (Int.tdiv a0 26)) 26))) % 256, (wrap64 (48 + (Int.tmod a1 10))) % 256, (wrap64 (48 + (Int.tmod (wrap64 (Int.tdiv a1 10)) 10))) % 256, (wrap64 (48 + (Int.tmod (wrap64 (Int.tdiv a1 100)) 10))) % 256] : List Int)) (inner := [.int .u8 109, .int .u8 ((wrap64 (65 + (Int.tmod a0 26))) % 256), .int .u8 ((wrap64 (65 + (Int.tmod (wrap64 (Int.tdiv a0 26)) 26))) % 256), .int .u8 ((wrap64 (48 + (Int.tmod a1 10))) % 256), .int .u8 ((wrap64 (48 + (Int.tmod (wrap64 (Int.tdiv a1 10)) 10))) % 256), .int .u8 ((wrap64 (48 + (Int.tmod (wrap64 (Int.tdiv a1 100)) 10))) % 256)]) (ok := fun _ => True) (okp := fun _ => True) ?hr ?hp (fun _ hk => hk) trivial (Below.refl _ _) (Nat.le_refl _) (by simp) ?_; (case hd => rfl); (case hg => rfl); (case hr => first | (go_simp; done) | (go_simp; rfl)); (case hp => exact (Reps.one (show Kd.M (Kd.int .u8) _ _ _ 109 [.int .u8 109] from rfl) (Reps.one (show Kd.M (Kd.int .u8) _ _ _ ((wrap64 (65 + (Int.tmod a0 26))) % 256) [.int .u8 ((wrap64 (65 + (Int.tmod a0 26))) % 256)] from rfl) (Reps.one (show Kd.M (Kd.int .u8) _ _ _ ((wrap64 (65 + (Int.tmod (wrap64 (Int.tdiv a0 26)) 26))) % 256) [.int .u8 ((wrap64 (65 + (Int.tmod (wrap64 (Int.tdiv a0 26)) 26))) % 256)] from rfl) (Reps.one (show Kd.M (Kd.int .u8) _ _ _ ((wrap64 (48 + (Int.tmod a1 10))) % 256) [.int .u8 ((wrap64 (48 + (Int.tmod a1 10))) % 256)] from rfl) (Reps.one (show Kd.M (Kd.int .u8) _ _ _ ((wrap64 (48 + (Int.tmod (wrap64 (Int.tdiv a1 10)) 10))) % 256) [.int .u8 ((wrap64 (48 + (Int.tmod (wrap64 (Int.tdiv a1 10)) 10))) % 256)] from rfl) (Reps.one (show Kd.M (Kd.int .u8) _ _ _ ((wrap64 (48 + (Int.tmod (wrap64 (Int.tdiv a1 100)) 10))) % 256) [.int .u8 ((wrap64 (48 + (Int.tmod (wrap64 (Int.tdiv a1 100)) 10))) % 256)] from rfl) (Reps.none _ _)))))))); intro v245 w3 ho4 hb hg_ hnew_; clear hg_ hnew_; (first | rw [← Ny244.out] at ho4 | (simp only [Int.reduceToNat] at ho4; rw [← Ny244.out] at ho4)); have n0_ := Aside0.mk (Kd.R_lower ho4 (below_size (by repeat (first | (with_reducible first | exact HB.out | apply below_alloc | apply pw_below_drewN | apply below_drew1) | exact HB.out)))); have n1_ := Aside0.mk (below_step (by repeat (first | (with_reducible first | exact HB.out | apply below_alloc | apply pw_below_drewN | apply below_drew1) | exact HB.out)) hb); clear HB; have HO246 := n0_; have HB := n1_; clear n0_ n1_; clear hb ho4; have hcv5 := own_string (P := Tryz.prog) Tryz.underlying219 Tryz.underlying5 Tryz.underlying9 (Kd.own_of_R HO246.out)))
 go_ret
 exact ⟨by first | rfl | (simp [errW_none, errW_some] <;> rfl) | (simp [*, errW_none, errW_some] <;> rfl), by repeat (first | (with_reducible first | exact HB.out | apply below_alloc | apply pw_below_drewN | apply below_drew1) | exact HB.out)⟩
end Go.Proofs.YtchgpcgolgcfdaaGreat.PNum
end
