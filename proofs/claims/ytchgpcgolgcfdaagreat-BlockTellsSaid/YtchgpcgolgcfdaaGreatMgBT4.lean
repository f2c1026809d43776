/- Texts of this claim, put together and cut down to what is used (BT4). -/
import Derived.Test.YtchgpcgolgcfdaaGreatProg
import Derived.Lib.Strings
import Derived.Lib.Slices
import Derived.Lib.Walk
import Derived.Lib.Builder
import Derived.Lib.AppendStr
import Derived.Lib.UnsafeStr
import Derived.WalkKit
import Derived.KernelRfl
import Derived.Laws.Externs
import Derived.Laws.IdiomCopy
import Derived.Laws.BitsLemmas
import Derived.Below
import Derived.Deep.Draws
import Derived.Deep.AppendLies
import Derived.Maps.AppendAt
import Derived.OwnWalk
import Derived.Laws.BytesArg
import Derived.Laws.MakeOwn
import Derived.Laws.OwnMore
import Derived.Deep.OwnRows
import Derived.Tactics
import Derived.Lib.ConvBytes
import Derived.Laws.Slices
import Derived.RowKit3
import Derived.Deep.LoopGhost
import Derived.Deep.QuietTactic
import Derived.BigQuiet
import Derived.WideLaws
import Derived.Deep.DeepCutAuto
import Derived.Deep.CutBlock
import Derived.Deep.RegionHeld3
import Derived.Laws.Rows
import Derived.ArgAppend
import Derived.OrdersHeld
import Derived.RowKit
import Derived.Test.YtchgpcgolgcfdaaGreatMgBT0
import Derived.Test.YtchgpcgolgcfdaaGreatMgBT3
import Derived.Test.YtchgpcgolgcfdaaGreatMgBT1
import Derived.Test.YtchgpcgolgcfdaaGreatMgBT2
section
namespace Go.Proofs.YtchgpcgolgcfdaaGreat.Bld
open Go Go.RowKit
set_option maxRecDepth 100000
set_option maxHeartbeats 16000000
theorem sizeBuilder : (Tryz.prog.info? 221).map (·.size) = some 2 := by kernel_rfl
theorem liesBuilder : liesAt Tryz.prog Tryz.prog.depth 221 (2 / Tryz.prog.cellsOf 221) 0 221 1 = true := by kernel_rfl
theorem infoByte : (Tryz.prog.info? 5).map (fun i => (i.zero, i.size, i.bytes)) = some (some (.int .u8 0), 1, 1) := by kernel_rfl
theorem copyCheck_used (b : Nat) (w : World) (h0 : w.cell? ⟨b, 0, none⟩ = some (.pointer (some ⟨b, 0, none⟩))) :
  Calls Tryz.prog 240 #[.pointer (some ⟨b, 0, none⟩)] w fun e w' => e = .returned (.tuple #[]) ∧ w' = w := by
 obtain ⟨j, hj, _⟩ := Option.map_eq_some_iff.1 sizeBuilder
 have u96 := run_underlying Tryz.underlying221
 have u94 := run_underlying Tryz.underlying218
 go_enter Tryz.func240, Tryz.ntmps240
 go_wp2
 rw [Lib.run_neq_ptr_same w _ Tryz.underlying218 hj]
 go_wp2
 go_end0
 exact ⟨rfl, rfl⟩
theorem copyCheck_fresh (b : Nat) (w : World) (h0 : w.cell? ⟨b, 0, none⟩ = some (.pointer none)) (hsh : w.shape? b = some (221, 2)) (hfz : w.frozen? ⟨b, 0, none⟩ = false) :
  Calls Tryz.prog 240 #[.pointer (some ⟨b, 0, none⟩)] w fun e w' => e = .returned (.tuple #[]) ∧ w' = w.setCell ⟨b, 0, none⟩ (.pointer (some ⟨b, 0, none⟩)) := by
 obtain ⟨j, hj, hjs⟩ := Option.map_eq_some_iff.1 sizeBuilder
 have u96 := run_underlying Tryz.underlying221
 have u94 := run_underlying Tryz.underlying218
 have u108 := run_underlying Tryz.underlying305
 go_enter Tryz.func240, Tryz.ntmps240
 go_wp2
 rw [Lib.run_to_unsafe w ⟨b, 0, none⟩ Tryz.underlying218 Tryz.underlying305 hj (by rw [hjs]; decide) hsh (Nat.zero_lt_succ 1)]
 simp only [Result.andThen]
 rw [Oper.upon_value]
 go_wp2
 rw [run_callFunc_extern Tryz.func251 (by kernel_rfl) (by kernel_rfl) (by kernel_rfl) (e := Extern.AbiNoEscape.same) (by kernel_rfl)]
 rw [Lib.run_noEscape]
 simp only [Result.andThen]
 rw [Oper.upon_value]
 go_wp2
 rw [Lib.run_from_unsafe w ⟨b, 0, none⟩ Tryz.underlying305 Tryz.underlying218 hj hsh liesBuilder]
 simp only [Result.andThen]
 rw [Oper.upon_value]
 go_wp2
 go_end0
 exact ⟨rfl, rfl⟩
theorem copyCheck (B b : Nat) (bs : List Value) (w : World) (h : Lib.IsBuilder 221 5 B b bs w) :
  Calls Tryz.prog 240 #[.pointer (some ⟨b, 0, none⟩)] w fun e w' => e = .returned (.tuple #[]) ∧ (Lib.BuilderAt 221 5 B b (.pointer (some ⟨b, 0, none⟩)) bs w' ∧ Below B w w') := by
 rcases h with h | h
 ·refine (copyCheck_fresh b w h.cell0 h.shape h.frozen0).mono ?_
  rintro e w' ⟨rfl, rfl⟩
  exact ⟨rfl, h.used _, (Below.refl B w).setCell (p := ⟨b, 0, none⟩) h.1 _⟩
 ·refine (copyCheck_used b w h.cell0).mono ?_
  rintro e w' ⟨rfl, rfl⟩
  exact ⟨rfl, h, Below.refl B _⟩
theorem WriteString (B b : Nat) (bs : List Value) (s : ByteArray) (w : World) (h : Lib.IsBuilder 221 5 B b bs w) (hlen : bs.length + s.size ≤ 140737488355328) (hBw : B ≤ w.heap.size) :
  Calls Tryz.prog 185 #[.pointer (some ⟨b, 0, none⟩), .string s] w fun e w' => e = .returned (.tuple #[.int .i64 s.size, .nilIface]) ∧ (Lib.BuilderAt 221 5 B b (.pointer (some ⟨b, 0, none⟩)) (bs ++ Lib.strCells s) w' ∧ Below B w w') := by
 obtain ⟨i0, hi, hz0, hz1, hz2⟩ := info_parts infoByte
 go_enter Tryz.func185, Tryz.ntmps185
 go_wp2_with (go_at_call 240; refine (copyCheck B b bs _ h).mono ?_)
 rintro e w1 ⟨rfl, h1, hb1⟩
 obtain ⟨hB, v, hbk, hown, hne⟩ := h1
 have c0 : w1.cell? ⟨b, 0, none⟩ = some (.pointer (some ⟨b, 0, none⟩)) := by rw [Lib.cell_of_heap hbk]; rfl
 have c1 : w1.cell? ⟨b, 1, none⟩ = some v := by rw [Lib.cell_of_heap hbk]; rfl
 go_wp2_with (at_builtin; refine Lib.wpList_append_own_string _ rfl _ _ 219 9 rfl B 5 i0 Tryz.underlying219 Tryz.underlying9 hi hz0 hz1 hz2 _ _ _ rfl hown s rfl ?c3 ?c4 ?c5 ?_)
 case c3 => unfold maxLen; omega
 case c4 => omega
 case c5 => have := hb1.size; omega
 intro v' w2 hown' hgrow _
 have hlt : b < w1.heap.size := by
  rcases Nat.lt_or_ge b w1.heap.size with h' | h'
  ·exact h'
  ·simp [Array.getElem?_eq_none h'] at hbk
 have hb2 : w2.heap[b]? = some (.cells #[.pointer (some ⟨b, 0, none⟩), v] 221 (0, 0)) := by
  rw [hgrow.block b hlt (fun e => hne e.symm)]
  exact hbk
 have d0 : w2.cell? ⟨b, 0, none⟩ = some (.pointer (some ⟨b, 0, none⟩)) := by rw [Lib.cell_of_heap hb2]; rfl
 have d1 : w2.cell? ⟨b, 1, none⟩ = some v := by rw [Lib.cell_of_heap hb2]; rfl
 have f1 : w2.frozen? ⟨b, 1, none⟩ = false := Lib.frozen_of_heap hb2 1
 obtain ⟨ao, n', cap, rfl⟩ : ∃ ao n' cap, v' = .slice ao n' cap := by
  rcases hown'.2 with ⟨hv, _⟩ | ⟨g, cap, cur, hv, _⟩
  ·exact ⟨_, _, _, hv⟩
  ·exact ⟨_, _, _, hv⟩
 go_wp2
 go_ret2
 refine ⟨rfl, ?_, ?_⟩
 ·exact Lib.BuilderAt.put (T := 221) (e := 5) hB hb2 (bs' := bs ++ Lib.strCells s) (by simpa [Lib.strCells_length] using hown') (by decide)
 ·exact (hb1.grown hgrow (by have := hb1.size; omega) (fun k hk => (hown.lt k hk).1)).setCell (p := ⟨b, 1, none⟩) hB _
theorem at_below {T e B b : Nat} {p : Value} {bs : List Value} {w w' : World} (h : Lib.BuilderAt T e B b p bs w) (hb : Below w.heap.size w w') : Lib.BuilderAt T e B b p bs w' := by
 obtain ⟨hB, v, hbk, hown, hne⟩ := h
 have lt : ∀ k, (∃ c, w.heap[k]? = some c) → k < w.heap.size := fun k ⟨c, hc⟩ => (Array.getElem?_eq_some_iff.1 hc).1
 refine ⟨hB, v, (hb.block b (lt b ⟨_, hbk⟩)).trans hbk, Go.Proofs.YtchgpcgolgcfdaaGreatW.PrintWords.own_move hown (fun k hk => ?_), hne⟩
 obtain ⟨cells, hc⟩ := Go.Proofs.YtchgpcgolgcfdaaGreatW.PrintWords.own_typed hown k hk
 exact hb.block k (lt k ⟨_, hc⟩)
theorem is_below {T e B b : Nat} {bs : List Value} {w w' : World} (h : Lib.IsBuilder T e B b bs w) (hb : Below w.heap.size w w') : Lib.IsBuilder T e B b bs w' :=
 h.imp (fun h => at_below h hb) (fun h => at_below h hb)
theorem strCells_append (a b : ByteArray) : Lib.strCells a ++ Lib.strCells b = Lib.strCells (a ++ b) := by
 simp [Lib.strCells, ByteArray.data_append]
theorem String_any (B b : Nat) (acc : ByteArray) (w : World) (h : Lib.IsBuilder 221 5 B b (Lib.strCells acc) w) (hBw : B ≤ w.heap.size) :
  Calls Tryz.prog 189 #[.pointer (some ⟨b, 0, none⟩)] w fun e w' => e = .returned (.string acc) ∧ Below B w w' :=
 Tryz.Builder_String_any B b acc.data.toList w h hBw
end Go.Proofs.YtchgpcgolgcfdaaGreat.Bld
end
section
namespace Go.Proofs.YtchgpcgolgcfdaaGreat.NilR
set_option linter.unusedVariables false
open Go Go.RowKit Go.Proofs.YtchgpcgolgcfdaaGreatW.PrintWords Go.Proofs.YtchgpcgolgcfdaaGreatW.PrintLast Go.Proofs.YtchgpcgolgcfdaaGreatW.PrintMore
theorem off (w : World) : Calls Tryz.prog 234 #[.pointer none] w fun e w' => e = .returned (.bool true) ∧ Drawn0 w w' := by
 go_enter Tryz.func234, Tryz.ntmps234
 go_wp2
 go_ret
 exact ⟨rfl, Drawn0.refl _⟩
end Go.Proofs.YtchgpcgolgcfdaaGreat.NilR
end
section
namespace Go.Proofs.YtchgpcgolgcfdaaGreat.PNum
open Go.RowKit Go.Proofs.YtchgpcgolgcfdaaGreatW.PrintWords Go.Proofs.YtchgpcgolgcfdaaGreatW.PrintLast Go.Proofs.YtchgpcgolgcfdaaGreatW.PrintMore
attribute [local go_sem] max2_int min2_int max_two min_two max_three min_three max_four min_four
set_option linter.unusedVariables false
set_option linter.unusedSimpArgs false
def errW : Option Int → Value
 | none => .nilIface
 | some c => .iface 0 (.int .i64 c)
theorem errW_none : errW none = .nilIface := rfl
theorem errW_some (c : Int) : errW (some c) = .iface 0 (.int .i64 c) := rfl
theorem info5 : (Tryz.prog.info? 5).map (fun i => (i.zero, i.size, i.bytes)) = some (some (.int .u8 0), 1, 1) := by kernel_rfl
theorem info32 : (Tryz.prog.info? 32).map (fun i => (i.zero, i.size, i.bytes)) = some (some (.agg #[(.string ⟨#[]⟩), (.int .u64 0), (.int .i64 0), (.string ⟨#[]⟩)]), 4, 48) := by kernel_rfl
structure S32 where
 f0 : ByteArray
 f1 : Int
 f2 : Int
 f3 : ByteArray
def z32 : S32 := ⟨(⟨#[]⟩ : ByteArray), (0 : Int), (0 : Int), (⟨#[]⟩ : ByteArray)⟩
def k32 : Kd S32 := Kd.iso (Kd.pair Kd.string (Kd.pair (Kd.int .u64) (Kd.pair (Kd.int .i64) Kd.string))) (fun x : S32 => (x.f0, x.f1, x.f2, x.f3))
theorem k32_open {w : World} {x : S32} {cs : List Value} (h : k32.K w x cs) : cs = [.string x.f0, .int .u64 x.f1, .int .i64 x.f2, .string x.f3] := by
 obtain ⟨_, _, rfl, rfl, ⟨_, _, rfl, rfl, ⟨_, _, rfl, rfl, rfl⟩⟩⟩ := h
 exact rfl
theorem k32_openM {w : World} {base : Nat} {ok : Nat → Prop} {x : S32} {cs : List Value} (h : k32.M w base ok x cs) : cs = [.string x.f0, .int .u64 x.f1, .int .i64 x.f2, .string x.f3] := by
 obtain ⟨_, _, rfl, rfl, ⟨_, _, rfl, rfl, ⟨_, _, rfl, rfl, rfl⟩⟩⟩ := h
 exact rfl
theorem k32_mk (w : World) (x : S32)  : k32.K w x [.string x.f0, .int .u64 x.f1, .int .i64 x.f2, .string x.f3] := ⟨[.string x.f0], [.int .u64 x.f1, .int .i64 x.f2, .string x.f3], rfl, rfl, ⟨[.int .u64 x.f1], [.int .i64 x.f2, .string x.f3], rfl, rfl, ⟨[.int .i64 x.f2], [.string x.f3], rfl, rfl, rfl⟩⟩⟩
theorem k32_mkM (w : World) (base : Nat) (ok : Nat → Prop) (x : S32)  : k32.M w base ok x [.string x.f0, .int .u64 x.f1, .int .i64 x.f2, .string x.f3] := ⟨[.string x.f0], [.int .u64 x.f1, .int .i64 x.f2, .string x.f3], rfl, rfl, ⟨[.int .u64 x.f1], [.int .i64 x.f2, .string x.f3], rfl, rfl, ⟨[.int .i64 x.f2], [.string x.f3], rfl, rfl, rfl⟩⟩⟩
def rd_T32 (xs : List S32) (i : Int) : S32 := xs.getD i.toNat z32
theorem at_T32 {w : World} {A : Option Addr} {n : Nat} {xs : List S32} (h : Kd.C k32 w A n xs) (i : Int) (h0 : 0 ≤ i) (h1 : i < n) : ∃ ad , A = some ad ∧ w.cell? (ad.add (i.toNat * 4)) = some (.string (rd_T32 xs i).f0) ∧ w.cell? ⟨(ad.add (i.toNat * 4)).block, (ad.add (i.toNat * 4)).off + 1, none⟩ = some (.int .u64 (rd_T32 xs i).f1) ∧ w.cell? ⟨(ad.add (i.toNat * 4)).block, (ad.add (i.toNat * 4)).off + 2, none⟩ = some (.int .i64 (rd_T32 xs i).f2) ∧ w.cell? ⟨(ad.add (i.toNat * 4)).block, (ad.add (i.toNat * 4)).off + 3, none⟩ = some (.string (rd_T32 xs i).f3) := by
 obtain ⟨ad, c, e, _, hK, hc0⟩ := Kd.C_get h z32 i h0 h1
 have hc : ∀ j u, c[j]? = some u → w.cell? (ad.add (i.toNat * 4 + j)) = some u := hc0
 obtain rfl := k32_open hK
 exact ⟨ad, e, hc 0 _ rfl, by rw [← add_field _ _ 1 (by omega)]; exact hc 1 _ rfl, by rw [← add_field _ _ 2 (by omega)]; exact hc 2 _ rfl, by rw [← add_field _ _ 3 (by omega)]; exact hc 3 _ rfl⟩
def rd_L17 (xs : List (List S32)) (i : Int) : (List S32) := xs.getD i.toNat ([] : List S32)
theorem at_L17 {w : World} {A : Option Addr} {n : Nat} {xs : List (List S32)} (h : Kd.C (Kd.slice 32 k32) w A n xs) (i : Int) (h0 : 0 ≤ i) (h1 : i < n) : ∃ ad A0 c0, A = some ad ∧ w.cell? (ad.add i.toNat) = some (.slice A0 (rd_L17 xs i).length c0) ∧ (rd_L17 xs i).length ≤ c0 ∧ k32.C w A0 (rd_L17 xs i).length (rd_L17 xs i) := by
 obtain ⟨ad, c, e, _, hK, hc0⟩ := Kd.C_get h ([] : List S32) i h0 h1
 have hc : ∀ j u, c[j]? = some u → w.cell? (ad.add (i.toNat * 1 + j)) = some u := hc0
 obtain ⟨A0, c0, rfl, l0, g0⟩ := hK
 exact ⟨ad, A0, c0, e, by have hq := hc 0 _ rfl; rwa [Nat.mul_one, Nat.add_zero] at hq, l0, g0⟩
def wfS32 (x : S32) : Prop := x.f0.size ≤ 140737488351232 ∧ (Lit.int .u64 x.f1).wf = true ∧ (Lit.int .i64 x.f2).wf = true ∧ x.f3.size ≤ 140737488351232
end Go.Proofs.YtchgpcgolgcfdaaGreat.PNum
end
section
namespace Go.Proofs.YtchgpcgolgcfdaaGreat.BkW
open Go Go.RowKit Go.Proofs.YtchgpcgolgcfdaaGreatW.PrintWords Go.Proofs.YtchgpcgolgcfdaaGreatW.PrintLast Go.Proofs.YtchgpcgolgcfdaaGreatW.PrintMore
set_option linter.unusedVariables false
def Rw (w : World) (e : TypeId) (sz : Nat) (v : Value) (n : Nat) (cs : List Value) : Prop :=
 cs.length = n * sz ∧ ((v = .slice none 0 0 ∧ n = 0) ∨ ∃ g o c cur, v = .slice (some ⟨g, o, none⟩) n c ∧ w.heap[g]? = some (.cells cur e (0, 0)) ∧ n ≤ c ∧ c ≤ maxLen ∧ o + c * sz ≤ cur.size ∧ (cur.toList.drop o).take (n * sz) = cs)
section
variable {w w1 : World} {e : TypeId} {sz n base : Nat} {v : Value} {cs : List Value}
theorem Rw.of_own (h : w.ownsRow base e sz v n cs) : Rw w e sz v n cs := by
 obtain ⟨h1, h2⟩ := h
 refine ⟨h1, ?_⟩
 rcases h2 with h2 | ⟨g, cap, cur, rfl, hb, hh, hnc, hcm, hcs, ht⟩
 ·exact .inl h2
 ·exact .inr ⟨g, 0, cap, cur, rfl, hh, hnc, hcm, by omega, by rw [List.drop_zero]; exact ht⟩
theorem Rw.nil (w : World) (e : TypeId) (sz : Nat) : Rw w e sz (.slice none 0 0) 0 [] := ⟨by simp, .inl ⟨rfl, rfl⟩⟩
theorem Rw.move (h : Rw w e sz v n cs) (hm : ∀ k, v.ownBlock = some k → w1.heap[k]? = w.heap[k]?) : Rw w1 e sz v n cs := by
 obtain ⟨h1, h2⟩ := h
 refine ⟨h1, ?_⟩
 rcases h2 with h2 | ⟨g, o, c, cur, rfl, hh, r⟩
 ·exact .inl h2
 ·exact .inr ⟨g, o, c, cur, rfl, (hm g (by simp [Value.ownBlock])).trans hh, r⟩
theorem Rw.typed (h : Rw w e sz v n cs) (k : Nat) (hk : v.ownBlock = some k) : ∃ cur, w.heap[k]? = some (.cells cur e (0, 0)) := by
 rcases h.2 with ⟨rfl, _⟩ | ⟨g, o, c, cur, rfl, hh, r⟩
 ·simp [Value.ownBlock] at hk
 ·have : g = k := by simpa [Value.ownBlock] using hk
  subst this
  exact ⟨cur, hh⟩
theorem Rw.lt (h : Rw w e sz v n cs) (k : Nat) (hk : v.ownBlock = some k) : k < w.heap.size := by
 obtain ⟨cur, hc⟩ := h.typed k hk
 exact blk_lt hc
theorem Rw.below (h : Rw w e sz v n cs) (hb : Below w.heap.size w w1) : Rw w1 e sz v n cs := h.move (fun k hk => hb.block k (h.lt k hk))
theorem Rw.grown (h : Rw w e sz v n cs) {row : Option Nat} (hg : w.grownBy w1 row) (hne : v.ownBlock = none ∨ v.ownBlock ≠ row) : Rw w1 e sz v n cs := h.move (fun k hk => hg.block k (h.lt k hk) (by
 intro e
 rcases hne with h2 | h2
 ·rw [h2] at hk; cases hk
 ·exact h2 (hk.trans e)))
theorem Rw.slice (h : Rw w e sz v n cs) : ∃ A c, v = .slice A n c ∧ n ≤ c := by
 rcases h.2 with ⟨rfl, rfl⟩ | ⟨g, o, c, cur, rfl, hh, hnc, r⟩
 ·exact ⟨none, 0, rfl, Nat.le_refl _⟩
 ·exact ⟨_, c, rfl, hnc⟩
theorem Rw.form (h : Rw w e sz v n cs) (hn : 0 < n) : ∃ g o c, v = .slice (some ⟨g, o, none⟩) n c ∧ n ≤ c ∧ (∀ j, w.frozen? ⟨g, j, none⟩ = false) ∧ ∀ j u, cs[j]? = some u → w.cell? ⟨g, o + j, none⟩ = some u := by
 rcases h.2 with ⟨rfl, rfl⟩ | ⟨g, o, c, cur, rfl, hh, hnc, hcm, hcs, ht⟩
 ·omega
 ·refine ⟨g, o, c, rfl, hnc, fun j => blk_frozen hh j, fun j u hu => ?_⟩
  rw [cell_of_row w g _ cur e (0, 0) hh, ← Array.getElem?_toList]
  rw [← ht, List.getElem?_take] at hu
  split at hu
  ·rw [List.getElem?_drop] at hu
   exact hu
  ·cases hu
theorem Rw.take {A : Option Addr} {m c : Nat} (h : Rw w e sz (.slice A n c) n cs) (hm : m ≤ n) : Rw w e sz (.slice A m c) m (cs.take (m * sz)) := by
 have hle : m * sz ≤ n * sz := Nat.mul_le_mul_right _ hm
 refine ⟨by rw [List.length_take, h.1]; omega, ?_⟩
 rcases h.2 with ⟨h2, h3⟩ | ⟨g, o, c', cur, h2, hh, hnc, hcm, hcs, ht⟩
 ·left
  injection h2 with h4 h5 h6
  subst h4; subst h6; subst h5
  obtain rfl : m = 0 := by omega
  exact ⟨rfl, rfl⟩
 ·right
  injection h2 with h4 h5 h6
  subst h4; subst h6
  exact ⟨g, o, c, cur, rfl, hh, by omega, hcm, hcs, by rw [← ht, List.take_take, Nat.min_eq_left hle]⟩
theorem Rw.max (h : Rw w e sz v n cs) : n ≤ 9223372036854775807 := by
 rcases h.2 with ⟨rfl, rfl⟩ | ⟨g, o, c, cur, rfl, hh, hnc, hcm, r⟩
 ·omega
 ·unfold maxLen at hcm; omega
theorem Rw.put {g o c : Nat} (h : Rw w e sz (.slice (some ⟨g, o, none⟩) n c) n cs) {p : Nat} {seg : List Value} (hp : p + seg.length ≤ cs.length) :
  Rw (w.setCells g (o + p) seg) e sz (.slice (some ⟨g, o, none⟩) n c) n (cs.take p ++ seg ++ cs.drop (p + seg.length)) := by
 obtain ⟨h1, h2⟩ := h
 rcases h2 with ⟨h2, _⟩ | ⟨g', o', c', cur, h2, hh, hnc, hcm, hcs, ht⟩
 ·cases h2
 injection h2 with ha _ hc
 injection ha with ha
 injection ha with hg ho
 subst hg; subst ho; subst hc
 have hle : n * sz ≤ c * sz := Nat.mul_le_mul_right _ hnc
 have hcl : cur.toList.length = cur.size := Array.length_toList
 have hfit : o + p + seg.length ≤ cur.toList.length := by omega
 obtain ⟨cur', h3, h4, h5⟩ := setCells_row seg (o + p) w cur hh (by omega)
 refine ⟨by simp only [List.length_append, List.length_take, List.length_drop]; omega, .inr ⟨g, o, c, cur', rfl, h3, hnc, hcm, by rw [h4]; exact hcs, ?_⟩⟩
 apply List.ext_getElem?
 intro q
 rw [h5, List.getElem?_take, List.getElem?_drop, seg_get cur.toList seg (o + p) hfit (o + q), seg_get cs seg p (by omega) q]
 have hat : ∀ q, q < n * sz → cur.toList[o + q]? = cs[q]? := fun q hq => by rw [← ht, List.getElem?_take, if_pos hq, List.getElem?_drop]
 by_cases hq : q < n * sz
 ·rw [if_pos hq]
  by_cases hq1 : q < p
  ·rw [if_pos (by omega), if_pos hq1, hat q hq]
  ·rw [if_neg (by omega), if_neg hq1]
   by_cases hq2 : q < p + seg.length
   ·rw [if_pos (by omega), if_pos hq2]
    congr 1
    omega
   ·rw [if_neg (by omega), if_neg hq2, hat q hq]
 ·rw [if_neg hq, if_neg (by omega), if_neg (by omega), List.getElem?_eq_none (by omega)]
end
section
variable {P : Program}
theorem Rw.append (w : World) (t ty e : TypeId) (i : TypeInfo) (z : Value) (size bytes : Nat) (ht : P.underlying t = some (.slice e)) (hi : P.info? e = some i) (hz : i.zero = some z)
  (hsize : i.size = size) (hby : i.bytes = bytes) (hzs : z.cells.size = size) (hsz : 0 < size)
  (v : Value) (n : Nat) (xs : List Value) (hown : Rw w e size v n xs)
  (a : Addr) (m c : Nat) (news : List Value) (hl : news.length = m * size) (hnews : ∀ j u, news[j]? = some u → w.cell? (a.add j) = some u) (h1 : ∀ u ∈ news, u.oneCell' = true) (hm : 0 < m)
  (h63 : n + m ≤ maxLen) (hbytes : (n + m) * bytes ≤ 140737488355328) :
  ∃ v' w', (Builtin.append_ #[t, t] ty #[v, .slice (some a) m c]).run P w = .ok v' w' ∧ Rw w' e size v' (n + m) (xs ++ news) ∧ Rw w' e size v n xs ∧ w.grownBy w' v.ownBlock ∧ ((∃ A c', v = .slice A n c' ∧ v' = .slice A (n + m) c') ∨ ∃ b, v'.ownBlock = some b ∧ w.heap.size ≤ b) := by
 rcases hown.2 with ⟨hv, h0⟩ | ⟨g, o, cap, cur, hv, hg, hnc, hcm, hcs, htake⟩
 ·have ho : w.ownsRow 0 e size v n xs := ⟨hown.1, .inl ⟨hv, h0⟩⟩
  obtain ⟨v', w', hr, ho', hgr, _, hat⟩ := run_append_own_at (P := P) w 0 t ty e i z size bytes ht hi hz hsize hby hzs hsz v n xs ho a m c news hl hnews h1 h63 hbytes (Nat.zero_le _)
  refine ⟨v', w', hr, Rw.of_own ho', hown.move (fun k hk => by rw [hv] at hk; simp [Value.ownBlock] at hk), hgr, ?_⟩
  obtain ⟨g', cap', he, hb, _⟩ := ho'.form (by omega)
  rcases hat with hat | hat
  ·rw [hv, he] at hat
   simp [Value.ownBlock] at hat
  ·exact .inr ⟨_, hat, Nat.le_refl _⟩
 ·by_cases hroom : n + m ≤ cap
  ·have hfit : o + n * size + news.length ≤ cur.size := by
    have : (n + m) * size ≤ cap * size := Nat.mul_le_mul_right _ hroom
    rw [hl]
    rw [Nat.add_mul] at this
    omega
   subst hsize
   have hr := run_append_room_cells (P := P) (w := w) t ty e i ht hi g o n cap a m c news hl hnews h1 hroom
    (fun j hj => by rw [cell_of_row w g _ cur e (0, 0) hg]; simp; omega) (fun j _ => blk_frozen hg _)
   obtain ⟨cur', h3, h4, h5⟩ := setCells_row news (o + n * i.size) w cur hg hfit
   obtain ⟨s1, s2, s3, s4⟩ := setCells_same g news (o + n * i.size) w
   have hxs : (cur'.toList.drop o).take ((n + m) * i.size) = xs ++ news := by
    rw [h5, List.append_assoc, List.drop_append_of_le_length (by rw [List.length_take, Array.length_toList]; omega), List.drop_take]
    rw [show o + n * i.size - o = n * i.size by omega, htake]
    rw [← List.append_assoc]
    exact List.take_left' (by rw [List.length_append, hown.1, hl, Nat.add_mul])
   refine ⟨_, _, by rw [hv]; exact hr, ⟨by rw [List.length_append, hown.1, hl, Nat.add_mul], .inr ⟨g, o, cap, cur', rfl, h3, hroom, hcm, by rw [h4]; exact hcs, hxs⟩⟩,
    ⟨hown.1, .inr ⟨g, o, cap, cur', hv, h3, hnc, hcm, by rw [h4]; exact hcs, ?_⟩⟩,
    ⟨s1, s2, s3, by rw [s4]; exact Nat.le_refl _, fun k _ hk => setCells_far news _ k (fun he => hk (by rw [hv, he]; simp [Value.ownBlock]))⟩, .inl ⟨_, cap, hv, rfl⟩⟩
   have h6 := congrArg (List.take (n * i.size)) hxs
   rw [List.take_take, Nat.min_eq_left (by rw [Nat.add_mul]; omega)] at h6
   rw [h6]
   exact List.take_left' hown.1
  ·obtain ⟨v', w', hr, ho, hgr⟩ := run_append_arg_grows (P := P) (w := w) t ty e i z size bytes ht hi hz hsize hby hzs hsz ⟨g, o, none⟩ n cap xs hown.1 (fun j u hu => by
    rw [add_at, cell_of_row w g _ cur e (0, 0) hg]
    rw [← htake, List.getElem?_take] at hu
    split at hu
    ·rw [List.getElem?_drop] at hu
     rw [← Array.getElem?_toList]
     exact hu
    ·cases hu) a m c news hl hnews (by omega) h63 hbytes
   refine ⟨v', w', by rw [hv]; exact hr, Rw.of_own ho, hown.move (fun k hk => hgr.block k (hown.lt k hk) (by simp)), ⟨hgr.os, hgr.tape, hgr.output, hgr.size, fun k hk _ => hgr.block k hk (by simp)⟩, ?_⟩
   obtain ⟨g', cap', he, hb, _⟩ := ho.form (by omega)
   exact .inr ⟨g', by rw [he]; simp [Value.ownBlock], hb⟩
end
structure Flat {α : Type} (d : Kd α) (enc : α → List Value) : Prop where
 len : ∀ x, (enc x).length = d.sz
 Mo : ∀ {w base ok x cs}, d.M w base ok x cs → cs = enc x
 Km : ∀ w x, d.K w x (enc x)
 Ko : ∀ {w x cs}, d.K w x cs → cs = enc x
section
variable {α : Type} {d : Kd α} {enc : α → List Value} {w W : World} {base e : Nat} {ok : Nat → Prop} {v : Value} {xs : List α}
def encL (enc : α → List Value) (xs : List α) : List Value := xs.flatMap enc
theorem encL_append (xs ys : List α) : encL enc (xs ++ ys) = encL enc xs ++ encL enc ys := by simp [encL]
theorem Flat.lenL (h : Flat d enc) (xs : List α) : (encL enc xs).length = xs.length * d.sz := by
 induction xs with
 | nil => simp [encL]
 | cons x r ih =>
  have : encL enc (x :: r) = enc x ++ encL enc r := rfl
  rw [this, List.length_append, ih, h.len, List.length_cons, Nat.succ_mul]
  omega
theorem Flat.at_ (h : Flat d enc) : ∀ (xs : List α) (j : Nat) (x : α), xs[j]? = some x → ((encL enc xs).drop (j * d.sz)).take d.sz = enc x
 | [], j, x, hj => by simp at hj
 | y :: r, 0, x, hj => by
  have hy : y = x := by simpa using hj
  subst hy
  have : encL enc (y :: r) = enc y ++ encL enc r := rfl
  rw [this, Nat.zero_mul, List.drop_zero]
  exact List.take_left' (h.len y)
 | y :: r, j + 1, x, hj => by
  have hj' : r[j]? = some x := by simpa using hj
  have : encL enc (y :: r) = enc y ++ encL enc r := rfl
  rw [this, Nat.succ_mul, ← h.at_ r j x hj']
  rw [List.drop_append, List.drop_eq_nil_of_le (by rw [h.len]; omega), h.len, List.nil_append]
  congr 2
  omega
theorem Flat.cell (h : Flat d enc) {xs : List α} {j : Nat} {x : α} (hj : xs[j]? = some x) {i : Nat} {u : Value} (hu : (enc x)[i]? = some u) : (encL enc xs)[j * d.sz + i]? = some u := by
 rw [← h.at_ xs j x hj, List.getElem?_take] at hu
 split at hu
 ·rw [List.getElem?_drop] at hu
  exact hu
 ·cases hu
theorem Flat.set (h : Flat d enc) : ∀ (xs : List α) (j : Nat) (x : α), j < xs.length → (encL enc xs).take (j * d.sz) ++ enc x ++ (encL enc xs).drop (j * d.sz + (enc x).length) = encL enc (xs.set j x)
 | [], j, x, hj => by simp at hj
 | y :: r, 0, x, _ => by
  have : encL enc (y :: r) = enc y ++ encL enc r := rfl
  rw [this, Nat.zero_mul, List.take_zero, List.nil_append, Nat.zero_add, List.drop_left' (by rw [h.len, h.len])]
  rfl
 | y :: r, j + 1, x, hj => by
  have : encL enc (y :: r) = enc y ++ encL enc r := rfl
  have h2 := h.set r j x (by simpa using hj)
  have e1 : (j + 1) * d.sz = (enc y).length + j * d.sz := by rw [h.len, Nat.succ_mul]; omega
  rw [this, e1, List.take_append, List.drop_append, List.take_of_length_le (by omega), List.drop_eq_nil_of_le (by omega)]
  rw [show (enc y).length + j * d.sz - (enc y).length = j * d.sz from by omega, show (enc y).length + j * d.sz + (enc x).length - (enc y).length = j * d.sz + (enc x).length from by omega]
  rw [List.nil_append, List.append_assoc, List.append_assoc, ← List.append_assoc ((encL enc r).take _), h2]
  rfl
theorem Flat.reps (h : Flat d enc) {inner : List Value} (hr : Reps (d.M w base ok) d.sz xs inner) : inner = encL enc xs := by
 apply List.ext_getElem?
 intro q
 have hl := h.lenL xs
 by_cases hs : d.sz = 0
 ·have h1 : inner = [] := List.eq_nil_of_length_eq_zero (by rw [hr.1, hs, Nat.mul_zero])
  have h2 : encL enc xs = [] := List.eq_nil_of_length_eq_zero (by rw [hl, hs, Nat.mul_zero])
  rw [h1, h2]
 ·by_cases hq : q < xs.length * d.sz
  ·have hj : q / d.sz < xs.length := Nat.div_lt_of_lt_mul (by rw [Nat.mul_comm]; exact hq)
   have h2 := h.Mo (hr.2 (q / d.sz) _ (List.getElem?_eq_getElem hj))
   have h3 := h.at_ xs (q / d.sz) _ (List.getElem?_eq_getElem hj)
   have h4 := h2.trans h3.symm
   have hm : q % d.sz < d.sz := Nat.mod_lt _ (by omega)
   have he : q / d.sz * d.sz + q % d.sz = q := by rw [Nat.mul_comm]; exact Nat.div_add_mod q d.sz
   have h5 := congrArg (fun l => l[q % d.sz]?) h4
   simp only [List.getElem?_take, if_pos hm, List.getElem?_drop, he] at h5
   exact h5
  ·rw [List.getElem?_eq_none (by rw [hr.1]; omega), List.getElem?_eq_none (by rw [hl]; omega)]
theorem Flat.of_R (h : Flat d enc) (hR : d.R e w base ok v xs) : Rw w e d.sz v xs.length (encL enc xs) := by
 obtain ⟨_, inner, ho, hr⟩ := hR
 rw [← h.reps hr]
 exact Rw.of_own ho
theorem Flat.to_C (h : Flat d enc) {A : Option Addr} {n c : Nat} (hw : Rw w e d.sz (.slice A n c) n (encL enc xs)) (hn : xs.length = n) : d.C w A n xs := by
 refine ⟨hn, hw.max, fun h0 => ?_⟩
 obtain ⟨g, o, c', he, _, _, hc⟩ := hw.form h0
 injection he with he
 subst he
 refine ⟨_, rfl, fun j p hj => ⟨enc p, h.len p, h.Km w p, fun i u hu => ?_⟩⟩
 rw [add_at]
 exact hc _ u (h.cell hj hu)
theorem Flat.news (h : Flat d enc) {A : Option Addr} {n : Nat} (hC : d.C w A n xs) (h0 : 0 < n) : ∃ a, A = some a ∧ ∀ j u, (encL enc xs)[j]? = some u → w.cell? (a.add j) = some u := by
 obtain ⟨ad, rfl, hc⟩ := hC.2.2 h0
 refine ⟨ad, rfl, fun q u hu => ?_⟩
 have hl := h.lenL xs
 have hq : q < xs.length * d.sz := by rw [← hl]; exact (List.getElem?_eq_some_iff.1 hu).1
 have hs : 0 < d.sz := Nat.pos_of_ne_zero (fun z => by rw [z, Nat.mul_zero] at hq; omega)
 have hj : q / d.sz < xs.length := Nat.div_lt_of_lt_mul (by rw [Nat.mul_comm]; exact hq)
 obtain ⟨c, _, hK, hcell⟩ := hc (q / d.sz) _ (List.getElem?_eq_getElem hj)
 have he : q / d.sz * d.sz + q % d.sz = q := by rw [Nat.mul_comm]; exact Nat.div_add_mod q d.sz
 rw [← he]
 refine hcell _ u ?_
 rw [h.Ko hK, ← h.at_ xs _ _ (List.getElem?_eq_getElem hj), List.getElem?_take, if_pos (Nat.mod_lt _ hs), List.getElem?_drop, he]
 exact hu
theorem Flat.one (h : Flat d enc) (w : World) : ∀ u ∈ encL enc xs, u.oneCell' = true := by
 intro u hu
 obtain ⟨x, _, hx⟩ := List.mem_flatMap.1 hu
 exact d.K_one (h.Km w x) u hx
end
section
variable {P : Program} {ops : Array Oper} {rest : List Oper} {o : Oper} {a : Act} {Q : Exit → Act → World → Prop} {α : Type} {d : Kd α} {enc : α → List Value}
theorem wp_append_rw (hf : Flat d enc) {W : World} (hgd : o.guard = none) (s x : Operand) (t e : TypeId) (z : Value) (bytes : Nat)
  (ho : o.op = .call { callee := .builtin .append, args := #[s, x], argTypes := #[t, t] })
  (ht : P.underlying t = some (.slice e)) (hinfo : (P.info? e).map (fun i => (i.zero, i.size, i.bytes)) = some (some z, d.sz, bytes)) (hz : z.cells.size = d.sz) (hs0 : 0 < d.sz)
  (v : Value) (xs ys : List α) (A : Option Addr) (m c : Nat) (hs : a.eval s = v) (hx : a.eval x = .slice A m c) (HO : Rw W e d.sz v xs.length (encL enc xs)) (HR : d.C W A m ys) (hm : 0 < m)
  (hl : (xs.length + m) * bytes ≤ 140737488355328) (hl2 : xs.length + m ≤ maxLen)
  (h : ∀ v1 w1, Rw w1 e d.sz v1 (xs ++ ys).length (encL enc (xs ++ ys)) → Rw w1 e d.sz v xs.length (encL enc xs) → W.grownBy w1 v.ownBlock → ((∃ A' c', v = .slice A' xs.length c' ∧ v1 = .slice A' (xs.length + m) c') ∨ ∃ b, v1.ownBlock = some b ∧ W.heap.size ≤ b) → wpList P ops Q rest (a.put o.dst v1) w1) :
  wpList P ops Q (o :: rest) a W := by
 obtain ⟨i0, hi, hzz⟩ := Option.map_eq_some_iff.1 hinfo
 simp only [Prod.mk.injEq] at hzz
 obtain ⟨hz0, hz1, hz2⟩ := hzz
 have hn : ys.length = m := HR.1
 obtain ⟨ad, rfl, hnews⟩ := hf.news HR hm
 obtain ⟨v1, w1, hr, h1, h2, h3, h4⟩ := Rw.append (P := P) W t o.type e i0 z d.sz bytes ht hi hz0 hz1 hz2 hz hs0 v xs.length _ HO ad m c (encL enc ys) (by rw [hf.lenL, hn]) hnews (hf.one W) hm hl2 hl
 refine wpList_plain hgd fun K hK => ?_
 unfold Oper.wp execOp
 simp only [ho, resolve, invoke, builtin, Sem.run_bind, Sem.run_pure, Result.andThen_ok, List.map_toArray, List.map_cons, List.map_nil, hs, hx, hr]
 exact hK _ _ (h v1 w1 (by rw [List.length_append, hn, encL_append]; exact h1) h2 h3 h4)
end
def Still (T : List TypeId) (w w1 : World) : Prop := ∀ k, k < w.heap.size → (∀ cur t, t ∈ T → w.heap[k]? ≠ some (.cells cur t (0, 0))) → w1.heap[k]? = w.heap[k]?
section
variable {T : List TypeId} {w w1 w2 : World}
theorem Still.refl (T : List TypeId) (w : World) : Still T w w := fun _ _ _ => rfl
theorem Still.trans (h : Still T w w1) (hs : w.heap.size ≤ w1.heap.size) (k : Still T w1 w2) : Still T w w2 := fun i hi hn => by
 have h1 := h i hi hn
 exact (k i (by omega) (fun cur t ht => by rw [h1]; exact hn cur t ht)).trans h1
theorem Still.of_below (h : Below w.heap.size w w1) : Still T w w1 := fun k hk _ => h.block k hk
theorem Still.below (h : Still T w w1) (hs : w.heap.size ≤ w1.heap.size) (hb : Below w1.heap.size w1 w2) : Still T w w2 := h.trans hs (Still.of_below hb)
theorem Still.of_grown {row : Option Nat} (h : w.grownBy w1 row) (hr : ∀ k, row = some k → ∃ cur t, t ∈ T ∧ w.heap[k]? = some (.cells cur t (0, 0))) : Still T w w1 := fun k hk hn => h.block k hk (fun e => by
 obtain ⟨cur, t, ht, hc⟩ := hr k e.symm
 exact hn cur t ht hc)
theorem Still.of_far {g : Nat} (h : ∀ k, k ≠ g → w1.heap[k]? = w.heap[k]?) (hg : ∃ cur t, t ∈ T ∧ w.heap[g]? = some (.cells cur t (0, 0))) : Still T w w1 := fun k hk hn => h k (fun e => by
 subst e
 obtain ⟨cur, t, ht, hc⟩ := hg
 exact hn cur t ht hc)
theorem Still.blk (h : Still T w w1) {k : Nat} {cur : Array Value} {t : TypeId} (hk : w.heap[k]? = some (.cells cur t (0, 0))) (ht : t ∉ T) : w1.heap[k]? = some (.cells cur t (0, 0)) := (h k (blk_lt hk) (fun cur' t' ht' e => by
 rw [hk] at e
 injection e with e
 injection e with _ e
 exact ht (e ▸ ht'))).trans hk
theorem Still.own (h : Still T w w1) {base n sz : Nat} {e : TypeId} {v : Value} {xs : List Value} (ho : w.ownsRow base e sz v n xs) (ht : e ∉ T) : w1.ownsRow base e sz v n xs := own_move ho (fun k hk => by
 obtain ⟨cur, hc⟩ := own_typed ho k hk
 exact (h.blk hc ht).trans hc.symm)
theorem Still.rw_ (h : Still T w w1) {n sz : Nat} {e : TypeId} {v : Value} {xs : List Value} (ho : Rw w e sz v n xs) (ht : e ∉ T) : Rw w1 e sz v n xs := ho.move (fun k hk => by
 obtain ⟨cur, hc⟩ := ho.typed k hk
 exact (h.blk hc ht).trans hc.symm)
end
def Frm (w w1 : World) (g : Nat) (p q : Value) : Prop := ∀ k, k < w.heap.size → k ≠ g → p.ownBlock ≠ some k → q.ownBlock ≠ some k → w1.heap[k]? = w.heap[k]?
theorem Frm.start {w w1 : World} {g : Nat} {p q : Value} (hg : w.grownBy w1 p.ownBlock) : Frm w w1 g p q := fun k hk _ hp _ => hg.block k hk (fun e => hp e.symm)
theorem Frm.far {w w1 w2 : World} {g : Nat} {p q : Value} (h : Frm w w1 g p q) (hm : ∀ k, k ≠ g → w2.heap[k]? = w1.heap[k]?) : Frm w w2 g p q := fun k hk hg hp hq => (hm k hg).trans (h k hk hg hp hq)
theorem Frm.below {w w1 w2 : World} {g : Nat} {p q : Value} (h : Frm w w1 g p q) (hz : w.heap.size ≤ w1.heap.size) (hb : Below w1.heap.size w1 w2) : Frm w w2 g p q := fun k hk hg hp hq => (hb.block k (Nat.lt_of_lt_of_le hk hz)).trans (h k hk hg hp hq)
theorem Frm.grown {w w1 w2 : World} {g : Nat} {p q : Value} (h : Frm w w1 g p q) (hz : w.heap.size ≤ w1.heap.size) (hg : w1.grownBy w2 q.ownBlock) : Frm w w2 g p q := fun k hk hk2 hp hq => (hg.block k (Nat.lt_of_lt_of_le hk hz) (fun e => hq e.symm)).trans (h k hk hk2 hp hq)
def NewOr (w : World) (p p1 : Value) : Prop := ∀ k, p1.ownBlock = some k → p.ownBlock = some k ∨ w.heap.size ≤ k
theorem NewOr.of {w : World} {p p1 : Value} (h : p1.ownBlock = p.ownBlock ∨ ∃ b, p1.ownBlock = some b ∧ w.heap.size ≤ b) : NewOr w p p1 := fun k hk => by
 rcases h with e | ⟨b, e, hb⟩
 ·exact .inl (e ▸ hk)
 ·rw [hk] at e
  obtain rfl := Option.some.inj e
  exact .inr hb
def ap (a b : Value) : Prop := ∀ k, a.ownBlock = some k → b.ownBlock ≠ some k
theorem ap.symm {a b : Value} (h : ap a b) : ap b a := fun k hb ha => h k ha hb
theorem ap.ne {a b : Value} (h : ap a b) : a.ownBlock = none ∨ a.ownBlock ≠ b.ownBlock := by
 cases e : a.ownBlock with
 | none => exact .inl rfl
 | some k => exact .inr (fun h2 => h k e h2.symm)
structure Ent (α : Type) where
 v : Value
 u : Value
 xs : List α
structure Kept {α : Type} (enc : α → List Value) (sz : Nat) (tS tE : TypeId) (w : World) (base : Nat) (p q : Value) (es : List (Ent α)) : Prop where
 rp : w.ownsRow base tS 1 p es.length (es.map (·.v))
 rq : w.ownsRow base tS 1 q es.length (es.map (·.u))
 el : ∀ x ∈ es, Rw w tE sz x.v x.xs.length (encL enc x.xs) ∧ Rw w tE sz x.u x.xs.length (encL enc x.xs) ∧ ∀ k, x.v.ownBlock = some k → base ≤ k
 dv : (es.map (·.v)).Pairwise ap
 dpq : ap p q
structure Half {α : Type} (enc : α → List Value) (sz : Nat) (tS tE : TypeId) (w : World) (base : Nat) (p q : Value) (es : List (Ent α)) (v : Value) (xs : List α) : Prop where
 rp : w.ownsRow base tS 1 p (es.length + 1) (es.map (·.v) ++ [v])
 rq : w.ownsRow base tS 1 q es.length (es.map (·.u))
 el : ∀ x ∈ es, Rw w tE sz x.v x.xs.length (encL enc x.xs) ∧ Rw w tE sz x.u x.xs.length (encL enc x.xs) ∧ ∀ k, x.v.ownBlock = some k → base ≤ k
 ev : Rw w tE sz v xs.length (encL enc xs) ∧ ∀ k, v.ownBlock = some k → base ≤ k
 dv : (es.map (·.v) ++ [v]).Pairwise ap
 dpq : ap p q
section
variable {α : Type} {enc : α → List Value} {sz base : Nat} {tS tE : TypeId} {w w1 w2 : World} {p q p1 q1 v u : Value} {es : List (Ent α)} {xs : List α}
theorem Kept.none_ (enc : α → List Value) (sz : Nat) (tS tE : TypeId) (w : World) (base : Nat) : Kept enc sz tS tE w base (.slice none 0 0) (.slice none 0 0) [] :=
 ⟨own_nil _ _ _ _, own_nil _ _ _ _, fun x hx => by simp at hx, List.Pairwise.nil, fun k hk => by simp [Value.ownBlock] at hk⟩
theorem Kept.still (h : Kept enc sz tS tE w base p q es) {T : List TypeId} (hs : Still T w w1) (h1 : tS ∉ T) (h2 : tE ∉ T) : Kept enc sz tS tE w1 base p q es :=
 ⟨hs.own h.rp h1, hs.own h.rq h1, fun x hx => ⟨hs.rw_ (h.el x hx).1 h2, hs.rw_ (h.el x hx).2.1 h2, (h.el x hx).2.2⟩, h.dv, h.dpq⟩
theorem Kept.below (h : Kept enc sz tS tE w base p q es) (hb : Below w.heap.size w w1) : Kept enc sz tS tE w1 base p q es := h.still (T := []) (Still.of_below hb) (by simp) (by simp)
theorem Half.still (h : Half enc sz tS tE w base p q es v xs) {T : List TypeId} (hs : Still T w w1) (h1 : tS ∉ T) (h2 : tE ∉ T) : Half enc sz tS tE w1 base p q es v xs :=
 ⟨hs.own h.rp h1, hs.own h.rq h1, fun x hx => ⟨hs.rw_ (h.el x hx).1 h2, hs.rw_ (h.el x hx).2.1 h2, (h.el x hx).2.2⟩, ⟨hs.rw_ h.ev.1 h2, h.ev.2⟩, h.dv, h.dpq⟩
theorem Half.below (h : Half enc sz tS tE w base p q es v xs) (hb : Below w.heap.size w w1) : Half enc sz tS tE w1 base p q es v xs := h.still (T := []) (Still.of_below hb) (by simp) (by simp)
theorem rw_over (h : Rw w tE sz v xs.length (encL enc xs)) {b n : Nat} {ys : List Value} (hp : w.ownsRow b tS 1 p n ys) (hg : w.grownBy w1 p.ownBlock) (hne : tS ≠ tE) : Rw w1 tE sz v xs.length (encL enc xs) := h.grown hg (by
 cases e : v.ownBlock with
 | none => exact .inl rfl
 | some k =>
  right
  intro h2
  obtain ⟨c1, hc1⟩ := h.typed k e
  obtain ⟨c2, hc2⟩ := own_typed hp k h2.symm
  rw [hc1] at hc2
  injection hc2 with hc2
  injection hc2 with _ hc2
  exact hne hc2.symm)
theorem ap_new (h : ap p q) (hat : p1.ownBlock = p.ownBlock ∨ ∃ b, p1.ownBlock = some b ∧ w.heap.size ≤ b) {b n : Nat} {ys : List Value} (hq : w.ownsRow b tS 1 q n ys) : ap p1 q := fun k hk => by
 rcases hat with hat | ⟨b, hb, hle⟩
 ·exact h k (hat ▸ hk)
 ·intro hq2
  have := own_lt hq k hq2
  rw [hb] at hk
  injection hk with hk
  omega
theorem Kept.step1 (h : Kept enc sz tS tE w base p q es) (hne : tS ≠ tE) (hv : Rw w tE sz v xs.length (encL enc xs)) (hvb : ∀ k, v.ownBlock = some k → base ≤ k) (hva : ∀ x ∈ es, ap x.v v)
  (ho : w1.ownsRow base tS 1 p1 (es.length + 1) (es.map (·.v) ++ [v])) (hg : w.grownBy w1 p.ownBlock) (hat : p1.ownBlock = p.ownBlock ∨ ∃ b, p1.ownBlock = some b ∧ w.heap.size ≤ b) : Half enc sz tS tE w1 base p1 q es v xs :=
 ⟨ho, own_other h.rq hg h.dpq.symm.ne, fun x hx => ⟨rw_over (h.el x hx).1 h.rp hg hne, rw_over (h.el x hx).2.1 h.rp hg hne, (h.el x hx).2.2⟩, ⟨rw_over hv h.rp hg hne, hvb⟩,
  List.pairwise_append.2 ⟨h.dv, List.pairwise_singleton _ _, fun a ha b hb => by
   rw [List.mem_singleton.1 hb]
   obtain ⟨x, hx, rfl⟩ := List.mem_map.1 ha
   exact hva x hx⟩, ap_new h.dpq hat h.rq⟩
theorem Half.step2 (h : Half enc sz tS tE w base p q es v xs) (hne : tS ≠ tE) (hu : Rw w tE sz u xs.length (encL enc xs))
  (ho : w1.ownsRow base tS 1 q1 (es.length + 1) (es.map (·.u) ++ [u])) (hg : w.grownBy w1 q.ownBlock) (hat : q1.ownBlock = q.ownBlock ∨ ∃ b, q1.ownBlock = some b ∧ w.heap.size ≤ b) : Kept enc sz tS tE w1 base p q1 (es ++ [⟨v, u, xs⟩]) := by
 refine ⟨?_, ?_, fun x hx => ?_, by simpa using h.dv, (ap_new h.dpq.symm hat h.rp).symm⟩
 ·simpa using own_other h.rp hg h.dpq.ne
 ·simpa using ho
 ·rcases List.mem_append.1 hx with hx | hx
  ·exact ⟨rw_over (h.el x hx).1 h.rq hg hne, rw_over (h.el x hx).2.1 h.rq hg hne, (h.el x hx).2.2⟩
  ·rw [List.mem_singleton.1 hx]
   exact ⟨rw_over h.ev.1 h.rq hg hne, rw_over hu h.rq hg hne, h.ev.2⟩
end
structure Held {α : Type} (enc : α → List Value) (sz : Nat) (tS tE : TypeId) (w : World) (base : Nat) (p : Value) (vs : List Value) (X : Nat → List α) : Prop where
 rp : w.ownsRow base tS 1 p vs.length vs
 el : ∀ i v, vs[i]? = some v → Rw w tE sz v (X i).length (encL enc (X i)) ∧ ∀ k, v.ownBlock = some k → base ≤ k
 dv : vs.Pairwise ap
section
variable {α : Type} {enc : α → List Value} {sz base : Nat} {tS tE : TypeId} {w w1 w2 : World} {p q p1 q1 v u : Value} {es : List (Ent α)} {vs : List Value} {X Y : Nat → List α}
theorem Kept.held (h : Kept enc sz tS tE w base p q es) : Held enc sz tS tE w base p (es.map (·.v)) (fun i => ((es.map (·.xs))[i]?).getD []) := by
 refine ⟨by simpa using h.rp, fun i v hv => ?_, h.dv⟩
 rw [List.getElem?_map] at hv
 obtain ⟨x, hx, rfl⟩ := Option.map_eq_some_iff.1 hv
 have e : ((es.map (·.xs))[i]?).getD [] = x.xs := by rw [List.getElem?_map, hx]; rfl
 have hm : x ∈ es := List.mem_of_getElem? hx
 simp only [e]
 exact ⟨(h.el x hm).1, (h.el x hm).2.2⟩
theorem Held.still (h : Held enc sz tS tE w base p vs X) {T : List TypeId} (hs : Still T w w1) (h1 : tS ∉ T) (h2 : tE ∉ T) : Held enc sz tS tE w1 base p vs X :=
 ⟨hs.own h.rp h1, fun i v hv => ⟨hs.rw_ (h.el i v hv).1 h2, (h.el i v hv).2⟩, h.dv⟩
theorem Held.below (h : Held enc sz tS tE w base p vs X) (hb : Below w.heap.size w w1) : Held enc sz tS tE w1 base p vs X := h.still (T := []) (Still.of_below hb) (by simp) (by simp)
theorem Held.congr (h : Held enc sz tS tE w base p vs X) (hx : ∀ i, i < vs.length → X i = Y i) : Held enc sz tS tE w base p vs Y :=
 ⟨h.rp, fun i v hv => by rw [← hx i (List.getElem?_eq_some_iff.1 hv).1]; exact h.el i v hv, h.dv⟩
theorem ap_of (h : vs.Pairwise ap) {i j : Nat} {a b : Value} (hi : vs[i]? = some a) (hj : vs[j]? = some b) (hne : i ≠ j) : ap a b := by
 obtain ⟨li, ei⟩ := List.getElem?_eq_some_iff.1 hi
 obtain ⟨lj, ej⟩ := List.getElem?_eq_some_iff.1 hj
 subst ei; subst ej
 rcases Nat.lt_or_gt_of_ne hne with h2 | h2
 ·exact List.pairwise_iff_getElem.1 h i j li lj h2
 ·exact (List.pairwise_iff_getElem.1 h j i lj li h2).symm
theorem Held.put {d : Kd α} (hf : Flat d enc) (h : Held enc d.sz tS tE w base p vs X) (hne : tS ≠ tE) {i m g o n c : Nat} (hv : vs[i]? = some (.slice (some ⟨g, o, none⟩) n c)) (hm : m < (X i).length) (x : α) :
  Held enc d.sz tS tE (w.setCells g (o + m * d.sz) (enc x)) base p vs (fun k => if k = i then (X i).set m x else X k) := by
 have h1 := (h.el i _ hv).1
 obtain rfl : n = (X i).length := by
  obtain ⟨A, c', e, _⟩ := h1.slice
  injection e
 have hlen := hf.lenL (X i)
 have hle : (m + 1) * d.sz ≤ (X i).length * d.sz := Nat.mul_le_mul_right _ hm
 rw [Nat.succ_mul] at hle
 have h2 := h1.put (p := m * d.sz) (seg := enc x) (by rw [hf.len, hlen]; exact hle)
 rw [hf.set _ _ _ hm] at h2
 have hfar : ∀ k, k ≠ g → (w.setCells g (o + m * d.sz) (enc x)).heap[k]? = w.heap[k]? := fun k hk => setCells_far _ _ k hk
 refine ⟨own_move h.rp (fun k hk => hfar k ?_), fun j v hj => ⟨?_, (h.el j v hj).2⟩, h.dv⟩
 ·rintro rfl
  obtain ⟨c1, hc1⟩ := own_typed h.rp k hk
  obtain ⟨c2, hc2⟩ := h1.typed k (by simp [Value.ownBlock])
  rw [hc1] at hc2
  injection hc2 with hc2
  injection hc2 with _ hc2
  exact hne hc2
 ·by_cases hji : j = i
  ·subst hji
   rw [hv] at hj
   injection hj with hj
   subst hj
   simp only [if_pos]
   rw [List.length_set]
   exact h2
  ·simp only [if_neg hji]
   refine (h.el j v hj).1.move (fun k hk => hfar k ?_)
   rintro rfl
   exact ap_of h.dv hj hv hji k hk (by simp [Value.ownBlock])
end
section
variable {w : World} {g o : Nat} {vs : List Value}
theorem below_setCells {B : Nat} {a : World} (h : Below B a w) (hg : B ≤ g) : Below B a (w.setCells g o vs) := by
 obtain ⟨s1, s2, s3, s4⟩ := setCells_same g vs o w
 exact h.trans ⟨s1, s2, s3, by rw [s4]; exact Nat.le_refl _, fun k hk => setCells_far vs o k (by omega)⟩
theorem still_setCells {T : List TypeId} {cur : Array Value} {t : TypeId} (hb : w.heap[g]? = some (.cells cur t (0, 0))) (ht : t ∈ T) : Still T w (w.setCells g o vs) := Still.of_far (g := g) (fun k hk => setCells_far vs o k hk) ⟨cur, t, ht, hb⟩
theorem size_setCells : (w.setCells g o vs).heap.size = w.heap.size := (setCells_same g vs o w).2.2.2
end
theorem Still.grown_new {T : List TypeId} {w w1 w2 : World} (h : Still T w w1) (hs : w.heap.size ≤ w1.heap.size) {row : Option Nat} (hg : w1.grownBy w2 row) (hr : ∀ k, row = some k → w.heap.size ≤ k) : Still T w w2 := fun k hk hn => (hg.block k (by omega) (fun e => by have := hr k e.symm; omega)).trans (h k hk hn)
theorem own_sl (A : Option Addr) (n c n' c' : Nat) : (Value.slice A n c).ownBlock = (Value.slice A n' c').ownBlock := by cases A <;> rfl
theorem xs_le {α : Type} {es : List (Ent α)} {N : Nat} (h : ∀ x ∈ es, x.xs.length ≤ N) (i : Nat) : (((es.map (·.xs))[i]?).getD []).length ≤ N := by
 rw [List.getElem?_map]
 cases e : es[i]? with
 | none => exact Nat.zero_le _
 | some x => exact h x (List.mem_of_getElem? e)
theorem mem_snoc_imp {α : Type} {P : α → Prop} {es : List α} {y : α} (h1 : ∀ x ∈ es, P x) (h2 : P y) : ∀ x ∈ es ++ [y], P x := fun x hx => by
 rcases List.mem_append.1 hx with h | h
 ·exact h1 x h
 ·rw [List.mem_singleton.1 h]
  exact h2
end Go.Proofs.YtchgpcgolgcfdaaGreat.BkW
end
section
namespace Go.Proofs.YtchgpcgolgcfdaaGreat.Bl2
open Go Go.RowKit Go.Proofs.YtchgpcgolgcfdaaGreat.BkW Go.Proofs.YtchgpcgolgcfdaaGreatW.PrintWords
set_option linter.unusedVariables false
abbrev TB : TypeId := 221
abbrev TU : TypeId := 5
section
variable {P : Program}
theorem run_append_str_at (w : World) (base : Nat) (t u ty e : TypeId) (i : TypeInfo) (ht : P.underlying t = some (.slice e)) (hu : P.underlying u = some .string) (hi : P.info? e = some i) (hz : i.zero = some (.int .u8 0))
  (hsize : i.size = 1) (hby : i.bytes = 1) (v : Value) (n : Nat) (xs : List Value) (hown : w.ownsRow base e 1 v n xs) (s : ByteArray) (h63 : n + s.size ≤ maxLen) (hbytes : n + s.size ≤ 140737488355328) (hbase : base ≤ w.heap.size) :
  ∃ v' w', (Builtin.append_ #[t, u] ty #[v, .string s]).run P w = .ok v' w' ∧ w'.ownsRow base e 1 v' (n + s.size) (xs ++ Lib.strCells s) ∧ w.grownBy w' v.ownBlock ∧ (v' = .slice none 0 0 ↔ v = .slice none 0 0 ∧ s.size = 0) ∧ (v'.ownBlock = v.ownBlock ∨ ∃ b, v'.ownBlock = some b ∧ w.heap.size ≤ b) := by
 obtain ⟨v', w', hr, h2, h3, h4⟩ := Lib.run_append_own_string (P := P) w base t u ty e i ht hu hi hz hsize hby v n xs hown s h63 hbytes hbase
 refine ⟨v', w', hr, h2, h3, h4, ?_⟩
 have hsmall : n + s.size ≤ 9223372036854775807 := by simp only [maxLen] at h63; omega
 have hxl : xs.length = n := by simpa using hown.1
 rcases hown.2 with ⟨rfl, rfl⟩ | ⟨g, cap, cur, rfl, hbg, hg, hnc, hcm, hcs, htake⟩
 ·by_cases hm : s.size = 0
  ·exact .inl (by rw [h4.2 ⟨rfl, hm⟩])
  ·have hr2 := run_append_nil_string (P := P) w t u ty e i (.int .u8 0) ht hu hi hz s (by omega) (by omega) (by rw [hby]; omega)
   rw [hr] at hr2
   injection hr2 with hv _
   exact .inr ⟨w.heap.size, by rw [hv]; rfl, Nat.le_refl _⟩
 ·by_cases hroom : n + s.size ≤ cap
  ·have hcs' : cur.size = cap := by simpa using hcs
   have hr2 := Lib.run_append_room_string (P := P) w t u ty e i ht hu hi hsize g n cap cur hg s hroom (by omega)
   rw [hr] at hr2
   injection hr2 with hv _
   exact .inl (by rw [hv]; rfl)
  ·have holds : ∀ j u, xs[j]? = some u → w.cell? ((⟨g, 0, none⟩ : Addr).add j) = some u := hown.cells (g := g) rfl
   have hr2 := Lib.run_append_grow_string (P := P) w t u ty e i (.int .u8 0) ht hu hi hz ⟨g, 0, none⟩ n cap xs (by rw [hsize]; simpa using hxl) holds s (by omega) (by omega) (by rw [hby]; exact growslice_fits (by omega) (by omega))
   rw [hr] at hr2
   injection hr2 with hv _
   exact .inr ⟨w.heap.size, by rw [hv]; rfl, Nat.le_refl _⟩
theorem wpList_append_str_at {w : World} {ops : Array Oper} {rest : List Oper} {o : Oper} {a : Act} {Q : Exit → Act → World → Prop} (hgd : o.guard = none) (sl x : Operand) (t u : TypeId)
  (ho : o.op = .call { callee := .builtin .append, args := #[sl, x], argTypes := #[t, u] })
  (base : Nat) (e : TypeId) (i : TypeInfo) (ht : P.underlying t = some (.slice e)) (hu : P.underlying u = some .string) (hi : P.info? e = some i) (hz : i.zero = some (.int .u8 0))
  (hsize : i.size = 1) (hby : i.bytes = 1)
  (v : Value) (n : Nat) (xs : List Value) (hs : a.eval sl = v) (hown : w.ownsRow base e 1 v n xs) (s : ByteArray) (hx : a.eval x = .string s)
  (h63 : n + s.size ≤ maxLen) (hbytes : n + s.size ≤ 140737488355328) (hbase : base ≤ w.heap.size)
  (h : ∀ v' w', w'.ownsRow base e 1 v' (n + s.size) (xs ++ Lib.strCells s) → w.grownBy w' v.ownBlock → (v' = .slice none 0 0 ↔ v = .slice none 0 0 ∧ s.size = 0) → (v'.ownBlock = v.ownBlock ∨ ∃ b, v'.ownBlock = some b ∧ w.heap.size ≤ b) → wpList P ops Q rest (a.put o.dst v') w') : wpList P ops Q (o :: rest) a w := by
 refine wpList_plain hgd fun K hK => ?_
 obtain ⟨v', w', hr, h2, h3, h5, h4⟩ := run_append_str_at (P := P) w base t u o.type e i ht hu hi hz hsize hby v n xs hown s h63 hbytes hbase
 unfold Oper.wp execOp
 simp only [ho, resolve, invoke, builtin, Sem.run_bind, Sem.run_pure, Result.andThen_ok, List.map_toArray, List.map_cons, List.map_nil, hs, hx, hr]
 exact hK _ _ (h v' w' h2 h3 h5 h4)
end
structure Bv (w : World) (B b : Nat) (v : Value) (s : ByteArray) : Prop where
 bb : B ≤ b
 blk : ∃ p, (p = .pointer none ∨ p = .pointer (some ⟨b, 0, none⟩)) ∧ w.heap[b]? = some (.cells #[p, v] TB (0, 0))
 own : w.ownsRow B TU 1 v s.size (Lib.strCells s)
 nil : s.size = 0 → v = .slice none 0 0
theorem lt_of {w : World} {b : Nat} {o : Obj} (h : w.heap[b]? = some o) : b < w.heap.size := by
 rcases Nat.lt_or_ge b w.heap.size with h' | h'
 ·exact h'
 ·simp [Array.getElem?_eq_none h'] at h
theorem Bv.ne {w : World} {B b : Nat} {v : Value} {s : ByteArray} (h : Bv w B b v s) : v.ownBlock ≠ some b := by
 obtain ⟨p, _, hb⟩ := h.blk
 exact Lib.ownBlock_ne h.own hb (by decide)
theorem Bv.lt {w : World} {B b : Nat} {v : Value} {s : ByteArray} (h : Bv w B b v s) : b < w.heap.size := by
 obtain ⟨p, _, hb⟩ := h.blk
 exact lt_of hb
theorem Bv.olt {w : World} {B b : Nat} {v : Value} {s : ByteArray} (h : Bv w B b v s) (k : Nat) (hk : v.ownBlock = some k) : k < w.heap.size := (Rw.of_own h.own).lt k hk
theorem Bv.is {w : World} {B b : Nat} {v : Value} {s : ByteArray} (h : Bv w B b v s) : Lib.IsBuilder TB TU B b (Lib.strCells s) w := by
 obtain ⟨p, hp, hb⟩ := h.blk
 have hl : (Lib.strCells s).length = s.size := Lib.strCells_length s
 rcases hp with rfl | rfl
 ·exact .inl ⟨h.bb, v, hb, by rw [hl]; exact h.own, h.ne⟩
 ·exact .inr ⟨h.bb, v, hb, by rw [hl]; exact h.own, h.ne⟩
theorem Bv.new (w : World) : Bv (w.alloc (.cells #[.pointer none, .slice none 0 0] TB)) w.heap.size w.heap.size (.slice none 0 0) ⟨#[]⟩ :=
 ⟨Nat.le_refl _, ⟨_, .inl rfl, blk_new w _⟩, World.ownsRow_nil _ _ _ 1, fun _ => rfl⟩
theorem Bv.lower {w : World} {B B' b : Nat} {v : Value} {s : ByteArray} (h : Bv w B b v s) (hB : B' ≤ B) : Bv w B' b v s := by
 refine ⟨Nat.le_trans hB h.bb, h.blk, ⟨h.own.1, ?_⟩, h.nil⟩
 rcases h.own.2 with q | ⟨g, cap, cur, hv, hb, r⟩
 ·exact .inl q
 ·exact .inr ⟨g, cap, cur, hv, Nat.le_trans hB hb, r⟩
theorem Bv.move {w w1 : World} {B b : Nat} {v : Value} {s : ByteArray} (h : Bv w B b v s) (hb : w1.heap[b]? = w.heap[b]?) (hv : ∀ k, v.ownBlock = some k → w1.heap[k]? = w.heap[k]?) : Bv w1 B b v s :=
 ⟨h.bb, by obtain ⟨p, hp, hq⟩ := h.blk; exact ⟨p, hp, hb.trans hq⟩, own_move h.own hv, h.nil⟩
theorem Bv.below {w w1 : World} {B b : Nat} {v : Value} {s : ByteArray} (h : Bv w B b v s) (hb : Below w.heap.size w w1) : Bv w1 B b v s :=
 h.move (hb.block b h.lt) (fun k hk => hb.block k (h.olt k hk))
set_option maxHeartbeats 1000000 in
set_option maxRecDepth 100000 in
theorem write_calls (B b : Nat) (v : Value) (acc s : ByteArray) (w : World) (h : Bv w B b v acc) (hlen : acc.size + s.size ≤ 140737488355328) (hBw : B ≤ w.heap.size) :
  Calls Tryz.prog 185 #[.pointer (some ⟨b, 0, none⟩), .string s] w fun e w' => e = .returned (.tuple #[.int .i64 s.size, .nilIface]) ∧ ∃ v', Bv w' B b v' (acc ++ s) ∧ Below B w w' ∧ w.heap.size ≤ w'.heap.size ∧ (∀ k, k < w.heap.size → k ≠ b → v.ownBlock ≠ some k → w'.heap[k]? = w.heap[k]?) ∧ NewOr w v v' := by
 obtain ⟨i0, hi, hz0, hz1, hz2⟩ := info_parts Bld.infoByte
 have HC : Aside0 (Calls Tryz.prog 240 #[.pointer (some ⟨b, 0, none⟩)] w fun e w' => e = .returned (.tuple #[]) ∧ Bv w' B b v acc ∧ w'.heap[b]? = some (.cells #[.pointer (some ⟨b, 0, none⟩), v] TB (0, 0)) ∧ Below B w w' ∧ w'.heap.size = w.heap.size ∧ ∀ k, k ≠ b → w'.heap[k]? = w.heap[k]?) := ⟨by
  obtain ⟨p, hp, hb⟩ := h.blk
  rcases hp with rfl | rfl
  ·have hA : Lib.BuilderAt TB TU B b (.pointer none) (Lib.strCells acc) w := ⟨h.bb, v, hb, by rw [Lib.strCells_length]; exact h.own, h.ne⟩
   refine (Bld.copyCheck_fresh b w hA.cell0 hA.shape hA.frozen0).mono ?_
   rintro e w' ⟨rfl, rfl⟩
   have hb2 : (w.setCell ⟨b, 0, none⟩ (.pointer (some ⟨b, 0, none⟩))).heap[b]? = some (.cells #[.pointer (some ⟨b, 0, none⟩), v] TB (0, 0)) := blk_set hb 0 _
   have hk : ∀ k, k ≠ b → (w.setCell ⟨b, 0, none⟩ (.pointer (some ⟨b, 0, none⟩))).heap[k]? = w.heap[k]? := fun k hk => Below.heap_setCell _ _ _ k hk
   refine ⟨rfl, ⟨h.bb, ⟨_, .inr rfl, hb2⟩, own_move h.own (fun k hk2 => hk k (fun e => h.ne (by rw [hk2, e]))), h.nil⟩, hb2, (Below.refl B w).setCell (p := ⟨b, 0, none⟩) h.bb _, World.size_setCell _ _ _, hk⟩
  ·refine (Bld.copyCheck_used b w ((blk_cell hb 0).trans rfl)).mono ?_
   rintro e w' ⟨rfl, rfl⟩
   exact ⟨rfl, h, hb, Below.refl B _, rfl, fun _ _ => rfl⟩⟩
 go_enter Tryz.func185, Tryz.ntmps185
 go_wp2_with (go_at_call 240; refine HC.out.mono ?_)
 rintro e w1 ⟨rfl, h1, hbk, hb1, hsz1, hk1⟩
 have c0 : w1.cell? ⟨b, 0, none⟩ = some (.pointer (some ⟨b, 0, none⟩)) := by rw [Lib.cell_of_heap hbk]; rfl
 have c1 : w1.cell? ⟨b, 1, none⟩ = some v := by rw [Lib.cell_of_heap hbk]; rfl
 go_wp2_with (at_builtin; refine wpList_append_str_at rfl _ _ 219 9 rfl B 5 i0 Tryz.underlying219 Tryz.underlying9 hi hz0 hz1 hz2 _ _ _ rfl h1.own s rfl ?c3 ?c4 ?c5 ?_)
 case c3 => unfold maxLen; omega
 case c4 => omega
 case c5 => omega
 intro v' w2 hown' hgrow hnil hat
 have hlt : b < w1.heap.size := lt_of hbk
 have hb2 : w2.heap[b]? = some (.cells #[.pointer (some ⟨b, 0, none⟩), v] 221 (0, 0)) := by
  rw [hgrow.block b hlt (fun e => h1.ne e.symm)]
  exact hbk
 have d0 : w2.cell? ⟨b, 0, none⟩ = some (.pointer (some ⟨b, 0, none⟩)) := by rw [Lib.cell_of_heap hb2]; rfl
 have d1 : w2.cell? ⟨b, 1, none⟩ = some v := by rw [Lib.cell_of_heap hb2]; rfl
 have f1 : w2.frozen? ⟨b, 1, none⟩ = false := Lib.frozen_of_heap hb2 1
 obtain ⟨ao, n', cap, rfl⟩ : ∃ ao n' cap, v' = .slice ao n' cap := by
  rcases hown'.2 with ⟨hv, _⟩ | ⟨g, cap, cur, hv, _⟩
  ·exact ⟨_, _, _, hv⟩
  ·exact ⟨_, _, _, hv⟩
 go_wp2
 go_ret2
 have hb3 : (w2.setCell ⟨b, 1, none⟩ (.slice ao n' cap)).heap[b]? = some (.cells #[.pointer (some ⟨b, 0, none⟩), .slice ao n' cap] TB (0, 0)) := blk_set hb2 1 _
 have hne : (Value.slice ao n' cap).ownBlock ≠ some b := Lib.ownBlock_ne hown' hb2 (by decide)
 have hk3 : ∀ k, k ≠ b → (w2.setCell ⟨b, 1, none⟩ (.slice ao n' cap)).heap[k]? = w2.heap[k]? := fun k hk => Below.heap_setCell _ _ _ k hk
 have hnl : (acc ++ s).size = 0 → Value.slice ao n' cap = .slice none 0 0 := by
  intro hz
  have hz2 : acc.size + s.size = 0 := by rw [← ByteArray.size_append]; exact hz
  have ha : acc.size = 0 := Nat.eq_zero_of_add_eq_zero_right hz2
  have hs : s.size = 0 := Nat.eq_zero_of_add_eq_zero_left hz2
  exact hnil.2 ⟨h.nil ha, by first | exact hs | simpa using hs⟩
 refine ⟨rfl, .slice ao n' cap, ⟨h.bb, ⟨_, .inr rfl, hb3⟩, ?_, hnl⟩, ?_, ?_, fun k hk hkb hkv => ?_, ?_⟩
 ·refine own_move ?_ (fun k hk => hk3 k (fun e => hne (by rw [hk, e])))
  rw [ByteArray.size_append, ← Bld.strCells_append]
  exact hown'
 ·exact (hb1.grown hgrow (by have := hb1.size; omega) (fun k hk => (h1.own.lt k hk).1)).setCell (p := ⟨b, 1, none⟩) h.bb _
 ·rw [World.size_setCell]
  have := hgrow.size
  omega
 ·rw [hk3 k hkb, hgrow.block k (by omega) (fun e => hkv e.symm), hk1 k hkb]
 ·intro k hk
  rcases hat with q | ⟨x, q, hx⟩
  ·exact .inl (q ▸ hk)
  ·rw [hk] at q
   obtain rfl := Option.some.inj q
   exact .inr (by omega)
structure Two (w0 w : World) (b1 b2 : Nat) (s1 s2 : ByteArray) : Prop where
 ex : ∃ v1 v2, Bv w w0.heap.size b1 v1 s1 ∧ Bv w w0.heap.size b2 v2 s2 ∧ ap v1 v2
 ne : b1 ≠ b2
 bel : Below w0.heap.size w0 w
theorem cross {w : World} {B b b' : Nat} {v v' : Value} {s s' : ByteArray} (h : Bv w B b v s) (h' : Bv w B b' v' s') : v.ownBlock ≠ some b' := by
 obtain ⟨p, _, hb⟩ := h'.blk
 exact Lib.ownBlock_ne h.own hb (by decide)
theorem Two.below {w0 w w1 : World} {b1 b2 : Nat} {s1 s2 : ByteArray} (h : Two w0 w b1 b2 s1 s2) (hb : Below w.heap.size w w1) : Two w0 w1 b1 b2 s1 s2 := by
 obtain ⟨⟨v1, v2, h1, h2, ha⟩, hne, hbel⟩ := h
 exact ⟨⟨v1, v2, h1.below hb, h2.below hb, ha⟩, hne, below_step hbel hb⟩
theorem Two.swap {w0 w : World} {b1 b2 : Nat} {s1 s2 : ByteArray} (h : Two w0 w b1 b2 s1 s2) : Two w0 w b2 b1 s2 s1 := by
 obtain ⟨⟨v1, v2, h1, h2, ha⟩, hne, hbel⟩ := h
 exact ⟨⟨v2, v1, h2, h1, ha.symm⟩, hne.symm, hbel⟩
theorem Two.len {w0 w : World} {b1 b2 : Nat} {s1 s2 : ByteArray} (h : Two w0 w b1 b2 s1 s2) :
  Calls Tryz.prog 187 #[.pointer (some ⟨b1, 0, none⟩)] w fun e w' => e = .returned (.int .i64 s1.size) ∧ w' = w := by
 obtain ⟨⟨v1, v2, h1, h2, ha⟩, hne, hbel⟩ := h
 have h3 := Tryz.Builder_Len _ b1 (Lib.strCells s1) w h1.is
 rw [Lib.strCells_length] at h3
 exact h3
end Go.Proofs.YtchgpcgolgcfdaaGreat.Bl2
end
section
namespace Go.Proofs.YtchgpcgolgcfdaaGreat.Bl2
open Go Go.RowKit Go.Proofs.YtchgpcgolgcfdaaGreat.BkW Go.Proofs.YtchgpcgolgcfdaaGreatW.PrintWords
set_option linter.unusedVariables false
set_option maxRecDepth 100000
set_option maxHeartbeats 16000000
theorem cellsByte : Tryz.prog.cellsOf 5 = 1 := by kernel_rfl
theorem string_calls (B b : Nat) (v : Value) (s : ByteArray) (w : World) (h : Bv w B b v s) :
  Calls Tryz.prog 189 #[.pointer (some ⟨b, 0, none⟩)] w fun e w' => e = .returned (.string s) ∧ Below B w w' ∧ w'.heap.size = w.heap.size ∧ ∀ k, v.ownBlock ≠ some k → w'.heap[k]? = w.heap[k]? := by
 have L := Tryz.lays169
 have mixed : Tryz.prog.follows .mixedOrders = true := L.mixed
 have a72 : ∀ w, (isAgg 221).run Tryz.prog w = .ok true w := L.a72
 have z72 : ∀ w, (Go.sizeOf 221).run Tryz.prog w = .ok 2 w := L.z72
 have v72 : ∀ w, (zeroValue 221).run Tryz.prog w = .ok (Value.agg #[Value.pointer none, Value.slice none 0 0]) w := L.v72
 have t72 := Tryz.underlying221
 have u72 := run_underlying Tryz.underlying221
 have a70 : ∀ w, (isAgg 218).run Tryz.prog w = .ok false w := L.a70
 have z70 : ∀ w, (Go.sizeOf 218).run Tryz.prog w = .ok 1 w := L.z70
 have v70 : ∀ w, (zeroValue 218).run Tryz.prog w = .ok (Value.pointer none) w := L.v70
 have t70 := Tryz.underlying218
 have u70 := run_underlying Tryz.underlying218
 have a37 : ∀ w, (isAgg 219).run Tryz.prog w = .ok false w := L.a37
 have z37 : ∀ w, (Go.sizeOf 219).run Tryz.prog w = .ok 1 w := L.z37
 have v37 : ∀ w, (zeroValue 219).run Tryz.prog w = .ok (Value.slice none 0 0) w := L.v37
 have t37 := Tryz.underlying219
 have u37 := run_underlying Tryz.underlying219
 have a127 : ∀ w, (isAgg 298).run Tryz.prog w = .ok false w := L.a127
 have z127 : ∀ w, (Go.sizeOf 298).run Tryz.prog w = .ok 1 w := L.z127
 have v127 : ∀ w, (zeroValue 298).run Tryz.prog w = .ok (Value.pointer none) w := L.v127
 have t127 := Tryz.underlying298
 have u127 := run_underlying Tryz.underlying298
 have a3 : ∀ w, (isAgg 3).run Tryz.prog w = .ok false w := L.a3
 have z3 : ∀ w, (Go.sizeOf 3).run Tryz.prog w = .ok 1 w := L.z3
 have v3 : ∀ w, (zeroValue 3).run Tryz.prog w = .ok (Value.int IntKind.i64 0) w := L.v3
 have t3 := Tryz.underlying3
 have u3 := run_underlying Tryz.underlying3
 have a9 : ∀ w, (isAgg 9).run Tryz.prog w = .ok false w := L.a9
 have z9 : ∀ w, (Go.sizeOf 9).run Tryz.prog w = .ok 1 w := L.z9
 have v9 : ∀ w, (zeroValue 9).run Tryz.prog w = .ok (Value.string { data := #[] }) w := L.v9
 have t9 := Tryz.underlying9
 have u9 := run_underlying Tryz.underlying9
 clear L
 obtain ⟨p, hp, hbk⟩ := h.blk
 by_cases h0 : s.size = 0
 ·obtain rfl := h.nil h0
  have hs : s = ⟨#[]⟩ := by
   cases s with
   | mk d =>
    have : d = #[] := Array.eq_empty_of_size_eq_zero h0
    rw [this]
  subst hs
  have hUS : ∀ W : World, (Builtin.unsafeString_ #[298, 3] 9 #[.pointer none, .int .i64 0]).run Tryz.prog W = .ok (.string .empty) W := fun W => Lib.run_unsafeString_none W _ _ _ none
  have c1 : w.drew.cell? ⟨b, 1, none⟩ = some (.slice none 0 0) := by
   have : w.drew.heap[b]? = some (.cells #[p, .slice none 0 0] TB (0, 0)) := hbk
   rw [Lib.cell_of_heap this]; rfl
  have hSD : (Builtin.unsafeSliceData_ #[219] 298 #[.slice none 0 0]).run Tryz.prog w.drew = .ok (.pointer none) w.drew := rfl
  have HB := a_k h.bb
  clear h hp hbk h0
  go_enter Tryz.func189, Tryz.ntmps189
  go_wp2
  go_region_o
  all_goals (go_wp2; go_ret; exact ⟨rfl, Below.drew (Below.refl B w), rfl, fun _ _ => rfl⟩)
 ·obtain ⟨g, cap, cur, hv, hbg, hg, hnc, hcm, hcs, htake⟩ : ∃ g cap cur, v = .slice (some ⟨g, 0, none⟩) s.size cap ∧ B ≤ g ∧ w.heap[g]? = some (.cells cur TU (0, 0)) ∧ s.size ≤ cap ∧ cap ≤ maxLen ∧ cur.size = cap * 1 ∧ cur.toList.take (s.size * 1) = Lib.strCells s := by
   rcases h.own.2 with ⟨_, hz⟩ | ⟨g, cap, cur, hv, r⟩
   ·exact absurd hz h0
   ·exact ⟨g, cap, cur, hv, r⟩
  subst hv
  have hsz : s.data.toList.length = s.size := by show s.data.toList.length = s.data.size; simp
  have c1 : w.drew.cell? ⟨b, 1, none⟩ = some (.slice (some ⟨g, 0, none⟩) s.size cap) := by
   have : w.drew.heap[b]? = some (.cells #[p, .slice (some ⟨g, 0, none⟩) s.size cap] TB (0, 0)) := hbk
   rw [Lib.cell_of_heap this]; rfl
  have hSD : (Builtin.unsafeSliceData_ #[219] 298 #[.slice (some ⟨g, 0, none⟩) s.size cap]).run Tryz.prog w.drew = .ok (.pointer (some ⟨g, 0, none⟩)) w.drew :=
   Lib.run_unsafeSliceData_row _ _ _ _ _ _ (by omega)
  have hUS : (Builtin.unsafeString_ #[298, 3] 9 #[.pointer (some ⟨g, 0, none⟩), .int .i64 s.size]).run Tryz.prog w.drew = .ok (.string s) (w.drew.freeze ⟨g, 0, none⟩ s.size) := by
   have h1 := Lib.run_unsafeString_row (P := Tryz.prog) w.drew 298 3 9 5 Tryz.underlying298 cellsByte g cur.size (by have hg' : w.drew.heap[g]? = some (.cells cur TU (0, 0)) := hg; simp [World.shape?, hg']) s.data.toList (by intro e; rw [e] at hsz; simp at hsz; omega) (by omega) (by unfold maxLen at hcm; omega) (by
    intro j x hx
    exact h.own.cells (g := g) rfl j (.int .u8 x.toNat) (by simp [Lib.strCells, hx]))
   rw [hsz] at h1
   exact h1
  have hfar : ∀ k, k ≠ g → (w.drew.freeze ⟨g, 0, none⟩ s.size).heap[k]? = w.heap[k]? := fun k hk => by
   unfold World.freeze
   rw [if_neg h0]
   simp only [Array.getElem?_modify]
   rw [if_neg (fun e => hk e.symm)]
   rfl
  have hsz2 : (w.drew.freeze ⟨g, 0, none⟩ s.size).heap.size = w.heap.size := by
   unfold World.freeze
   rw [if_neg h0]
   exact Array.size_modify
  clear h hp hbk h0 htake hcs hcm hnc hsz
  go_enter Tryz.func189, Tryz.ntmps189
  go_wp2
  go_region_o
  all_goals (go_wp2; go_ret; exact ⟨rfl, Lib.below_freeze (Below.drew (Below.refl B w)) (p := ⟨g, 0, none⟩) hbg _, hsz2, fun k hk => hfar k (fun e => hk (by rw [e]; rfl))⟩)
theorem Two.string {w0 w : World} {b1 b2 : Nat} {s1 s2 : ByteArray} (h : Two w0 w b1 b2 s1 s2) :
  Calls Tryz.prog 189 #[.pointer (some ⟨b1, 0, none⟩)] w fun e w' => e = .returned (.string s1) ∧ (∃ v2, Bv w' w0.heap.size b2 v2 s2) ∧ Below w0.heap.size w0 w' := by
 obtain ⟨⟨v1, v2, h1, h2, ha⟩, hne, hbel⟩ := h
 refine (string_calls _ b1 v1 s1 w h1).mono ?_
 rintro e w' ⟨rfl, hb, hsz, hk⟩
 exact ⟨rfl, ⟨v2, h2.move (hk b2 (cross h1 h2)) (fun k hk2 => hk k (fun e => ha k e hk2))⟩, Below.trans hbel hb⟩
theorem Two.write2 {w0 w : World} {b1 b2 : Nat} {s1 s2 : ByteArray} (h : Two w0 w b1 b2 s1 s2) (s : ByteArray) (hlen : s1.size + s.size ≤ 140737488355328) :
  Calls Tryz.prog 185 #[.pointer (some ⟨b1, 0, none⟩), .string s] w fun e w' => e = .returned (.tuple #[.int .i64 s.size, .nilIface]) ∧ Two w0 w' b1 b2 (s1 ++ s) s2 ∧ ∀ (g : Nat) (cs : Array Value) (T : TypeId) (fz : Nat × Nat), w.heap[g]? = some (.cells cs T fz) → T ≠ TU → T ≠ TB → w'.heap[g]? = some (.cells cs T fz) := by
 obtain ⟨⟨v1, v2, h1, h2, ha⟩, hne, hbel⟩ := h
 refine (write_calls _ b1 v1 s1 s w h1 hlen hbel.size).mono ?_
 rintro e w' ⟨rfl, v', hv', hb, hsz, hk, hn⟩
 have hm : Bv w' w0.heap.size b2 v2 s2 := h2.move (hk b2 h2.lt hne.symm (fun e => cross h1 h2 e)) (fun k hk2 => hk k (h2.olt k hk2) (fun e => cross h2 h1 (by rw [hk2, e])) (fun e => ha k e hk2))
 refine ⟨rfl, ⟨⟨v', v2, hv', hm, fun k e1 e2 => ?_⟩, hne, ?_⟩, ?_⟩
 ·rcases hn k e1 with q | q
  ·exact ha k q e2
  ·have := h2.olt k e2
   omega
 ·exact Below.trans hbel hb
 ·intro g cs T fz hg hU hB
  obtain ⟨p, _, hb1⟩ := h1.blk
  have e1 : v1.ownBlock ≠ some g := Lib.ownBlock_ne h1.own hg hU
  have e2 : g ≠ b1 := by
   intro e
   rw [e, hb1] at hg
   injection hg with hg
   injection hg with _ e2 _
   exact hB e2.symm
  rw [hk g (lt_of hg) e2 e1]
  exact hg
end Go.Proofs.YtchgpcgolgcfdaaGreat.Bl2
end
section
namespace Go.Proofs.YtchgpcgolgcfdaaGreat.PNum
open Go.RowKit Go.Proofs.YtchgpcgolgcfdaaGreatW.PrintWords Go.Proofs.YtchgpcgolgcfdaaGreatW.PrintLast Go.Proofs.YtchgpcgolgcfdaaGreatW.PrintMore
attribute [local go_sem] max2_int min2_int max_two min_two max_three min_three max_four min_four
set_option linter.unusedVariables false
set_option linter.unusedSimpArgs false
set_option maxRecDepth 100000
set_option maxHeartbeats 16000000
def ikey_Valid.j0 : Nat → Bool → ByteArray → Int → Int → ByteArray → Option (Bool)
 | 0, _, _, _, _, _ => none
 | k + 1, x3, x272000, x272001, x272002, x272003 => if x3 = true then (some false) else (if x272002 = 2 then (some (x272003.toList == ([] : List UInt8))) else (some (x272002 == 1)))
def ikey_Valid.f (k : Nat) (a0_0 : ByteArray) (a0_1 : Int) (a0_2 : Int) (a0_3 : ByteArray) : Option (Bool) := if (a0_0.size : Int) > 300 then (ikey_Valid.j0 k true a0_0 a0_1 a0_2 a0_3) else (ikey_Valid.j0 k (decide ((a0_3.size : Int) > 60000)) a0_0 a0_1 a0_2 a0_3)
theorem ikey_Valid.mono_l : ∀ k, (∀ y0 y1 y2 y3 y4, LeO (ikey_Valid.j0 k y0 y1 y2 y3 y4) (ikey_Valid.j0 (k + 1) y0 y1 y2 y3 y4))
 | 0 => fun _ _ _ _ _ r h => by simp [ikey_Valid.j0] at h
 | k + 1 => by
  have ih0 := ikey_Valid.mono_l k
  ·intro y0 y1 y2 y3 y4
   unfold ikey_Valid.j0
   repeat' first
   | (with_reducible exact ih0 _ _ _ _ _)
   | (with_reducible exact LeO.refl _)
   | (with_reducible exact LeO.none _)
   | (with_reducible refine LeO.ite ?_ ?_)
   | (with_reducible refine LeO.bind ?_ (fun _ => ?_))
theorem ikey_Valid.mono : ∀ a0 a1 a2 a3 k, LeO (ikey_Valid.f k a0 a1 a2 a3) (ikey_Valid.f (k + 1) a0 a1 a2 a3) := by
 intro a0 a1 a2 a3 k
 have ih0 := ikey_Valid.mono_l k
 unfold ikey_Valid.f
 repeat' first
   | (with_reducible exact ih0 _ _ _ _ _)
   | (with_reducible exact LeO.refl _)
   | (with_reducible exact LeO.none _)
   | (with_reducible refine LeO.ite ?_ ?_)
   | (with_reducible refine LeO.bind ?_ (fun _ => ?_))
theorem ikey_Valid.calls (k : Nat) (a0_0 : ByteArray) (a0_1 : Int) (a0_2 : Int) (a0_3 : ByteArray) (r : Bool) (w : World) (h : ikey_Valid.f k a0_0 a0_1 a0_2 a0_3 = some r) :
  Calls Tryz.prog 46 #[.agg #[.string a0_0, .int .u64 a0_1, .int .i64 a0_2, .string a0_3]] w fun e w' => e = .returned (.bool r) ∧ Below w.heap.size w w' := by
 have hu32 := Tryz.underlying32
 have HB := a_k (Below.refl w.heap.size w)
 have H : (if (a0_0.size : Int) > 300 then (ikey_Valid.j0 k true a0_0 a0_1 a0_2 a0_3) else (ikey_Valid.j0 k (decide ((a0_3.size : Int) > 60000)) a0_0 a0_1 a0_2 a0_3)) = some r := h
 clear h
 have HC2 := a_k H
 clear H
 go_enter Tryz.func46, Tryz.ntmps46
 go_upto_region 1 with (first | ((with_reducible refine gate_dst (N := 1) rfl ?_); (try (refine gate_guard (by rfl) ?_; dsimp only)); refine box_event ?hg (N := 1) ?hd (cs := #[.string a0_0, .int .u64 a0_1, .int .i64 a0_2, .string a0_3]) (t := 32) ?hr ?_; (case hd => rfl); (case hg => rfl); (case hr => first | (go_simp; done) | (go_simp; rfl)); intro gb271 hg w3 hbox hb; have n0_ := a_k (below_step (by repeat (first | exact HB.out | apply b_a | apply b_n | apply b_d)) hb); have n1_ := a_k (hbox); have n2_ := a_k ((by rw [hg]; exact (below_size (by repeat (first | exact HB.out | apply b_a | apply b_n | apply b_d))) : w.heap.size ≤ gb271)); have n3_ := a_k ((by rw [hg]; exact (below_size (by repeat (first | exact HB.out | apply b_a | apply b_n | apply b_d))) : w.heap.size ≤ gb271)); clear HB; have HB := n0_; have BK271 := n1_; have GW271 := n2_; have GE271 := n3_; clear n0_ n1_ n2_ n3_; clear hb hbox hg))
 (try simp only [Act.put, l_s, l_0, l_1])
 go_cut [3] (fun v3 wc => ∃ (kq : Nat) (x3_1 : Bool), v3 = .bool x3_1 ∧ Aside0 (ikey_Valid.j0 kq x3_1 a0_0 a0_1 a0_2 a0_3 = some r) ∧ Aside0 (kq ≤ k) ∧ Aside0 (wc.heap[gb271]? = some (.cells #[.string a0_0, .int .u64 a0_1, .int .i64 a0_2, .string a0_3] 32 (0, 0))) ∧ Aside0 (Below w.heap.size w wc))
 case first =>
  have H := HC2.out
  clear HC2
  by_cases c4 : (a0_0.size : Int) > 300
  ·rw [if_pos c4] at H
   have c4b0 : decide (300 < (a0_0.size : Int)) = true := decide_eq_true c4
   have c4b1 : decide (300 < a0_0.size) = true := decide_eq_true (by omega)
   clear c4
   (first | rw [c4b0] | (simp only [i64_w, i32_w]; rw [c4b0]) | skip)
   have H' := a_k H
   clear H
   have hcz5_0 : w3.cell? ⟨gb271, 0, none⟩ = some (.string a0_0) := (blk_cell BK271.out 0).trans rfl
   have hcz5_1 : w3.cell? ⟨gb271, 1, none⟩ = some (.int .u64 a0_1) := (blk_cell BK271.out 1).trans rfl
   have hcz5_2 : w3.cell? ⟨gb271, 2, none⟩ = some (.int .i64 a0_2) := (blk_cell BK271.out 2).trans rfl
   have hcz5_3 : w3.cell? ⟨gb271, 3, none⟩ = some (.string a0_3) := (blk_cell BK271.out 3).trans rfl
   have hfz5_0 := blk_frozen BK271.out 0
   have hfz5_1 := blk_frozen BK271.out 1
   have hfz5_2 := blk_frozen BK271.out 2
   have hfz5_3 := blk_frozen BK271.out 3
   go_wp2
   go_meet
   case rel => exact ⟨_, (true), (by first | rfl | (simp; done) | (simp [*]; done)), H', ⟨by first | omega | exact Nat.le_refl _⟩, ⟨by (with_reducible repeat (first | refine blk_drewN ?_ _ | refine blk_drew ?_ | refine blk_alloc ?_ _)); exact BK271.out⟩, ⟨by repeat (first | (with_reducible first | exact HB.out | apply b_a | apply b_n | apply b_d | refine below_set ?_ GE271.out) | exact HB.out)⟩⟩
  ·rw [if_neg c4] at H
   have c4b0 : decide (300 < (a0_0.size : Int)) = false := decide_eq_false c4
   have c4b1 : decide (300 < a0_0.size) = false := decide_eq_false (by omega)
   clear c4
   (first | rw [c4b0] | (simp only [i64_w, i32_w]; rw [c4b0]) | skip)
   have H' := a_k H
   clear H
   have hcz6_0 : w3.cell? ⟨gb271, 0, none⟩ = some (.string a0_0) := (blk_cell BK271.out 0).trans rfl
   have hcz6_1 : w3.cell? ⟨gb271, 1, none⟩ = some (.int .u64 a0_1) := (blk_cell BK271.out 1).trans rfl
   have hcz6_2 : w3.cell? ⟨gb271, 2, none⟩ = some (.int .i64 a0_2) := (blk_cell BK271.out 2).trans rfl
   have hcz6_3 : w3.cell? ⟨gb271, 3, none⟩ = some (.string a0_3) := (blk_cell BK271.out 3).trans rfl
   have hfz6_0 := blk_frozen BK271.out 0
   have hfz6_1 := blk_frozen BK271.out 1
   have hfz6_2 := blk_frozen BK271.out 2
   have hfz6_3 := blk_frozen BK271.out 3
   go_wp2
   go_meet
   case rel => exact ⟨_, (decide ((a0_3.size : Int) > 60000)), (by first | rfl | (simp; done) | (simp [*]; done)), H', ⟨by first | omega | exact Nat.le_refl _⟩, ⟨by (with_reducible repeat (first | refine blk_drewN ?_ _ | refine blk_drew ?_ | refine blk_alloc ?_ _)); exact BK271.out⟩, ⟨by repeat (first | (with_reducible first | exact HB.out | apply b_a | apply b_n | apply b_d | refine below_set ?_ GE271.out) | exact HB.out)⟩⟩
 case rest =>
  clear HC2
  try clear p2
  try clear c4
  try clear c4b0
  try clear c4b1
  try clear hcz5_0
  try clear hcz5_1
  try clear hcz5_2
  try clear hcz5_3
  try clear hcz6_0
  try clear hcz6_1
  try clear hcz6_2
  try clear hcz6_3
  try clear hfz5_0
  try clear hfz5_1
  try clear hfz5_2
  try clear hfz5_3
  try clear hfz6_0
  try clear hfz6_1
  try clear hfz6_2
  try clear hfz6_3
  obtain ⟨kq, x3_1, rfl, HA, HJ1, BK271, HB⟩ := hcut
  cases kq with
  | zero => exact absurd HA.out (by simp [ikey_Valid.j0])
  | succ kj1 =>
   have H := HA.out
   clear HA
   simp only [ikey_Valid.j0] at H
   by_cases c7 : x3_1 = true
   ·subst c7
    have H1 : (some false) = some r := by rw [if_pos rfl] at H; exact H
    clear H
    have H := H1
    clear H1
    obtain rfl := Option.some.inj H
    go_wp2
    go_ret
    exact ⟨by first | rfl | (simp [*, errW_none, errW_some] <;> rfl), by repeat (first | (with_reducible first | exact HB.out | apply b_a | apply b_n | apply b_d | refine below_set ?_ GE271.out) | exact HB.out)⟩
   ·replace c7 := Bool.eq_false_iff.mpr c7
    subst c7
    have H1 : (if a0_2 = 2 then (some (a0_3.toList == ([] : List UInt8))) else (some (a0_2 == 1))) = some r := by rw [if_neg (show ¬ (false = true) by decide)] at H; exact H
    clear H
    have H := H1
    clear H1
    by_cases c8 : a0_2 = 2
    ·rw [if_pos c8] at H
     have c8b0 : (a0_2 == 2) = true := beq_iff_eq.mpr c8
     have c8b1 : (a0_2 != 2) = false := bne_eq_false_iff_eq.mpr c8
     clear c8
     obtain rfl := Option.some.inj H
     have hcz9_0 : wc.cell? ⟨gb271, 0, none⟩ = some (.string a0_0) := (blk_cell BK271.out 0).trans rfl
     have hcz9_1 : wc.cell? ⟨gb271, 1, none⟩ = some (.int .u64 a0_1) := (blk_cell BK271.out 1).trans rfl
     have hcz9_2 : wc.cell? ⟨gb271, 2, none⟩ = some (.int .i64 a0_2) := (blk_cell BK271.out 2).trans rfl
     have hcz9_3 : wc.cell? ⟨gb271, 3, none⟩ = some (.string a0_3) := (blk_cell BK271.out 3).trans rfl
     have hfz9_0 := blk_frozen BK271.out 0
     have hfz9_1 := blk_frozen BK271.out 1
     have hfz9_2 := blk_frozen BK271.out 2
     have hfz9_3 := blk_frozen BK271.out 3
     go_wp2
     go_ret
     exact ⟨by first | rfl | (simp [*, errW_none, errW_some] <;> rfl), by repeat (first | (with_reducible first | exact HB.out | apply b_a | apply b_n | apply b_d | refine below_set ?_ GE271.out) | exact HB.out)⟩
    ·rw [if_neg c8] at H
     have c8b0 : (a0_2 == 2) = false := beq_eq_false_iff_ne.mpr c8
     have c8b1 : (a0_2 != 2) = true := bne_iff_ne.mpr c8
     obtain rfl := Option.some.inj H
     have hcz10_0 : wc.cell? ⟨gb271, 0, none⟩ = some (.string a0_0) := (blk_cell BK271.out 0).trans rfl
     have hcz10_1 : wc.cell? ⟨gb271, 1, none⟩ = some (.int .u64 a0_1) := (blk_cell BK271.out 1).trans rfl
     have hcz10_2 : wc.cell? ⟨gb271, 2, none⟩ = some (.int .i64 a0_2) := (blk_cell BK271.out 2).trans rfl
     have hcz10_3 : wc.cell? ⟨gb271, 3, none⟩ = some (.string a0_3) := (blk_cell BK271.out 3).trans rfl
     have hfz10_0 := blk_frozen BK271.out 0
     have hfz10_1 := blk_frozen BK271.out 1
     have hfz10_2 := blk_frozen BK271.out 2
     have hfz10_3 := blk_frozen BK271.out 3
     go_wp2
     go_ret
     exact ⟨by first | rfl | (simp [*, errW_none, errW_some] <;> rfl), by repeat (first | (with_reducible first | exact HB.out | apply b_a | apply b_n | apply b_d | refine below_set ?_ GE271.out) | exact HB.out)⟩
def cmp_Or_int.l0 : Nat → Int → List Int → Int → Int → Option (Int)
 | 0, _, _, _, _ => none
 | k + 1, x3, x6, x7, x8 => if x8 < x7 then (if 0 ≤ x8 then (if x8 < (x6.length : Int) then (if (rd x6 x8) = x3 then (cmp_Or_int.l0 k x3 x6 x7 (wrap64 (x8 + 1))) else (some (rd x6 x8))) else (none)) else (none)) else (some x3)
def cmp_Or_int.f (k : Nat) (l0 : List Int) : Option (Int) := cmp_Or_int.l0 k 0 l0 (l0.length : Int) 0
theorem cmp_Or_int.mono_l : ∀ k, (∀ y0 y1 y2 y3, LeO (cmp_Or_int.l0 k y0 y1 y2 y3) (cmp_Or_int.l0 (k + 1) y0 y1 y2 y3))
 | 0 => fun _ _ _ _ r h => by simp [cmp_Or_int.l0] at h
 | k + 1 => by
  have ih0 := cmp_Or_int.mono_l k
  ·intro y0 y1 y2 y3
   unfold cmp_Or_int.l0
   repeat' first
   | (with_reducible exact ih0 _ _ _ _)
   | (with_reducible exact LeO.refl _)
   | (with_reducible exact LeO.none _)
   | (with_reducible refine LeO.ite ?_ ?_)
   | (with_reducible refine LeO.bind ?_ (fun _ => ?_))
theorem cmp_Or_int.mono : ∀ a0 k, LeO (cmp_Or_int.f k a0) (cmp_Or_int.f (k + 1) a0) := by
 intro a0 k
 have ih0 := cmp_Or_int.mono_l k
 unfold cmp_Or_int.f
 repeat' first
   | (with_reducible exact ih0 _ _ _ _)
   | (with_reducible exact LeO.refl _)
   | (with_reducible exact LeO.none _)
   | (with_reducible refine LeO.ite ?_ ?_)
   | (with_reducible refine LeO.bind ?_ (fun _ => ?_))
theorem cmp_Or_int.calls (k : Nat) (A0 : Option Addr) (c0 : Nat) (l0 : List Int) (r : Int) (w : World) (hr0 : Kd.C (Kd.int .i64) w A0 l0.length l0) (hc0 : l0.length ≤ c0) (h : cmp_Or_int.f k l0 = some r) :
  Calls Tryz.prog 168 #[.slice A0 l0.length c0] w fun e w' => e = .returned (.int .i64 r) ∧ Drawn0 w w' := by
 have HR0 := a_k hr0
 have HC0 := a_k hc0
 clear hr0 hc0
 have H : (cmp_Or_int.l0 k 0 l0 (l0.length : Int) 0) = some r := h
 clear h
 have H' := a_k H
 clear H
 go_enter Tryz.func168, Tryz.ntmps168
 go_wp2
 go_loopg [8] k (fun kq v8 w' => ∃ (x8_1 : Int), v8 = .int .i64 x8_1 ∧ Aside0 (cmp_Or_int.l0 kq 0 l0 (l0.length : Int) x8_1 = some r) ∧ Aside0 (kq ≤ k) ∧ Drawn0 w w')
 case atStart => exact ⟨(0), (by first | rfl | (simp; done) | (simp [*]; done)), H', ⟨Nat.le_refl _⟩, by repeat (first | exact Drawn0.refl _ | apply Drawn0.step)⟩
 case round =>
  clear H'
  try clear c1
  obtain ⟨x8_1, rfl, HA, HK1, ⟨m1, rfl⟩⟩ := hrel
  cases gk with
  | zero => exact absurd HA.out (by simp [cmp_Or_int.l0])
  | succ k1 =>
   have H := HA.out
   clear HA
   simp only [cmp_Or_int.l0] at H
   by_cases c2 : x8_1 < (l0.length : Int)
   ·rw [if_pos c2] at H
    have c2b0 : decide (x8_1 < (l0.length : Int)) = true := decide_eq_true c2
    clear c2
    by_cases c3 : 0 ≤ x8_1
    ·rw [if_pos c3] at H
     have c3b0 : decide (0 ≤ x8_1) = true := decide_eq_true c3
     clear c3
     by_cases c4 : x8_1 < (l0.length : Int)
     ·rw [if_pos c4] at H
      have c4b0 : decide (x8_1 < (l0.length : Int)) = true := decide_eq_true c4
      clear c4
      by_cases c5 : (rd l0 x8_1) = 0
      ·rw [if_pos c5] at H
       have c5b0 : ((rd l0 x8_1) == 0) = true := beq_iff_eq.mpr c5
       have c5b1 : ((rd l0 x8_1) != 0) = false := bne_eq_false_iff_eq.mpr c5
       clear c5
       have H' := a_k H
       clear H
       have p272 : 0 ≤ (x8_1 : Int) := of_decide_eq_true (by assumption)
       have q272 : x8_1 < (l0.length : Int) := of_decide_eq_true (by assumption)
       obtain ⟨ad272, e272, hx272_0⟩ := Kd.at_int HR0.out x8_1 p272 q272
       cases e272
       replace p272 := eq_true p272
       replace q272 := eq_true q272
       go_wp2
       go_roundg k1
       case measure => have := HK1.out; omega
       case rel => exact ⟨(wrap64 (x8_1 + 1)), (by first | rfl | (simp; done) | (simp [*]; done)), H', ⟨by have := HK1.out; omega⟩, by repeat (first | exact Drawn0.refl _ | apply Drawn0.step)⟩
      ·rw [if_neg c5] at H
       have c5b0 : ((rd l0 x8_1) == 0) = false := beq_eq_false_iff_ne.mpr c5
       have c5b1 : ((rd l0 x8_1) != 0) = true := bne_iff_ne.mpr c5
       obtain rfl := Option.some.inj H
       have p272 : 0 ≤ (x8_1 : Int) := of_decide_eq_true (by assumption)
       have q272 : x8_1 < (l0.length : Int) := of_decide_eq_true (by assumption)
       obtain ⟨ad272, e272, hx272_0⟩ := Kd.at_int HR0.out x8_1 p272 q272
       cases e272
       replace p272 := eq_true p272
       replace q272 := eq_true q272
       go_wp2
       go_ret
       exact ⟨by first | rfl | (simp; done) | (simp [*]; done), by repeat (first | exact Drawn0.refl _ | apply Drawn0.step)⟩
     ·rw [if_neg c4] at H
      exact absurd H (by simp)
    ·rw [if_neg c3] at H
     exact absurd H (by simp)
   ·rw [if_neg c2] at H
    have c2b0 : decide (x8_1 < (l0.length : Int)) = false := decide_eq_false c2
    clear c2
    obtain rfl := Option.some.inj H
    go_wp2
    go_ret
    exact ⟨by first | rfl | (simp; done) | (simp [*]; done), by repeat (first | exact Drawn0.refl _ | apply Drawn0.step)⟩
def strings_Compare.f (a0 a1 : ByteArray) : Option Int := some (Lib.compareBytes a0.data.toList a1.data.toList)
theorem strings_Compare.calls (a0 a1 : ByteArray) (r : Int) (w : World) (h : strings_Compare.f a0 a1 = some r) :
  Calls Tryz.prog 169 #[.string a0, .string a1] w fun e w' => e = .returned (.int .i64 r) ∧ Drawn0 w w' := by
 obtain rfl := Option.some.inj h
 refine (Tryz.strings_Compare a0 a1 w).mono ?_
 rintro e w' ⟨rfl, rfl⟩
 exact ⟨rfl, Drawn0.refl _⟩
def cmp_isNaN_uint64.f (a0 : Int) : Option (Bool) := some (a0 != a0)
theorem cmp_isNaN_uint64.calls (a0 : Int) (r : Bool) (w : World) (h : cmp_isNaN_uint64.f a0 = some r) :
  Calls Tryz.prog 231 #[.int .u64 a0] w fun e w' => e = .returned (.bool r) ∧ Drawn0 w w' := by
 have H : (some (a0 != a0)) = some r := h
 clear h
 obtain rfl := Option.some.inj H
 go_enter Tryz.func231, Tryz.ntmps231
 go_wp2
 go_ret
 exact ⟨by first | rfl | (simp; done) | (simp [*]; done), by repeat (first | exact Drawn0.refl _ | apply Drawn0.step)⟩
def cmp_Compare_uint64.f (a0 : Int) (a1 : Int) : Option (Int) := (cmp_isNaN_uint64.f a0).bind fun t273 => ((cmp_isNaN_uint64.f a1).bind fun t274 => (if t273 = true then (if t274 = true then (some 0) else (some (-1))) else (if t274 = true then (some 1) else (if a0 < a1 then (some (-1)) else (if a0 > a1 then (some 1) else (some 0))))))
theorem cmp_Compare_uint64.calls (a0 : Int) (a1 : Int) (r : Int) (w : World) (h : cmp_Compare_uint64.f a0 a1 = some r) :
  Calls Tryz.prog 170 #[.int .u64 a0, .int .u64 a1] w fun e w' => e = .returned (.int .i64 r) ∧ Drawn0 w w' := by
 have H : ((cmp_isNaN_uint64.f a0).bind fun t273 => ((cmp_isNaN_uint64.f a1).bind fun t274 => (if t273 = true then (if t274 = true then (some 0) else (some (-1))) else (if t274 = true then (some 1) else (if a0 < a1 then (some (-1)) else (if a0 > a1 then (some 1) else (some 0))))))) = some r := h
 clear h
 replace H := Option.bind_eq_some_iff.mp H
 obtain ⟨t273, A30, H⟩ := H
 replace H : ((cmp_isNaN_uint64.f a1).bind fun t274 => (if t273 = true then (if t274 = true then (some 0) else (some (-1))) else (if t274 = true then (some 1) else (if a0 < a1 then (some (-1)) else (if a0 > a1 then (some 1) else (some 0)))))) = some r := H
 have A3 := a_k A30
 clear A30
 replace H := Option.bind_eq_some_iff.mp H
 obtain ⟨t274, A40, H⟩ := H
 replace H : (if t273 = true then (if t274 = true then (some 0) else (some (-1))) else (if t274 = true then (some 1) else (if a0 < a1 then (some (-1)) else (if a0 > a1 then (some 1) else (some 0))))) = some r := H
 have A4 := a_k A40
 clear A40
 by_cases c5 : t273 = true
 ·subst c5
  have H1 : (if t274 = true then (some 0) else (some (-1))) = some r := by rw [if_pos rfl] at H; exact H
  clear H
  have H := H1
  clear H1
  by_cases c6 : t274 = true
  ·subst c6
   have H1 : (some 0) = some r := by rw [if_pos rfl] at H; exact H
   clear H
   have H := H1
   clear H1
   obtain rfl := Option.some.inj H
   go_enter Tryz.func170, Tryz.ntmps170
   go_wp2_with (first | ((with_reducible refine gate_callee (f := 231) rfl ?_); refine goesL_ (some 8) rfl rfl Tryz.func231 (by kernel_rfl) rfl #[.int .u64 a0] rfl (by (try simp only [m_a, m_c, m_n]); first | done | rfl) ?_; (with_reducible refine (cmp_isNaN_uint64.calls a0 true _ A3.out).mono ?_); rintro e w' ⟨rfl, ⟨nd, rfl⟩⟩; refine ⟨_, rfl, ?_⟩) | ((with_reducible refine gate_callee (f := 231) rfl ?_); refine goesL_ (some 10) rfl rfl Tryz.func231 (by kernel_rfl) rfl #[.int .u64 a1] rfl (by (try simp only [m_a, m_c, m_n]); first | done | rfl) ?_; (with_reducible refine (cmp_isNaN_uint64.calls a1 true _ A4.out).mono ?_); rintro e w' ⟨rfl, ⟨nd, rfl⟩⟩; refine ⟨_, rfl, ?_⟩))
   go_ret
   exact ⟨by first | rfl | (simp; done) | (simp [*]; done), by repeat (first | exact Drawn0.refl _ | apply Drawn0.step)⟩
  ·replace c6 := Bool.eq_false_iff.mpr c6
   subst c6
   have H1 : (some (-1)) = some r := by rw [if_neg (show ¬ (false = true) by decide)] at H; exact H
   clear H
   have H := H1
   clear H1
   obtain rfl := Option.some.inj H
   go_enter Tryz.func170, Tryz.ntmps170
   go_wp2_with (first | ((with_reducible refine gate_callee (f := 231) rfl ?_); refine goesL_ (some 8) rfl rfl Tryz.func231 (by kernel_rfl) rfl #[.int .u64 a0] rfl (by (try simp only [m_a, m_c, m_n]); first | done | rfl) ?_; (with_reducible refine (cmp_isNaN_uint64.calls a0 true _ A3.out).mono ?_); rintro e w' ⟨rfl, ⟨nd, rfl⟩⟩; refine ⟨_, rfl, ?_⟩) | ((with_reducible refine gate_callee (f := 231) rfl ?_); refine goesL_ (some 10) rfl rfl Tryz.func231 (by kernel_rfl) rfl #[.int .u64 a1] rfl (by (try simp only [m_a, m_c, m_n]); first | done | rfl) ?_; (with_reducible refine (cmp_isNaN_uint64.calls a1 false _ A4.out).mono ?_); rintro e w' ⟨rfl, ⟨nd, rfl⟩⟩; refine ⟨_, rfl, ?_⟩))
   go_ret
   exact ⟨by first | rfl | (simp; done) | (simp [*]; done), by repeat (first | exact Drawn0.refl _ | apply Drawn0.step)⟩
 ·replace c5 := Bool.eq_false_iff.mpr c5
  subst c5
  have H1 : (if t274 = true then (some 1) else (if a0 < a1 then (some (-1)) else (if a0 > a1 then (some 1) else (some 0)))) = some r := by rw [if_neg (show ¬ (false = true) by decide)] at H; exact H
  clear H
  have H := H1
  clear H1
  by_cases c7 : t274 = true
  ·subst c7
   have H1 : (some 1) = some r := by rw [if_pos rfl] at H; exact H
   clear H
   have H := H1
   clear H1
   obtain rfl := Option.some.inj H
   go_enter Tryz.func170, Tryz.ntmps170
   go_wp2_with (first | ((with_reducible refine gate_callee (f := 231) rfl ?_); refine goesL_ (some 8) rfl rfl Tryz.func231 (by kernel_rfl) rfl #[.int .u64 a0] rfl (by (try simp only [m_a, m_c, m_n]); first | done | rfl) ?_; (with_reducible refine (cmp_isNaN_uint64.calls a0 false _ A3.out).mono ?_); rintro e w' ⟨rfl, ⟨nd, rfl⟩⟩; refine ⟨_, rfl, ?_⟩) | ((with_reducible refine gate_callee (f := 231) rfl ?_); refine goesL_ (some 10) rfl rfl Tryz.func231 (by kernel_rfl) rfl #[.int .u64 a1] rfl (by (try simp only [m_a, m_c, m_n]); first | done | rfl) ?_; (with_reducible refine (cmp_isNaN_uint64.calls a1 true _ A4.out).mono ?_); rintro e w' ⟨rfl, ⟨nd, rfl⟩⟩; refine ⟨_, rfl, ?_⟩))
   go_ret
   exact ⟨by first | rfl | (simp; done) | (simp [*]; done), by repeat (first | exact Drawn0.refl _ | apply Drawn0.step)⟩
  ·replace c7 := Bool.eq_false_iff.mpr c7
   subst c7
   have H1 : (if a0 < a1 then (some (-1)) else (if a0 > a1 then (some 1) else (some 0))) = some r := by rw [if_neg (show ¬ (false = true) by decide)] at H; exact H
   clear H
   have H := H1
   clear H1
   by_cases c8 : a0 < a1
   ·rw [if_pos c8] at H
    have c8b0 : decide (a0 < a1) = true := decide_eq_true c8
    clear c8
    obtain rfl := Option.some.inj H
    go_enter Tryz.func170, Tryz.ntmps170
    go_wp2_with (first | ((with_reducible refine gate_callee (f := 231) rfl ?_); refine goesL_ (some 8) rfl rfl Tryz.func231 (by kernel_rfl) rfl #[.int .u64 a0] rfl (by (try simp only [m_a, m_c, m_n]); first | done | rfl) ?_; (with_reducible refine (cmp_isNaN_uint64.calls a0 false _ A3.out).mono ?_); rintro e w' ⟨rfl, ⟨nd, rfl⟩⟩; refine ⟨_, rfl, ?_⟩) | ((with_reducible refine gate_callee (f := 231) rfl ?_); refine goesL_ (some 10) rfl rfl Tryz.func231 (by kernel_rfl) rfl #[.int .u64 a1] rfl (by (try simp only [m_a, m_c, m_n]); first | done | rfl) ?_; (with_reducible refine (cmp_isNaN_uint64.calls a1 false _ A4.out).mono ?_); rintro e w' ⟨rfl, ⟨nd, rfl⟩⟩; refine ⟨_, rfl, ?_⟩))
    go_ret
    exact ⟨by first | rfl | (simp; done) | (simp [*]; done), by repeat (first | exact Drawn0.refl _ | apply Drawn0.step)⟩
   ·rw [if_neg c8] at H
    have c8b0 : decide (a0 < a1) = false := decide_eq_false c8
    clear c8
    by_cases c9 : a0 > a1
    ·rw [if_pos c9] at H
     have c9b0 : decide (a1 < a0) = true := decide_eq_true c9
     clear c9
     obtain rfl := Option.some.inj H
     go_enter Tryz.func170, Tryz.ntmps170
     go_wp2_with (first | ((with_reducible refine gate_callee (f := 231) rfl ?_); refine goesL_ (some 8) rfl rfl Tryz.func231 (by kernel_rfl) rfl #[.int .u64 a0] rfl (by (try simp only [m_a, m_c, m_n]); first | done | rfl) ?_; (with_reducible refine (cmp_isNaN_uint64.calls a0 false _ A3.out).mono ?_); rintro e w' ⟨rfl, ⟨nd, rfl⟩⟩; refine ⟨_, rfl, ?_⟩) | ((with_reducible refine gate_callee (f := 231) rfl ?_); refine goesL_ (some 10) rfl rfl Tryz.func231 (by kernel_rfl) rfl #[.int .u64 a1] rfl (by (try simp only [m_a, m_c, m_n]); first | done | rfl) ?_; (with_reducible refine (cmp_isNaN_uint64.calls a1 false _ A4.out).mono ?_); rintro e w' ⟨rfl, ⟨nd, rfl⟩⟩; refine ⟨_, rfl, ?_⟩))
     go_ret
     exact ⟨by first | rfl | (simp; done) | (simp [*]; done), by repeat (first | exact Drawn0.refl _ | apply Drawn0.step)⟩
    ·rw [if_neg c9] at H
     have c9b0 : decide (a1 < a0) = false := decide_eq_false c9
     clear c9
     obtain rfl := Option.some.inj H
     go_enter Tryz.func170, Tryz.ntmps170
     go_wp2_with (first | ((with_reducible refine gate_callee (f := 231) rfl ?_); refine goesL_ (some 8) rfl rfl Tryz.func231 (by kernel_rfl) rfl #[.int .u64 a0] rfl (by (try simp only [m_a, m_c, m_n]); first | done | rfl) ?_; (with_reducible refine (cmp_isNaN_uint64.calls a0 false _ A3.out).mono ?_); rintro e w' ⟨rfl, ⟨nd, rfl⟩⟩; refine ⟨_, rfl, ?_⟩) | ((with_reducible refine gate_callee (f := 231) rfl ?_); refine goesL_ (some 10) rfl rfl Tryz.func231 (by kernel_rfl) rfl #[.int .u64 a1] rfl (by (try simp only [m_a, m_c, m_n]); first | done | rfl) ?_; (with_reducible refine (cmp_isNaN_uint64.calls a1 false _ A4.out).mono ?_); rintro e w' ⟨rfl, ⟨nd, rfl⟩⟩; refine ⟨_, rfl, ?_⟩))
     go_ret
     exact ⟨by first | rfl | (simp; done) | (simp [*]; done), by repeat (first | exact Drawn0.refl _ | apply Drawn0.step)⟩
def ikey_Compare.f (k : Nat) (a0_0 : ByteArray) (a0_1 : Int) (a0_2 : Int) (a0_3 : ByteArray) (a1_0 : ByteArray) (a1_1 : Int) (a1_2 : Int) (a1_3 : ByteArray) : Option (Int) := (strings_Compare.f a0_0 a1_0).bind fun t277 => ((cmp_Compare_uint64.f a1_1 a0_1).bind fun t278 => ((cmp_Or_int.f k (([t277, t278] : List Int))).bind fun t282 => (some t282)))
theorem ikey_Compare.mono : ∀ a0 a1 a2 a3 a4 a5 a6 a7 k, LeO (ikey_Compare.f k a0 a1 a2 a3 a4 a5 a6 a7) (ikey_Compare.f (k + 1) a0 a1 a2 a3 a4 a5 a6 a7) := by
 intro a0 a1 a2 a3 a4 a5 a6 a7 k
 unfold ikey_Compare.f
 repeat' first
   | (with_reducible exact cmp_Or_int.mono _ _)
   | (with_reducible exact LeO.refl _)
   | (with_reducible exact LeO.none _)
   | (with_reducible refine LeO.ite ?_ ?_)
   | (with_reducible refine LeO.bind ?_ (fun _ => ?_))
def ikey_Compare.T1 : Bool × List (List Nat × List Nat) := (true, [([], []), ([0], [0]), ([], []), ([2], [2]), ([1, 3], [1, 3]), ([], []), ([5], [5]), ([], []), ([7], [7]), ([6, 8, 4], [6, 8]), ([4, 9], [4, 9]), ([10, 9], [10]), ([11, 11, 0, 1, 2, 3, 4, 5, 6, 7, 8, 9, 10, 11], [11])])
def ikey_Compare.B1 : List Nat := [0, 1, 0, 4, 15, 0, 32, 0, 128, 511, 1023, 2047, 4095]
theorem ikey_Compare.tab1 : rtab .any (opsOf Tryz.f47 1) = ikey_Compare.T1 := by kernel_rfl
theorem ikey_Compare.bits1 : waitsOk ikey_Compare.T1.2 ikey_Compare.B1 = true := by kernel_rfl
theorem ikey_Compare.calls (k : Nat) (a0_0 : ByteArray) (a0_1 : Int) (a0_2 : Int) (a0_3 : ByteArray) (a1_0 : ByteArray) (a1_1 : Int) (a1_2 : Int) (a1_3 : ByteArray) (r : Int) (w : World) (h : ikey_Compare.f k a0_0 a0_1 a0_2 a0_3 a1_0 a1_1 a1_2 a1_3 = some r) :
  Calls Tryz.prog 47 #[.agg #[.string a0_0, .int .u64 a0_1, .int .i64 a0_2, .string a0_3], .agg #[.string a1_0, .int .u64 a1_1, .int .i64 a1_2, .string a1_3]] w fun e w' => e = .returned (.int .i64 r) ∧ Below w.heap.size w w' := by
 have hu32 := Tryz.underlying32
 have HB := a_k (Below.refl w.heap.size w)
 have H : ((strings_Compare.f a0_0 a1_0).bind fun t277 => ((cmp_Compare_uint64.f a1_1 a0_1).bind fun t278 => ((cmp_Or_int.f k (([t277, t278] : List Int))).bind fun t282 => (some t282)))) = some r := h
 clear h
 replace H := Option.bind_eq_some_iff.mp H
 obtain ⟨t277, A30, H⟩ := H
 replace H : ((cmp_Compare_uint64.f a1_1 a0_1).bind fun t278 => ((cmp_Or_int.f k (([t277, t278] : List Int))).bind fun t282 => (some t282))) = some r := H
 have A3 := a_k A30
 clear A30
 replace H := Option.bind_eq_some_iff.mp H
 obtain ⟨t278, A40, H⟩ := H
 replace H : ((cmp_Or_int.f k (([t277, t278] : List Int))).bind fun t282 => (some t282)) = some r := H
 have A4 := a_k A40
 clear A40
 obtain ⟨y279, hy279⟩ : ∃ y_ : List Int, y_ = (([t277, t278] : List Int)) := ⟨_, rfl⟩
 replace H : ((cmp_Or_int.f k y279).bind fun t282 => (some t282)) = some r := by first | (rw [hy279]; with_reducible exact H) | (have H2_ := (Option.bind_some _ _).symm.trans H; rw [hy279]; with_reducible exact H2_) | (have H2_ := (Option.bind_some _ _).symm.trans H; with_reducible exact H2_) | with_reducible exact H | (rw [hy279]; exact H) | exact H
 have Ny279 := a_k hy279
 clear hy279
 replace H := Option.bind_eq_some_iff.mp H
 obtain ⟨t282, A50, H⟩ := H
 replace H : (some t282) = some r := H
 have A5 := a_k A50
 clear A50
 obtain rfl := Option.some.inj H
 go_enter Tryz.func47, Tryz.ntmps47
 try go_wp2_with (first | ((with_reducible refine gate_dst (N := 2) rfl ?_); refine box_event ?hg (N := 2) ?hd (cs := #[.string a0_0, .int .u64 a0_1, .int .i64 a0_2, .string a0_3]) (t := 32) ?hr ?_; (case hd => rfl); (case hg => rfl); (case hr => first | (go_simp; done) | (go_simp; rfl)); intro gb275 hg w6 hbox hb; have n0_ := a_k (below_step (by repeat (first | exact HB.out | apply b_a | apply b_n | apply b_d)) hb); have n1_ := a_k (hbox); have n2_ := a_k ((by rw [hg]; exact (below_size (by repeat (first | exact HB.out | apply b_a | apply b_n | apply b_d))) : w.heap.size ≤ gb275)); have n3_ := a_k ((by rw [hg]; exact (below_size (by repeat (first | exact HB.out | apply b_a | apply b_n | apply b_d))) : w.heap.size ≤ gb275)); clear HB; have HB := n0_; have BK275 := n1_; have GW275 := n2_; have GE275 := n3_; clear n0_ n1_ n2_ n3_; clear hb hbox hg) | ((with_reducible refine gate_dst (N := 3) rfl ?_); refine box_event ?hg (N := 3) ?hd (cs := #[.string a1_0, .int .u64 a1_1, .int .i64 a1_2, .string a1_3]) (t := 32) ?hr ?_; (case hd => rfl); (case hg => rfl); (case hr => first | (go_simp; done) | (go_simp; rfl)); intro gb276 hg w7 hbox hb; have n0_ := a_k (blk_below (g := gb275) (o := .cells #[.string a0_0, .int .u64 a0_1, .int .i64 a0_2, .string a0_3] 32 (0, 0)) (by (with_reducible repeat (first | refine blk_drewN ?_ _ | refine blk_drew ?_ | refine blk_alloc ?_ _)); exact BK275.out) hb); have n1_ := a_k (below_step (by repeat (first | (with_reducible first | exact HB.out | apply b_a | apply b_n | apply b_d | refine below_set ?_ GE275.out) | exact HB.out)) hb); have n2_ := a_k (hbox); have n3_ := a_k ((by rw [hg]; exact (below_size (by repeat (first | (with_reducible first | exact HB.out | apply b_a | apply b_n | apply b_d | refine below_set ?_ GE275.out) | exact HB.out))) : w.heap.size ≤ gb276)); have n4_ := a_k ((by rw [hg]; exact (below_size (by repeat (first | (with_reducible first | exact HB.out | apply b_a | apply b_n | apply b_d | refine below_set ?_ GE275.out) | exact HB.out))) : w.heap.size ≤ gb276)); have n5_ := a_k ((by rw [hg]; exact Nat.ne_of_lt (blk_lt (g := gb275) (o := .cells #[.string a0_0, .int .u64 a0_1, .int .i64 a0_2, .string a0_3] 32 (0, 0)) (by (with_reducible repeat (first | refine blk_drewN ?_ _ | refine blk_drew ?_ | refine blk_alloc ?_ _)); exact BK275.out)) : gb275 ≠ gb276)); have n6_ := a_k ((by rw [hg]; exact Nat.ne_of_gt (blk_lt (g := gb275) (o := .cells #[.string a0_0, .int .u64 a0_1, .int .i64 a0_2, .string a0_3] 32 (0, 0)) (by (with_reducible repeat (first | refine blk_drewN ?_ _ | refine blk_drew ?_ | refine blk_alloc ?_ _)); exact BK275.out)) : gb276 ≠ gb275)); clear BK275; clear HB; have BK275 := n0_; have HB := n1_; have BK276 := n2_; have GW276 := n3_; have GE276 := n4_; have NB275_276 := n5_; have NB276_275 := n6_; clear n0_ n1_ n2_ n3_ n4_ n5_ n6_; clear hb hbox hg))
 have n0_ := a_k (blk_drew BK275.out)
 have n1_ := a_k (blk_drew BK276.out)
 have n2_ := a_k (below_drew1 HB.out)
 clear BK275
 clear BK276
 clear HB
 have BK275 := n0_
 have BK276 := n1_
 have HB := n2_
 clear n0_ n1_ n2_
 refine start_ (n := 13) (S := fun w' => w'.cell? ⟨gb275, 0, none⟩ = some (.string a0_0) ∧ w'.cell? ⟨gb275, 1, none⟩ = some (.int .u64 a0_1) ∧ w'.cell? ⟨gb275, 2, none⟩ = some (.int .i64 a0_2) ∧ w'.cell? ⟨gb275, 3, none⟩ = some (.string a0_3) ∧ w'.cell? ⟨gb276, 0, none⟩ = some (.string a1_0) ∧ w'.cell? ⟨gb276, 1, none⟩ = some (.int .u64 a1_1) ∧ w'.cell? ⟨gb276, 2, none⟩ = some (.int .i64 a1_2) ∧ w'.cell? ⟨gb276, 3, none⟩ = some (.string a1_3)) (ds := []) #[Z,Z,Z,Z,Z,Z,Z,Z,Z,Z,Z,Z,Z] (by kernel_rfl) rfl rfl ⟨(blk_cell BK275.out 0).trans rfl, (blk_cell BK275.out 1).trans rfl, (blk_cell BK275.out 2).trans rfl, (blk_cell BK275.out 3).trans rfl, (blk_cell BK276.out 0).trans rfl, (blk_cell BK276.out 1).trans rfl, (blk_cell BK276.out 2).trans rfl, (blk_cell BK276.out 3).trans rfl⟩ (fun hHeld => ?_); refine with_tabW ikey_Compare.tab1 ikey_Compare.bits1 (fun HT_ HW_ => ?_)
 generalize w7.drew = w8 at BK275 BK276 HB hHeld ⊢
 refine pure_ (i := 0) (N := some 5) (v := ?_) (a' := ?_) #[J,Z,Z,Z,Z,Z,Z,Z,Z,Z,Z,Z,Z] rfl rfl (any_of HT_.out (by kernel_rfl)) (fun _ _ _ h => h) (Or.inl ⟨by rfl, ?_⟩) ?_ ?_
 rotate_left
 ·intro w'
  go_simp
  with_reducible rfl
 rotate_left
 ·simp only [Act.put, l_s, l_0, l_1, i64_w, i32_w]
  rfl
 refine pure_ (i := 2) (N := some 7) (v := ?_) (a' := ?_) #[J,Z,J,Z,Z,Z,Z,Z,Z,Z,Z,Z,Z] rfl rfl (any_of HT_.out (by kernel_rfl)) (fun _ _ _ h => h) (Or.inl ⟨by rfl, ?_⟩) ?_ ?_
 rotate_left
 ·intro w'
  go_simp
  with_reducible rfl
 rotate_left
 ·simp only [Act.put, l_s, l_0, l_1, i64_w, i32_w]
  rfl
 refine pure_ (i := 5) (N := some 10) (v := ?_) (a' := ?_) #[J,Z,J,Z,Z,J,Z,Z,Z,Z,Z,Z,Z] rfl rfl (any_of HT_.out (by kernel_rfl)) (fun _ _ _ h => h) (Or.inl ⟨by rfl, ?_⟩) ?_ ?_
 rotate_left
 ·intro w'
  go_simp
  with_reducible rfl
 rotate_left
 ·simp only [Act.put, l_s, l_0, l_1, i64_w, i32_w]
  rfl
 refine pure_ (i := 7) (N := some 12) (v := ?_) (a' := ?_) #[J,Z,J,Z,Z,J,Z,J,Z,Z,Z,Z,Z] rfl rfl (any_of HT_.out (by kernel_rfl)) (fun _ _ _ h => h) (Or.inl ⟨by rfl, ?_⟩) ?_ ?_
 rotate_left
 ·intro w'
  go_simp
  with_reducible rfl
 rotate_left
 ·simp only [Act.put, l_s, l_0, l_1, i64_w, i32_w]
  rfl
 refine take_ (i := 1) (N := some 6) (v := ?_) (a' := ?_) #[J,J,J,Z,Z,J,Z,J,Z,Z,Z,Z,Z] rfl rfl (take_ofW HT_.out HW_.out (by kernel_rfl)) (fun _ _ _ h => h) (Or.inl ⟨by rfl, ?_⟩) hHeld ?_ ?_
 rotate_left
 ·rintro w' ⟨s0, s1, s2, s3, s4, s5, s6, s7⟩
  go_simp
  with_reducible rfl
 rotate_left
 ·simp only [Act.put, l_s, l_0, l_1, i64_w, i32_w]
  rfl
 refine take_ (i := 3) (N := some 8) (v := ?_) (a' := ?_) #[J,J,J,J,Z,J,Z,J,Z,Z,Z,Z,Z] rfl rfl (take_ofW HT_.out HW_.out (by kernel_rfl)) (fun _ _ _ h => h) (Or.inl ⟨by rfl, ?_⟩) hHeld ?_ ?_
 rotate_left
 ·rintro w' ⟨s0, s1, s2, s3, s4, s5, s6, s7⟩
  go_simp
  with_reducible rfl
 rotate_left
 ·simp only [Act.put, l_s, l_0, l_1, i64_w, i32_w]
  rfl
 refine take_ (i := 6) (N := some 11) (v := ?_) (a' := ?_) #[J,J,J,J,Z,J,J,J,Z,Z,Z,Z,Z] rfl rfl (take_ofW HT_.out HW_.out (by kernel_rfl)) (fun _ _ _ h => h) (Or.inl ⟨by rfl, ?_⟩) hHeld ?_ ?_
 rotate_left
 ·rintro w' ⟨s0, s1, s2, s3, s4, s5, s6, s7⟩
  go_simp
  with_reducible rfl
 rotate_left
 ·simp only [Act.put, l_s, l_0, l_1, i64_w, i32_w]
  rfl
 refine take_ (i := 8) (N := some 13) (v := ?_) (a' := ?_) #[J,J,J,J,Z,J,J,J,J,Z,Z,Z,Z] rfl rfl (take_ofW HT_.out HW_.out (by kernel_rfl)) (fun _ _ _ h => h) (Or.inl ⟨by rfl, ?_⟩) hHeld ?_ ?_
 rotate_left
 ·rintro w' ⟨s0, s1, s2, s3, s4, s5, s6, s7⟩
  go_simp
  with_reducible rfl
 rotate_left
 ·simp only [Act.put, l_s, l_0, l_1, i64_w, i32_w]
  rfl
 refine one_ (i := 4) (N := some 9) #[J,J,J,J,J,J,J,J,J,Z,Z,Z,Z] rfl rfl (one_of HT_.out (by kernel_rfl)) (by decide) (fun K hK => ?_)
 refine goes_ Tryz.func169 (by kernel_rfl) rfl #[.string a0_0, .string a1_0] (by rfl) rfl rfl (by (try simp only [m_a, m_c, m_n]); first | done | rfl) ?_
 with_reducible refine (strings_Compare.calls a0_0 a1_0 t277 _ A3.out).mono ?_
 rintro e w' ⟨rfl, ⟨nd, rfl⟩⟩
 refine ⟨_, rfl, ?_⟩
 refine hK.out _ _ ⟨(blk_cell BK275.out 0).trans rfl, (blk_cell BK275.out 1).trans rfl, (blk_cell BK275.out 2).trans rfl, (blk_cell BK275.out 3).trans rfl, (blk_cell BK276.out 0).trans rfl, (blk_cell BK276.out 1).trans rfl, (blk_cell BK276.out 2).trans rfl, (blk_cell BK276.out 3).trans rfl⟩ (fun hHeld => ?_)
 clear hK K
 refine norm_ (a' := ?_) ?_ ?_
 rotate_left
 ·show Act.put _ (some 9) _ = _
  simp only [Act.put, l_s, l_0, l_1, i64_w, i32_w]
  rfl
 refine one_ (i := 9) (N := some 14) #[J,J,J,J,J,J,J,J,J,J,Z,Z,Z] rfl rfl (one_of HT_.out (by kernel_rfl)) (by decide) (fun K hK => ?_)
 refine goes_ Tryz.func170 (by kernel_rfl) rfl #[.int .u64 a1_1, .int .u64 a0_1] (by rfl) rfl rfl (by (try simp only [m_a, m_c, m_n]); first | done | rfl) ?_
 with_reducible refine (cmp_Compare_uint64.calls a1_1 a0_1 t278 _ A4.out).mono ?_
 rintro e w' ⟨rfl, ⟨nd, rfl⟩⟩
 refine ⟨_, rfl, ?_⟩
 refine hK.out _ _ ⟨(blk_cell BK275.out 0).trans rfl, (blk_cell BK275.out 1).trans rfl, (blk_cell BK275.out 2).trans rfl, (blk_cell BK275.out 3).trans rfl, (blk_cell BK276.out 0).trans rfl, (blk_cell BK276.out 1).trans rfl, (blk_cell BK276.out 2).trans rfl, (blk_cell BK276.out 3).trans rfl⟩ (fun hHeld => ?_)
 clear hK K
 refine norm_ (a' := ?_) ?_ ?_
 rotate_left
 ·show Act.put _ (some 14) _ = _
  simp only [Act.put, l_s, l_0, l_1, i64_w, i32_w]
  rfl
 refine one_ (i := 10) (N := some 15) #[J,J,J,J,J,J,J,J,J,J,J,Z,Z] rfl rfl (one_of HT_.out (by kernel_rfl)) (by decide) (fun K hK => ?_)
 refine Kd.R_lit_step (Kd.int .i64) _ 3 ?hg (N := 15) ?hd (xs := ([t277, t278] : List Int)) (inner := [.int .i64 t277, .int .i64 t278]) (ok := fun _ => True) (okp := fun _ => True) ?hr ?hp (fun _ hk => hk) trivial (Below.refl _ _) (Nat.le_refl _) (by simp) ?_; (case hd => rfl); (case hg => rfl); (case hr => first | (go_simp; done) | (go_simp; rfl)); (case hp => exact (Reps.one (show Kd.M (Kd.int .i64) _ _ _ t277 [.int .i64 t277] from rfl) (Reps.one (show Kd.M (Kd.int .i64) _ _ _ t278 [.int .i64 t278] from rfl) (Reps.none _ _))))
 intro v280 w9 ho10 hb hg_ hnew_
 clear hg_ hnew_
 (first | rw [← Ny279.out] at ho10 | (simp only [Int.reduceToNat] at ho10; rw [← Ny279.out] at ho10))
 have n0_ := a_k (Kd.R_lower ho10 (below_size (by repeat (first | (with_reducible first | exact HB.out | apply b_a | apply b_n | apply b_d | refine below_set ?_ GE275.out | refine below_set ?_ GE276.out) | exact HB.out))))
 have n1_ := a_k (blk_below (g := gb275) (o := .cells #[.string a0_0, .int .u64 a0_1, .int .i64 a0_2, .string a0_3] 32 (0, 0)) (by (with_reducible repeat (first | refine blk_drewN ?_ _ | refine blk_drew ?_ | refine blk_alloc ?_ _)); exact BK275.out) hb)
 have n2_ := a_k (blk_below (g := gb276) (o := .cells #[.string a1_0, .int .u64 a1_1, .int .i64 a1_2, .string a1_3] 32 (0, 0)) (by (with_reducible repeat (first | refine blk_drewN ?_ _ | refine blk_drew ?_ | refine blk_alloc ?_ _)); exact BK276.out) hb)
 have n3_ := a_k (below_step (by repeat (first | (with_reducible first | exact HB.out | apply b_a | apply b_n | apply b_d | refine below_set ?_ GE275.out | refine below_set ?_ GE276.out) | exact HB.out)) hb)
 clear BK275
 clear BK276
 clear HB
 have HO281 := n0_
 have BK275 := n1_
 have BK276 := n2_
 have HB := n3_
 clear n0_ n1_ n2_ n3_
 clear hb ho10
 obtain ⟨Ao11, co11, eo11⟩ := Kd.R_slice HO281.out
 (first | subst eo11 | (injection eo11 with f1_ f2_ f3_; have f4_ := f1_.symm; have f5_ := f3_.symm; clear f1_ f2_ f3_; subst f4_; subst f5_))
 refine hK.out _ _ ⟨(blk_cell BK275.out 0).trans rfl, (blk_cell BK275.out 1).trans rfl, (blk_cell BK275.out 2).trans rfl, (blk_cell BK275.out 3).trans rfl, (blk_cell BK276.out 0).trans rfl, (blk_cell BK276.out 1).trans rfl, (blk_cell BK276.out 2).trans rfl, (blk_cell BK276.out 3).trans rfl⟩ (fun hHeld => ?_)
 clear hK K
 refine norm_ (a' := ?_) ?_ ?_
 rotate_left
 ·show Act.put _ (some 15) _ = _
  simp only [Act.put, l_s, l_0, l_1, i64_w, i32_w]
  rfl
 refine one_ (i := 11) (N := some 16) #[J,J,J,J,J,J,J,J,J,J,J,J,Z] rfl rfl (one_of HT_.out (by kernel_rfl)) (by decide) (fun K hK => ?_)
 refine goes_ Tryz.func168 (by kernel_rfl) rfl #[.slice Ao11 y279.length co11] (by rfl) rfl rfl (by (try simp only [m_a, m_c, m_n]); first | done | rfl) ?_
 with_reducible refine (cmp_Or_int.calls k _ _ y279 t282 _ ?side1 ?side2 A5.out).mono ?_
 (case side1 => repeat (first | exact (Kd.R_reads' HO281.out).2.2 | (with_reducible refine Kd.C_alloc ?_ _) | (with_reducible refine Kd.C_drewN ?_ _) | (with_reducible refine Kd.C_drew ?_)))
 (case side2 => exact (Kd.R_reads' HO281.out).2.1)
 rintro e w' ⟨rfl, ⟨nd, rfl⟩⟩
 refine ⟨_, rfl, ?_⟩
 refine hK.out _ _ ⟨(blk_cell BK275.out 0).trans rfl, (blk_cell BK275.out 1).trans rfl, (blk_cell BK275.out 2).trans rfl, (blk_cell BK275.out 3).trans rfl, (blk_cell BK276.out 0).trans rfl, (blk_cell BK276.out 1).trans rfl, (blk_cell BK276.out 2).trans rfl, (blk_cell BK276.out 3).trans rfl⟩ (fun hHeld => ?_)
 clear hK K
 refine norm_ (a' := ?_) ?_ ?_
 rotate_left
 ·show Act.put _ (some 16) _ = _
  simp only [Act.put, l_s, l_0, l_1, i64_w, i32_w]
  rfl
 refine pure_ (i := 12) (N := some 4) (v := ?_) (a' := ?_) #[J,J,J,J,J,J,J,J,J,J,J,J,J] rfl rfl (any_of HT_.out (by kernel_rfl)) (fun _ _ _ h => h) (Or.inl ⟨by rfl, ?_⟩) ?_ ?_
 rotate_left
 ·intro w'
  go_simp
  with_reducible rfl
 rotate_left
 ·simp only [Act.put, l_s, l_0, l_1, i64_w, i32_w]
  rfl
 refine done_ (done_of HT_.out (by kernel_rfl)) ?_
 try go_wp2
 go_ret
 exact ⟨by first | rfl | (simp [*, errW_none, errW_some] <;> rfl), by repeat (first | (with_reducible first | exact HB.out | apply b_a | apply b_n | apply b_d | refine below_set ?_ GE275.out | refine below_set ?_ GE276.out) | exact HB.out)⟩
end Go.Proofs.YtchgpcgolgcfdaaGreat.PNum
end
section
namespace Go.Proofs.YtchgpcgolgcfdaaGreat.PNum
open Go.RowKit Go.Proofs.YtchgpcgolgcfdaaGreatW.PrintWords Go.Proofs.YtchgpcgolgcfdaaGreatW.PrintLast Go.Proofs.YtchgpcgolgcfdaaGreatW.PrintMore
attribute [local go_sem] max2_int min2_int max_two min_two max_three min_three max_four min_four
set_option linter.unusedVariables false
set_option linter.unusedSimpArgs false
def block_Right.l0 : Nat → List (S32) → List (S32) → Int → Int → Option (Bool)
 | 0, _, _, _, _ => none
 | k + 1, x0, x5, x6, x7 => if x7 < x6 then (if 0 ≤ x7 then (if x7 < (x5.length : Int) then ((ikey_Valid.f k ((rd_T32 x5 x7).f0) ((rd_T32 x5 x7).f1) ((rd_T32 x5 x7).f2) ((rd_T32 x5 x7).f3)).bind fun t285 => (if t285 = true then (if x7 > 0 then (if 0 ≤ (wrap64 (x7 - 1)) then (if (wrap64 (x7 - 1)) < (x0.length : Int) then ((ikey_Compare.f k ((rd_T32 x0 (wrap64 (x7 - 1))).f0) ((rd_T32 x0 (wrap64 (x7 - 1))).f1) ((rd_T32 x0 (wrap64 (x7 - 1))).f2) ((rd_T32 x0 (wrap64 (x7 - 1))).f3) ((rd_T32 x5 x7).f0) ((rd_T32 x5 x7).f1) ((rd_T32 x5 x7).f2) ((rd_T32 x5 x7).f3)).bind fun t287 => (if t287 ≥ 0 then (some false) else (block_Right.l0 k x0 x5 x6 (wrap64 (x7 + 1))))) else (none)) else (none)) else (block_Right.l0 k x0 x5 x6 (wrap64 (x7 + 1)))) else (some false))) else (none)) else (none)) else (some true)
def block_Right.f (k : Nat) (l0 : List (S32)) : Option (Bool) := block_Right.l0 k l0 l0 (l0.length : Int) 0
theorem block_Right.mono_l : ∀ k, (∀ y0 y1 y2 y3, LeO (block_Right.l0 k y0 y1 y2 y3) (block_Right.l0 (k + 1) y0 y1 y2 y3))
 | 0 => fun _ _ _ _ r h => by simp [block_Right.l0] at h
 | k + 1 => by
  have ih0 := block_Right.mono_l k
  ·intro y0 y1 y2 y3
   unfold block_Right.l0
   repeat' first
   | (with_reducible exact ih0 _ _ _ _)
   | (with_reducible exact ikey_Compare.mono _ _ _ _ _ _ _ _ _)
   | (with_reducible exact ikey_Valid.mono _ _ _ _ _)
   | (with_reducible exact LeO.refl _)
   | (with_reducible exact LeO.none _)
   | (with_reducible refine LeO.ite ?_ ?_)
   | (with_reducible refine LeO.bind ?_ (fun _ => ?_))
theorem block_Right.mono : ∀ a0 k, LeO (block_Right.f k a0) (block_Right.f (k + 1) a0) := by
 intro a0 k
 have ih0 := block_Right.mono_l k
 unfold block_Right.f
 repeat' first
   | (with_reducible exact ih0 _ _ _ _)
   | (with_reducible exact ikey_Compare.mono _ _ _ _ _ _ _ _ _)
   | (with_reducible exact ikey_Valid.mono _ _ _ _ _)
   | (with_reducible exact LeO.refl _)
   | (with_reducible exact LeO.none _)
   | (with_reducible refine LeO.ite ?_ ?_)
   | (with_reducible refine LeO.bind ?_ (fun _ => ?_))
def block_Right.T4 : Bool × List (List Nat × List Nat) := (true, [([], []), ([0], [0]), ([1], [1]), ([2, 1], [2]), ([3], [3]), ([4, 3], [3, 4]), ([5, 3, 3], [3, 5]), ([6], [6]), ([6], [6]), ([8, 6], [6, 8]), ([7, 9, 6], [6, 7, 9]), ([10, 6], [6, 10]), ([6], [6]), ([11, 12, 6, 6], [6, 11, 12]), ([13, 6], [6, 13]), ([6, 14, 3], [3, 6, 14]), ([3, 15], [3, 15])])
def block_Right.B4 : List Nat := [0, 1, 3, 7, 15, 31, 63, 127, 127, 383, 1023, 2047, 127, 8191, 16383, 32767, 65535]
theorem block_Right.tab4 : rtab .any (opsOf Tryz.f184 4) = block_Right.T4 := by kernel_rfl
theorem block_Right.bits4 : waitsOk block_Right.T4.2 block_Right.B4 = true := by kernel_rfl
end Go.Proofs.YtchgpcgolgcfdaaGreat.PNum
end
