/- Texts of this claim, put together and cut down to what is used (B). -/
import Derived.Ground.GgzProg
import Derived.Shelf.SlIter.Nil
import Derived.Shelf.Strings.Builder1
import Derived.Shelf.Small.Strs
import Derived.Shelf.Small.Wraps
import Derived.Shelf.Strings.BuilderF
import Derived.Shelf.Strings.BuilderK
import Derived.Shelf.LaysM
import Derived.Shelf.Strconv.Clone
import Derived.Ground.SlgmProg
import Derived.Shelf.SortM.Plain
import Derived.Shelf.SortM.SortNone
import Derived.Test.YtchgpcgolgcfdaaGreatProg
import Derived.Maps.OwnSet
import Derived.Maps.Own
import Derived.Maps.Keyed
import Derived.Carry
import Derived.KernelRfl
import Derived.Lib.Strings
import Derived.Lib.Slices
import Derived.Lib.Walk
import Derived.Lib.Builder
import Derived.Lib.AppendStr
import Derived.Lib.UnsafeStr
import Derived.WalkKit
import Derived.Laws.Externs
import Derived.Laws.IdiomCopy
import Derived.Laws.BitsLemmas
import Derived.Laws.BytesArg
import Derived.Lib.Bytes
import Derived.WideShapes
import Derived.ChangeArms
import Derived.ChangeSlices
import Derived.SizedLaws
import Derived.DataReads
import Derived.DataElems
import Derived.Test.YtchgpcgolgcfdaaGreatMgWWords
import Derived.Test.YtchgpcgolgcfdaaGreatMgW
section
namespace Go.Proofs
open Go.Shelf
def Tryz.lays106_ren : Go.Shelf.Ren := ⟨fun | 106 => 169 | 213 => 230 | 265 => 250 | n => n, fun | 9 => 9 | 3 => 3 | n => n, fun | n => n⟩
theorem Tryz.lays106 : Go.Proofs.Lays.n106 Tryz.prog Tryz.lays106_ren := {
  mixed := by kernel_rfl
  f106 := Tryz.func169.trans (congrArg some (by kernel_rfl))
  f213 := Tryz.func230.trans (congrArg some (by kernel_rfl))
  f265 := Tryz.func250.trans (congrArg some (by kernel_rfl))
  t3 := Tryz.underlying3
  a3 := Tryz.isAgg3
  z3 := Tryz.sizeOf3
  v3 := Tryz.zeroValue3
  t9 := Tryz.underlying9
  a9 := Tryz.isAgg9
  z9 := Tryz.sizeOf9
  v9 := Tryz.zeroValue9 }
open Go.RowKit in
theorem Tryz.strings_Compare (a b : ByteArray) (w : World) :
    Calls Tryz.prog 169 #[.string a, .string b] w fun e w' => e = .returned (.int .i64 (Lib.compareBytes a.data.toList b.data.toList)) ∧ w' = w := Any.strings_Compare Tryz.lays106 a b w
def Tryz.laysM316_ren : Go.Shelf.Ren := ⟨fun | 316 => 203 | n => n, fun | 9 => 9 | 3 => 3 | 4 => 4 | 37 => 219 | 0 => 0 | 127 => 298 | 5 => 5 | n => n, fun | n => n⟩
theorem Tryz.laysM316 : Go.Proofs.LaysM.n316 Tryz.prog Tryz.laysM316_ren := {
  mixed := by kernel_rfl
  f316 := Tryz.func203.trans (congrArg some (by kernel_rfl))
  t0 := Tryz.underlying0
  a0 := Tryz.isAgg0
  z0 := Tryz.sizeOf0
  v0 := Tryz.zeroValue0
  t3 := Tryz.underlying3
  a3 := Tryz.isAgg3
  z3 := Tryz.sizeOf3
  v3 := Tryz.zeroValue3
  t4 := Tryz.underlying4
  a4 := Tryz.isAgg4
  z4 := Tryz.sizeOf4
  v4 := Tryz.zeroValue4
  t9 := Tryz.underlying9
  a9 := Tryz.isAgg9
  z9 := Tryz.sizeOf9
  v9 := Tryz.zeroValue9
  t37 := Tryz.underlying219
  a37 := Tryz.isAgg219
  z37 := Tryz.sizeOf219
  v37 := Tryz.zeroValue219
  t127 := Tryz.underlying298
  a127 := Tryz.isAgg298
  z127 := Tryz.sizeOf298
  v127 := Tryz.zeroValue298
  t5 := Tryz.underlying5
  a5 := Tryz.isAgg5
  z5 := Tryz.sizeOf5
  v5 := Tryz.zeroValue5
  i0 := by kernel_rfl
  i3 := by kernel_rfl
  i4 := by kernel_rfl
  i5 := by kernel_rfl
  i9 := by kernel_rfl
  i37 := by kernel_rfl
  i127 := by kernel_rfl }
open Go.RowKit in
theorem Tryz.stringslite_Clone (s : ByteArray) (w : World) (hlim : s.size ≤ 281474976710656) :
    Calls Tryz.prog 203 #[.string s] w fun e w' => e = .returned (.string s) ∧ Below w.heap.size w w' := Any.stringslite_Clone Tryz.laysM316 s w hlim
end Go.Proofs
end
section
namespace Go.Proofs.YtchgpcgolgcfdaaGreat.SetM
open Go Go.RowKit Go.Maps Go.Proofs.YtchgpcgolgcfdaaGreatW.PrintWords
def lits (L : List Int) : List Lit := L.map (Lit.int .u64)
def D (L : List Int) : DataW Unit := setOf (.agg []) (lits L)
def Is (W : World) (b : Nat) (L : List Int) : Prop := W.ownsMap Tryz.prog 25 (unitElem (H := Unit)) b L.length (D L)
theorem Is.new (w : World) : Is (w.alloc (.map #[] 0)) w.heap.size [] := World.ownsMap_made _ _ _ _
theorem Is.lt {W : World} {b : Nat} {L : List Int} (h : Is W b L) : b < W.heap.size := World.ownsMap.lt h
theorem Is.grown {W W1 : World} {b : Nat} {L : List Int} {row : Option Nat} (h : Is W b L) (hg : W.grownBy W1 row) (hne : some b ≠ row) : Is W1 b L := World.ownsMap.kept h hg hne
theorem Is.below {W W1 : World} {b : Nat} {L : List Int} (h : Is W b L) (hb : Below W.heap.size W W1) : Is W1 b L := h.grown (grown_of_below hb none) (by simp)
theorem Is.alloc {W : World} {b : Nat} {L : List Int} (h : Is W b L) (o : Obj) : Is (W.alloc o) b L := World.ownsMap.alloc h o
theorem Is.drewN {W : World} {b : Nat} {L : List Int} (h : Is W b L) (m : Nat) : Is (W.drewN m) b L := h
theorem Is.map {W : World} {b : Nat} {L : List Int} (h : Is W b L) : ∃ es c, W.heap[b]? = some (.map es c) := by
  obtain ⟨es, c, hb, _⟩ := h
  exact ⟨es, c, hb⟩
theorem Is.ne {W : World} {b : Nat} {L : List Int} (h : Is W b L) {k : Nat} {cs : Array Value} {t : TypeId} {fr : Nat × Nat} (hk : W.heap[k]? = some (.cells cs t fr)) : b ≠ k := by
  rintro rfl
  obtain ⟨es, c, hb⟩ := h.map
  rw [hb] at hk
  cases hk
theorem Is.far {W : World} {b : Nat} {L : List Int} (h : Is W b L) {p : Addr} (hp : b ≠ p.block) (u : Value) : Is (W.setCell p u) b L := World.ownsMap.setCell h hp u
theorem key {x : Int} (h : (Lit.int .u64 x).wf = true) : keyOf Tryz.prog 25 (.int .u64 x) = some (.int .u64 x) := keyOf_int_mk Tryz.underlying25 h
end Go.Proofs.YtchgpcgolgcfdaaGreat.SetM
end
section
namespace Go.Proofs.YtchgpcgolgcfdaaGreat.Lent
open Go Go.RowKit Go.Proofs.YtchgpcgolgcfdaaGreatW.PrintWords Go.Proofs.YtchgpcgolgcfdaaGreatW.PrintLast Go.Proofs.YtchgpcgolgcfdaaGreatW.PrintMore
section
variable {α : Type} {d : Kd α} {mark : α} {e : Nat} {w w1 : World} {base : Nat} {ok : Nat → Prop} {v : Value} {xs : List α}
def RM (d : Kd α) (mark : α) (e : Nat) (w : World) (base : Nat) (ok : Nat → Prop) (v : Value) (xs : List α) : Prop := ∃ A c, v = .slice A xs.length c ∧ d.R e w base ok (.slice A (xs.length + 1) c) (xs ++ [mark])
def CM (d : Kd α) (mark : α) (w : World) (A : Option Addr) (n : Nat) (xs : List α) : Prop := d.C w A (n + 1) (xs ++ [mark]) ∧ d.C w A n xs
theorem R_lower {base' : Nat} (h : RM d mark e w base ok v xs) (hb : base' ≤ base) : RM d mark e w base' ok v xs := by
  obtain ⟨A, c, hv, hr⟩ := h
  exact ⟨A, c, hv, Kd.R_lower hr hb⟩
theorem R_below (h : RM d mark e w base ok v xs) (hb : Below w.heap.size w w1) : RM d mark e w1 base ok v xs := by
  obtain ⟨A, c, hv, hr⟩ := h
  exact ⟨A, c, hv, Kd.R_below hr hb⟩
theorem R_alloc (h : RM d mark e w base ok v xs) (o : Obj) : RM d mark e (w.alloc o) base ok v xs := R_below h (below_alloc (Below.refl _ _) o)
theorem R_drew (h : RM d mark e w base ok v xs) : RM d mark e w.drew base ok v xs := R_below h (below_drew (Below.refl _ _))
theorem R_drewN (h : RM d mark e w base ok v xs) (m : Nat) : RM d mark e (w.drewN m) base ok v xs := R_below h (pw_below_drewN (Below.refl _ _) m)
theorem R_slice (h : RM d mark e w base ok v xs) : ∃ A c, v = .slice A xs.length c := by
  obtain ⟨A, c, hv, _⟩ := h
  exact ⟨A, c, hv⟩
theorem R_R (h : RM d mark e w base ok v xs) : d.R e w base ok v xs := by
  obtain ⟨A, c, rfl, hr⟩ := h
  have := Kd.R_take (m := xs.length) hr (by simp)
  simpa using this
theorem R_reads' {A : Option Addr} {n c : Nat} (h : RM d mark e w base ok (.slice A n c) xs) : n = xs.length ∧ n ≤ c ∧ d.C w A xs.length xs := Kd.R_reads' (R_R h)
theorem C_alloc {A : Option Addr} {n : Nat} (h : CM d mark w A n xs) (o : Obj) : CM d mark (w.alloc o) A n xs := ⟨Kd.C_alloc h.1 o, Kd.C_alloc h.2 o⟩
theorem C_drew {A : Option Addr} {n : Nat} (h : CM d mark w A n xs) : CM d mark w.drew A n xs := ⟨Kd.C_drew h.1, Kd.C_drew h.2⟩
theorem C_drewN {A : Option Addr} {n : Nat} (h : CM d mark w A n xs) (m : Nat) : CM d mark (w.drewN m) A n xs := ⟨Kd.C_drewN h.1 m, Kd.C_drewN h.2 m⟩
end
end Go.Proofs.YtchgpcgolgcfdaaGreat.Lent
end
section
namespace Go.Proofs.YtchgpcgolgcfdaaGreat.Bld
open Go Go.RowKit
theorem sizeBuilder : (Tryz.prog.info? 221).map (·.size) = some 2 := by kernel_rfl
end Go.Proofs.YtchgpcgolgcfdaaGreat.Bld
end
section
namespace Go.Proofs.YtchgpcgolgcfdaaGreat.NilR
set_option linter.unusedVariables false
open Go Go.RowKit Go.Proofs.YtchgpcgolgcfdaaGreatW.PrintWords Go.Proofs.YtchgpcgolgcfdaaGreatW.PrintLast Go.Proofs.YtchgpcgolgcfdaaGreatW.PrintMore
theorem off (w : World) : Calls Tryz.prog 234 #[.pointer none] w fun e w' => e = .returned (.bool true) ∧ Drawn0 w w' := by
  go_enter Tryz.func234, Tryz.ntmps234
  go_wp2
  go_ret
  exact ⟨rfl, Drawn0.refl _⟩
def Fail.f (n : Int) : Option Unit := some ()
theorem Fail.calls (n : Int) {r : Unit} (w : World) (h : Fail.f n = some r) : Calls Tryz.prog 173 #[.pointer none, .int .i64 n] w fun e w' => e = .returned (.tuple #[]) ∧ Drawn0 w w' := by
  obtain rfl := Option.some.inj h
  go_enter Tryz.func173, Tryz.ntmps173
  go_wp2_with (first | (go_at_call 234; refine (off _).mono ?_; rintro e w' ⟨rfl, ⟨nd, rfl⟩⟩))
  first | go_end0 | ((try simp only [Exit.inBlock, Exit.then]); refine bodyPost_ret (results_none rfl _ _ _) rfl ?_)
  exact ⟨rfl, by repeat (first | exact Drawn0.refl _ | apply Drawn0.step)⟩
def Var.f : Option Int := some 0
theorem Var.calls (r : Int) (w : World) (h : Var.f = some r) : Calls Tryz.prog 172 #[.pointer none] w fun e w' => e = .returned (.int .u64 r) ∧ Drawn0 w w' := by
  obtain rfl := Option.some.inj h
  go_enter Tryz.func172, Tryz.ntmps172
  go_wp2_with (first | (go_at_call 234; refine (off _).mono ?_; rintro e w' ⟨rfl, ⟨nd, rfl⟩⟩))
  go_ret
  exact ⟨rfl, by repeat (first | exact Drawn0.refl _ | apply Drawn0.step)⟩
def Count.f (n : Int) : Option Int := some 0
theorem Count.calls (n : Int) (r : Int) (w : World) (h : Count.f n = some r) : Calls Tryz.prog 233 #[.pointer none, .int .i64 n] w fun e w' => e = .returned (.int .i64 r) ∧ Drawn0 w w' := by
  obtain rfl := Option.some.inj h
  go_enter Tryz.func233, Tryz.ntmps233
  go_wp2_with (first | (go_at_call 172; refine (Var.calls 0 _ rfl).mono ?_; rintro e w' ⟨rfl, ⟨nd, rfl⟩⟩) | (go_at_call 234; refine (off _).mono ?_; rintro e w' ⟨rfl, ⟨nd, rfl⟩⟩))
  go_ret
  exact ⟨rfl, by repeat (first | exact Drawn0.refl _ | apply Drawn0.step)⟩
def take.f (n : Int) : Option ByteArray := some ⟨#[]⟩
theorem take.calls (n : Int) (r : ByteArray) (w : World) (h : take.f n = some r) : Calls Tryz.prog 232 #[.pointer none, .int .i64 n] w fun e w' => e = .returned (.string r) ∧ Drawn0 w w' := by
  obtain rfl := Option.some.inj h
  go_enter Tryz.func232, Tryz.ntmps232
  go_wp2_with (first | (go_at_call 234; refine (off _).mono ?_; rintro e w' ⟨rfl, ⟨nd, rfl⟩⟩))
  go_ret
  exact ⟨rfl, by repeat (first | exact Drawn0.refl _ | apply Drawn0.step)⟩
def Text.f (n : Int) : Option ByteArray := some ⟨#[]⟩
theorem Text.calls (n : Int) (r : ByteArray) (w : World) (h : Text.f n = some r) : Calls Tryz.prog 171 #[.pointer none, .int .i64 n] w fun e w' => e = .returned (.string r) ∧ Drawn0 w w' := by
  obtain rfl := Option.some.inj h
  go_enter Tryz.func171, Tryz.ntmps171
  go_wp2_with (first | (go_at_call 233; refine (Count.calls n 0 _ rfl).mono ?_; rintro e w' ⟨rfl, ⟨nd, rfl⟩⟩) | (go_at_call 232; refine (take.calls 0 ⟨#[]⟩ _ rfl).mono ?_; rintro e w' ⟨rfl, ⟨nd, rfl⟩⟩))
  go_ret
  exact ⟨rfl, by repeat (first | exact Drawn0.refl _ | apply Drawn0.step)⟩
def Left.f : Option Int := some 0
theorem Left.calls (r : Int) (w : World) (h : Left.f = some r) : Calls Tryz.prog 53 #[.pointer none] w fun e w' => e = .returned (.int .i64 r) ∧ Drawn0 w w' := by
  obtain rfl := Option.some.inj h
  go_enter Tryz.func53, Tryz.ntmps53
  go_wp2
  go_ret
  exact ⟨rfl, by repeat (first | exact Drawn0.refl _ | apply Drawn0.step)⟩
def Err.f : Option Int := some 1
theorem Err.calls (r : Int) (w : World) (h : Err.f = some r) : Calls Tryz.prog 52 #[.pointer none] w fun e w' => e = .returned (.int .i64 r) ∧ Drawn0 w w' := by
  obtain rfl := Option.some.inj h
  go_enter Tryz.func52, Tryz.ntmps52
  go_wp2
  go_ret
  exact ⟨rfl, by repeat (first | exact Drawn0.refl _ | apply Drawn0.step)⟩
end Go.Proofs.YtchgpcgolgcfdaaGreat.NilR
end
section
namespace Go.Proofs.YtchgpcgolgcfdaaGreatW.Pu
open Go Go.RowKit Go.Proofs.YtchgpcgolgcfdaaGreatW.PrintWords Go.Proofs.YtchgpcgolgcfdaaGreatW.PrintMore
theorem ev_const {α : Type} {a : Option α} {r : α} (h : a = some r) : Ev (fun _ => a) r := ⟨0, fun _ _ => h⟩
theorem ev_pos {α : Type} {c : Prop} [Decidable c] {f g : Nat → Option α} {r : α} (h : c) (k : Ev f r) : Ev (fun n => if c then f n else g n) r := by
  obtain ⟨K, k⟩ := k
  exact ⟨K, fun n hn => (if_pos h).trans (k n hn)⟩
theorem ev_neg {α : Type} {c : Prop} [Decidable c] {f g : Nat → Option α} {r : α} (h : ¬ c) (k : Ev g r) : Ev (fun n => if c then f n else g n) r := by
  obtain ⟨K, k⟩ := k
  exact ⟨K, fun n hn => (if_neg h).trans (k n hn)⟩
theorem ev_call {α β : Type} {a : Option α} {x : α} {f : Nat → α → Option β} {r : β} (h : a = some x) (k : Ev (fun n => f n x) r) : Ev (fun n => a.bind (f n)) r := by
  subst h
  exact k
theorem wrap64_id {x : Int} (h : -9223372036854775808 ≤ x ∧ x ≤ 9223372036854775807) : wrap64 x = x := by unfold wrap64; omega
theorem S_data (xs : List Int) : (strOfNums xs).data.toList = xs.map fun n => UInt8.ofNat n.toNat := rfl
theorem S_append (xs ys : List Int) : strOfNums xs ++ strOfNums ys = strOfNums (xs ++ ys) := by
  apply ByteArray.ext
  simp [strOfNums, ByteArray.data_append]
theorem S_toList (xs : List Int) : (strOfNums xs).toList = xs.map fun n => UInt8.ofNat n.toNat := Lib.strOfNums_toList xs
theorem toList_data (s : ByteArray) : s.toList = s.data.toList := by
  have : s = strOfNums (bytesOf s) := by
    apply ByteArray.ext
    simp [strOfNums, bytesOf, Function.comp_def]
  rw [this, S_toList, S_data]
theorem bt_eq (s : ByteArray) (i : Nat) : bt s (i : Int) = (bytesOf s).getD i 0 := by
  have := rd_bytesOf s (i : Int)
  rw [← this]
  simp [rd]
theorem S_nil : strOfNums [] = ⟨#[]⟩ := rfl
end Go.Proofs.YtchgpcgolgcfdaaGreatW.Pu
end
section
namespace Go.Proofs.YtchgpcgolgcfdaaGreatW.Rd
open Go Go.ChangeShapes Go.WideShapes Go.Proofs.YtchgpcgolgcfdaaGreatW.PrintWords
structure Opn (P : Program) (t : TypeId) {α : Type} (d : Kd α) (WF : α → Prop) : Prop where
  sz : P.cellsOf t = d.sz
  opn : ∀ {H : Type} {enc : TypeId × Value → H} {w : World} {base : Nat} {spare : Nat → Bool} {held : Bool} {fuel : Nat} {cs : List Value} {x : DataW H × List MemPlace},
    DataW.trod enc P w base spare held fuel t cs = some x → (∀ n ∈ x.1.weights P t, n ≤ reachBytes) → ∃ a, d.K w a cs ∧ WF a
theorem Opn.int {P : Program} {t : TypeId} {k : IntKind} (hu : P.underlying t = some (.int k)) (hc : P.cellsOf t = 1) : Opn P t (Kd.int k) (fun x => (Lit.int k x).wf = true) where
  sz := hc
  opn := fun h _ => by
    obtain ⟨n, rfl, rfl, hw⟩ := DataW.trod_int hu h
    exact ⟨n, rfl, hw⟩
theorem Opn.bool {P : Program} {t : TypeId} (hu : P.underlying t = some .bool) (hc : P.cellsOf t = 1) : Opn P t Kd.bool (fun _ => True) where
  sz := hc
  opn := fun h _ => by
    obtain ⟨n, rfl, rfl⟩ := DataW.trod_bool hu h
    exact ⟨n, rfl, trivial⟩
theorem Opn.string {P : Program} {t : TypeId} (hu : P.underlying t = some .string) (hc : P.cellsOf t = 1) : Opn P t Kd.string (fun s => s.size ≤ 140737488351232) where
  sz := hc
  opn := fun h hw => by
    obtain ⟨s, rfl, rfl, _⟩ := DataW.trod_string hu h
    refine ⟨s, rfl, ?_⟩
    have := hw s.data.toList.length (by simp [DataW.weights])
    simpa [reachBytes] using this
theorem weights_mem_all {H : Type} {P : Program} {e : TypeId} : ∀ {l : List (DataW H)} {i : Nat} {d : DataW H}, l[i]? = some d → ∀ n ∈ d.weights P e, n ∈ DataW.weightsAll P e l
  | [], _, _, h, _, _ => by simp at h
  | x :: r, 0, d, h, n, hn => by
    simp only [List.getElem?_cons_zero, Option.some.injEq] at h
    subst h
    simp only [DataW.weightsAll, List.mem_append]
    exact Or.inl hn
  | x :: r, i + 1, d, h, n, hn => by
    simp only [List.getElem?_cons_succ] at h
    simp only [DataW.weightsAll, List.mem_append]
    exact Or.inr (weights_mem_all h n hn)
theorem Opn.slice {P : Program} {t e : TypeId} {α : Type} {d : Kd α} {WF : α → Prop} {B : Nat} (hu : P.underlying t = some (.slice e)) (hc : P.cellsOf t = 1) (hB : P.bytesOf e = B) (h : Opn P e d WF) :
    Opn P t (Kd.slice e d) (fun l => l.length * B ≤ 140737488351232 ∧ ∀ x ∈ l, WF x) where
  sz := hc
  opn := by
    intro H enc w base spare held fuel cs x hx hw
    rcases DataW.trod_slice hu hx with ⟨rfl, rfl⟩ | ⟨a, len, cap, elems, rest, n, rfl, rfl, rfl, hb, hl, hm, hlen, hel, _, _⟩
    · have hC : Kd.C d w none 0 [] := ⟨rfl, by omega, fun h0 => absurd h0 (by omega)⟩
      exact ⟨[], ⟨none, 0, rfl, Nat.le_refl _, hC⟩, by simp, fun x hx => by simp at hx⟩
    · have hwl : (elems.length + rest.length) * B ≤ reachBytes := by
        have := hw ((elems.length + rest.length) * P.bytesOf e) (by
          simp only [DataW.weights, hu, List.length_map]
          exact List.mem_cons_self)
        rwa [hB] at this
      have each : ∀ i : Fin len, ∃ p, WF p ∧ ∃ c, c.length = d.sz ∧ d.K w p c ∧ ∀ j u, c[j]? = some u → w.cell? (a.add (i.val * d.sz + j)) = some u := by
        intro i
        have hi := hel i.val i.isLt
        have hi' : i.val < elems.length := by rw [hlen]; exact i.isLt
        rw [List.getElem?_eq_getElem hi', Option.bind_eq_some_iff] at hi
        obtain ⟨c, hcs, hy⟩ := hi
        obtain ⟨p, hK, hwf⟩ := h.opn hy (fun n hn => by
          refine hw n ?_
          simp only [DataW.weights, hu, List.mem_cons, List.mem_append]
          exact Or.inr (Or.inl (weights_mem_all (i := i.val) (by simp [hi']) n hn)))
        obtain ⟨_, hcl, hcell⟩ := World.cells?_some hcs
        refine ⟨p, hwf, c, hcl.trans h.sz, hK, fun j u hj => ?_⟩
        have hj' : j < P.cellsOf e := by rw [← hcl]; exact (List.getElem?_eq_some_iff.1 hj).1
        have := hcell j hj'
        rw [hj] at this
        rw [← this, h.sz, Addr.add_add]
      let f : Fin len → α := fun i => Classical.choose (each i)
      have hf : ∀ i, WF (f i) ∧ ∃ c, c.length = d.sz ∧ d.K w (f i) c ∧ ∀ j u, c[j]? = some u → w.cell? (a.add (i.val * d.sz + j)) = some u := fun i => Classical.choose_spec (each i)
      have hL : (List.ofFn f).length = len := List.length_ofFn
      have hmm : len ≤ 9223372036854775807 := by have := Nat.le_trans hl hm; simpa [Go.maxLen] using this
      have hC : Kd.C d w (some a) len (List.ofFn f) := by
        refine ⟨hL, hmm, fun _ => ⟨a, rfl, fun j p hj => ?_⟩⟩
        obtain ⟨hj', rfl⟩ := List.getElem?_eq_some_iff.1 hj
        rw [hL] at hj'
        obtain ⟨_, c, h1, h2, h3⟩ := hf ⟨j, hj'⟩
        exact ⟨c, h1, by rw [List.getElem_ofFn]; exact h2, h3⟩
      refine ⟨List.ofFn f, ⟨some a, cap, by rw [hL], by rw [hL]; exact hl, by rw [hL]; exact hC⟩, ?_, fun x hx => ?_⟩
      · rw [hL]
        have : len * B ≤ (elems.length + rest.length) * B := Nat.mul_le_mul_right _ (by omega)
        have h2 : reachBytes = 140737488351232 := rfl
        rw [h2] at hwl
        exact Nat.le_trans this hwl
      · obtain ⟨i, hi⟩ := List.getElem_of_mem hx
        obtain ⟨hi1, rfl⟩ := hi
        rw [List.getElem_ofFn]
        exact (hf _).1
structure OpnF (P : Program) (fs : List Field) (off : Nat) {α : Type} (d : Kd α) (WF : α → Prop) : Prop where
  opn : ∀ {H : Type} {enc : TypeId × Value → H} {w : World} {base : Nat} {spare : Nat → Bool} {held : Bool} {fuel : Nat} {cs : List Value} {xs : List (DataW H × List MemPlace)},
    xs.length = fs.length → (∀ (i : Nat) (f : Field), fs[i]? = some f → DataW.trod enc P w base spare held fuel f.type ((cs.drop f.offset).take (P.cellsOf f.type)) = xs[i]?) →
    cs.length = off + d.sz → (∀ n ∈ DataW.weightsEach P (fs.map (·.type)) (xs.map (·.1)), n ≤ reachBytes) → ∃ a, d.K w a (cs.drop off) ∧ WF a
theorem OpnF.one {P : Program} {f : Field} {α : Type} {d : Kd α} {WF : α → Prop} (h : Opn P f.type d WF) : OpnF P [f] f.offset d WF where
  opn := by
    intro H enc w base spare held fuel cs xs hl hx hc hw
    obtain ⟨y, rfl⟩ : ∃ y, xs = [y] := by
      match xs, hl with
      | [y], _ => exact ⟨y, rfl⟩
    have h0 := hx 0 f rfl
    simp only [List.getElem?_cons_zero] at h0
    obtain ⟨p, hK, hwf⟩ := h.opn h0 (fun n hn => hw n (by simpa [DataW.weightsEach] using hn))
    refine ⟨p, ?_, hwf⟩
    rwa [List.take_of_length_le (by rw [List.length_drop, h.sz]; omega)] at hK
theorem OpnF.cons {P : Program} {f : Field} {fs : List Field} {off : Nat} {α β : Type} {d : Kd α} {d2 : Kd β} {WF : α → Prop} {WF2 : β → Prop} (h : Opn P f.type d WF) (hoff : off = f.offset + d.sz) (h2 : OpnF P fs off d2 WF2) :
    OpnF P (f :: fs) f.offset (Kd.pair d d2) (fun x => WF x.1 ∧ WF2 x.2) where
  opn := by
    intro H enc w base spare held fuel cs xs hl hx hc hw
    obtain ⟨y, ys, rfl⟩ : ∃ y ys, xs = y :: ys := by
      match xs, hl with
      | y :: ys, _ => exact ⟨y, ys, rfl⟩
    have h0 := hx 0 f rfl
    simp only [List.getElem?_cons_zero] at h0
    have hc' : cs.length = f.offset + (d.sz + d2.sz) := hc
    obtain ⟨p, hK, hwf⟩ := h.opn h0 (fun n hn => hw n (by simp only [List.map_cons, DataW.weightsEach, List.mem_append]; exact Or.inl hn))
    obtain ⟨q, hK2, hwf2⟩ := h2.opn (cs := cs) (xs := ys) (by simpa using hl) (fun i g hg => by have := hx (i + 1) g (by simpa using hg); simpa using this) (by omega) (fun n hn => hw n (by simp only [List.map_cons, DataW.weightsEach, List.mem_append]; exact Or.inr hn))
    refine ⟨(p, q), ⟨(cs.drop f.offset).take d.sz, cs.drop off, ?_, ?_, hK2⟩, hwf, hwf2⟩
    · rw [hoff, ← List.drop_drop]
      exact (List.take_append_drop _ _).symm
    · rwa [h.sz] at hK
theorem Opn.struct {P : Program} {t : TypeId} {fs : Array Field} {α β : Type} {d : Kd α} {WF : α → Prop} (hu : P.underlying t = some (.struct fs)) (hc : P.cellsOf t = d.sz) (h : OpnF P fs.toList 0 d WF) (f : β → α) (g : α → β) (hg : ∀ a, f (g a) = a) :
    Opn P t (Kd.iso d f) (fun b => WF (f b)) where
  sz := hc
  opn := by
    intro H enc w base spare held fuel cs x hx hw
    obtain ⟨xs, n, rfl, rfl, hl, hlen, hf⟩ := DataW.trod_struct hu hx
    obtain ⟨a, hK, hwf⟩ := h.opn (cs := cs) (xs := xs) (by simpa using hlen) (fun i f hi => hf i f (by simpa using hi)) (by omega) (fun n hn => hw n (by simp only [DataW.weights, hu]; exact hn))
    refine ⟨g a, ?_, ?_⟩
    · show d.K w (f (g a)) cs
      rw [hg]
      simpa using hK
    · show WF (f (g a))
      rw [hg]
      exact hwf
theorem weights_of {H : Type} {P : Program} {ts : List TypeId} {ds : List (DataW H)} (hsz : (DataW.weightsEach P ts ds).all (· ≤ reachBytes) = true) {j : Nat} {t : TypeId} {d : DataW H} (ht : ts[j]? = some t) (hd : ds[j]? = some d) :
    ∀ n ∈ d.weights P t, n ≤ reachBytes := fun n hn => by
  have := List.all_eq_true.1 hsz n (DataW.weights_mem_each ht hd n hn)
  simpa using this
theorem arg_slice {H : Type} {enc : TypeId × Value → H} {P : Program} {w W : World} {base b0 : Nat} {r : Reach} {spare : Nat → Bool} {held : Bool} {t e : TypeId} {v : Value} {x : DataW H} {ps : List MemPlace} {α : Type} {d : Kd α} {WF : List α → Prop}
    (h : Opn P t (Kd.slice e d) WF) (hu : P.underlying t = some (.slice e)) (hv : Value.okWide P W r b0 t v) (hx : DataW.Trod enc P w base spare held t v x ps) (hw : ∀ n ∈ x.weights P t, n ≤ reachBytes) :
    ∃ (A : Option Addr) (c : Nat) (l : List α), v = .slice A l.length c ∧ l.length ≤ c ∧ Kd.C d w A l.length l ∧ WF l := by
  obtain ⟨A, len, cap, rfl⟩ := okWide_slice hu hv
  obtain ⟨fuel, hf⟩ := hx
  obtain ⟨l, ⟨A', c', e', hl, hC⟩, hwf⟩ := h.opn hf hw
  simp only [Value.cells, List.cons.injEq, Value.slice.injEq, and_true] at e'
  obtain ⟨rfl, rfl, rfl⟩ := e'
  exact ⟨_, _, l, rfl, hl, hC, hwf⟩
end Go.Proofs.YtchgpcgolgcfdaaGreatW.Rd
end
