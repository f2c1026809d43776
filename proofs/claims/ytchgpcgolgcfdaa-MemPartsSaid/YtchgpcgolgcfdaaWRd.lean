/- What a row's arguments read as: for each kind of value that the printed walks know, a reading of a datum gives a value of the kind, and what a row's weights bound. (Ours; over any program.) -/
import Derived.Test.YtchgpcgolgcfdaaWWords
import Derived.WideShapes
import Derived.ChangeArms
import Derived.ChangeSlices
import Derived.SizedLaws
import Derived.DataReads
import Derived.DataElems
namespace Go.Proofs.YtchgpcgolgcfdaaW.Rd
open Go Go.ChangeShapes Go.WideShapes Go.Proofs.YtchgpcgolgcfdaaW.PrintWords

/-- What is read at type t is of kind d, and WF. -/
structure Opn (P : Program) (t : TypeId) {α : Type} (d : Kd α) (WF : α → Prop) : Prop where
  sz : P.cellsOf t = d.sz
  opn : ∀ {H : Type} {enc : TypeId × Value → H} {w : World} {base : Nat} {spare : Nat → Bool} {held : Bool} {fuel : Nat} {cs : List Value} {x : DataW H × List MemPlace},
    DataW.trod enc P w base spare held fuel t cs = some x → (∀ n ∈ x.1.weights P t, n ≤ reachBytes) → ∃ a, d.K w a cs ∧ WF a

theorem Opn.int {P : Program} {t : TypeId} {k : IntKind} (hu : P.underlying t = some (.int k)) (hc : P.cellsOf t = 1) : Opn P t (Kd.int k) (fun x => (Lit.int k x).wf = true) where
  sz := hc
  opn := fun h _ => by
    obtain ⟨n, rfl, rfl, hw⟩ := DataW.trod_int hu h
    exact ⟨n, rfl, hw⟩

theorem Opn.bool {P : Program} {t : TypeId} (hu : P.underlying t = some .bool) (hc : P.cellsOf t = 1) : Opn P t Kd.bool (fun _ => True) where
  sz := hc
  opn := fun h _ => by
    obtain ⟨n, rfl, rfl⟩ := DataW.trod_bool hu h
    exact ⟨n, rfl, trivial⟩

theorem Opn.string {P : Program} {t : TypeId} (hu : P.underlying t = some .string) (hc : P.cellsOf t = 1) : Opn P t Kd.string (fun s => s.size ≤ 140737488351232) where
  sz := hc
  opn := fun h hw => by
    obtain ⟨s, rfl, rfl, _⟩ := DataW.trod_string hu h
    refine ⟨s, rfl, ?_⟩
    have := hw s.data.toList.length (by simp [DataW.weights])
    simpa [reachBytes] using this

theorem weights_mem_all {H : Type} {P : Program} {e : TypeId} : ∀ {l : List (DataW H)} {i : Nat} {d : DataW H}, l[i]? = some d → ∀ n ∈ d.weights P e, n ∈ DataW.weightsAll P e l
  | [], _, _, h, _, _ => by simp at h
  | x :: r, 0, d, h, n, hn => by
    simp only [List.getElem?_cons_zero, Option.some.injEq] at h
    subst h
    simp only [DataW.weightsAll, List.mem_append]
    exact Or.inl hn
  | x :: r, i + 1, d, h, n, hn => by
    simp only [List.getElem?_cons_succ] at h
    simp only [DataW.weightsAll, List.mem_append]
    exact Or.inr (weights_mem_all h n hn)

theorem Opn.slice {P : Program} {t e : TypeId} {α : Type} {d : Kd α} {WF : α → Prop} {B : Nat} (hu : P.underlying t = some (.slice e)) (hc : P.cellsOf t = 1) (hB : P.bytesOf e = B) (h : Opn P e d WF) :
    Opn P t (Kd.slice e d) (fun l => l.length * B ≤ 140737488351232 ∧ ∀ x ∈ l, WF x) where
  sz := hc
  opn := by
    intro H enc w base spare held fuel cs x hx hw
    rcases DataW.trod_slice hu hx with ⟨rfl, rfl⟩ | ⟨a, len, cap, elems, rest, n, rfl, rfl, rfl, hb, hl, hm, hlen, hel, _, _⟩
    · have hC : Kd.C d w none 0 [] := ⟨rfl, by omega, fun h0 => absurd h0 (by omega)⟩
      exact ⟨[], ⟨none, 0, rfl, Nat.le_refl _, hC⟩, by simp, fun x hx => by simp at hx⟩
    · have hwl : (elems.length + rest.length) * B ≤ reachBytes := by
        have := hw ((elems.length + rest.length) * P.bytesOf e) (by
          simp only [DataW.weights, hu, List.length_map]
          exact List.mem_cons_self)
        rwa [hB] at this
      have each : ∀ i : Fin len, ∃ p, WF p ∧ ∃ c, c.length = d.sz ∧ d.K w p c ∧ ∀ j u, c[j]? = some u → w.cell? (a.add (i.val * d.sz + j)) = some u := by
        intro i
        have hi := hel i.val i.isLt
        have hi' : i.val < elems.length := by rw [hlen]; exact i.isLt
        rw [List.getElem?_eq_getElem hi', Option.bind_eq_some_iff] at hi
        obtain ⟨c, hcs, hy⟩ := hi
        obtain ⟨p, hK, hwf⟩ := h.opn hy (fun n hn => by
          refine hw n ?_
          simp only [DataW.weights, hu, List.mem_cons, List.mem_append]
          exact Or.inr (Or.inl (weights_mem_all (i := i.val) (by simp [hi']) n hn)))
        obtain ⟨_, hcl, hcell⟩ := World.cells?_some hcs
        refine ⟨p, hwf, c, hcl.trans h.sz, hK, fun j u hj => ?_⟩
        have hj' : j < P.cellsOf e := by rw [← hcl]; exact (List.getElem?_eq_some_iff.1 hj).1
        have := hcell j hj'
        rw [hj] at this
        rw [← this, h.sz, Addr.add_add]
      let f : Fin len → α := fun i => Classical.choose (each i)
      have hf : ∀ i, WF (f i) ∧ ∃ c, c.length = d.sz ∧ d.K w (f i) c ∧ ∀ j u, c[j]? = some u → w.cell? (a.add (i.val * d.sz + j)) = some u := fun i => Classical.choose_spec (each i)
      have hL : (List.ofFn f).length = len := List.length_ofFn
      have hmm : len ≤ 9223372036854775807 := by have := Nat.le_trans hl hm; simpa [Go.maxLen] using this
      have hC : Kd.C d w (some a) len (List.ofFn f) := by
        refine ⟨hL, hmm, fun _ => ⟨a, rfl, fun j p hj => ?_⟩⟩
        obtain ⟨hj', rfl⟩ := List.getElem?_eq_some_iff.1 hj
        rw [hL] at hj'
        obtain ⟨_, c, h1, h2, h3⟩ := hf ⟨j, hj'⟩
        exact ⟨c, h1, by rw [List.getElem_ofFn]; exact h2, h3⟩
      refine ⟨List.ofFn f, ⟨some a, cap, by rw [hL], by rw [hL]; exact hl, by rw [hL]; exact hC⟩, ?_, fun x hx => ?_⟩
      · rw [hL]
        have : len * B ≤ (elems.length + rest.length) * B := Nat.mul_le_mul_right _ (by omega)
        have h2 : reachBytes = 140737488351232 := rfl
        rw [h2] at hwl
        exact Nat.le_trans this hwl
      · obtain ⟨i, hi⟩ := List.getElem_of_mem hx
        obtain ⟨hi1, rfl⟩ := hi
        rw [List.getElem_ofFn]
        exact (hf _).1

/-- The fields of a struct from one on. -/
structure OpnF (P : Program) (fs : List Field) (off : Nat) {α : Type} (d : Kd α) (WF : α → Prop) : Prop where
  opn : ∀ {H : Type} {enc : TypeId × Value → H} {w : World} {base : Nat} {spare : Nat → Bool} {held : Bool} {fuel : Nat} {cs : List Value} {xs : List (DataW H × List MemPlace)},
    xs.length = fs.length → (∀ (i : Nat) (f : Field), fs[i]? = some f → DataW.trod enc P w base spare held fuel f.type ((cs.drop f.offset).take (P.cellsOf f.type)) = xs[i]?) →
    cs.length = off + d.sz → (∀ n ∈ DataW.weightsEach P (fs.map (·.type)) (xs.map (·.1)), n ≤ reachBytes) → ∃ a, d.K w a (cs.drop off) ∧ WF a

theorem OpnF.one {P : Program} {f : Field} {α : Type} {d : Kd α} {WF : α → Prop} (h : Opn P f.type d WF) : OpnF P [f] f.offset d WF where
  opn := by
    intro H enc w base spare held fuel cs xs hl hx hc hw
    obtain ⟨y, rfl⟩ : ∃ y, xs = [y] := by
      match xs, hl with
      | [y], _ => exact ⟨y, rfl⟩
    have h0 := hx 0 f rfl
    simp only [List.getElem?_cons_zero] at h0
    obtain ⟨p, hK, hwf⟩ := h.opn h0 (fun n hn => hw n (by simpa [DataW.weightsEach] using hn))
    refine ⟨p, ?_, hwf⟩
    rwa [List.take_of_length_le (by rw [List.length_drop, h.sz]; omega)] at hK

theorem OpnF.cons {P : Program} {f : Field} {fs : List Field} {off : Nat} {α β : Type} {d : Kd α} {d2 : Kd β} {WF : α → Prop} {WF2 : β → Prop} (h : Opn P f.type d WF) (hoff : off = f.offset + d.sz) (h2 : OpnF P fs off d2 WF2) :
    OpnF P (f :: fs) f.offset (Kd.pair d d2) (fun x => WF x.1 ∧ WF2 x.2) where
  opn := by
    intro H enc w base spare held fuel cs xs hl hx hc hw
    obtain ⟨y, ys, rfl⟩ : ∃ y ys, xs = y :: ys := by
      match xs, hl with
      | y :: ys, _ => exact ⟨y, ys, rfl⟩
    have h0 := hx 0 f rfl
    simp only [List.getElem?_cons_zero] at h0
    have hc' : cs.length = f.offset + (d.sz + d2.sz) := hc
    obtain ⟨p, hK, hwf⟩ := h.opn h0 (fun n hn => hw n (by simp only [List.map_cons, DataW.weightsEach, List.mem_append]; exact Or.inl hn))
    obtain ⟨q, hK2, hwf2⟩ := h2.opn (cs := cs) (xs := ys) (by simpa using hl) (fun i g hg => by have := hx (i + 1) g (by simpa using hg); simpa using this) (by omega) (fun n hn => hw n (by simp only [List.map_cons, DataW.weightsEach, List.mem_append]; exact Or.inr hn))
    refine ⟨(p, q), ⟨(cs.drop f.offset).take d.sz, cs.drop off, ?_, ?_, hK2⟩, hwf, hwf2⟩
    · rw [hoff, ← List.drop_drop]
      exact (List.take_append_drop _ _).symm
    · rwa [h.sz] at hK

theorem Opn.struct {P : Program} {t : TypeId} {fs : Array Field} {α β : Type} {d : Kd α} {WF : α → Prop} (hu : P.underlying t = some (.struct fs)) (hc : P.cellsOf t = d.sz) (h : OpnF P fs.toList 0 d WF) (f : β → α) (g : α → β) (hg : ∀ a, f (g a) = a) :
    Opn P t (Kd.iso d f) (fun b => WF (f b)) where
  sz := hc
  opn := by
    intro H enc w base spare held fuel cs x hx hw
    obtain ⟨xs, n, rfl, rfl, hl, hlen, hf⟩ := DataW.trod_struct hu hx
    obtain ⟨a, hK, hwf⟩ := h.opn (cs := cs) (xs := xs) (by simpa using hlen) (fun i f hi => hf i f (by simpa using hi)) (by omega) (fun n hn => hw n (by simp only [DataW.weights, hu]; exact hn))
    refine ⟨g a, ?_, ?_⟩
    · show d.K w (f (g a)) cs
      rw [hg]
      simpa using hK
    · show WF (f (g a))
      rw [hg]
      exact hwf

/-! ### a row's arguments -/
theorem weights_of {H : Type} {P : Program} {ts : List TypeId} {ds : List (DataW H)} (hsz : (DataW.weightsEach P ts ds).all (· ≤ reachBytes) = true) {j : Nat} {t : TypeId} {d : DataW H} (ht : ts[j]? = some t) (hd : ds[j]? = some d) :
    ∀ n ∈ d.weights P t, n ≤ reachBytes := fun n hn => by
  have := List.all_eq_true.1 hsz n (DataW.weights_mem_each ht hd n hn)
  simpa using this

/-- An argument that is a slice. -/
theorem arg_slice {H : Type} {enc : TypeId × Value → H} {P : Program} {w W : World} {base b0 : Nat} {r : Reach} {spare : Nat → Bool} {held : Bool} {t e : TypeId} {v : Value} {x : DataW H} {ps : List MemPlace} {α : Type} {d : Kd α} {WF : List α → Prop}
    (h : Opn P t (Kd.slice e d) WF) (hu : P.underlying t = some (.slice e)) (hv : Value.okWide P W r b0 t v) (hx : DataW.Trod enc P w base spare held t v x ps) (hw : ∀ n ∈ x.weights P t, n ≤ reachBytes) :
    ∃ (A : Option Addr) (c : Nat) (l : List α), v = .slice A l.length c ∧ l.length ≤ c ∧ Kd.C d w A l.length l ∧ WF l := by
  obtain ⟨A, len, cap, rfl⟩ := okWide_slice hu hv
  obtain ⟨fuel, hf⟩ := hx
  obtain ⟨l, ⟨A', c', e', hl, hC⟩, hwf⟩ := h.opn hf hw
  simp only [Value.cells, List.cons.injEq, Value.slice.injEq, and_true] at e'
  obtain ⟨rfl, rfl, rfl⟩ := e'
  exact ⟨_, _, l, rfl, hl, hC, hwf⟩

/-- An argument that is a struct. -/
theorem arg_struct {H : Type} {enc : TypeId × Value → H} {P : Program} {w W : World} {base b0 : Nat} {r : Reach} {spare : Nat → Bool} {held : Bool} {t : TypeId} {fs : Array Field} {v : Value} {x : DataW H} {ps : List MemPlace} {α : Type} {d : Kd α} {WF : α → Prop}
    (h : Opn P t d WF) (hu : P.underlying t = some (.struct fs)) (hv : Value.okWide P W r b0 t v) (hx : DataW.Trod enc P w base spare held t v x ps) (hw : ∀ n ∈ x.weights P t, n ≤ reachBytes) :
    ∃ (cs : Array Value) (a : α), v = .agg cs ∧ d.K w a cs.toList ∧ WF a := by
  obtain ⟨cs, rfl, _⟩ := okWide_struct hu hv
  obtain ⟨fuel, hf⟩ := hx
  obtain ⟨a, hK, hwf⟩ := h.opn hf hw
  exact ⟨cs, a, rfl, hK, hwf⟩
end Go.Proofs.YtchgpcgolgcfdaaW.Rd
