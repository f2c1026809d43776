/- Texts of this claim, put together and cut down to what is used (L4). -/
import Derived.Test.YtchgpcgolgcfdaaProg
import Derived.Maps.OwnSet
import Derived.Maps.Own
import Derived.Maps.Keyed
import Derived.StringKeys
import Derived.Carry
import Derived.KernelRfl
import Derived.Deep.DeepCutAuto
import Derived.Deep.QuietTactic
import Derived.WalkLawsBesides
import Derived.Test.YtchgpcgolgcfdaaMgL3
import Derived.Test.YtchgpcgolgcfdaaMgL0
section
namespace Go.Proofs.Ytchgpcgolgcfdaa.PuLat
open Go Go.RowKit Go.Proofs.Ytchgpcgolgcfdaa.PNum Go.Proofs.Ytchgpcgolgcfdaa.PuIkC Go.Proofs.YtchgpcgolgcfdaaW.PrintWords Go.Proofs.YtchgpcgolgcfdaaW.PrintLast Go.Proofs.YtchgpcgolgcfdaaW.PrintMore Go.Proofs.YtchgpcgolgcfdaaW.Pu Go.Proofs.YtchgpcgolgcfdaaW.PuMrg
abbrev E := S29
abbrev P := S37
def lat (s : Int) : List E → List ByteArray → List P
  | [], _ => []
  | e :: l, seen => if s < e.f1 then lat s l seen else if seen.any (fun y => decide (e.f0 = y)) = true then lat s l seen else if e.f2 = 2 then lat s l (seen ++ [e.f0]) else ⟨e.f0, e.f3⟩ :: lat s l (seen ++ [e.f0])
theorem any_mem (k : ByteArray) (seen : List ByteArray) : seen.any (fun y => decide (k = y)) = true ↔ k ∈ seen := by
  rw [List.any_eq_true]
  exact ⟨fun ⟨y, hy, h⟩ => (of_decide_eq_true h) ▸ hy, fun h => ⟨k, h, decide_eq_true rfl⟩⟩
theorem srt_seq {a b : E} (h : ce a b = -1) (k : a.f0 = b.f0) : b.f1 < a.f1 := by
  unfold ce at h
  rw [if_pos ((cb_zero _ _).2 k)] at h
  unfold cs at h
  split at h
  · assumption
  · split at h <;> cases h
theorem mem_lat (s : Int) : ∀ (l : List E) (seen : List ByteArray), Srt ce l → ∀ p, p ∈ lat s l seen ↔ ∃ e ∈ l, p = ⟨e.f0, e.f3⟩ ∧ e.f1 ≤ s ∧ e.f2 ≠ 2 ∧ e.f0 ∉ seen ∧ ∀ e' ∈ l, e'.f0 = e.f0 → e'.f1 ≤ s → e'.f1 ≤ e.f1
  | [], seen, _, p => by simp [lat]
  | e :: l, seen, hs, p => by
    have h2 := List.pairwise_cons.1 hs
    rw [lat]
    split
    · rename_i h
      rw [mem_lat s l seen h2.2 p]
      constructor
      · rintro ⟨x, hx, h1, h3, h4, h5, h6⟩
        refine ⟨x, List.mem_cons_of_mem _ hx, h1, h3, h4, h5, fun e' he' k k2 => ?_⟩
        rcases List.mem_cons.1 he' with rfl | he'
        · omega
        · exact h6 e' he' k k2
      · rintro ⟨x, hx, h1, h3, h4, h5, h6⟩
        rcases List.mem_cons.1 hx with rfl | hx
        · omega
        · exact ⟨x, hx, h1, h3, h4, h5, fun e' he' => h6 e' (List.mem_cons_of_mem _ he')⟩
    · rename_i h
      split
      · rename_i ha
        have ha := (any_mem _ _).1 ha
        rw [mem_lat s l seen h2.2 p]
        constructor
        · rintro ⟨x, hx, h1, h3, h4, h5, h6⟩
          refine ⟨x, List.mem_cons_of_mem _ hx, h1, h3, h4, h5, fun e' he' k k2 => ?_⟩
          rcases List.mem_cons.1 he' with rfl | he'
          · exact absurd (k ▸ ha) h5
          · exact h6 e' he' k k2
        · rintro ⟨x, hx, h1, h3, h4, h5, h6⟩
          rcases List.mem_cons.1 hx with rfl | hx
          · exact absurd ha h5
          · exact ⟨x, hx, h1, h3, h4, h5, fun e' he' => h6 e' (List.mem_cons_of_mem _ he')⟩
      · rename_i ha
        have ha : e.f0 ∉ seen := fun k => ha ((any_mem _ _).2 k)
        have hrest : p ∈ lat s l (seen ++ [e.f0]) ↔ ∃ x ∈ l, p = ⟨x.f0, x.f3⟩ ∧ x.f1 ≤ s ∧ x.f2 ≠ 2 ∧ x.f0 ∉ seen ∧ ∀ e' ∈ e :: l, e'.f0 = x.f0 → e'.f1 ≤ s → e'.f1 ≤ x.f1 := by
          rw [mem_lat s l (seen ++ [e.f0]) h2.2 p]
          constructor
          · rintro ⟨x, hx, h1, h3, h4, h5, h6⟩
            refine ⟨x, hx, h1, h3, h4, fun k => h5 (List.mem_append.2 (.inl k)), fun e' he' k k2 => ?_⟩
            rcases List.mem_cons.1 he' with rfl | he'
            · exact absurd (List.mem_append.2 (.inr (by rw [k]; simp))) h5
            · exact h6 e' he' k k2
          · rintro ⟨x, hx, h1, h3, h4, h5, h6⟩
            refine ⟨x, hx, h1, h3, h4, fun k => ?_, fun e' he' => h6 e' (List.mem_cons_of_mem _ he')⟩
            rcases List.mem_append.1 k with k | k
            · exact h5 k
            · have hk : x.f0 = e.f0 := by simpa using k
              have := h6 e (by simp) hk.symm (by omega)
              have := srt_seq (h2.1 x hx) hk.symm
              omega
        split
        · rename_i hk
          rw [hrest]
          constructor
          · rintro ⟨x, hx, q⟩
            exact ⟨x, List.mem_cons_of_mem _ hx, q⟩
          · rintro ⟨x, hx, h1, h3, h4, q⟩
            rcases List.mem_cons.1 hx with rfl | hx
            · exact absurd hk h4
            · exact ⟨x, hx, h1, h3, h4, q⟩
        · rename_i hk
          rw [List.mem_cons, hrest]
          constructor
          · rintro (q | ⟨x, hx, q⟩)
            · refine ⟨e, by simp, q, by omega, hk, ha, fun e' he' k k2 => ?_⟩
              rcases List.mem_cons.1 he' with rfl | he'
              · omega
              · have := srt_seq (h2.1 e' he') k.symm
                omega
            · exact ⟨x, List.mem_cons_of_mem _ hx, q⟩
          · rintro ⟨x, hx, h1, q⟩
            rcases List.mem_cons.1 hx with rfl | hx
            · exact .inl h1
            · exact .inr ⟨x, hx, h1, q⟩
theorem lat_srt (s : Int) : ∀ (l : List E) (seen : List ByteArray), Srt ce l → (lat s l seen).Pairwise (fun x y => cb x.f0 y.f0 = -1)
  | [], seen, _ => List.Pairwise.nil
  | e :: l, seen, hs => by
    have h2 := List.pairwise_cons.1 hs
    rw [lat]
    split
    · exact lat_srt s l seen h2.2
    · split
      · exact lat_srt s l seen h2.2
      · split
        · exact lat_srt s l _ h2.2
        · refine List.pairwise_cons.2 ⟨fun p hp => ?_, lat_srt s l _ h2.2⟩
          obtain ⟨x, hx, h1, _, _, h5, _⟩ := (mem_lat s l _ h2.2 p).1 hp
          rw [h1]
          have h3 := h2.1 x hx
          have hne : ¬ cb e.f0 x.f0 = 0 := fun k => h5 (List.mem_append.2 (.inr (by rw [(cb_zero _ _).1 k]; simp)))
          unfold ce at h3
          rw [if_neg hne] at h3
          exact h3
theorem lat_len (s : Int) : ∀ (l : List E) (seen : List ByteArray), (lat s l seen).length ≤ l.length
  | [], seen => by simp [lat]
  | e :: l, seen => by
    rw [lat]
    have h1 := lat_len s l seen
    have h2 := lat_len s l (seen ++ [e.f0])
    split
    · simp; omega
    · split
      · simp; omega
      · split
        · simp; omega
        · simp; omega
theorem lat_later {l : List E} (hs : Srt ce l) {a b : Int} (hab : a ≤ b) {p : P} (hp : p ∈ lat a l []) (h : ∀ e ∈ l, ¬ (e.f0 = p.f0 ∧ e.f1 > a ∧ e.f1 ≤ b)) : p ∈ lat b l [] := by
  obtain ⟨e, he, h1, h2, h3, h4, h5⟩ := (mem_lat a l [] hs p).1 hp
  refine (mem_lat b l [] hs p).2 ⟨e, he, h1, by omega, h3, h4, fun e' he' k k2 => ?_⟩
  have hpf : p.f0 = e.f0 := by rw [h1]
  have h6 := h e' he'
  have h7 : ¬ e'.f1 > a := fun k3 => h6 ⟨by rw [k, hpf], k3, k2⟩
  exact h5 e' he' k (by omega)
theorem mrg_one (o : Ord ce) {l : List E} (hs : Srt ce l) : mrg ce [l] = l := by
  refine Mg.eq o (mrg_mg o (fun x hx => by rw [List.mem_singleton.1 hx]; exact hs)) ⟨hs, fun e => ⟨fun he => ⟨0, l, rfl, he, fun j hj => by omega⟩, ?_⟩⟩
  rintro ⟨i, x, h1, h2, _⟩
  cases i with
  | zero => cases h1; exact h2
  | succ i => simp at h1
end Go.Proofs.Ytchgpcgolgcfdaa.PuLat
end
section
namespace Go.Proofs.YtchgpcgolgcfdaaW.PuMrg
set_option linter.unusedVariables false
set_option linter.unusedSimpArgs false
section
variable {E : Type} {ce : E → E → Int}
theorem mrg_mem (o : Ord ce) {ls : List (List E)} (h : ∀ l ∈ ls, Srt ce l) {e : E} (he : e ∈ mrg ce ls) : ∃ l ∈ ls, e ∈ l := by
  obtain ⟨i, l, h1, h2, _⟩ := ((mrg_mg o h).2 e).1 he
  exact ⟨l, List.mem_iff_getElem?.2 ⟨i, h1⟩, h2⟩
theorem ins_len (ce : E → E → Int) (e : E) : ∀ l : List E, (ins ce e l).length ≤ l.length + 1
  | [] => by simp [ins]
  | x :: r => by
    rw [ins]
    have := ins_len ce e r
    split
    · simp; omega
    · split
      · simp
      · simp
theorem foldl_len (ce : E → E → Int) : ∀ (xs acc : List E), (xs.foldl (fun a e => ins ce e a) acc).length ≤ acc.length + xs.length
  | [], acc => by simp
  | x :: xs, acc => by
    rw [List.foldl_cons]
    have h1 := foldl_len ce xs (ins ce x acc)
    have h2 := ins_len ce x acc
    simp only [List.length_cons]
    omega
theorem mrg_len (ce : E → E → Int) (ls : List (List E)) : (mrg ce ls).length ≤ ls.flatten.length := by
  have := foldl_len ce ls.flatten []
  simpa [mrg] using this
section
variable {a b c : List E}
theorem all1 (ha : Srt ce a) : ∀ l ∈ [a], Srt ce l := fun l hl => by rw [List.mem_singleton.1 hl]; exact ha
end
end
end Go.Proofs.YtchgpcgolgcfdaaW.PuMrg
end
section
namespace Go.Proofs.Ytchgpcgolgcfdaa.SetT
open Go Go.WideMaps Go.RowKit Go.Maps Go.Proofs.YtchgpcgolgcfdaaW.PrintWords
theorem law : Keyed Try.prog 9 := string_keyed Try.underlying9
theorem unit0 (w : World) : (zeroValue 75).run Try.prog w = .ok (.agg #[]) w := by kernel_rfl
def kl (x : ByteArray) : Lit := .string x.data.toList
def lits (L : List ByteArray) : List Lit := L.map kl
def D (L : List ByteArray) : DataW Unit := setOf (.agg []) (lits L)
def Is (W : World) (b : Nat) (L : List ByteArray) : Prop := W.ownsMap Try.prog 9 (unitElem (H := Unit)) b L.length (D L)
theorem kl_inj {x a : ByteArray} (h : kl a = kl x) : a = x := by
  unfold kl at h
  injection h with h
  have h1 := Array.toList_inj.1 h
  cases a
  cases x
  simp at h1
  rw [h1]
theorem has_D (L : List ByteArray) (x : ByteArray) : Maps.has (D L) (kl x) = L.any (fun y => decide (x = y)) := by
  unfold D lits
  rw [has_setOf _ _ _ (fun y hy => by obtain ⟨_, _, rfl⟩ := List.mem_map.1 hy; trivial), List.any_map]
  induction L with
  | nil => simp
  | cons a L ih =>
    have h2 : ((fun y : Lit => y.sameKey (kl x)) ∘ kl) a = decide (x = a) := by
      by_cases e : x = a
      · subst e
        simp [kl, Lit.sameKey]
      · rw [decide_eq_false e]
        have : ¬ kl a = kl x := fun h => e (kl_inj h).symm
        simp [kl] at this
        simp [kl, Lit.sameKey, this]
    rw [List.any_cons, ih, h2, List.any_cons]
theorem D_snoc (L : List ByteArray) (x : ByteArray) : (D L).put (kl x) (.agg []) = D (L ++ [x]) := by
  unfold D lits
  rw [List.map_append]
  exact (setOf_snoc _ _ _).symm
theorem Is.new (w : World) : Is (w.alloc (.map #[] 0)) w.heap.size [] := World.ownsMap_made _ _ _ _
theorem Is.lt {W : World} {b : Nat} {L : List ByteArray} (h : Is W b L) : b < W.heap.size := World.ownsMap.lt h
theorem Is.grown {W W1 : World} {b : Nat} {L : List ByteArray} {row : Option Nat} (h : Is W b L) (hg : W.grownBy W1 row) (hne : some b ≠ row) : Is W1 b L := World.ownsMap.kept h hg hne
theorem Is.below {W W1 : World} {b : Nat} {L : List ByteArray} (h : Is W b L) (hb : Below W.heap.size W W1) : Is W1 b L := h.grown (grown_of_below hb none) (by simp)
theorem Is.alloc {W : World} {b : Nat} {L : List ByteArray} (h : Is W b L) (o : Obj) : Is (W.alloc o) b L := World.ownsMap.alloc h o
theorem Is.drewN {W : World} {b : Nat} {L : List ByteArray} (h : Is W b L) (m : Nat) : Is (W.drewN m) b L := h
theorem Is.map {W : World} {b : Nat} {L : List ByteArray} (h : Is W b L) : ∃ es c, W.heap[b]? = some (.map es c) := by
  obtain ⟨es, c, hb, _⟩ := h
  exact ⟨es, c, hb⟩
theorem Is.ne {W : World} {b : Nat} {L : List ByteArray} (h : Is W b L) {k : Nat} {cs : Array Value} {t : TypeId} {fr : Nat × Nat} (hk : W.heap[k]? = some (.cells cs t fr)) : b ≠ k := by
  rintro rfl
  obtain ⟨es, c, hb⟩ := h.map
  rw [hb] at hk
  cases hk
theorem R_map {α : Type} {d : Kd α} {e : Nat} {W W1 : World} {base : Nat} {ok : Nat → Prop} {v : Value} {xs : List α} {b : Nat} {L : List ByteArray} (h : d.R e W base ok v xs) (hm : Is W b L) (hg : W.grownBy W1 (some b)) : d.R e W1 base ok v xs :=
  Kd.R_mono (Kd.R_move (Kd.R_bound h) (fun k hk => by
    obtain ⟨_, _, hlt, _, _, cells, hc⟩ := hk
    refine hg.block k hlt ?_
    intro e
    injection e with e
    exact hm.ne hc e.symm)) (fun _ hk => hk.1)
theorem row_ne {α : Type} {d : Kd α} {e : Nat} {W : World} {base : Nat} {ok : Nat → Prop} {v : Value} {xs : List α} {b : Nat} {L : List ByteArray} (h : d.R e W base ok v xs) (hm : Is W b L) : some b ≠ v.ownBlock := by
  intro he
  obtain ⟨inner, ho⟩ := Kd.R_own h
  obtain ⟨cells, hc⟩ := own_typed ho b he.symm
  exact hm.ne hc rfl
theorem key {x : ByteArray} (h : x.size ≤ maxLen) : keyOf Try.prog 9 (.string x) = some (kl x) := keyOf_string_mk Try.underlying9 h
end Go.Proofs.Ytchgpcgolgcfdaa.SetT
end
section
namespace Go.Proofs.Ytchgpcgolgcfdaa.PNum
open Go.RowKit Go.Proofs.YtchgpcgolgcfdaaW.PrintWords Go.Proofs.YtchgpcgolgcfdaaW.PrintLast Go.Proofs.YtchgpcgolgcfdaaW.PrintMore
attribute [local go_sem] max2_int min2_int max_two min_two max_three min_three max_four min_four   -- for this text's walks alone
set_option linter.unusedVariables false
set_option linter.unusedSimpArgs false
def merge_All.fit (l0 : List (List S29)) : Bool := decide (l0.length ≤ 800) && l0.all (fun l => decide (l.Pairwise fun x y => Go.Proofs.Ytchgpcgolgcfdaa.PuIkC.ce x y = -1)) && l0.all (fun l => l.all fun e => decide (e.f0.size ≤ maxLen) && (Lit.int .u64 e.f1).wf) && decide (l0.flatten.length ≤ 1000000)
def merge_All.f (l0 : List (List S29)) : Option (List S29) := if merge_All.fit l0 = true then some (Go.Proofs.YtchgpcgolgcfdaaW.PuMrg.mrg Go.Proofs.Ytchgpcgolgcfdaa.PuIkC.ce l0) else none
theorem merge_All.fit_iff (l0 : List (List S29)) : merge_All.fit l0 = true ↔ l0.length ≤ 800 ∧ (∀ l ∈ l0, Go.Proofs.YtchgpcgolgcfdaaW.PuMrg.Srt Go.Proofs.Ytchgpcgolgcfdaa.PuIkC.ce l) ∧ (∀ l ∈ l0, ∀ e ∈ l, Go.Proofs.Ytchgpcgolgcfdaa.SetS.ok (e.f0, e.f1)) ∧ l0.flatten.length ≤ 1000000 := by
  unfold merge_All.fit
  simp only [Bool.and_eq_true, decide_eq_true_eq, List.all_eq_true, and_assoc]
  rfl
theorem merge_All.calls (A0 : Option Addr) (c0 : Nat) (l0 : List (List S29)) (r : List S29) (w : World) (hr0 : Kd.C (Kd.slice 29 k29) w A0 l0.length l0) (hc0 : l0.length ≤ c0) (h : merge_All.f l0 = some r) :
    Calls Try.prog 14 #[.slice A0 l0.length c0] w fun e w' => ∃ v0_ : Value, e = .returned (v0_) ∧ Kd.R k29 29 w' w.heap.size (fun _ => True) v0_ r ∧ Below w.heap.size w w' := by
  unfold merge_All.f at h
  split at h
  · rename_i hg
    obtain rfl := Option.some.inj h
    have hg := (merge_All.fit_iff l0).1 hg
    exact Go.Proofs.Ytchgpcgolgcfdaa.Hp.all_calls A0 l0.length c0 l0 w hr0 hc0 hg.1 hg.2.1 hg.2.2.1 hg.2.2.2
  · cases h
end Go.Proofs.Ytchgpcgolgcfdaa.PNum
end
section
namespace Go.Proofs.Ytchgpcgolgcfdaa.Lt
open Go Go.RowKit Go.Maps Go.Proofs.Ytchgpcgolgcfdaa.PNum Go.Proofs.Ytchgpcgolgcfdaa.BkW Go.Proofs.Ytchgpcgolgcfdaa.PuIkC Go.Proofs.Ytchgpcgolgcfdaa.PuLat Go.Proofs.YtchgpcgolgcfdaaW.PrintWords Go.Proofs.YtchgpcgolgcfdaaW.PrintLast Go.Proofs.YtchgpcgolgcfdaaW.PrintMore Go.Proofs.YtchgpcgolgcfdaaW.Pu Go.Proofs.YtchgpcgolgcfdaaW.PuMrg Go.Proofs.Ytchgpcgolgcfdaa.Hp
set_option linter.unusedVariables false
set_option linter.unusedSimpArgs false
abbrev E := S29
abbrev P := S37
abbrev kP := k37
def encE (x : E) : List Value := [.string x.f0, .int .u64 x.f1, .int .i64 x.f2, .string x.f3]
theorem flatE : Flat k29 encE := ⟨fun _ => rfl, fun h => k29_openM h, fun w x => k29_mk w x, fun h => k29_open h⟩
def fit (s : Int) (l0 : List (List E)) : Bool := merge_All.fit l0
theorem infoP : (Try.prog.info? 37).map (fun i => (i.zero, i.size, i.bytes)) = some (some (.agg #[.string ⟨#[]⟩, .string ⟨#[]⟩]), 2, 32) := by kernel_rfl
theorem all_rw (A0 : Option Addr) (c0 : Nat) (l0 : List (List E)) (w : World) (hr0 : Kd.C (Kd.slice 29 k29) w A0 l0.length l0) (hc0 : l0.length ≤ c0) (hg : merge_All.fit l0 = true) (L : List E) (hL : L = mrg ce l0) (V : World) (hb : Below w.heap.size w V) :
    Calls Try.prog 14 #[.slice A0 l0.length c0] V fun e w' => ∃ A c, e = .returned (.slice A L.length c) ∧ L.length ≤ c ∧ Rw w' 29 4 (.slice A L.length c) L.length (encL encE L) ∧ (∀ k, (Value.slice A L.length c).ownBlock = some k → V.heap.size ≤ k) ∧ Below V.heap.size V w' := by
  have hg := (merge_All.fit_iff l0).1 hg
  subst hL
  refine (all_calls A0 l0.length c0 l0 V (Kd.C_below hr0 hb) hc0 hg.1 hg.2.1 hg.2.2.1 hg.2.2.2).mono ?_
  rintro e w' ⟨v, rfl, hR, hb'⟩
  have h1 := flatE.of_R hR
  obtain ⟨A, c, rfl, hc⟩ := h1.slice
  refine ⟨A, c, rfl, hc, h1, fun k hk => ?_, hb'⟩
  obtain ⟨_, ho⟩ := Kd.R_own hR
  exact own_base ho k hk
theorem rw_ne {W : World} {e sz n : Nat} {v : Value} {cs : List Value} {b : Nat} {L : List ByteArray} (h : Rw W e sz v n cs) (hm : SetT.Is W b L) : v.ownBlock ≠ some b := fun he => by
  obtain ⟨cur, hc⟩ := h.typed b he
  exact hm.ne hc rfl
theorem rw_map {W W1 : World} {e sz n : Nat} {v : Value} {cs : List Value} {b : Nat} {L : List ByteArray} (hg : W.grownBy W1 (some b)) (h : Rw W e sz v n cs) (hm : SetT.Is W b L) : Rw W1 e sz v n cs := h.grown hg (.inr (rw_ne h hm))
theorem rw_other {α : Type} {d : Kd α} {W : World} {e e' sz n base : Nat} {v u : Value} {cs : List Value} {ok : Nat → Prop} {xs : List α} (h : Rw W e sz v n cs) (hr : Kd.R d e' W base ok u xs) (hne : e ≠ e') : v.ownBlock = none ∨ v.ownBlock ≠ u.ownBlock := by
  cases hv : v.ownBlock with
  | none => exact .inl rfl
  | some k =>
    refine .inr (fun he => ?_)
    obtain ⟨cur, hc⟩ := h.typed k hv
    obtain ⟨_, ho⟩ := Kd.R_own hr
    obtain ⟨cells, hc2⟩ := own_typed ho k he.symm
    rw [hc] at hc2
    injection hc2 with hc2
    injection hc2 with _ hc2
    exact hne hc2
set_option maxHeartbeats 16000000 in
set_option maxRecDepth 100000 in
theorem latest_calls (s : Int) (A0 : Option Addr) (c0 : Nat) (l0 : List (List E)) (w : World) (hr0 : Kd.C (Kd.slice 29 k29) w A0 l0.length l0) (hc0 : l0.length ≤ c0) (hg : fit s l0 = true) :
    Calls Try.prog 15 #[.int .u64 s, .slice A0 l0.length c0] w fun e w' => ∃ v, e = .returned v ∧ Kd.R kP 37 w' w.heap.size (fun _ => True) v (lat s (mrg ce l0) []) ∧ Below w.heap.size w w' := by
  have hg1 := (merge_All.fit_iff l0).1 hg
  obtain ⟨L, hL⟩ : ∃ L, L = mrg ce l0 := ⟨_, rfl⟩
  have HKL : Aside0 (∀ e ∈ L, e.f0.size ≤ maxLen) := ⟨fun e he => by
    rw [hL] at he
    obtain ⟨l, hl, hel⟩ := mrg_mem ordE hg1.2.1 he
    exact (hg1.2.2.1 l hl e hel).1⟩
  have HLL : Aside0 (L.length ≤ 1000000) := ⟨by rw [hL]; exact Nat.le_trans (mrg_len ce l0) hg1.2.2.2⟩
  have HALL : Aside0 (∀ V, Below w.heap.size w V → Calls Try.prog 14 #[.slice A0 l0.length c0] V fun e w' => ∃ A c, e = .returned (.slice A L.length c) ∧ L.length ≤ c ∧ Rw w' 29 4 (.slice A L.length c) L.length (encL encE L) ∧ (∀ k, (Value.slice A L.length c).ownBlock = some k → V.heap.size ≤ k) ∧ Below V.heap.size V w') := ⟨fun V hb => all_rw A0 c0 l0 w hr0 hc0 hg L hL V hb⟩
  rw [← hL]
  clear hL hg hg1 hr0 hc0
  have hu29 := Try.underlying29
  have hmm := @run_makeMap Try.prog
  go_enter Try.func15, Try.ntmps15
  go_wp2_with (first
    | (go_at_call 14; refine (HALL.out _ (below_alloc (Below.refl _ _) _)).mono ?_; rintro e w1 ⟨A, c, rfl, hc, hrow, hfr, hb⟩; have HRL := Aside0.mk hrow; have HCL := Aside0.mk hc; have HFR := Aside0.mk hfr; have HMS : Aside0 (SetT.Is w1 w.heap.size []) := ⟨(SetT.Is.new w).below hb⟩; have HB := Aside0.mk (below_step (below_alloc (Below.refl w.heap.size w) _) hb); clear hrow hfr hb hc))
  go_loopw [5, 15] (fun v5 v15 w' => ∃ (i : Nat) (seen : List ByteArray) (out : List P), v15 = .int .i64 i ∧ i ≤ L.length ∧ Aside0 (out.length ≤ i) ∧ Aside0 (seen.length ≤ i) ∧ Aside0 (SetT.Is w' w.heap.size seen) ∧ Aside0 (Rw w' 29 4 (.slice A L.length c) L.length (encL encE L)) ∧ Aside0 (Kd.R kP 37 w' w.heap.size (fun _ => True) v5 out) ∧ Aside0 (Below w.heap.size w w') ∧ Aside0 (out ++ lat s (L.drop i) seen = lat s L [])) (fun _ v15 _ => L.length - (intOf v15).toNat)
  case atStart => exact ⟨0, [], [], rfl, Nat.zero_le _, ⟨Nat.le_refl _⟩, ⟨Nat.le_refl _⟩, HMS, HRL, ⟨Kd.R_nil _ _ _ _ _⟩, HB, ⟨rfl⟩⟩
  case round =>
    clear HMS HRL HB HALL
    obtain ⟨i, seen, out, rfl, hi, HO, HS, HM, HR, HRo, HB, HA⟩ := hrel
    by_cases hlt : i < L.length
    · have p0 : (0 : Int) ≤ (i : Int) := Int.natCast_nonneg _
      have q0 : (i : Int) < (L.length : Int) := Int.ofNat_lt.mpr hlt
      have t0 : decide ((i : Int) < (L.length : Int)) = true := decide_eq_true q0
      have hlen : (L.length : Int) ≤ 1000000 := by have := HLL.out; omega
      obtain ⟨ad, e0, y0, y1, y2, y3⟩ := at_T29 (flatE.to_C HR.out rfl) (i : Int) p0 q0
      cases e0
      have hx : rd_T29 L (i : Int) = L[i] := by simp [rd_T29, hlt]
      rw [hx] at y0 y1 y2 y3
      simp only [Int.toNat_natCast] at y0 y1 y2 y3
      have hdr : L.drop i = L[i] :: L.drop (i + 1) := List.drop_eq_getElem_cons hlt
      have hks : L[i].f0.size ≤ maxLen := HKL.out _ (List.getElem_mem hlt)
      clear hx
      generalize L[i] = e at *
      have HDR := Aside0.mk hdr
      have HKY := Aside0.mk (SetT.key hks)
      have HLT := Aside0.mk hlt
      have hwb : w.heap.size < wr.heap.size := SetT.Is.lt HM.out
      have HWB := Aside0.mk hwb
      have hh := SetT.has_D seen e.f0
      clear hdr hks hlt hwb
      by_cases hs : s < e.f1
      · have t1 : decide (s < e.f1) = true := decide_eq_true hs
        have HSE := Aside0.mk hs
        clear hh hs
        go_wp2_with (fail)
        go_roundw
        case rel => exact ⟨i + 1, seen, out, by go_num, by have := HLT.out; omega, ⟨by have := HO.out; omega⟩, ⟨by have := HS.out; omega⟩, ⟨HM.out.alloc _⟩, ⟨HR.out.below (below_alloc (Below.refl _ _) _)⟩, ⟨Kd.R_alloc HRo.out _⟩, ⟨below_alloc HB.out _⟩, ⟨by rw [← HA.out, HDR.out, lat, if_pos HSE.out]⟩⟩
        case measure => simp [intOf]; have := HLT.out; omega
      · have t1 : decide (s < e.f1) = false := decide_eq_false hs
        have HSE := Aside0.mk hs
        clear hs
        generalize hbf : seen.any (fun y => decide (e.f0 = y)) = bf at hh
        have HBF := Aside0.mk hbf
        clear hbf
        cases bf
        · by_cases hk : e.f2 = 2
          · have t2 : (e.f2 != 2) = false := by rw [hk]; rfl
            have HK := Aside0.mk hk
            clear hk
            go_wp2_with (first | (at_lookup; refine wpList_lookup_own_unit _ rfl _ _ 77 rfl 9 75 SetT.law Try.underlying77 (SetT.unit0 _) w.heap.size _ (SetT.D seen) rfl (by first | exact HM.out | exact SetT.Is.alloc HM.out _ | exact SetT.Is.alloc (SetT.Is.alloc HM.out _) _) _ _ rfl HKY.out ?_) | (at_mapUpdate; refine wpList_mapUpdate_own _ rfl _ _ _ 77 rfl 9 75 SetT.law Try.underlying77 (unitElem (H := Unit)) w.heap.size _ (SetT.D seen) rfl (SetT.Is.alloc (SetT.Is.alloc HM.out _) _) (by have := HS.out; have := HLL.out; have := HLT.out; unfold maxLen; omega) _ _ _ rfl rfl HKY.out _ [] unitElem_mk ?_; intro w2 hown hgrow; have hb8 := blk_grown (blk_alloc (blk_new wr (.cells #[.string e.f0, .int .u64 e.f1, .int .i64 e.f2, .string e.f3] 29)) _) hgrow (fun e_ => by have := HWB.out; injection e_ with e_; omega); have v0 : w2.cell? ⟨wr.heap.size, 0, none⟩ = some (.string e.f0) := (blk_cell hb8 0).trans rfl; have v2 : w2.cell? ⟨wr.heap.size, 2, none⟩ = some (.int .i64 e.f2) := (blk_cell hb8 2).trans rfl; have v3 : w2.cell? ⟨wr.heap.size, 3, none⟩ = some (.string e.f3) := (blk_cell hb8 3).trans rfl; have HS2 : Aside0 (SetT.Is w2 w.heap.size (seen ++ [e.f0])) := ⟨by have := hown; rw [SetT.D_snoc] at this; unfold SetT.Is; simpa using this⟩; have HR2 := Aside0.mk (rw_map hgrow (HR.out.below (below_alloc (below_alloc (Below.refl _ _) _) _)) ((HM.out.alloc _).alloc _)); have HO2 := Aside0.mk (SetT.R_map (Kd.R_alloc (Kd.R_alloc HRo.out _) _) ((HM.out.alloc _).alloc _) hgrow); have HB2 := Aside0.mk (Below.grown (below_alloc (below_alloc HB.out _) _) hgrow (below_size (below_alloc (below_alloc HB.out _) _)) (fun k h => by cases h; exact Nat.le_refl _)); clear hb8 hown hgrow))
            go_roundw
            case rel => exact ⟨i + 1, seen ++ [e.f0], out, by go_num, by have := HLT.out; omega, ⟨by have := HO.out; omega⟩, ⟨by have := HS.out; simp; omega⟩, HS2, HR2, HO2, HB2, ⟨by rw [← HA.out, HDR.out, lat, if_neg HSE.out, HBF.out, if_neg (by simp), if_pos HK.out]⟩⟩
            case measure => simp [intOf]; have := HLT.out; omega
          · have t2 : (e.f2 != 2) = true := by rw [bne_iff_ne]; exact hk
            have HK := Aside0.mk hk
            clear hk
            go_wp2_with (first | (at_lookup; refine wpList_lookup_own_unit _ rfl _ _ 77 rfl 9 75 SetT.law Try.underlying77 (SetT.unit0 _) w.heap.size _ (SetT.D seen) rfl (by first | exact HM.out | exact SetT.Is.alloc HM.out _ | exact SetT.Is.alloc (SetT.Is.alloc HM.out _) _) _ _ rfl HKY.out ?_) | (at_mapUpdate; refine wpList_mapUpdate_own _ rfl _ _ _ 77 rfl 9 75 SetT.law Try.underlying77 (unitElem (H := Unit)) w.heap.size _ (SetT.D seen) rfl (SetT.Is.alloc (SetT.Is.alloc HM.out _) _) (by have := HS.out; have := HLL.out; have := HLT.out; unfold maxLen; omega) _ _ _ rfl rfl HKY.out _ [] unitElem_mk ?_; intro w2 hown hgrow; have hb8 := blk_grown (blk_alloc (blk_new wr (.cells #[.string e.f0, .int .u64 e.f1, .int .i64 e.f2, .string e.f3] 29)) _) hgrow (fun e_ => by have := HWB.out; injection e_ with e_; omega); have v0 : w2.cell? ⟨wr.heap.size, 0, none⟩ = some (.string e.f0) := (blk_cell hb8 0).trans rfl; have v2 : w2.cell? ⟨wr.heap.size, 2, none⟩ = some (.int .i64 e.f2) := (blk_cell hb8 2).trans rfl; have v3 : w2.cell? ⟨wr.heap.size, 3, none⟩ = some (.string e.f3) := (blk_cell hb8 3).trans rfl; have HS2 : Aside0 (SetT.Is w2 w.heap.size (seen ++ [e.f0])) := ⟨by have := hown; rw [SetT.D_snoc] at this; unfold SetT.Is; simpa using this⟩; have HR2 := Aside0.mk (rw_map hgrow (HR.out.below (below_alloc (below_alloc (Below.refl _ _) _) _)) ((HM.out.alloc _).alloc _)); have HO2 := Aside0.mk (SetT.R_map (Kd.R_alloc (Kd.R_alloc HRo.out _) _) ((HM.out.alloc _).alloc _) hgrow); have HB2 := Aside0.mk (Below.grown (below_alloc (below_alloc HB.out _) _) hgrow (below_size (below_alloc (below_alloc HB.out _) _)) (fun k h => by cases h; exact Nat.le_refl _)); clear hb8 hown hgrow) | ((with_reducible refine gate_builtin (b := .append) (xs := #[.tmp 38, .tmp 44]) rfl ?_); at_builtin; refine Kd.R_append kP (w0 := w) w.heap.size rfl (.tmp 38) (.tmp 44) 34 37 (.agg #[(.string ⟨#[]⟩), (.string ⟨#[]⟩)]) 32 rfl Try.underlying34 infoP rfl (by decide) (by omega) u5 out ⟨e.f0, e.f3⟩ [.string e.f0, .string e.f3] (fun _ => True) (fun _ => False) rfl rfl ?aP (fun _ hk => hk.elim) ?aF ?aO ?aB ?aS ?aL ?_; (case aP => exact k37_mkM _ _ _ _); (case aB => exact HB2.out); (case aF => exact (fun _ _ => trivial)); (case aO => exact HO2.out); (case aS => exact below_size HB2.out); (case aL => have := HO.out; have := HLL.out; have := HLT.out; omega); intro v7 w7 ho hb hg hat; have HG := Aside0.mk hg; have HO7 := Aside0.mk ho; have HB7 := Aside0.mk hb; clear ho hb hg hat))
            go_roundw
            case rel => exact ⟨i + 1, seen ++ [e.f0], out ++ [⟨e.f0, e.f3⟩], by go_num, by have := HLT.out; omega, ⟨by have := HO.out; simp; omega⟩, ⟨by have := HS.out; simp; omega⟩, ⟨SetT.Is.grown HS2.out HG.out (SetT.row_ne HO2.out HS2.out)⟩, ⟨HR2.out.grown HG.out (rw_other HR2.out HO2.out (by decide))⟩, HO7, HB7, ⟨by rw [← HA.out, HDR.out, lat, if_neg HSE.out, HBF.out, if_neg (by simp), if_neg HK.out, List.append_assoc]; rfl⟩⟩
            case measure => simp [intOf]; have := HLT.out; omega
        · go_wp2_with (first | (at_lookup; refine wpList_lookup_own_unit _ rfl _ _ 77 rfl 9 75 SetT.law Try.underlying77 (SetT.unit0 _) w.heap.size _ (SetT.D seen) rfl (by first | exact HM.out | exact SetT.Is.alloc HM.out _ | exact SetT.Is.alloc (SetT.Is.alloc HM.out _) _) _ _ rfl HKY.out ?_))
          go_roundw
          case rel => exact ⟨i + 1, seen, out, by go_num, by have := HLT.out; omega, ⟨by have := HO.out; omega⟩, ⟨by have := HS.out; omega⟩, ⟨(HM.out.alloc _).alloc _⟩, ⟨HR.out.below (below_alloc (below_alloc (Below.refl _ _) _) _)⟩, ⟨Kd.R_alloc (Kd.R_alloc HRo.out _) _⟩, ⟨below_alloc (below_alloc HB.out _) _⟩, ⟨by rw [← HA.out, HDR.out, lat, if_neg HSE.out, HBF.out, if_pos rfl]⟩⟩
          case measure => simp [intOf]; have := HLT.out; omega
    · obtain rfl : i = L.length := by omega
      have t0 : decide ((L.length : Int) < (L.length : Int)) = false := decide_eq_false (by omega)
      go_wp2
      go_ret
      exact ⟨_, rfl, by have := HA.out; rw [List.drop_length, lat, List.append_nil] at this; rw [← this]; exact HRo.out, HB.out⟩
end Go.Proofs.Ytchgpcgolgcfdaa.Lt
end
section
namespace Go.Proofs.Ytchgpcgolgcfdaa.PNum
open Go.RowKit Go.Proofs.YtchgpcgolgcfdaaW.PrintWords Go.Proofs.YtchgpcgolgcfdaaW.PrintLast Go.Proofs.YtchgpcgolgcfdaaW.PrintMore
attribute [local go_sem] max2_int min2_int max_two min_two max_three min_three max_four min_four   -- for this text's walks alone
set_option linter.unusedVariables false
set_option linter.unusedSimpArgs false
def merge_Cut.l0 : Nat → Int → List (S29) → List (List (S29)) → Int → Int → Int → Option ((List (List (S29))))
  | 0, _, _, _, _, _, _ => none
  | k + 1, x0, x1, x5, x6, x9, x10 => if x10 < x9 then (if (wrap64 (x10 + 1)) = (x1.length : Int) then (if 0 ≤ x6 then (if x6 ≤ (wrap64 (x10 + 1)) then (if (wrap64 (x10 + 1)) ≤ (x1.length : Int) then ((some ((x1.take ((wrap64 (x10 + 1)) : Int).toNat).drop (x6 : Int).toNat : List (S29))).bind fun y116 => (if ([] : List (S29)).length + y116.length < 2932031007402 then (if x5.length < 5864062014805 then (merge_Cut.l0 k x0 x1 (x5 ++ [(([] : List (S29)) ++ y116)]) (wrap64 (x10 + 1)) x9 (wrap64 (x10 + 1))) else (none)) else (none))) else (none)) else (none)) else (none)) else (if (wrap64 ((wrap64 (x10 + 1)) - x6)) ≥ (mx x0 1) then (if 0 ≤ (wrap64 (x10 + 1)) then (if (wrap64 (x10 + 1)) < (x1.length : Int) then (if 0 ≤ x10 then (if x10 < (x1.length : Int) then (if ((rd_T29 x1 (wrap64 (x10 + 1))).f0).toList = ((rd_T29 x1 x10).f0).toList then (merge_Cut.l0 k x0 x1 x5 x6 x9 (wrap64 (x10 + 1))) else (if 0 ≤ x6 then (if x6 ≤ (wrap64 (x10 + 1)) then (if (wrap64 (x10 + 1)) ≤ (x1.length : Int) then ((some ((x1.take ((wrap64 (x10 + 1)) : Int).toNat).drop (x6 : Int).toNat : List (S29))).bind fun y128 => (if ([] : List (S29)).length + y128.length < 2932031007402 then (if x5.length < 5864062014805 then (merge_Cut.l0 k x0 x1 (x5 ++ [(([] : List (S29)) ++ y128)]) (wrap64 (x10 + 1)) x9 (wrap64 (x10 + 1))) else (none)) else (none))) else (none)) else (none)) else (none))) else (none)) else (none)) else (none)) else (none)) else (merge_Cut.l0 k x0 x1 x5 x6 x9 (wrap64 (x10 + 1))))) else (some x5)
def merge_Cut.f (k : Nat) (a0 : Int) (l1 : List (S29)) : Option ((List (List (S29)))) := merge_Cut.l0 k a0 l1 ([] : List (List (S29))) 0 (l1.length : Int) 0
theorem merge_Cut.mono_l : ∀ k, (∀ y0 y1 y2 y3 y4 y5, LeO (merge_Cut.l0 k y0 y1 y2 y3 y4 y5) (merge_Cut.l0 (k + 1) y0 y1 y2 y3 y4 y5))
  | 0 => fun _ _ _ _ _ _ r h => by simp [merge_Cut.l0] at h
  | k + 1 => by
    have ih0 := merge_Cut.mono_l k
    · intro y0 y1 y2 y3 y4 y5
      unfold merge_Cut.l0
      repeat' first
      | (with_reducible exact ih0 _ _ _ _ _ _)
      | (with_reducible exact LeO.refl _)
      | (with_reducible exact LeO.none _)
      | (with_reducible refine LeO.ite ?_ ?_)
      | (with_reducible refine LeO.bind ?_ (fun _ => ?_))
      | exact ih0 _ _ _ _ _ _
      | exact LeO.none _
      | refine LeO.ite ?_ ?_
      | refine LeO.bind ?_ (fun _ => ?_)
theorem merge_Cut.mono : ∀ a0 a1 k, LeO (merge_Cut.f k a0 a1) (merge_Cut.f (k + 1) a0 a1) := by
  intro a0 a1 k
  have ih0 := merge_Cut.mono_l k
  unfold merge_Cut.f
  repeat' first
      | (with_reducible exact ih0 _ _ _ _ _ _)
      | (with_reducible exact LeO.refl _)
      | (with_reducible exact LeO.none _)
      | (with_reducible refine LeO.ite ?_ ?_)
      | (with_reducible refine LeO.bind ?_ (fun _ => ?_))
      | exact ih0 _ _ _ _ _ _
      | exact LeO.none _
      | refine LeO.ite ?_ ?_
      | refine LeO.bind ?_ (fun _ => ?_)
set_option maxHeartbeats 8000000 in
set_option maxRecDepth 100000 in
theorem merge_Cut.calls (k : Nat) (a0 : Int) (A1 : Option Addr) (c1 : Nat) (l1 : List (S29)) (r : List (List (S29))) (w : World) (hr1 : Kd.C k29 w A1 l1.length l1) (hc1 : l1.length ≤ c1) (h : merge_Cut.f k a0 l1 = some r) :
    Calls Try.prog 12 #[.int .i64 a0, .slice A1 l1.length c1] w fun e w' => ∃ v0_ : Value, e = .returned (v0_) ∧ Kd.S (Kd.slice 29 k29) 22 w' w.heap.size (fun _ => True) v0_ r ∧ Below w.heap.size w w' := by
  have HR1 := Aside0.mk hr1
  have HC1 := Aside0.mk hc1
  clear hr1 hc1
  have HB := Aside0.mk (Below.refl w.heap.size w)
  have H : (merge_Cut.l0 k a0 l1 ([] : List (List (S29))) 0 (l1.length : Int) 0) = some r := h
  clear h
  have H' := Aside0.mk H
  clear H
  go_enter Try.func12, Try.ntmps12
  go_wp2
  repeat (go_quiet (fail); try go_wp2)
  go_loopg [5, 6, 10] k (fun kq v5 v6 v10 w' => ∃ (x5_1 : List (List (S29))) (x6_1 : Int) (x10_1 : Int), v6 = .int .i64 x6_1 ∧ v10 = .int .i64 x10_1 ∧ Aside0 (merge_Cut.l0 kq a0 l1 x5_1 x6_1 (l1.length : Int) x10_1 = some r) ∧ Aside0 (kq ≤ k) ∧ Aside0 (Kd.S (Kd.slice 29 k29) 22 w' w.heap.size (fun _ => True) v5 x5_1) ∧ Aside0 (Below w.heap.size w w'))
  case atStart => exact ⟨(([] : List (List (S29)))), (0), (0), (by first | rfl | (simp; done) | (simp [*]; done)), (by first | rfl | (simp; done) | (simp [*]; done)), H', ⟨Nat.le_refl _⟩, ⟨by first | exact Kd.S_nil _ _ _ _ _ | exact Kd.N_nil _ _ _ _ _ | exact Kd.V_nil _ _ _ _ _ | exact Kd.Q_nil _ _ _ _ _ | exact Kd.R_nil _ _ _ _ _⟩, ⟨by repeat (first | (with_reducible first | exact HB.out | apply below_alloc | apply pw_below_drewN | apply below_drew1) | exact HB.out)⟩⟩
  case round =>
    clear H'
    try clear c1
    try clear p2
    obtain ⟨x5_1, x6_1, x10_1, rfl, rfl, HA, HK1, HO_5, HB⟩ := hrel
    cases gk with
    | zero => exact absurd HA.out (by simp [merge_Cut.l0])
    | succ k1 =>
      have H := HA.out
      clear HA
      simp only [merge_Cut.l0] at H
      by_cases c3 : x10_1 < (l1.length : Int)
      · rw [if_pos c3] at H
        have c3b0 : decide (x10_1 < (l1.length : Int)) = true := decide_eq_true c3
        clear c3
        by_cases c4 : (wrap64 (x10_1 + 1)) = (l1.length : Int)
        · rw [if_pos c4] at H
          have c4b0 : ((wrap64 (x10_1 + 1)) == (l1.length : Int)) = true := beq_iff_eq.mpr c4
          have c4b1 : ((wrap64 (x10_1 + 1)) != (l1.length : Int)) = false := bne_eq_false_iff_eq.mpr c4
          clear c4
          by_cases c5 : 0 ≤ x6_1
          · rw [if_pos c5] at H
            have c5b0 := eq_true c5
            have c5b1 : decide (0 ≤ x6_1) = true := decide_eq_true c5
            clear c5
            by_cases c6 : x6_1 ≤ (wrap64 (x10_1 + 1))
            · rw [if_pos c6] at H
              have c6b0 := eq_true c6
              have c6b1 : decide (x6_1 ≤ (wrap64 (x10_1 + 1))) = true := decide_eq_true c6
              clear c6
              by_cases c7 : (wrap64 (x10_1 + 1)) ≤ (l1.length : Int)
              · rw [if_pos c7] at H
                have c7b0 := eq_true c7
                have c7b1 : decide ((wrap64 (x10_1 + 1)) ≤ (l1.length : Int)) = true := decide_eq_true c7
                clear c7
                obtain ⟨y116, hy116⟩ : ∃ y_ : List (S29), y_ = ((l1.take ((wrap64 (x10_1 + 1)) : Int).toNat).drop (x6_1 : Int).toNat) := ⟨_, rfl⟩
                replace H : (if ([] : List (S29)).length + y116.length < 2932031007402 then (if x5_1.length < 5864062014805 then (merge_Cut.l0 k1 a0 l1 (x5_1 ++ [(([] : List (S29)) ++ y116)]) (wrap64 (x10_1 + 1)) (l1.length : Int) (wrap64 (x10_1 + 1))) else (none)) else (none)) = some r := by first | (rw [hy116]; with_reducible exact H) | (have H2_ := (Option.bind_some _ _).symm.trans H; rw [hy116]; with_reducible exact H2_) | (have H2_ := (Option.bind_some _ _).symm.trans H; with_reducible exact H2_) | with_reducible exact H | (rw [hy116]; exact H) | exact H
                have Ny116 := Aside0.mk hy116
                clear hy116
                by_cases c8 : ([] : List (S29)).length + y116.length < 2932031007402
                · rw [if_pos c8] at H
                  have LMc8 := Aside0.mk c8
                  clear c8
                  obtain ⟨y120, hy120⟩ : ∃ y_ : List (S29), y_ = (([] : List (S29)) ++ y116) := ⟨_, rfl⟩
                  replace H : (if x5_1.length < 5864062014805 then (merge_Cut.l0 k1 a0 l1 (x5_1 ++ [y120]) (wrap64 (x10_1 + 1)) (l1.length : Int) (wrap64 (x10_1 + 1))) else (none)) = some r := by first | (rw [hy120]; with_reducible exact H) | (have H2_ := (Option.bind_some _ _).symm.trans H; rw [hy120]; with_reducible exact H2_) | (have H2_ := (Option.bind_some _ _).symm.trans H; with_reducible exact H2_) | with_reducible exact H | (rw [hy120]; exact H) | exact H
                  have Ny120 := Aside0.mk hy120
                  clear hy120
                  by_cases c9 : x5_1.length < 5864062014805
                  · rw [if_pos c9] at H
                    have LMc9 := Aside0.mk c9
                    clear c9
                    obtain ⟨y123, hy123⟩ : ∃ y_ : List (List (S29)), y_ = (x5_1 ++ [y120]) := ⟨_, rfl⟩
                    replace H : (merge_Cut.l0 k1 a0 l1 y123 (wrap64 (x10_1 + 1)) (l1.length : Int) (wrap64 (x10_1 + 1))) = some r := by first | (rw [hy123]; with_reducible exact H) | (have H2_ := (Option.bind_some _ _).symm.trans H; rw [hy123]; with_reducible exact H2_) | (have H2_ := (Option.bind_some _ _).symm.trans H; with_reducible exact H2_) | with_reducible exact H | (rw [hy123]; exact H) | exact H
                    have Ny123 := Aside0.mk hy123
                    clear hy123
                    have H' := Aside0.mk H
                    clear H
                    have q10 : ((wrap64 (x10_1 + 1)) : Int) ≤ ((l1.length : Int) : Int) := of_decide_eq_true (by first | (with_reducible assumption) | assumption)
                    obtain ⟨i010, hi010, _, hsz10, _⟩ := info_parts info29
                    have hroom10 : l1.length ≤ c1 := HC1.out
                    have hC10 : Kd.C k29 _ A1 l1.length l1 := HR1.out
                    have ql10 : (x6_1 : Int) ≤ ((wrap64 (x10_1 + 1)) : Int) := of_decide_eq_true (by first | (with_reducible assumption) | assumption)
                    have q010 : (0 : Int) ≤ (x6_1 : Int) := of_decide_eq_true (by first | (with_reducible assumption) | assumption)
                    have hcut10 := cut_mid (P := Try.prog) 22 29 .i64 .i64 Try.underlying22 hi010 4 hsz10 A1 l1.length c1 x6_1 (wrap64 (x10_1 + 1)) q010 ql10 q10 hroom10
                    have hr10 := Kd.C_mid (lo := (x6_1 : Int).toNat) (hi := ((wrap64 (x10_1 + 1)) : Int).toNat) (c := c1) hC10 (by omega) (by omega) hroom10
                    obtain ⟨A10, hA10⟩ : ∃ A1_, A1_ = (if c1 = (x6_1 : Int).toNat then A1 else (A1 : Option Addr).map (·.add ((x6_1 : Int).toNat * 4))) := ⟨_, rfl⟩
                    obtain ⟨c10, hc10⟩ : ∃ c1_, c1_ = c1 - (x6_1 : Int).toNat := ⟨_, rfl⟩
                    have hy10 : y116.length = ((wrap64 (x10_1 + 1)) : Int).toNat - (x6_1 : Int).toNat := (by rw [Ny116.out, List.length_drop, List.length_take] <;> omega)
                    rw [show ((l1).take ((wrap64 (x10_1 + 1)) : Int).toNat).drop (x6_1 : Int).toNat = y116 from Ny116.out.symm] at hr10
                    replace hr10 : Kd.C k29 _ A10 y116.length y116 := (by rw [hA10]; exact hr10)
                    rw [← hy10, ← hA10, ← hc10] at hcut10
                    have HR119 := Aside0.mk hr10
                    have HC119 := Aside0.mk (show y116.length ≤ c10 from by rw [hy10, hc10]; exact Nat.sub_le_sub_right (Nat.le_trans (by omega) hroom10) _)
                    clear hr10 hC10 hroom10 hi010 hsz10 hc10
                    have KY10 := Aside0.mk hy10
                    have KA10 := Aside0.mk hA10
                    clear hy10 hA10
                    replace q10 := eq_true q10
                    go_wp2_with (first | ((with_reducible refine gate_builtin (b := .append) (xs := #[.const (.slice none 0 0), .tmp 46]) rfl ?_); (try (refine gate_guard (by rfl) ?_; dsimp only)); at_builtin; refine Kd.R_append_rows k29 (w0 := w) w.heap.size rfl (.const (.slice none 0 0)) (.tmp 46) 22 29 (.agg #[(.string ⟨#[]⟩), (.int .u64 0), (.int .i64 0), (.string ⟨#[]⟩)]) 48 rfl Try.underlying22 info29 rfl (by decide) (by omega) (.slice none 0 0) ([] : List (S29)) y116 _ _ _ (fun _ => True) (fun _ => False) rfl rfl ?aO ?aR (fun _ _ h => h) (fun _ h => h.elim) ?aF ?aB ?aS ?aL ?_; (case aR => (try (change Kd.C k29 _ _ _ _)); repeat (first | exact (Kd.C_below HR119.out HB.out) | (with_reducible refine Kd.C_alloc ?_ _) | (with_reducible refine Kd.C_drewN ?_ _) | (with_reducible refine Kd.C_drew ?_))); (case aB => exact (by repeat (first | (with_reducible first | exact HB.out | apply below_alloc | apply pw_below_drewN | apply below_drew1) | exact HB.out))); (case aF => exact (fun _ _ => trivial)); (case aO => exact ((Kd.R_nil _ _ _ _ (fun _ => True)))); (case aS => exact (below_size (by repeat (first | (with_reducible first | exact HB.out | apply below_alloc | apply pw_below_drewN | apply below_drew1) | exact HB.out)))); (case aL => have := LMc8.out; omega); intro v121 w11 ho hb hg hat; rw [← Ny120.out] at ho; have n0_ := Aside0.mk (Kd.S_after (Kd.S_apart_nil (by (with_reducible repeat (first | apply Kd.S_alloc | apply Kd.S_drewN | apply Kd.S_drew)); exact HO_5.out)) hg hat); have n1_ := Aside0.mk (hb); have n2_ := Aside0.mk (ho); clear HO_5; clear HB; have HO_5 := n0_; have HB := n1_; have HO122 := n2_; clear n0_ n1_ n2_; clear ho hb hg hat; obtain ⟨Ao13, co13, eo13⟩ := Kd.R_slice HO122.out; subst eo13) | ((with_reducible refine gate_builtin (b := .append) (xs := #[.tmp 41, .tmp 48]) rfl ?_); (try (refine gate_guard (by rfl) ?_; dsimp only)); at_builtin; refine Kd.S_append (Kd.slice 29 k29) (w0 := w) w.heap.size rfl (.tmp 41) (.tmp 48) 25 22 (.slice none 0 0) 24 rfl Try.underlying25 info22 rfl (by decide) (by omega) u5 x5_1 y120 [.slice Ao13 y120.length co13] (fun _ => True) (fun k_ => some k_ = (.slice Ao13 y120.length co13 : Value).ownBlock) rfl rfl ?aP (fun k_ hk_ => ((Kd.R_mono (ok' := fun k_ => ((fun _ => True)) k_ ∧ some k_ ≠ (u5 : Value).ownBlock) (Kd.R_apart' (HO122.out) (Kd.S_typed HO_5.out) (by decide)) (fun k_ hk => ⟨trivial, hk.2⟩))).1 k_ hk_.symm) ?aF ?aO ?aB ?aS ?aL ?_; (case aP => exact Kd.M_row (Kd.R_mono (Kd.R_tight rfl (Kd.R_mono (ok' := fun k_ => ((fun _ => True)) k_ ∧ some k_ ≠ (u5 : Value).ownBlock) (Kd.R_apart' (HO122.out) (Kd.S_typed HO_5.out) (by decide)) (fun k_ hk => ⟨trivial, hk.2⟩))) (fun _ h_ => h_))); (case aB => exact (by repeat (first | (with_reducible first | exact HB.out | apply below_alloc | apply pw_below_drewN | apply below_drew1) | exact HB.out))); (case aF => exact (fun _ _ => trivial)); (case aO => exact (by (with_reducible repeat (first | apply Kd.S_alloc | apply Kd.S_drewN | apply Kd.S_drew)); exact Kd.S_mono HO_5.out (fun k_ hk => ⟨trivial, fun e_ => hk.2 e_⟩))); (case aS => exact (below_size (by repeat (first | (with_reducible first | exact HB.out | apply below_alloc | apply pw_below_drewN | apply below_drew1) | exact HB.out)))); (case aL => have := LMc9.out; omega); intro v124 w12 ho hb hg hat; rw [← Ny123.out] at ho; have n0_ := Aside0.mk (hb); have n1_ := Aside0.mk (ho); clear HB; clear HO_5; clear HO122; have HB := n0_; have HO125 := n1_; clear n0_ n1_; clear ho hb hg hat))
                    repeat (go_quiet (first | ((with_reducible refine gate_builtin (b := .append) (xs := #[.const (.slice none 0 0), .tmp 46]) rfl ?_); (try (refine gate_guard (by rfl) ?_; dsimp only)); at_builtin; refine Kd.R_append_rows k29 (w0 := w) w.heap.size rfl (.const (.slice none 0 0)) (.tmp 46) 22 29 (.agg #[(.string ⟨#[]⟩), (.int .u64 0), (.int .i64 0), (.string ⟨#[]⟩)]) 48 rfl Try.underlying22 info29 rfl (by decide) (by omega) (.slice none 0 0) ([] : List (S29)) y116 _ _ _ (fun _ => True) (fun _ => False) rfl rfl ?aO ?aR (fun _ _ h => h) (fun _ h => h.elim) ?aF ?aB ?aS ?aL ?_; (case aR => (try (change Kd.C k29 _ _ _ _)); repeat (first | exact (Kd.C_below HR119.out HB.out) | (with_reducible refine Kd.C_alloc ?_ _) | (with_reducible refine Kd.C_drewN ?_ _) | (with_reducible refine Kd.C_drew ?_))); (case aB => exact (by repeat (first | (with_reducible first | exact HB.out | apply below_alloc | apply pw_below_drewN | apply below_drew1) | exact HB.out))); (case aF => exact (fun _ _ => trivial)); (case aO => exact ((Kd.R_nil _ _ _ _ (fun _ => True)))); (case aS => exact (below_size (by repeat (first | (with_reducible first | exact HB.out | apply below_alloc | apply pw_below_drewN | apply below_drew1) | exact HB.out)))); (case aL => have := LMc8.out; omega); intro v121 w11 ho hb hg hat; rw [← Ny120.out] at ho; have n0_ := Aside0.mk (Kd.S_after (Kd.S_apart_nil (by (with_reducible repeat (first | apply Kd.S_alloc | apply Kd.S_drewN | apply Kd.S_drew)); exact HO_5.out)) hg hat); have n1_ := Aside0.mk (hb); have n2_ := Aside0.mk (ho); clear HO_5; clear HB; have HO_5 := n0_; have HB := n1_; have HO122 := n2_; clear n0_ n1_ n2_; clear ho hb hg hat; obtain ⟨Ao13, co13, eo13⟩ := Kd.R_slice HO122.out; subst eo13) | ((with_reducible refine gate_builtin (b := .append) (xs := #[.tmp 41, .tmp 48]) rfl ?_); (try (refine gate_guard (by rfl) ?_; dsimp only)); at_builtin; refine Kd.S_append (Kd.slice 29 k29) (w0 := w) w.heap.size rfl (.tmp 41) (.tmp 48) 25 22 (.slice none 0 0) 24 rfl Try.underlying25 info22 rfl (by decide) (by omega) u5 x5_1 y120 [.slice Ao13 y120.length co13] (fun _ => True) (fun k_ => some k_ = (.slice Ao13 y120.length co13 : Value).ownBlock) rfl rfl ?aP (fun k_ hk_ => ((Kd.R_mono (ok' := fun k_ => ((fun _ => True)) k_ ∧ some k_ ≠ (u5 : Value).ownBlock) (Kd.R_apart' (HO122.out) (Kd.S_typed HO_5.out) (by decide)) (fun k_ hk => ⟨trivial, hk.2⟩))).1 k_ hk_.symm) ?aF ?aO ?aB ?aS ?aL ?_; (case aP => exact Kd.M_row (Kd.R_mono (Kd.R_tight rfl (Kd.R_mono (ok' := fun k_ => ((fun _ => True)) k_ ∧ some k_ ≠ (u5 : Value).ownBlock) (Kd.R_apart' (HO122.out) (Kd.S_typed HO_5.out) (by decide)) (fun k_ hk => ⟨trivial, hk.2⟩))) (fun _ h_ => h_))); (case aB => exact (by repeat (first | (with_reducible first | exact HB.out | apply below_alloc | apply pw_below_drewN | apply below_drew1) | exact HB.out))); (case aF => exact (fun _ _ => trivial)); (case aO => exact (by (with_reducible repeat (first | apply Kd.S_alloc | apply Kd.S_drewN | apply Kd.S_drew)); exact Kd.S_mono HO_5.out (fun k_ hk => ⟨trivial, fun e_ => hk.2 e_⟩))); (case aS => exact (below_size (by repeat (first | (with_reducible first | exact HB.out | apply below_alloc | apply pw_below_drewN | apply below_drew1) | exact HB.out)))); (case aL => have := LMc9.out; omega); intro v124 w12 ho hb hg hat; rw [← Ny123.out] at ho; have n0_ := Aside0.mk (hb); have n1_ := Aside0.mk (ho); clear HB; clear HO_5; clear HO122; have HB := n0_; have HO125 := n1_; clear n0_ n1_; clear ho hb hg hat)); try go_wp2_with (first | ((with_reducible refine gate_builtin (b := .append) (xs := #[.const (.slice none 0 0), .tmp 46]) rfl ?_); (try (refine gate_guard (by rfl) ?_; dsimp only)); at_builtin; refine Kd.R_append_rows k29 (w0 := w) w.heap.size rfl (.const (.slice none 0 0)) (.tmp 46) 22 29 (.agg #[(.string ⟨#[]⟩), (.int .u64 0), (.int .i64 0), (.string ⟨#[]⟩)]) 48 rfl Try.underlying22 info29 rfl (by decide) (by omega) (.slice none 0 0) ([] : List (S29)) y116 _ _ _ (fun _ => True) (fun _ => False) rfl rfl ?aO ?aR (fun _ _ h => h) (fun _ h => h.elim) ?aF ?aB ?aS ?aL ?_; (case aR => (try (change Kd.C k29 _ _ _ _)); repeat (first | exact (Kd.C_below HR119.out HB.out) | (with_reducible refine Kd.C_alloc ?_ _) | (with_reducible refine Kd.C_drewN ?_ _) | (with_reducible refine Kd.C_drew ?_))); (case aB => exact (by repeat (first | (with_reducible first | exact HB.out | apply below_alloc | apply pw_below_drewN | apply below_drew1) | exact HB.out))); (case aF => exact (fun _ _ => trivial)); (case aO => exact ((Kd.R_nil _ _ _ _ (fun _ => True)))); (case aS => exact (below_size (by repeat (first | (with_reducible first | exact HB.out | apply below_alloc | apply pw_below_drewN | apply below_drew1) | exact HB.out)))); (case aL => have := LMc8.out; omega); intro v121 w11 ho hb hg hat; rw [← Ny120.out] at ho; have n0_ := Aside0.mk (Kd.S_after (Kd.S_apart_nil (by (with_reducible repeat (first | apply Kd.S_alloc | apply Kd.S_drewN | apply Kd.S_drew)); exact HO_5.out)) hg hat); have n1_ := Aside0.mk (hb); have n2_ := Aside0.mk (ho); clear HO_5; clear HB; have HO_5 := n0_; have HB := n1_; have HO122 := n2_; clear n0_ n1_ n2_; clear ho hb hg hat; obtain ⟨Ao13, co13, eo13⟩ := Kd.R_slice HO122.out; subst eo13) | ((with_reducible refine gate_builtin (b := .append) (xs := #[.tmp 41, .tmp 48]) rfl ?_); (try (refine gate_guard (by rfl) ?_; dsimp only)); at_builtin; refine Kd.S_append (Kd.slice 29 k29) (w0 := w) w.heap.size rfl (.tmp 41) (.tmp 48) 25 22 (.slice none 0 0) 24 rfl Try.underlying25 info22 rfl (by decide) (by omega) u5 x5_1 y120 [.slice Ao13 y120.length co13] (fun _ => True) (fun k_ => some k_ = (.slice Ao13 y120.length co13 : Value).ownBlock) rfl rfl ?aP (fun k_ hk_ => ((Kd.R_mono (ok' := fun k_ => ((fun _ => True)) k_ ∧ some k_ ≠ (u5 : Value).ownBlock) (Kd.R_apart' (HO122.out) (Kd.S_typed HO_5.out) (by decide)) (fun k_ hk => ⟨trivial, hk.2⟩))).1 k_ hk_.symm) ?aF ?aO ?aB ?aS ?aL ?_; (case aP => exact Kd.M_row (Kd.R_mono (Kd.R_tight rfl (Kd.R_mono (ok' := fun k_ => ((fun _ => True)) k_ ∧ some k_ ≠ (u5 : Value).ownBlock) (Kd.R_apart' (HO122.out) (Kd.S_typed HO_5.out) (by decide)) (fun k_ hk => ⟨trivial, hk.2⟩))) (fun _ h_ => h_))); (case aB => exact (by repeat (first | (with_reducible first | exact HB.out | apply below_alloc | apply pw_below_drewN | apply below_drew1) | exact HB.out))); (case aF => exact (fun _ _ => trivial)); (case aO => exact (by (with_reducible repeat (first | apply Kd.S_alloc | apply Kd.S_drewN | apply Kd.S_drew)); exact Kd.S_mono HO_5.out (fun k_ hk => ⟨trivial, fun e_ => hk.2 e_⟩))); (case aS => exact (below_size (by repeat (first | (with_reducible first | exact HB.out | apply below_alloc | apply pw_below_drewN | apply below_drew1) | exact HB.out)))); (case aL => have := LMc9.out; omega); intro v124 w12 ho hb hg hat; rw [← Ny123.out] at ho; have n0_ := Aside0.mk (hb); have n1_ := Aside0.mk (ho); clear HB; clear HO_5; clear HO122; have HB := n0_; have HO125 := n1_; clear n0_ n1_; clear ho hb hg hat)))
                    go_roundg k1
                    case measure => have := HK1.out; omega
                    case rel => exact ⟨(y123), (wrap64 (x10_1 + 1)), (wrap64 (x10_1 + 1)), (by first | rfl | (simp; done) | (simp [*]; done)), (by first | rfl | (simp; done) | (simp [*]; done)), H', ⟨by have := HK1.out; omega⟩, ⟨by (with_reducible repeat (first | apply Kd.S_alloc | apply Kd.S_drewN | apply Kd.S_drew)); exact HO125.out⟩, ⟨by repeat (first | (with_reducible first | exact HB.out | apply below_alloc | apply pw_below_drewN | apply below_drew1) | exact HB.out)⟩⟩
                  · rw [if_neg c9] at H
                    exact absurd H (by simp)
                · rw [if_neg c8] at H
                  exact absurd H (by simp)
              · rw [if_neg c7] at H
                exact absurd H (by simp)
            · rw [if_neg c6] at H
              exact absurd H (by simp)
          · rw [if_neg c5] at H
            exact absurd H (by simp)
        · rw [if_neg c4] at H
          have c4b0 : ((wrap64 (x10_1 + 1)) == (l1.length : Int)) = false := beq_eq_false_iff_ne.mpr c4
          have c4b1 : ((wrap64 (x10_1 + 1)) != (l1.length : Int)) = true := bne_iff_ne.mpr c4
          obtain ⟨ji14, hji14⟩ : ∃ j_ : Int, (mx a0 1) = j_ := ⟨_, rfl⟩
          replace H : (if (wrap64 ((wrap64 (x10_1 + 1)) - x6_1)) ≥ (ji14) then (if 0 ≤ (wrap64 (x10_1 + 1)) then (if (wrap64 (x10_1 + 1)) < (l1.length : Int) then (if 0 ≤ x10_1 then (if x10_1 < (l1.length : Int) then (if ((rd_T29 l1 (wrap64 (x10_1 + 1))).f0).toList = ((rd_T29 l1 x10_1).f0).toList then (merge_Cut.l0 k1 a0 l1 x5_1 x6_1 (l1.length : Int) (wrap64 (x10_1 + 1))) else (if 0 ≤ x6_1 then (if x6_1 ≤ (wrap64 (x10_1 + 1)) then (if (wrap64 (x10_1 + 1)) ≤ (l1.length : Int) then ((some ((l1.take ((wrap64 (x10_1 + 1)) : Int).toNat).drop (x6_1 : Int).toNat : List (S29))).bind fun y128 => (if ([] : List (S29)).length + y128.length < 2932031007402 then (if x5_1.length < 5864062014805 then (merge_Cut.l0 k1 a0 l1 (x5_1 ++ [(([] : List (S29)) ++ y128)]) (wrap64 (x10_1 + 1)) (l1.length : Int) (wrap64 (x10_1 + 1))) else (none)) else (none))) else (none)) else (none)) else (none))) else (none)) else (none)) else (none)) else (none)) else (merge_Cut.l0 k1 a0 l1 x5_1 x6_1 (l1.length : Int) (wrap64 (x10_1 + 1)))) = some r := by first | (rw [hji14] at H; exact H) | (simp only [hji14] at H ⊢; exact H)
          have hji14_ : (if a0 < 1 then 1 else a0) = ji14 := hji14
          by_cases c15 : (wrap64 ((wrap64 (x10_1 + 1)) - x6_1)) ≥ (ji14)
          · rw [if_pos c15] at H
            have c15b0 : decide ((ji14) ≤ (wrap64 ((wrap64 (x10_1 + 1)) - x6_1))) = true := decide_eq_true c15
            clear c15
            obtain ⟨ji16, hji16⟩ : ∃ j_ : Int, (wrap64 (x10_1 + 1)) = j_ := ⟨_, rfl⟩
            replace H : (if 0 ≤ (ji16) then (if (ji16) < (l1.length : Int) then (if 0 ≤ x10_1 then (if x10_1 < (l1.length : Int) then (if ((rd_T29 l1 (ji16)).f0).toList = ((rd_T29 l1 x10_1).f0).toList then (merge_Cut.l0 k1 a0 l1 x5_1 x6_1 (l1.length : Int) ji16) else (if 0 ≤ x6_1 then (if x6_1 ≤ (ji16) then (if (ji16) ≤ (l1.length : Int) then ((some ((l1.take ((ji16) : Int).toNat).drop (x6_1 : Int).toNat : List (S29))).bind fun y128 => (if ([] : List (S29)).length + y128.length < 2932031007402 then (if x5_1.length < 5864062014805 then (merge_Cut.l0 k1 a0 l1 (x5_1 ++ [(([] : List (S29)) ++ y128)]) ji16 (l1.length : Int) ji16) else (none)) else (none))) else (none)) else (none)) else (none))) else (none)) else (none)) else (none)) else (none)) = some r := by first | (rw [hji16] at H; exact H) | (simp only [hji16] at H ⊢; exact H)
            (try rw [hji16] at c4b0)
            (try rw [hji16] at c4b1)
            (try rw [hji16] at c15b0)
            have hji16w : (IntKind.i64.wrap (x10_1 + 1)) = ji16 := (i64_w _).trans hji16
            by_cases c17 : 0 ≤ (ji16)
            · rw [if_pos c17] at H
              have c17b0 : decide (0 ≤ (ji16)) = true := decide_eq_true c17
              clear c17
              by_cases c18 : (ji16) < (l1.length : Int)
              · rw [if_pos c18] at H
                have c18b0 : decide ((ji16) < (l1.length : Int)) = true := decide_eq_true c18
                clear c18
                by_cases c19 : 0 ≤ x10_1
                · rw [if_pos c19] at H
                  have c19b0 : decide (0 ≤ x10_1) = true := decide_eq_true c19
                  clear c19
                  by_cases c20 : x10_1 < (l1.length : Int)
                  · rw [if_pos c20] at H
                    have c20b0 : decide (x10_1 < (l1.length : Int)) = true := decide_eq_true c20
                    clear c20
                    by_cases c21 : ((rd_T29 l1 (ji16)).f0).toList = ((rd_T29 l1 x10_1).f0).toList
                    · rw [if_pos c21] at H
                      have c21b0 : (((rd_T29 l1 (ji16)).f0).toList == ((rd_T29 l1 x10_1).f0).toList) = true := beq_iff_eq.mpr c21
                      have c21b1 : (((rd_T29 l1 (ji16)).f0).toList != ((rd_T29 l1 x10_1).f0).toList) = false := bne_eq_false_iff_eq.mpr c21
                      clear c21
                      have H' := Aside0.mk H
                      clear H
                      have p126 : 0 ≤ ((ji16) : Int) := of_decide_eq_true (by first | (with_reducible assumption) | assumption)
                      have q126 : (ji16) < (l1.length : Int) := of_decide_eq_true (by first | (with_reducible assumption) | assumption)
                      obtain ⟨ad126, e126, hx126_0, hx126_1, hx126_2, hx126_3⟩ := at_T29 HR1.out (ji16) p126 q126
                      cases e126
                      replace hx126_0 := (HB.out.cell (World.block_lt_of_cell? w _ hx126_0)).trans hx126_0
                      replace hx126_1 := (HB.out.cell (World.block_lt_of_cell? w _ hx126_1)).trans hx126_1
                      replace hx126_2 := (HB.out.cell (World.block_lt_of_cell? w _ hx126_2)).trans hx126_2
                      replace hx126_3 := (HB.out.cell (World.block_lt_of_cell? w _ hx126_3)).trans hx126_3
                      replace p126 := eq_true p126
                      replace q126 := eq_true q126
                      have p127 : 0 ≤ (x10_1 : Int) := of_decide_eq_true (by first | (with_reducible assumption) | assumption)
                      have q127 : x10_1 < (l1.length : Int) := of_decide_eq_true (by first | (with_reducible assumption) | assumption)
                      obtain ⟨ad127, e127, hx127_0, hx127_1, hx127_2, hx127_3⟩ := at_T29 HR1.out x10_1 p127 q127
                      obtain rfl : ad126 = ad127 := (by injection e127)
                      replace hx127_0 := (HB.out.cell (World.block_lt_of_cell? w _ hx127_0)).trans hx127_0
                      replace hx127_1 := (HB.out.cell (World.block_lt_of_cell? w _ hx127_1)).trans hx127_1
                      replace hx127_2 := (HB.out.cell (World.block_lt_of_cell? w _ hx127_2)).trans hx127_2
                      replace hx127_3 := (HB.out.cell (World.block_lt_of_cell? w _ hx127_3)).trans hx127_3
                      replace p127 := eq_true p127
                      replace q127 := eq_true q127
                      go_wp2
                      repeat (go_quiet (fail); try go_wp2)
                      go_roundg k1
                      case measure => have := HK1.out; omega
                      case rel => exact ⟨(x5_1), (x6_1), (ji16), (by first | rfl | (simp; done) | (simp [*]; done)), (by first | rfl | (simp; done) | (simp only [← hji16] <;> (first | rfl | simp)) | (simp [*]; done)), H', ⟨by have := HK1.out; omega⟩, ⟨by (with_reducible repeat (first | apply Kd.S_alloc | apply Kd.S_drewN | apply Kd.S_drew)); exact HO_5.out⟩, ⟨by repeat (first | (with_reducible first | exact HB.out | apply below_alloc | apply pw_below_drewN | apply below_drew1) | exact HB.out)⟩⟩
                    · rw [if_neg c21] at H
                      have c21b0 : (((rd_T29 l1 (ji16)).f0).toList == ((rd_T29 l1 x10_1).f0).toList) = false := beq_eq_false_iff_ne.mpr c21
                      have c21b1 : (((rd_T29 l1 (ji16)).f0).toList != ((rd_T29 l1 x10_1).f0).toList) = true := bne_iff_ne.mpr c21
                      by_cases c22 : 0 ≤ x6_1
                      · rw [if_pos c22] at H
                        have c22b0 := eq_true c22
                        have c22b1 : decide (0 ≤ x6_1) = true := decide_eq_true c22
                        clear c22
                        by_cases c23 : x6_1 ≤ (ji16)
                        · rw [if_pos c23] at H
                          have c23b0 := eq_true c23
                          have c23b1 : decide (x6_1 ≤ (ji16)) = true := decide_eq_true c23
                          clear c23
                          by_cases c24 : (ji16) ≤ (l1.length : Int)
                          · rw [if_pos c24] at H
                            have c24b0 := eq_true c24
                            have c24b1 : decide ((ji16) ≤ (l1.length : Int)) = true := decide_eq_true c24
                            clear c24
                            obtain ⟨y128, hy128⟩ : ∃ y_ : List (S29), y_ = ((l1.take ((ji16) : Int).toNat).drop (x6_1 : Int).toNat) := ⟨_, rfl⟩
                            replace H : (if ([] : List (S29)).length + y128.length < 2932031007402 then (if x5_1.length < 5864062014805 then (merge_Cut.l0 k1 a0 l1 (x5_1 ++ [(([] : List (S29)) ++ y128)]) ji16 (l1.length : Int) ji16) else (none)) else (none)) = some r := by first | (rw [hy128]; with_reducible exact H) | (have H2_ := (Option.bind_some _ _).symm.trans H; rw [hy128]; with_reducible exact H2_) | (have H2_ := (Option.bind_some _ _).symm.trans H; with_reducible exact H2_) | with_reducible exact H | (rw [hy128]; exact H) | exact H
                            have Ny128 := Aside0.mk hy128
                            clear hy128
                            by_cases c25 : ([] : List (S29)).length + y128.length < 2932031007402
                            · rw [if_pos c25] at H
                              have LMc25 := Aside0.mk c25
                              clear c25
                              obtain ⟨y132, hy132⟩ : ∃ y_ : List (S29), y_ = (([] : List (S29)) ++ y128) := ⟨_, rfl⟩
                              replace H : (if x5_1.length < 5864062014805 then (merge_Cut.l0 k1 a0 l1 (x5_1 ++ [y132]) ji16 (l1.length : Int) ji16) else (none)) = some r := by first | (rw [hy132]; with_reducible exact H) | (have H2_ := (Option.bind_some _ _).symm.trans H; rw [hy132]; with_reducible exact H2_) | (have H2_ := (Option.bind_some _ _).symm.trans H; with_reducible exact H2_) | with_reducible exact H | (rw [hy132]; exact H) | exact H
                              have Ny132 := Aside0.mk hy132
                              clear hy132
                              by_cases c26 : x5_1.length < 5864062014805
                              · rw [if_pos c26] at H
                                have LMc26 := Aside0.mk c26
                                clear c26
                                obtain ⟨y135, hy135⟩ : ∃ y_ : List (List (S29)), y_ = (x5_1 ++ [y132]) := ⟨_, rfl⟩
                                replace H : (merge_Cut.l0 k1 a0 l1 y135 ji16 (l1.length : Int) ji16) = some r := by first | (rw [hy135]; with_reducible exact H) | (have H2_ := (Option.bind_some _ _).symm.trans H; rw [hy135]; with_reducible exact H2_) | (have H2_ := (Option.bind_some _ _).symm.trans H; with_reducible exact H2_) | with_reducible exact H | (rw [hy135]; exact H) | exact H
                                have Ny135 := Aside0.mk hy135
                                clear hy135
                                have H' := Aside0.mk H
                                clear H
                                have p126 : 0 ≤ ((ji16) : Int) := of_decide_eq_true (by first | (with_reducible assumption) | assumption)
                                have q126 : (ji16) < (l1.length : Int) := of_decide_eq_true (by first | (with_reducible assumption) | assumption)
                                obtain ⟨ad126, e126, hx126_0, hx126_1, hx126_2, hx126_3⟩ := at_T29 HR1.out (ji16) p126 q126
                                cases e126
                                replace hx126_0 := (HB.out.cell (World.block_lt_of_cell? w _ hx126_0)).trans hx126_0
                                replace hx126_1 := (HB.out.cell (World.block_lt_of_cell? w _ hx126_1)).trans hx126_1
                                replace hx126_2 := (HB.out.cell (World.block_lt_of_cell? w _ hx126_2)).trans hx126_2
                                replace hx126_3 := (HB.out.cell (World.block_lt_of_cell? w _ hx126_3)).trans hx126_3
                                replace p126 := eq_true p126
                                replace q126 := eq_true q126
                                have p127 : 0 ≤ (x10_1 : Int) := of_decide_eq_true (by first | (with_reducible assumption) | assumption)
                                have q127 : x10_1 < (l1.length : Int) := of_decide_eq_true (by first | (with_reducible assumption) | assumption)
                                obtain ⟨ad127, e127, hx127_0, hx127_1, hx127_2, hx127_3⟩ := at_T29 HR1.out x10_1 p127 q127
                                obtain rfl : ad126 = ad127 := (by injection e127)
                                replace hx127_0 := (HB.out.cell (World.block_lt_of_cell? w _ hx127_0)).trans hx127_0
                                replace hx127_1 := (HB.out.cell (World.block_lt_of_cell? w _ hx127_1)).trans hx127_1
                                replace hx127_2 := (HB.out.cell (World.block_lt_of_cell? w _ hx127_2)).trans hx127_2
                                replace hx127_3 := (HB.out.cell (World.block_lt_of_cell? w _ hx127_3)).trans hx127_3
                                replace p127 := eq_true p127
                                replace q127 := eq_true q127
                                have q27 : ((ji16) : Int) ≤ ((l1.length : Int) : Int) := of_decide_eq_true (by first | (with_reducible assumption) | assumption)
                                obtain ⟨i027, hi027, _, hsz27, _⟩ := info_parts info29
                                have hroom27 : l1.length ≤ c1 := HC1.out
                                have hC27 : Kd.C k29 _ (some ad126) l1.length l1 := HR1.out
                                have ql27 : (x6_1 : Int) ≤ ((ji16) : Int) := of_decide_eq_true (by first | (with_reducible assumption) | assumption)
                                have q027 : (0 : Int) ≤ (x6_1 : Int) := of_decide_eq_true (by first | (with_reducible assumption) | assumption)
                                have hcut27 := cut_mid (P := Try.prog) 22 29 .i64 .i64 Try.underlying22 hi027 4 hsz27 (some ad126) l1.length c1 x6_1 (ji16) q027 ql27 q27 hroom27
                                have hr27 := Kd.C_mid (lo := (x6_1 : Int).toNat) (hi := ((ji16) : Int).toNat) (c := c1) hC27 (by omega) (by omega) hroom27
                                obtain ⟨A27, hA27⟩ : ∃ A1_, A1_ = (if c1 = (x6_1 : Int).toNat then (some ad126) else ((some ad126) : Option Addr).map (·.add ((x6_1 : Int).toNat * 4))) := ⟨_, rfl⟩
                                obtain ⟨c27, hc27⟩ : ∃ c1_, c1_ = c1 - (x6_1 : Int).toNat := ⟨_, rfl⟩
                                have hy27 : y128.length = ((ji16) : Int).toNat - (x6_1 : Int).toNat := (by rw [Ny128.out, List.length_drop, List.length_take] <;> omega)
                                rw [show ((l1).take ((ji16) : Int).toNat).drop (x6_1 : Int).toNat = y128 from Ny128.out.symm] at hr27
                                replace hr27 : Kd.C k29 _ A27 y128.length y128 := (by rw [hA27]; exact hr27)
                                rw [← hy27, ← hA27, ← hc27] at hcut27
                                have HR131 := Aside0.mk hr27
                                have HC131 := Aside0.mk (show y128.length ≤ c27 from by rw [hy27, hc27]; exact Nat.sub_le_sub_right (Nat.le_trans (by omega) hroom27) _)
                                clear hr27 hC27 hroom27 hi027 hsz27 hc27
                                have KY27 := Aside0.mk hy27
                                have KA27 := Aside0.mk hA27
                                clear hy27 hA27
                                replace q27 := eq_true q27
                                go_wp2_with (first | ((with_reducible refine gate_builtin (b := .append) (xs := #[.const (.slice none 0 0), .tmp 46]) rfl ?_); (try (refine gate_guard (by rfl) ?_; dsimp only)); at_builtin; refine Kd.R_append_rows k29 (w0 := w) w.heap.size rfl (.const (.slice none 0 0)) (.tmp 46) 22 29 (.agg #[(.string ⟨#[]⟩), (.int .u64 0), (.int .i64 0), (.string ⟨#[]⟩)]) 48 rfl Try.underlying22 info29 rfl (by decide) (by omega) (.slice none 0 0) ([] : List (S29)) y128 _ _ _ (fun _ => True) (fun _ => False) rfl rfl ?aO ?aR (fun _ _ h => h) (fun _ h => h.elim) ?aF ?aB ?aS ?aL ?_; (case aR => (try (change Kd.C k29 _ _ _ _)); repeat (first | exact (Kd.C_below HR131.out HB.out) | (with_reducible refine Kd.C_alloc ?_ _) | (with_reducible refine Kd.C_drewN ?_ _) | (with_reducible refine Kd.C_drew ?_))); (case aB => exact (by repeat (first | (with_reducible first | exact HB.out | apply below_alloc | apply pw_below_drewN | apply below_drew1) | exact HB.out))); (case aF => exact (fun _ _ => trivial)); (case aO => exact ((Kd.R_nil _ _ _ _ (fun _ => True)))); (case aS => exact (below_size (by repeat (first | (with_reducible first | exact HB.out | apply below_alloc | apply pw_below_drewN | apply below_drew1) | exact HB.out)))); (case aL => have := LMc25.out; omega); intro v133 w28 ho hb hg hat; rw [← Ny132.out] at ho; have n0_ := Aside0.mk (Kd.S_after (Kd.S_apart_nil (by (with_reducible repeat (first | apply Kd.S_alloc | apply Kd.S_drewN | apply Kd.S_drew)); exact HO_5.out)) hg hat); have n1_ := Aside0.mk (hb); have n2_ := Aside0.mk (ho); clear HO_5; clear HB; have HO_5 := n0_; have HB := n1_; have HO134 := n2_; clear n0_ n1_ n2_; clear ho hb hg hat; obtain ⟨Ao30, co30, eo30⟩ := Kd.R_slice HO134.out; subst eo30) | ((with_reducible refine gate_builtin (b := .append) (xs := #[.tmp 41, .tmp 48]) rfl ?_); (try (refine gate_guard (by rfl) ?_; dsimp only)); at_builtin; refine Kd.S_append (Kd.slice 29 k29) (w0 := w) w.heap.size rfl (.tmp 41) (.tmp 48) 25 22 (.slice none 0 0) 24 rfl Try.underlying25 info22 rfl (by decide) (by omega) u5 x5_1 y132 [.slice Ao30 y132.length co30] (fun _ => True) (fun k_ => some k_ = (.slice Ao30 y132.length co30 : Value).ownBlock) rfl rfl ?aP (fun k_ hk_ => ((Kd.R_mono (ok' := fun k_ => ((fun _ => True)) k_ ∧ some k_ ≠ (u5 : Value).ownBlock) (Kd.R_apart' (HO134.out) (Kd.S_typed HO_5.out) (by decide)) (fun k_ hk => ⟨trivial, hk.2⟩))).1 k_ hk_.symm) ?aF ?aO ?aB ?aS ?aL ?_; (case aP => exact Kd.M_row (Kd.R_mono (Kd.R_tight rfl (Kd.R_mono (ok' := fun k_ => ((fun _ => True)) k_ ∧ some k_ ≠ (u5 : Value).ownBlock) (Kd.R_apart' (HO134.out) (Kd.S_typed HO_5.out) (by decide)) (fun k_ hk => ⟨trivial, hk.2⟩))) (fun _ h_ => h_))); (case aB => exact (by repeat (first | (with_reducible first | exact HB.out | apply below_alloc | apply pw_below_drewN | apply below_drew1) | exact HB.out))); (case aF => exact (fun _ _ => trivial)); (case aO => exact (by (with_reducible repeat (first | apply Kd.S_alloc | apply Kd.S_drewN | apply Kd.S_drew)); exact Kd.S_mono HO_5.out (fun k_ hk => ⟨trivial, fun e_ => hk.2 e_⟩))); (case aS => exact (below_size (by repeat (first | (with_reducible first | exact HB.out | apply below_alloc | apply pw_below_drewN | apply below_drew1) | exact HB.out)))); (case aL => have := LMc26.out; omega); intro v136 w29 ho hb hg hat; rw [← Ny135.out] at ho; have n0_ := Aside0.mk (hb); have n1_ := Aside0.mk (ho); clear HB; clear HO_5; clear HO134; have HB := n0_; have HO137 := n1_; clear n0_ n1_; clear ho hb hg hat))
                                repeat (go_quiet (first | ((with_reducible refine gate_builtin (b := .append) (xs := #[.const (.slice none 0 0), .tmp 46]) rfl ?_); (try (refine gate_guard (by rfl) ?_; dsimp only)); at_builtin; refine Kd.R_append_rows k29 (w0 := w) w.heap.size rfl (.const (.slice none 0 0)) (.tmp 46) 22 29 (.agg #[(.string ⟨#[]⟩), (.int .u64 0), (.int .i64 0), (.string ⟨#[]⟩)]) 48 rfl Try.underlying22 info29 rfl (by decide) (by omega) (.slice none 0 0) ([] : List (S29)) y128 _ _ _ (fun _ => True) (fun _ => False) rfl rfl ?aO ?aR (fun _ _ h => h) (fun _ h => h.elim) ?aF ?aB ?aS ?aL ?_; (case aR => (try (change Kd.C k29 _ _ _ _)); repeat (first | exact (Kd.C_below HR131.out HB.out) | (with_reducible refine Kd.C_alloc ?_ _) | (with_reducible refine Kd.C_drewN ?_ _) | (with_reducible refine Kd.C_drew ?_))); (case aB => exact (by repeat (first | (with_reducible first | exact HB.out | apply below_alloc | apply pw_below_drewN | apply below_drew1) | exact HB.out))); (case aF => exact (fun _ _ => trivial)); (case aO => exact ((Kd.R_nil _ _ _ _ (fun _ => True)))); (case aS => exact (below_size (by repeat (first | (with_reducible first | exact HB.out | apply below_alloc | apply pw_below_drewN | apply below_drew1) | exact HB.out)))); (case aL => have := LMc25.out; omega); intro v133 w28 ho hb hg hat; rw [← Ny132.out] at ho; have n0_ := Aside0.mk (Kd.S_after (Kd.S_apart_nil (by (with_reducible repeat (first | apply Kd.S_alloc | apply Kd.S_drewN | apply Kd.S_drew)); exact HO_5.out)) hg hat); have n1_ := Aside0.mk (hb); have n2_ := Aside0.mk (ho); clear HO_5; clear HB; have HO_5 := n0_; have HB := n1_; have HO134 := n2_; clear n0_ n1_ n2_; clear ho hb hg hat; obtain ⟨Ao30, co30, eo30⟩ := Kd.R_slice HO134.out; subst eo30) | ((with_reducible refine gate_builtin (b := .append) (xs := #[.tmp 41, .tmp 48]) rfl ?_); (try (refine gate_guard (by rfl) ?_; dsimp only)); at_builtin; refine Kd.S_append (Kd.slice 29 k29) (w0 := w) w.heap.size rfl (.tmp 41) (.tmp 48) 25 22 (.slice none 0 0) 24 rfl Try.underlying25 info22 rfl (by decide) (by omega) u5 x5_1 y132 [.slice Ao30 y132.length co30] (fun _ => True) (fun k_ => some k_ = (.slice Ao30 y132.length co30 : Value).ownBlock) rfl rfl ?aP (fun k_ hk_ => ((Kd.R_mono (ok' := fun k_ => ((fun _ => True)) k_ ∧ some k_ ≠ (u5 : Value).ownBlock) (Kd.R_apart' (HO134.out) (Kd.S_typed HO_5.out) (by decide)) (fun k_ hk => ⟨trivial, hk.2⟩))).1 k_ hk_.symm) ?aF ?aO ?aB ?aS ?aL ?_; (case aP => exact Kd.M_row (Kd.R_mono (Kd.R_tight rfl (Kd.R_mono (ok' := fun k_ => ((fun _ => True)) k_ ∧ some k_ ≠ (u5 : Value).ownBlock) (Kd.R_apart' (HO134.out) (Kd.S_typed HO_5.out) (by decide)) (fun k_ hk => ⟨trivial, hk.2⟩))) (fun _ h_ => h_))); (case aB => exact (by repeat (first | (with_reducible first | exact HB.out | apply below_alloc | apply pw_below_drewN | apply below_drew1) | exact HB.out))); (case aF => exact (fun _ _ => trivial)); (case aO => exact (by (with_reducible repeat (first | apply Kd.S_alloc | apply Kd.S_drewN | apply Kd.S_drew)); exact Kd.S_mono HO_5.out (fun k_ hk => ⟨trivial, fun e_ => hk.2 e_⟩))); (case aS => exact (below_size (by repeat (first | (with_reducible first | exact HB.out | apply below_alloc | apply pw_below_drewN | apply below_drew1) | exact HB.out)))); (case aL => have := LMc26.out; omega); intro v136 w29 ho hb hg hat; rw [← Ny135.out] at ho; have n0_ := Aside0.mk (hb); have n1_ := Aside0.mk (ho); clear HB; clear HO_5; clear HO134; have HB := n0_; have HO137 := n1_; clear n0_ n1_; clear ho hb hg hat)); try go_wp2_with (first | ((with_reducible refine gate_builtin (b := .append) (xs := #[.const (.slice none 0 0), .tmp 46]) rfl ?_); (try (refine gate_guard (by rfl) ?_; dsimp only)); at_builtin; refine Kd.R_append_rows k29 (w0 := w) w.heap.size rfl (.const (.slice none 0 0)) (.tmp 46) 22 29 (.agg #[(.string ⟨#[]⟩), (.int .u64 0), (.int .i64 0), (.string ⟨#[]⟩)]) 48 rfl Try.underlying22 info29 rfl (by decide) (by omega) (.slice none 0 0) ([] : List (S29)) y128 _ _ _ (fun _ => True) (fun _ => False) rfl rfl ?aO ?aR (fun _ _ h => h) (fun _ h => h.elim) ?aF ?aB ?aS ?aL ?_; (case aR => (try (change Kd.C k29 _ _ _ _)); repeat (first | exact (Kd.C_below HR131.out HB.out) | (with_reducible refine Kd.C_alloc ?_ _) | (with_reducible refine Kd.C_drewN ?_ _) | (with_reducible refine Kd.C_drew ?_))); (case aB => exact (by repeat (first | (with_reducible first | exact HB.out | apply below_alloc | apply pw_below_drewN | apply below_drew1) | exact HB.out))); (case aF => exact (fun _ _ => trivial)); (case aO => exact ((Kd.R_nil _ _ _ _ (fun _ => True)))); (case aS => exact (below_size (by repeat (first | (with_reducible first | exact HB.out | apply below_alloc | apply pw_below_drewN | apply below_drew1) | exact HB.out)))); (case aL => have := LMc25.out; omega); intro v133 w28 ho hb hg hat; rw [← Ny132.out] at ho; have n0_ := Aside0.mk (Kd.S_after (Kd.S_apart_nil (by (with_reducible repeat (first | apply Kd.S_alloc | apply Kd.S_drewN | apply Kd.S_drew)); exact HO_5.out)) hg hat); have n1_ := Aside0.mk (hb); have n2_ := Aside0.mk (ho); clear HO_5; clear HB; have HO_5 := n0_; have HB := n1_; have HO134 := n2_; clear n0_ n1_ n2_; clear ho hb hg hat; obtain ⟨Ao30, co30, eo30⟩ := Kd.R_slice HO134.out; subst eo30) | ((with_reducible refine gate_builtin (b := .append) (xs := #[.tmp 41, .tmp 48]) rfl ?_); (try (refine gate_guard (by rfl) ?_; dsimp only)); at_builtin; refine Kd.S_append (Kd.slice 29 k29) (w0 := w) w.heap.size rfl (.tmp 41) (.tmp 48) 25 22 (.slice none 0 0) 24 rfl Try.underlying25 info22 rfl (by decide) (by omega) u5 x5_1 y132 [.slice Ao30 y132.length co30] (fun _ => True) (fun k_ => some k_ = (.slice Ao30 y132.length co30 : Value).ownBlock) rfl rfl ?aP (fun k_ hk_ => ((Kd.R_mono (ok' := fun k_ => ((fun _ => True)) k_ ∧ some k_ ≠ (u5 : Value).ownBlock) (Kd.R_apart' (HO134.out) (Kd.S_typed HO_5.out) (by decide)) (fun k_ hk => ⟨trivial, hk.2⟩))).1 k_ hk_.symm) ?aF ?aO ?aB ?aS ?aL ?_; (case aP => exact Kd.M_row (Kd.R_mono (Kd.R_tight rfl (Kd.R_mono (ok' := fun k_ => ((fun _ => True)) k_ ∧ some k_ ≠ (u5 : Value).ownBlock) (Kd.R_apart' (HO134.out) (Kd.S_typed HO_5.out) (by decide)) (fun k_ hk => ⟨trivial, hk.2⟩))) (fun _ h_ => h_))); (case aB => exact (by repeat (first | (with_reducible first | exact HB.out | apply below_alloc | apply pw_below_drewN | apply below_drew1) | exact HB.out))); (case aF => exact (fun _ _ => trivial)); (case aO => exact (by (with_reducible repeat (first | apply Kd.S_alloc | apply Kd.S_drewN | apply Kd.S_drew)); exact Kd.S_mono HO_5.out (fun k_ hk => ⟨trivial, fun e_ => hk.2 e_⟩))); (case aS => exact (below_size (by repeat (first | (with_reducible first | exact HB.out | apply below_alloc | apply pw_below_drewN | apply below_drew1) | exact HB.out)))); (case aL => have := LMc26.out; omega); intro v136 w29 ho hb hg hat; rw [← Ny135.out] at ho; have n0_ := Aside0.mk (hb); have n1_ := Aside0.mk (ho); clear HB; clear HO_5; clear HO134; have HB := n0_; have HO137 := n1_; clear n0_ n1_; clear ho hb hg hat)))
                                go_roundg k1
                                case measure => have := HK1.out; omega
                                case rel => exact ⟨(y135), (ji16), (ji16), (by first | rfl | (simp; done) | (simp only [← hji16] <;> (first | rfl | simp)) | (simp [*]; done)), (by first | rfl | (simp; done) | (simp only [← hji16] <;> (first | rfl | simp)) | (simp [*]; done)), H', ⟨by have := HK1.out; omega⟩, ⟨by (with_reducible repeat (first | apply Kd.S_alloc | apply Kd.S_drewN | apply Kd.S_drew)); exact HO137.out⟩, ⟨by repeat (first | (with_reducible first | exact HB.out | apply below_alloc | apply pw_below_drewN | apply below_drew1) | exact HB.out)⟩⟩
                              · rw [if_neg c26] at H
                                exact absurd H (by simp)
                            · rw [if_neg c25] at H
                              exact absurd H (by simp)
                          · rw [if_neg c24] at H
                            exact absurd H (by simp)
                        · rw [if_neg c23] at H
                          exact absurd H (by simp)
                      · rw [if_neg c22] at H
                        exact absurd H (by simp)
                  · rw [if_neg c20] at H
                    exact absurd H (by simp)
                · rw [if_neg c19] at H
                  exact absurd H (by simp)
              · rw [if_neg c18] at H
                exact absurd H (by simp)
            · rw [if_neg c17] at H
              exact absurd H (by simp)
          · rw [if_neg c15] at H
            have c15b0 : decide ((ji14) ≤ (wrap64 ((wrap64 (x10_1 + 1)) - x6_1))) = false := decide_eq_false c15
            clear c15
            have H' := Aside0.mk H
            clear H
            go_wp2
            repeat (go_quiet (fail); try go_wp2)
            go_roundg k1
            case measure => have := HK1.out; omega
            case rel => exact ⟨(x5_1), (x6_1), (wrap64 (x10_1 + 1)), (by first | rfl | (simp; done) | (simp [*]; done)), (by first | rfl | (simp; done) | (simp [*]; done)), H', ⟨by have := HK1.out; omega⟩, ⟨by (with_reducible repeat (first | apply Kd.S_alloc | apply Kd.S_drewN | apply Kd.S_drew)); exact HO_5.out⟩, ⟨by repeat (first | (with_reducible first | exact HB.out | apply below_alloc | apply pw_below_drewN | apply below_drew1) | exact HB.out)⟩⟩
      · rw [if_neg c3] at H
        have c3b0 : decide (x10_1 < (l1.length : Int)) = false := decide_eq_false c3
        clear c3
        obtain rfl := Option.some.inj H
        go_wp2
        repeat (go_quiet (fail); try go_wp2)
        go_ret
        exact ⟨_, by first | rfl | (simp [errW_none, errW_some] <;> rfl) | (simp [*, errW_none, errW_some] <;> rfl), by (with_reducible repeat (first | apply Kd.S_alloc | apply Kd.S_drewN | apply Kd.S_drew)); exact HO_5.out, by repeat (first | (with_reducible first | exact HB.out | apply below_alloc | apply pw_below_drewN | apply below_drew1) | exact HB.out)⟩
end Go.Proofs.Ytchgpcgolgcfdaa.PNum
end
section
namespace Go.Proofs.Ytchgpcgolgcfdaa.PNum
open Go.RowKit Go.Proofs.YtchgpcgolgcfdaaW.PrintWords Go.Proofs.YtchgpcgolgcfdaaW.PrintLast Go.Proofs.YtchgpcgolgcfdaaW.PrintMore
attribute [local go_sem] max2_int min2_int max_two min_two max_three min_three max_four min_four   -- for this text's walks alone
set_option linter.unusedVariables false
set_option linter.unusedSimpArgs false
theorem eqA29 (d : Nat) (w : World) (x0 y0 : ByteArray) (x1 y1 : Int) (x2 y2 : Int) (x3 y3 : ByteArray) :
    (Op.equalIn (d + 2) 29 (.agg #[.string x0, .int .u64 x1, .int .i64 x2, .string x3]) (.agg #[.string y0, .int .u64 y1, .int .i64 y2, .string y3])).run Try.prog w = .ok (x0.toList == y0.toList && (x1 == y1 && (x2 == y2 && (x3.toList == y3.toList)))) w := by
  refine eqA_of Try.underlying29 (by kernel_rfl) ?_
  refine eqf_cons (by rfl) (by go_simp; rfl) (by go_simp; rfl) (by go_simp) ?_
  refine eqf_cons (by rfl) (by go_simp; rfl) (by go_simp; rfl) (by go_simp) ?_
  refine eqf_cons (by rfl) (by go_simp; rfl) (by go_simp; rfl) (by go_simp) ?_
  exact eqf_last (by rfl) (by go_simp; rfl) (by go_simp; rfl) (by go_simp)
end Go.Proofs.Ytchgpcgolgcfdaa.PNum
end
section
namespace Go.Proofs.Ytchgpcgolgcfdaa.PNum
open Go.RowKit Go.Proofs.YtchgpcgolgcfdaaW.PrintWords Go.Proofs.YtchgpcgolgcfdaaW.PrintLast Go.Proofs.YtchgpcgolgcfdaaW.PrintMore
attribute [local go_sem] max2_int min2_int max_two min_two max_three min_three max_four min_four   -- for this text's walks alone
set_option linter.unusedVariables false
set_option linter.unusedSimpArgs false
def merge_Latest.f (s : Int) (l0 : List (List S29)) : Option (List S37) := if Go.Proofs.Ytchgpcgolgcfdaa.Lt.fit s l0 = true then some (Go.Proofs.Ytchgpcgolgcfdaa.PuLat.lat s (Go.Proofs.YtchgpcgolgcfdaaW.PuMrg.mrg Go.Proofs.Ytchgpcgolgcfdaa.PuIkC.ce l0) []) else none
theorem merge_Latest.calls (s : Int) (A0 : Option Addr) (c0 : Nat) (l0 : List (List S29)) (r : List S37) (w : World) (hr0 : Kd.C (Kd.slice 29 k29) w A0 l0.length l0) (hc0 : l0.length ≤ c0) (h : merge_Latest.f s l0 = some r) :
    Calls Try.prog 15 #[.int .u64 s, .slice A0 l0.length c0] w fun e w' => ∃ v0_ : Value, e = .returned (v0_) ∧ Kd.R k37 37 w' w.heap.size (fun _ => True) v0_ r ∧ Below w.heap.size w w' := by
  unfold merge_Latest.f at h
  split at h
  · rename_i hg
    obtain rfl := Option.some.inj h
    exact Go.Proofs.Ytchgpcgolgcfdaa.Lt.latest_calls s A0 c0 l0 w hr0 hc0 hg
  · cases h
end Go.Proofs.Ytchgpcgolgcfdaa.PNum
end
section
namespace Go.Proofs.Ytchgpcgolgcfdaa.PNum
open Go.RowKit Go.Proofs.YtchgpcgolgcfdaaW.PrintWords Go.Proofs.YtchgpcgolgcfdaaW.PrintLast Go.Proofs.YtchgpcgolgcfdaaW.PrintMore
attribute [local go_sem] max2_int min2_int max_two min_two max_three min_three max_four min_four   -- for this text's walks alone
set_option linter.unusedVariables false
set_option linter.unusedSimpArgs false
attribute [local go_sem high] eqA29
def cornucopialaw14_alive.f (k : Nat)  : Option (Bool) := (merge_Latest.f 2 (([(([(⟨(⟨#[97]⟩ : ByteArray), 3, 1, (⟨#[]⟩ : ByteArray)⟩ : S29)] : List (S29))), (([(⟨(⟨#[97]⟩ : ByteArray), 1, 2, (⟨#[]⟩ : ByteArray)⟩ : S29), (⟨(⟨#[98]⟩ : ByteArray), 2, 1, (⟨#[]⟩ : ByteArray)⟩ : S29)] : List (S29)))] : List (List (S29))))).bind fun t147 => ((merge_Cut.f k 1 (([(⟨(⟨#[97]⟩ : ByteArray), 2, 0, (⟨#[]⟩ : ByteArray)⟩ : S29), (⟨(⟨#[97]⟩ : ByteArray), 1, 0, (⟨#[]⟩ : ByteArray)⟩ : S29), (⟨(⟨#[98]⟩ : ByteArray), 1, 0, (⟨#[]⟩ : ByteArray)⟩ : S29)] : List (S29)))).bind fun t153 => (if (t147.length : Int) = 1 then (if 0 < (t147.length : Int) then (if ((rd_T37 t147 0).f0).toList = ([98] : List UInt8) then (if (t153.length : Int) = 2 then (if 0 < (t153.length : Int) then (if ((rd_L4 t153 0).length : Int) = 2 then ((merge_All.f ([] : List (List (S29)))).bind fun t158 => (some ((t158.length : Int) == 0))) else (none)) else (none)) else (none)) else (none)) else (none)) else (none)))
theorem cornucopialaw14_alive.mono : ∀ k, LeO (cornucopialaw14_alive.f k ) (cornucopialaw14_alive.f (k + 1) ) := by
  intro  k
  unfold cornucopialaw14_alive.f
  repeat' first
      | (with_reducible exact merge_Cut.mono _ _ _)
      | (with_reducible exact LeO.refl _)
      | (with_reducible exact LeO.none _)
      | (with_reducible refine LeO.ite ?_ ?_)
      | (with_reducible refine LeO.bind ?_ (fun _ => ?_))
      | exact merge_Cut.mono _ _ _
      | exact LeO.none _
      | refine LeO.ite ?_ ?_
      | refine LeO.bind ?_ (fun _ => ?_)
set_option maxHeartbeats 8000000 in
set_option maxRecDepth 100000 in
theorem cornucopialaw14_alive.calls (k : Nat)  (r : Bool) (w : World) (h : cornucopialaw14_alive.f k  = some r) :
    Calls Try.prog 11 #[] w fun e w' => e = .returned (.bool r) ∧ Below w.heap.size w w' := by
  have hu29 := Try.underlying29
  have HB := Aside0.mk (Below.refl w.heap.size w)
  have H : ((merge_Latest.f 2 (([(([(⟨(⟨#[97]⟩ : ByteArray), 3, 1, (⟨#[]⟩ : ByteArray)⟩ : S29)] : List (S29))), (([(⟨(⟨#[97]⟩ : ByteArray), 1, 2, (⟨#[]⟩ : ByteArray)⟩ : S29), (⟨(⟨#[98]⟩ : ByteArray), 2, 1, (⟨#[]⟩ : ByteArray)⟩ : S29)] : List (S29)))] : List (List (S29))))).bind fun t147 => ((merge_Cut.f k 1 (([(⟨(⟨#[97]⟩ : ByteArray), 2, 0, (⟨#[]⟩ : ByteArray)⟩ : S29), (⟨(⟨#[97]⟩ : ByteArray), 1, 0, (⟨#[]⟩ : ByteArray)⟩ : S29), (⟨(⟨#[98]⟩ : ByteArray), 1, 0, (⟨#[]⟩ : ByteArray)⟩ : S29)] : List (S29)))).bind fun t153 => (if (t147.length : Int) = 1 then (if 0 < (t147.length : Int) then (if ((rd_T37 t147 0).f0).toList = ([98] : List UInt8) then (if (t153.length : Int) = 2 then (if 0 < (t153.length : Int) then (if ((rd_L4 t153 0).length : Int) = 2 then ((merge_All.f ([] : List (List (S29)))).bind fun t158 => (some ((t158.length : Int) == 0))) else (none)) else (none)) else (none)) else (none)) else (none)) else (none)))) = some r := h
  clear h
  obtain ⟨y138, hy138⟩ : ∃ y_ : List (S29), y_ = (([(⟨(⟨#[97]⟩ : ByteArray), 3, 1, (⟨#[]⟩ : ByteArray)⟩ : S29)] : List (S29))) := ⟨_, rfl⟩
  replace H : ((merge_Latest.f 2 (([y138, (([(⟨(⟨#[97]⟩ : ByteArray), 1, 2, (⟨#[]⟩ : ByteArray)⟩ : S29), (⟨(⟨#[98]⟩ : ByteArray), 2, 1, (⟨#[]⟩ : ByteArray)⟩ : S29)] : List (S29)))] : List (List (S29))))).bind fun t147 => ((merge_Cut.f k 1 (([(⟨(⟨#[97]⟩ : ByteArray), 2, 0, (⟨#[]⟩ : ByteArray)⟩ : S29), (⟨(⟨#[97]⟩ : ByteArray), 1, 0, (⟨#[]⟩ : ByteArray)⟩ : S29), (⟨(⟨#[98]⟩ : ByteArray), 1, 0, (⟨#[]⟩ : ByteArray)⟩ : S29)] : List (S29)))).bind fun t153 => (if (t147.length : Int) = 1 then (if 0 < (t147.length : Int) then (if ((rd_T37 t147 0).f0).toList = ([98] : List UInt8) then (if (t153.length : Int) = 2 then (if 0 < (t153.length : Int) then (if ((rd_L4 t153 0).length : Int) = 2 then ((merge_All.f ([] : List (List (S29)))).bind fun t158 => (some ((t158.length : Int) == 0))) else (none)) else (none)) else (none)) else (none)) else (none)) else (none)))) = some r := by first | (rw [hy138]; with_reducible exact H) | (have H2_ := (Option.bind_some _ _).symm.trans H; rw [hy138]; with_reducible exact H2_) | (have H2_ := (Option.bind_some _ _).symm.trans H; with_reducible exact H2_) | with_reducible exact H | (rw [hy138]; exact H) | exact H
  have Ny138 := Aside0.mk hy138
  clear hy138
  obtain ⟨y141, hy141⟩ : ∃ y_ : List (S29), y_ = (([(⟨(⟨#[97]⟩ : ByteArray), 1, 2, (⟨#[]⟩ : ByteArray)⟩ : S29), (⟨(⟨#[98]⟩ : ByteArray), 2, 1, (⟨#[]⟩ : ByteArray)⟩ : S29)] : List (S29))) := ⟨_, rfl⟩
  replace H : ((merge_Latest.f 2 (([y138, y141] : List (List (S29))))).bind fun t147 => ((merge_Cut.f k 1 (([(⟨(⟨#[97]⟩ : ByteArray), 2, 0, (⟨#[]⟩ : ByteArray)⟩ : S29), (⟨(⟨#[97]⟩ : ByteArray), 1, 0, (⟨#[]⟩ : ByteArray)⟩ : S29), (⟨(⟨#[98]⟩ : ByteArray), 1, 0, (⟨#[]⟩ : ByteArray)⟩ : S29)] : List (S29)))).bind fun t153 => (if (t147.length : Int) = 1 then (if 0 < (t147.length : Int) then (if ((rd_T37 t147 0).f0).toList = ([98] : List UInt8) then (if (t153.length : Int) = 2 then (if 0 < (t153.length : Int) then (if ((rd_L4 t153 0).length : Int) = 2 then ((merge_All.f ([] : List (List (S29)))).bind fun t158 => (some ((t158.length : Int) == 0))) else (none)) else (none)) else (none)) else (none)) else (none)) else (none)))) = some r := by first | (rw [hy141]; with_reducible exact H) | (have H2_ := (Option.bind_some _ _).symm.trans H; rw [hy141]; with_reducible exact H2_) | (have H2_ := (Option.bind_some _ _).symm.trans H; with_reducible exact H2_) | with_reducible exact H | (rw [hy141]; exact H) | exact H
  have Ny141 := Aside0.mk hy141
  clear hy141
  obtain ⟨y144, hy144⟩ : ∃ y_ : List (List (S29)), y_ = (([y138, y141] : List (List (S29)))) := ⟨_, rfl⟩
  replace H : ((merge_Latest.f 2 y144).bind fun t147 => ((merge_Cut.f k 1 (([(⟨(⟨#[97]⟩ : ByteArray), 2, 0, (⟨#[]⟩ : ByteArray)⟩ : S29), (⟨(⟨#[97]⟩ : ByteArray), 1, 0, (⟨#[]⟩ : ByteArray)⟩ : S29), (⟨(⟨#[98]⟩ : ByteArray), 1, 0, (⟨#[]⟩ : ByteArray)⟩ : S29)] : List (S29)))).bind fun t153 => (if (t147.length : Int) = 1 then (if 0 < (t147.length : Int) then (if ((rd_T37 t147 0).f0).toList = ([98] : List UInt8) then (if (t153.length : Int) = 2 then (if 0 < (t153.length : Int) then (if ((rd_L4 t153 0).length : Int) = 2 then ((merge_All.f ([] : List (List (S29)))).bind fun t158 => (some ((t158.length : Int) == 0))) else (none)) else (none)) else (none)) else (none)) else (none)) else (none)))) = some r := by first | (rw [hy144]; with_reducible exact H) | (have H2_ := (Option.bind_some _ _).symm.trans H; rw [hy144]; with_reducible exact H2_) | (have H2_ := (Option.bind_some _ _).symm.trans H; with_reducible exact H2_) | with_reducible exact H | (rw [hy144]; exact H) | exact H
  have Ny144 := Aside0.mk hy144
  clear hy144
  replace H := Option.bind_eq_some_iff.mp H
  obtain ⟨t147, A10, H⟩ := H
  replace H : ((merge_Cut.f k 1 (([(⟨(⟨#[97]⟩ : ByteArray), 2, 0, (⟨#[]⟩ : ByteArray)⟩ : S29), (⟨(⟨#[97]⟩ : ByteArray), 1, 0, (⟨#[]⟩ : ByteArray)⟩ : S29), (⟨(⟨#[98]⟩ : ByteArray), 1, 0, (⟨#[]⟩ : ByteArray)⟩ : S29)] : List (S29)))).bind fun t153 => (if (t147.length : Int) = 1 then (if 0 < (t147.length : Int) then (if ((rd_T37 t147 0).f0).toList = ([98] : List UInt8) then (if (t153.length : Int) = 2 then (if 0 < (t153.length : Int) then (if ((rd_L4 t153 0).length : Int) = 2 then ((merge_All.f ([] : List (List (S29)))).bind fun t158 => (some ((t158.length : Int) == 0))) else (none)) else (none)) else (none)) else (none)) else (none)) else (none))) = some r := H
  have A1 := Aside0.mk A10
  clear A10
  obtain ⟨y150, hy150⟩ : ∃ y_ : List (S29), y_ = (([(⟨(⟨#[97]⟩ : ByteArray), 2, 0, (⟨#[]⟩ : ByteArray)⟩ : S29), (⟨(⟨#[97]⟩ : ByteArray), 1, 0, (⟨#[]⟩ : ByteArray)⟩ : S29), (⟨(⟨#[98]⟩ : ByteArray), 1, 0, (⟨#[]⟩ : ByteArray)⟩ : S29)] : List (S29))) := ⟨_, rfl⟩
  replace H : ((merge_Cut.f k 1 y150).bind fun t153 => (if (t147.length : Int) = 1 then (if 0 < (t147.length : Int) then (if ((rd_T37 t147 0).f0).toList = ([98] : List UInt8) then (if (t153.length : Int) = 2 then (if 0 < (t153.length : Int) then (if ((rd_L4 t153 0).length : Int) = 2 then ((merge_All.f ([] : List (List (S29)))).bind fun t158 => (some ((t158.length : Int) == 0))) else (none)) else (none)) else (none)) else (none)) else (none)) else (none))) = some r := by first | (rw [hy150]; with_reducible exact H) | (have H2_ := (Option.bind_some _ _).symm.trans H; rw [hy150]; with_reducible exact H2_) | (have H2_ := (Option.bind_some _ _).symm.trans H; with_reducible exact H2_) | with_reducible exact H | (rw [hy150]; exact H) | exact H
  have Ny150 := Aside0.mk hy150
  clear hy150
  replace H := Option.bind_eq_some_iff.mp H
  obtain ⟨t153, A20, H⟩ := H
  replace H : (if (t147.length : Int) = 1 then (if 0 < (t147.length : Int) then (if ((rd_T37 t147 0).f0).toList = ([98] : List UInt8) then (if (t153.length : Int) = 2 then (if 0 < (t153.length : Int) then (if ((rd_L4 t153 0).length : Int) = 2 then ((merge_All.f ([] : List (List (S29)))).bind fun t158 => (some ((t158.length : Int) == 0))) else (none)) else (none)) else (none)) else (none)) else (none)) else (none)) = some r := H
  have A2 := Aside0.mk A20
  clear A20
  by_cases c3 : (t147.length : Int) = 1
  · rw [if_pos c3] at H
    have c3b0 : ((t147.length : Int) == 1) = true := beq_iff_eq.mpr c3
    have c3b1 : ((t147.length : Int) != 1) = false := bne_eq_false_iff_eq.mpr c3
    clear c3
    by_cases c4 : 0 < (t147.length : Int)
    · rw [if_pos c4] at H
      have c4b0 : decide (0 < (t147.length : Int)) = true := decide_eq_true c4
      have c4b1 : decide (0 < t147.length) = true := decide_eq_true (by omega)
      clear c4
      by_cases c5 : ((rd_T37 t147 0).f0).toList = ([98] : List UInt8)
      · rw [if_pos c5] at H
        have c5b0 : (((rd_T37 t147 0).f0).toList == ([98] : List UInt8)) = true := beq_iff_eq.mpr c5
        have c5b1 : (((rd_T37 t147 0).f0).toList != ([98] : List UInt8)) = false := bne_eq_false_iff_eq.mpr c5
        clear c5
        by_cases c6 : (t153.length : Int) = 2
        · rw [if_pos c6] at H
          have c6b0 : ((t153.length : Int) == 2) = true := beq_iff_eq.mpr c6
          have c6b1 : ((t153.length : Int) != 2) = false := bne_eq_false_iff_eq.mpr c6
          clear c6
          by_cases c7 : 0 < (t153.length : Int)
          · rw [if_pos c7] at H
            have c7b0 : decide (0 < (t153.length : Int)) = true := decide_eq_true c7
            have c7b1 : decide (0 < t153.length) = true := decide_eq_true (by omega)
            clear c7
            by_cases c8 : ((rd_L4 t153 0).length : Int) = 2
            · rw [if_pos c8] at H
              have c8b0 : (((rd_L4 t153 0).length : Int) == 2) = true := beq_iff_eq.mpr c8
              have c8b1 : (((rd_L4 t153 0).length : Int) != 2) = false := bne_eq_false_iff_eq.mpr c8
              clear c8
              replace H := Option.bind_eq_some_iff.mp H
              obtain ⟨t158, A90, H⟩ := H
              replace H : (some ((t158.length : Int) == 0)) = some r := H
              have A9 := Aside0.mk A90
              clear A90
              obtain rfl := Option.some.inj H
              go_enter Try.func11, Try.ntmps11
              go_wp2_with (first | ((with_reducible refine gate_dst (N := 4) rfl ?_); (try (refine gate_guard (by rfl) ?_; dsimp only)); refine Kd.R_lit k29 _ 29 ?hg (N := 4) ?hd (xs := ([(⟨(⟨#[97]⟩ : ByteArray), 3, 1, (⟨#[]⟩ : ByteArray)⟩ : S29)] : List (S29))) (inner := [.string (⟨#[97]⟩ : ByteArray), .int .u64 3, .int .i64 1, .string (⟨#[]⟩ : ByteArray)]) (ok := fun _ => True) (okp := fun _ => True) ?hr ?hp (fun _ hk => hk) trivial (Below.refl _ _) (Nat.le_refl _) (by simp) ?_; (case hd => rfl); (case hg => rfl); (case hr => first | (go_simp; done) | (go_simp; rfl)); (case hp => exact (Reps.c4 (show Kd.M k29 _ _ _ (⟨(⟨#[97]⟩ : ByteArray), 3, 1, (⟨#[]⟩ : ByteArray)⟩ : S29) [.string (⟨#[97]⟩ : ByteArray), .int .u64 3, .int .i64 1, .string (⟨#[]⟩ : ByteArray)] from (k29_mkM _ _ _ (⟨(⟨#[97]⟩ : ByteArray), 3, 1, (⟨#[]⟩ : ByteArray)⟩ : S29) )) (Reps.none _ _))); intro v139 w10 ho11 hb hg_ hnew_; clear hg_ hnew_; (first | rw [← Ny138.out] at ho11 | (simp only [Int.reduceToNat] at ho11; rw [← Ny138.out] at ho11)); have n0_ := Aside0.mk (Kd.R_lower ho11 (below_size (by repeat (first | (with_reducible first | exact HB.out | apply below_alloc | apply pw_below_drewN | apply below_drew1) | exact HB.out)))); have n1_ := Aside0.mk (below_step (by repeat (first | (with_reducible first | exact HB.out | apply below_alloc | apply pw_below_drewN | apply below_drew1) | exact HB.out)) hb); clear HB; have HO140 := n0_; have HB := n1_; clear n0_ n1_; clear hb ho11) | ((with_reducible refine gate_dst (N := 7) rfl ?_); (try (refine gate_guard (by rfl) ?_; dsimp only)); refine Kd.R_lit k29 _ 29 ?hg (N := 7) ?hd (xs := ([(⟨(⟨#[97]⟩ : ByteArray), 1, 2, (⟨#[]⟩ : ByteArray)⟩ : S29), (⟨(⟨#[98]⟩ : ByteArray), 2, 1, (⟨#[]⟩ : ByteArray)⟩ : S29)] : List (S29))) (inner := [.string (⟨#[97]⟩ : ByteArray), .int .u64 1, .int .i64 2, .string (⟨#[]⟩ : ByteArray), .string (⟨#[98]⟩ : ByteArray), .int .u64 2, .int .i64 1, .string (⟨#[]⟩ : ByteArray)]) (ok := fun _ => True) (okp := fun _ => True) ?hr ?hp (fun _ hk => hk) trivial (Below.refl _ _) (Nat.le_refl _) (by simp) ?_; (case hd => rfl); (case hg => rfl); (case hr => first | (go_simp; done) | (go_simp; rfl)); (case hp => exact (Reps.c4 (show Kd.M k29 _ _ _ (⟨(⟨#[97]⟩ : ByteArray), 1, 2, (⟨#[]⟩ : ByteArray)⟩ : S29) [.string (⟨#[97]⟩ : ByteArray), .int .u64 1, .int .i64 2, .string (⟨#[]⟩ : ByteArray)] from (k29_mkM _ _ _ (⟨(⟨#[97]⟩ : ByteArray), 1, 2, (⟨#[]⟩ : ByteArray)⟩ : S29) )) (Reps.c4 (show Kd.M k29 _ _ _ (⟨(⟨#[98]⟩ : ByteArray), 2, 1, (⟨#[]⟩ : ByteArray)⟩ : S29) [.string (⟨#[98]⟩ : ByteArray), .int .u64 2, .int .i64 1, .string (⟨#[]⟩ : ByteArray)] from (k29_mkM _ _ _ (⟨(⟨#[98]⟩ : ByteArray), 2, 1, (⟨#[]⟩ : ByteArray)⟩ : S29) )) (Reps.none _ _)))); intro v142 w12 ho13 hb hg_ hnew_; clear hg_ hnew_; (first | rw [← Ny141.out] at ho13 | (simp only [Int.reduceToNat] at ho13; rw [← Ny141.out] at ho13)); have n0_ := Aside0.mk (Kd.R_elder' (by (with_reducible repeat (first | apply Kd.R_alloc | apply Kd.R_drewN | apply Kd.R_drew)); exact HO140.out) (by first | exact Kd.R_base ho13 | exact Kd.S_base ho13 | exact Kd.R_base ho13) hb); have n1_ := Aside0.mk (Kd.R_lower (Kd.R_new' ho13 (Kd.R_lt (by (with_reducible repeat (first | apply Kd.R_alloc | apply Kd.R_drewN | apply Kd.R_drew)); exact HO140.out))) (below_size (by repeat (first | (with_reducible first | exact HB.out | apply below_alloc | apply pw_below_drewN | apply below_drew1) | exact HB.out)))); have n2_ := Aside0.mk (below_step (by repeat (first | (with_reducible first | exact HB.out | apply below_alloc | apply pw_below_drewN | apply below_drew1) | exact HB.out)) hb); clear HO140; clear HB; have HO140 := n0_; have HO143 := n1_; have HB := n2_; clear n0_ n1_ n2_; clear hb ho13; obtain ⟨Ao14, co14, eo14⟩ := Kd.R_slice HO140.out; subst eo14; obtain ⟨Ao15, co15, eo15⟩ := Kd.R_slice HO143.out; subst eo15) | ((with_reducible refine gate_dst (N := 8) rfl ?_); (try (refine gate_guard (by rfl) ?_; dsimp only)); refine Kd.N_lit (Kd.slice 29 k29) _ 22 ?hg (N' := 8) ?hd (xs := ([y138, y141] : List (List (S29)))) (inner := [.slice Ao14 y138.length co14, .slice Ao15 y141.length co15]) (ok := (fun _ => True)) (okp := (fun _ => True)) ?hr ?hp (fun _ hk => hk) ((show ∀ k_, w12.heap.size ≤ k_ → (fun _ => True) k_ from fun k_ hk => trivial) _ (Nat.le_refl _)) (Below.refl _ _) (Nat.le_refl _) (by simp) ?_; (case hd => rfl); (case hg => rfl); (case hr => first | (go_simp; done) | (go_simp; rfl)); (case hp => exact (Reps.one (show Kd.FK (Kd.slice 29 k29) _ _ y138 [.slice Ao14 y138.length co14] from (Kd.FK_slice_mk (Kd.R_reads' (Kd.R_mono (ok' := (fun _ => True)) (HO140.out) (fun k_ hk => trivial))).2.1 (Kd.R_F (Kd.R_mono (ok' := (fun _ => True)) (HO140.out) (fun k_ hk => trivial))))) (Reps.one (show Kd.FK (Kd.slice 29 k29) _ _ y141 [.slice Ao15 y141.length co15] from (Kd.FK_slice_mk (Kd.R_reads' (Kd.R_mono (ok' := (fun _ => True)) (HO143.out) (fun k_ hk => trivial))).2.1 (Kd.R_F (Kd.R_mono (ok' := (fun _ => True)) (HO143.out) (fun k_ hk => trivial))))) (Reps.none _ _)))); intro v145 w16 ho17 hb hg_ hnew_; clear hg_ hnew_; (first | rw [← Ny144.out] at ho17 | (simp only [Int.reduceToNat] at ho17; rw [← Ny144.out] at ho17)); have n0_ := Aside0.mk (Kd.N_lower ho17 (below_size (by repeat (first | (with_reducible first | exact HB.out | apply below_alloc | apply pw_below_drewN | apply below_drew1) | exact HB.out)))); have n1_ := Aside0.mk (below_step (by repeat (first | (with_reducible first | exact HB.out | apply below_alloc | apply pw_below_drewN | apply below_drew1) | exact HB.out)) hb); clear HB; clear HO140; clear HO143; have HO146 := n0_; have HB := n1_; clear n0_ n1_; clear hb ho17; obtain ⟨Ao18, co18, eo18⟩ := Kd.N_slice HO146.out; subst eo18) | ((with_reducible refine gate_callee (f := 15) rfl ?_); refine goesL_ (some 9) rfl rfl Try.func15 (by kernel_rfl) rfl #[.int .u64 2, .slice Ao18 y144.length co18] rfl (by (try simp only [List.map_toArray, List.map_cons, List.map_nil]); first | done | rfl | (simp only [List.length_drop, List.length_take]; rfl)) ?_; (with_reducible refine (merge_Latest.calls 2 _ _ y144 t147 _ ?side1 ?side2 A1.out).mono ?_); (case side1 => repeat (first | exact (Kd.N_reads' HO146.out).2.2 | (with_reducible refine Kd.C_alloc ?_ _) | (with_reducible refine Kd.C_drewN ?_ _) | (with_reducible refine Kd.C_drew ?_))); (case side2 => exact (Kd.N_reads' HO146.out).2.1); rintro e w19 ⟨v148, rfl, ho0, hb⟩; refine ⟨_, rfl, ?_⟩; have n0_ := Aside0.mk (Kd.N_elder' (by (with_reducible repeat (first | apply Kd.N_alloc | apply Kd.N_drewN | apply Kd.N_drew)); exact HO146.out) (by first | exact Kd.R_base ho0 | exact Kd.S_base ho0 | exact Kd.R_base ho0) hb); have n1_ := Aside0.mk (Kd.R_lower ho0 (below_size (by repeat (first | (with_reducible first | exact HB.out | apply below_alloc | apply pw_below_drewN | apply below_drew1) | exact HB.out)))); have n2_ := Aside0.mk (below_step (by repeat (first | (with_reducible first | exact HB.out | apply below_alloc | apply pw_below_drewN | apply below_drew1) | exact HB.out)) hb); clear HO146; clear HB; have HO146 := n0_; have HO149 := n1_; have HB := n2_; clear n0_ n1_ n2_; (try clear hb); (try clear hb2); (try clear hk); (try clear hi); (try clear ho0)) | ((with_reducible refine gate_dst (N := 13) rfl ?_); (try (refine gate_guard (by rfl) ?_; dsimp only)); refine Kd.R_lit k29 _ 29 ?hg (N := 13) ?hd (xs := ([(⟨(⟨#[97]⟩ : ByteArray), 2, 0, (⟨#[]⟩ : ByteArray)⟩ : S29), (⟨(⟨#[97]⟩ : ByteArray), 1, 0, (⟨#[]⟩ : ByteArray)⟩ : S29), (⟨(⟨#[98]⟩ : ByteArray), 1, 0, (⟨#[]⟩ : ByteArray)⟩ : S29)] : List (S29))) (inner := [.string (⟨#[97]⟩ : ByteArray), .int .u64 2, .int .i64 0, .string (⟨#[]⟩ : ByteArray), .string (⟨#[97]⟩ : ByteArray), .int .u64 1, .int .i64 0, .string (⟨#[]⟩ : ByteArray), .string (⟨#[98]⟩ : ByteArray), .int .u64 1, .int .i64 0, .string (⟨#[]⟩ : ByteArray)]) (ok := fun _ => True) (okp := fun _ => True) ?hr ?hp (fun _ hk => hk) trivial (Below.refl _ _) (Nat.le_refl _) (by simp) ?_; (case hd => rfl); (case hg => rfl); (case hr => first | (go_simp; done) | (go_simp; rfl)); (case hp => exact (Reps.c4 (show Kd.M k29 _ _ _ (⟨(⟨#[97]⟩ : ByteArray), 2, 0, (⟨#[]⟩ : ByteArray)⟩ : S29) [.string (⟨#[97]⟩ : ByteArray), .int .u64 2, .int .i64 0, .string (⟨#[]⟩ : ByteArray)] from (k29_mkM _ _ _ (⟨(⟨#[97]⟩ : ByteArray), 2, 0, (⟨#[]⟩ : ByteArray)⟩ : S29) )) (Reps.c4 (show Kd.M k29 _ _ _ (⟨(⟨#[97]⟩ : ByteArray), 1, 0, (⟨#[]⟩ : ByteArray)⟩ : S29) [.string (⟨#[97]⟩ : ByteArray), .int .u64 1, .int .i64 0, .string (⟨#[]⟩ : ByteArray)] from (k29_mkM _ _ _ (⟨(⟨#[97]⟩ : ByteArray), 1, 0, (⟨#[]⟩ : ByteArray)⟩ : S29) )) (Reps.c4 (show Kd.M k29 _ _ _ (⟨(⟨#[98]⟩ : ByteArray), 1, 0, (⟨#[]⟩ : ByteArray)⟩ : S29) [.string (⟨#[98]⟩ : ByteArray), .int .u64 1, .int .i64 0, .string (⟨#[]⟩ : ByteArray)] from (k29_mkM _ _ _ (⟨(⟨#[98]⟩ : ByteArray), 1, 0, (⟨#[]⟩ : ByteArray)⟩ : S29) )) (Reps.none _ _))))); intro v151 w20 ho21 hb hg_ hnew_; clear hg_ hnew_; (first | rw [← Ny150.out] at ho21 | (simp only [Int.reduceToNat] at ho21; rw [← Ny150.out] at ho21)); have n0_ := Aside0.mk (Kd.N_elder' (by (with_reducible repeat (first | apply Kd.N_alloc | apply Kd.N_drewN | apply Kd.N_drew)); exact HO146.out) (by first | exact Kd.R_base ho21 | exact Kd.S_base ho21 | exact Kd.R_base ho21) hb); have n1_ := Aside0.mk (Kd.R_below (by (with_reducible repeat (first | apply Kd.R_alloc | apply Kd.R_drewN | apply Kd.R_drew)); exact HO149.out) hb); have n2_ := Aside0.mk (Kd.R_lower ho21 (below_size (by repeat (first | (with_reducible first | exact HB.out | apply below_alloc | apply pw_below_drewN | apply below_drew1) | exact HB.out)))); have n3_ := Aside0.mk (below_step (by repeat (first | (with_reducible first | exact HB.out | apply below_alloc | apply pw_below_drewN | apply below_drew1) | exact HB.out)) hb); clear HO146; clear HO149; clear HB; have HO146 := n0_; have HO149 := n1_; have HO152 := n2_; have HB := n3_; clear n0_ n1_ n2_ n3_; clear hb ho21; obtain ⟨Ao22, co22, eo22⟩ := Kd.R_slice HO152.out; subst eo22) | ((with_reducible refine gate_callee (f := 12) rfl ?_); refine goesL_ (some 14) rfl rfl Try.func12 (by kernel_rfl) rfl #[.int .i64 1, .slice Ao22 y150.length co22] rfl (by (try simp only [List.map_toArray, List.map_cons, List.map_nil]); first | done | rfl | (simp only [List.length_drop, List.length_take]; rfl)) ?_; (with_reducible refine (merge_Cut.calls k 1 _ _ y150 t153 _ ?side1 ?side2 A2.out).mono ?_); (case side1 => repeat (first | exact (Kd.R_reads' HO152.out).2.2 | (with_reducible refine Kd.C_alloc ?_ _) | (with_reducible refine Kd.C_drewN ?_ _) | (with_reducible refine Kd.C_drew ?_))); (case side2 => exact (Kd.R_reads' HO152.out).2.1); rintro e w23 ⟨v154, rfl, ho0, hb⟩; refine ⟨_, rfl, ?_⟩; have n0_ := Aside0.mk (Kd.N_elder' (by (with_reducible repeat (first | apply Kd.N_alloc | apply Kd.N_drewN | apply Kd.N_drew)); exact HO146.out) (by first | exact Kd.N_base ho0 | exact Kd.S_base ho0 | exact Kd.R_base ho0) hb); have n1_ := Aside0.mk (Kd.R_below (by (with_reducible repeat (first | apply Kd.R_alloc | apply Kd.R_drewN | apply Kd.R_drew)); exact HO149.out) hb); have n2_ := Aside0.mk (Kd.R_below (by (with_reducible repeat (first | apply Kd.R_alloc | apply Kd.R_drewN | apply Kd.R_drew)); exact HO152.out) hb); have n3_ := Aside0.mk (Kd.N_lower (Kd.N_mono (ok' := fun k_ => some k_ ≠ (.slice Ao18 y144.length co18 : Value).ownBlock ∧ some k_ ≠ (v148 : Value).ownBlock ∧ some k_ ≠ (.slice Ao22 y150.length co22 : Value).ownBlock) (Kd.S_N (Kd.S_bound ho0)) (fun k_ hk_ => ⟨(Kd.fresh' (Kd.N_lt (by (with_reducible repeat (first | apply Kd.N_alloc | apply Kd.N_drewN | apply Kd.N_drew)); exact HO146.out)) k_ hk_.2.1), (Kd.fresh' (Kd.R_lt (by (with_reducible repeat (first | apply Kd.R_alloc | apply Kd.R_drewN | apply Kd.R_drew)); exact HO149.out)) k_ hk_.2.1), (Kd.fresh' (Kd.R_lt (by (with_reducible repeat (first | apply Kd.R_alloc | apply Kd.R_drewN | apply Kd.R_drew)); exact HO152.out)) k_ hk_.2.1)⟩)) (below_size (by repeat (first | (with_reducible first | exact HB.out | apply below_alloc | apply pw_below_drewN | apply below_drew1) | exact HB.out)))); have n4_ := Aside0.mk (below_step (by repeat (first | (with_reducible first | exact HB.out | apply below_alloc | apply pw_below_drewN | apply below_drew1) | exact HB.out)) hb); clear HO146; clear HO149; clear HO152; clear HB; have HO146 := n0_; have HO149 := n1_; have HO152 := n2_; have HO155 := n3_; have HB := n4_; clear n0_ n1_ n2_ n3_ n4_; (try clear hb); (try clear hb2); (try clear hk); (try clear hi); (try clear ho0); obtain ⟨Ao24, co24, eo24⟩ := Kd.R_slice HO149.out; subst eo24; have p156 : 0 ≤ (0 : Int) := (by omega); have q156 : 0 < (t147.length : Int) := of_decide_eq_true (by first | (with_reducible assumption) | assumption); obtain ⟨ad156, e156, hx156_0, hx156_1⟩ := at_T37 (Kd.R_reads' HO149.out).2.2 0 p156 q156; cases e156; have qi156 : (0 < t147.length) = True := eq_true (by omega); (try rw [show ((0 : Int)).toNat = 0 from rfl] at hx156_0); (try rw [show 0 * 2 = 0 from rfl] at hx156_0); (try rw [Addr.add_zero'] at hx156_0); (try rw [show ((0 : Int)).toNat = 0 from rfl] at hx156_1); (try rw [show 0 * 2 = 0 from rfl] at hx156_1); (try rw [Addr.add_zero'] at hx156_1); replace p156 := eq_true p156; replace q156 := eq_true q156; obtain ⟨Ao25, co25, eo25⟩ := Kd.N_slice HO155.out; subst eo25; have p157 : 0 ≤ (0 : Int) := (by omega); have q157 : 0 < (t153.length : Int) := of_decide_eq_true (by first | (with_reducible assumption) | assumption); obtain ⟨ad157, A157_0, c157_0, e157, hx157_0, hl157_0, hi157_0⟩ := at_L4 (Kd.N_reads' HO155.out).2.2 0 p157 q157; cases e157; obtain ⟨ce157, hce157, hMe157, hcc157⟩ := Kd.N_get HO155.out [] 0 p157 (by first | exact q157 | exact of_decide_eq_true (by first | (with_reducible assumption) | assumption) | (have e_ := (Kd.N_reads' HO155.out).1; omega)); obtain ⟨ua157_0, uc157_0, rfl, ul157_0, ge157_0⟩ := Kd.FK_slice_open hMe157; have hv157_0 := hcc157 0 _ rfl; rw [Nat.add_zero, show ((Kd.slice 29 k29)).sz = 1 from rfl, Nat.mul_one] at hv157_0; replace hv157_0 := Option.some.inj (hv157_0.symm.trans hx157_0); injection hv157_0 with hva_ hvn_ hvc_; rw [hva_] at ge157_0; rw [hvc_] at ul157_0; have HL157_0 := Aside0.mk (show Kd.V k29 29 _ w.heap.size _ _ (rd_L4 t153 0) from Kd.V_mk ul157_0 ge157_0); clear hva_ hvn_ hvc_ ge157_0 ul157_0; clear hcc157 hce157; have qi157 : (0 < t153.length) = True := eq_true (by omega); (try rw [show ((0 : Int)).toNat = 0 from rfl] at hx157_0); (try rw [Addr.add_zero'] at hx157_0); have HR157_0 := Aside0.mk hi157_0; have HC157_0 := Aside0.mk hl157_0; clear hi157_0 hl157_0; replace p157 := eq_true p157; replace q157 := eq_true q157) | (go_at_call 14; (refine (merge_All.calls _ _ ([] : List (List (S29))) t158 _ ?side1 ?side2 A9.out).mono ?_); (case side1 => exact Kd.C_nil _ _); (case side2 => exact Nat.le_refl _); rintro e w26 ⟨v159, rfl, ho0, hb⟩; have n0_ := Aside0.mk (Kd.N_elder' (by (with_reducible repeat (first | apply Kd.N_alloc | apply Kd.N_drewN | apply Kd.N_drew)); exact HO146.out) (by first | exact Kd.R_base ho0 | exact Kd.S_base ho0 | exact Kd.R_base ho0) hb); have n1_ := Aside0.mk (Kd.R_below (by (with_reducible repeat (first | apply Kd.R_alloc | apply Kd.R_drewN | apply Kd.R_drew)); exact HO149.out) hb); have n2_ := Aside0.mk (Kd.R_elder' (by (with_reducible repeat (first | apply Kd.R_alloc | apply Kd.R_drewN | apply Kd.R_drew)); exact HO152.out) (by first | exact Kd.R_base ho0 | exact Kd.S_base ho0 | exact Kd.R_base ho0) hb); have n3_ := Aside0.mk (Kd.N_elder' (by (with_reducible repeat (first | apply Kd.N_alloc | apply Kd.N_drewN | apply Kd.N_drew)); exact HO155.out) (by first | exact Kd.R_base ho0 | exact Kd.S_base ho0 | exact Kd.R_base ho0) hb); have n4_ := Aside0.mk (Kd.V_elder' (by (with_reducible repeat (first | apply Kd.V_alloc | apply Kd.V_drewN | apply Kd.V_drew)); exact HL157_0.out) (by first | exact Kd.R_base ho0 | exact Kd.S_base ho0 | exact Kd.R_base ho0) hb); have n5_ := Aside0.mk (Kd.R_lower (Kd.R_new' ho0 (Kd.R_lt (by (with_reducible repeat (first | apply Kd.R_alloc | apply Kd.R_drewN | apply Kd.R_drew)); exact HO152.out))) (below_size (by repeat (first | (with_reducible first | exact HB.out | apply below_alloc | apply pw_below_drewN | apply below_drew1) | exact HB.out)))); have n6_ := Aside0.mk (Kd.C_below (by repeat (first | (with_reducible exact HR157_0.out) | (with_reducible refine Kd.C_alloc ?_ _) | (with_reducible refine Kd.C_drewN ?_ _) | (with_reducible refine Kd.C_drew ?_) | exact HR157_0.out)) hb); have n7_ := Aside0.mk (below_step (by repeat (first | (with_reducible first | exact HB.out | apply below_alloc | apply pw_below_drewN | apply below_drew1) | exact HB.out)) hb); clear HO146; clear HO149; clear HO152; clear HO155; clear HL157_0; clear HR157_0; clear HB; have HO146 := n0_; have HO149 := n1_; have HO152 := n2_; have HO155 := n3_; have HL157_0 := n4_; have HO160 := n5_; have HR157_0 := n6_; have HB := n7_; clear n0_ n1_ n2_ n3_ n4_ n5_ n6_ n7_; (try clear hb); (try clear hb2); (try clear hk); (try clear hi); (try clear ho0); obtain ⟨Ao27, co27, eo27⟩ := Kd.R_slice HO160.out; subst eo27))
              go_ret
              exact ⟨by first | rfl | (simp [errW_none, errW_some] <;> rfl) | (simp [*, errW_none, errW_some] <;> rfl), by repeat (first | (with_reducible first | exact HB.out | apply below_alloc | apply pw_below_drewN | apply below_drew1) | exact HB.out)⟩
            · rw [if_neg c8] at H
              exact absurd H (by simp)
          · rw [if_neg c7] at H
            exact absurd H (by simp)
        · rw [if_neg c6] at H
          exact absurd H (by simp)
      · rw [if_neg c5] at H
        exact absurd H (by simp)
    · rw [if_neg c4] at H
      exact absurd H (by simp)
  · rw [if_neg c3] at H
    exact absurd H (by simp)
end Go.Proofs.Ytchgpcgolgcfdaa.PNum
end
section
namespace Go.Proofs.Ytchgpcgolgcfdaa.PuCut
open Go Go.RowKit Go.Proofs.Ytchgpcgolgcfdaa.PNum Go.Proofs.Ytchgpcgolgcfdaa.PuIkC Go.Proofs.YtchgpcgolgcfdaaW.PrintWords Go.Proofs.YtchgpcgolgcfdaaW.PrintLast Go.Proofs.YtchgpcgolgcfdaaW.PrintMore Go.Proofs.YtchgpcgolgcfdaaW.Pu
abbrev E := S29
abbrev ends (most : Int) (piece : List E) (e : E) (r : List E) : Prop := r.isEmpty = true ∨ (most ≤ (piece.length : Int) + 1 ∧ r.head?.map (·.f0) ≠ some e.f0)
def cutS (most : Int) : List E → List E → List (List E)
  | _, [] => []
  | piece, e :: r => if ends most piece e r then (piece ++ [e]) :: cutS most [] r else cutS most (piece ++ [e]) r
theorem cutS_nil (most : Int) (piece : List E) : cutS most piece [] = [] := by rw [cutS]
end Go.Proofs.Ytchgpcgolgcfdaa.PuCut
end
section
namespace Go.Proofs.Ytchgpcgolgcfdaa.PNum
open Go.RowKit Go.Proofs.YtchgpcgolgcfdaaW.PrintWords Go.Proofs.YtchgpcgolgcfdaaW.PrintLast Go.Proofs.YtchgpcgolgcfdaaW.PrintMore
attribute [local go_sem] max2_int min2_int max_two min_two max_three min_three max_four min_four   -- for this text's walks alone
set_option linter.unusedVariables false
set_option linter.unusedSimpArgs false
def cornucopialaw5_Small.l0 : Nat → List (S29) → Int → Int → Option (Bool)
  | 0, _, _, _ => none
  | k + 1, x0, x3, x4 => if x4 < (x0.length : Int) then (if x4 < 400 then (if x3 ≥ 0 then (if 0 ≤ x4 then ((cornucopiabook_Room.f k x3 (([(((rd_T29 x0 x4).f0).size : Int), (((rd_T29 x0 x4).f3).size : Int)] : List Int))).bind fun t108 => (cornucopialaw5_Small.l0 k x0 t108 (wrap64 (x4 + 1)))) else (none)) else (if (x0.length : Int) ≤ 150 then (some (decide (x3 ≥ 0))) else (some false))) else (if (x0.length : Int) ≤ 150 then (some (decide (x3 ≥ 0))) else (some false))) else (if (x0.length : Int) ≤ 150 then (some (decide (x3 ≥ 0))) else (some false))
def cornucopialaw5_Small.f (k : Nat) (l0 : List (S29)) : Option (Bool) := cornucopialaw5_Small.l0 k l0 20000 0
theorem cornucopialaw5_Small.mono_l : ∀ k, (∀ y0 y1 y2, LeO (cornucopialaw5_Small.l0 k y0 y1 y2) (cornucopialaw5_Small.l0 (k + 1) y0 y1 y2))
  | 0 => fun _ _ _ r h => by simp [cornucopialaw5_Small.l0] at h
  | k + 1 => by
    have ih0 := cornucopialaw5_Small.mono_l k
    · intro y0 y1 y2
      unfold cornucopialaw5_Small.l0
      repeat' first
      | (with_reducible exact ih0 _ _ _)
      | (with_reducible exact cornucopiabook_Room.mono _ _ _)
      | (with_reducible exact LeO.refl _)
      | (with_reducible exact LeO.none _)
      | (with_reducible refine LeO.ite ?_ ?_)
      | (with_reducible refine LeO.bind ?_ (fun _ => ?_))
      | exact ih0 _ _ _
      | exact cornucopiabook_Room.mono _ _ _
      | exact LeO.none _
      | refine LeO.ite ?_ ?_
      | refine LeO.bind ?_ (fun _ => ?_)
theorem cornucopialaw5_Small.mono : ∀ a0 k, LeO (cornucopialaw5_Small.f k a0) (cornucopialaw5_Small.f (k + 1) a0) := by
  intro a0 k
  have ih0 := cornucopialaw5_Small.mono_l k
  unfold cornucopialaw5_Small.f
  repeat' first
      | (with_reducible exact ih0 _ _ _)
      | (with_reducible exact cornucopiabook_Room.mono _ _ _)
      | (with_reducible exact LeO.refl _)
      | (with_reducible exact LeO.none _)
      | (with_reducible refine LeO.ite ?_ ?_)
      | (with_reducible refine LeO.bind ?_ (fun _ => ?_))
      | exact ih0 _ _ _
      | exact cornucopiabook_Room.mono _ _ _
      | exact LeO.none _
      | refine LeO.ite ?_ ?_
      | refine LeO.bind ?_ (fun _ => ?_)
def cornucopialaw5_Small.T5 : Bool × List (List Nat × List Nat) := (true, [([], []), ([], []), ([], []), ([1, 2], [1, 2]), ([3], [3]), ([4], [4]), ([5], [5]), ([], []), ([], []), ([7, 8], [7, 8]), ([9], [9]), ([10], [10]), ([11], [11]), ([6, 12], [6, 12]), ([0, 13], [0, 13]), ([14, 14, 0, 1, 2, 3, 4, 5, 6, 7, 8, 9, 10, 11, 12, 13, 14], [0, 14])])
def cornucopialaw5_Small.B5 : List Nat := [0, 0, 0, 6, 14, 30, 62, 0, 0, 384, 896, 1920, 3968, 8190, 16383, 32767]
theorem cornucopialaw5_Small.tab5 : rtab .any (opsOf Try.f9 5) = cornucopialaw5_Small.T5 := by kernel_rfl
theorem cornucopialaw5_Small.bits5 : waitsOk cornucopialaw5_Small.T5.2 cornucopialaw5_Small.B5 = true := by kernel_rfl
set_option maxHeartbeats 8000000 in
set_option maxRecDepth 100000 in
theorem cornucopialaw5_Small.calls (k : Nat) (A0 : Option Addr) (c0 : Nat) (l0 : List (S29)) (r : Bool) (w : World) (hr0 : Kd.C k29 w A0 l0.length l0) (hc0 : l0.length ≤ c0) (h : cornucopialaw5_Small.f k l0 = some r) :
    Calls Try.prog 9 #[.slice A0 l0.length c0] w fun e w' => e = .returned (.bool r) ∧ Below w.heap.size w w' := by
  have HR0 := Aside0.mk hr0
  have HC0 := Aside0.mk hc0
  clear hr0 hc0
  have HB := Aside0.mk (Below.refl w.heap.size w)
  have H : (cornucopialaw5_Small.l0 k l0 20000 0) = some r := h
  clear h
  have H' := Aside0.mk H
  clear H
  go_enter Try.func9, Try.ntmps9
  go_wp2
  go_loopg [3, 4] k (fun kq v3 v4 w' => ∃ (x3_1 : Int) (x4_1 : Int), v3 = .int .i64 x3_1 ∧ v4 = .int .i64 x4_1 ∧ Aside0 (cornucopialaw5_Small.l0 kq l0 x3_1 x4_1 = some r) ∧ Aside0 (kq ≤ k) ∧ Aside0 (Below w.heap.size w w'))
  case atStart => exact ⟨(20000), (0), (by first | rfl | (simp; done) | (simp [*]; done)), (by first | rfl | (simp; done) | (simp [*]; done)), H', ⟨Nat.le_refl _⟩, ⟨by repeat (first | (with_reducible first | exact HB.out | apply below_alloc | apply pw_below_drewN | apply below_drew1) | exact HB.out)⟩⟩
  case round =>
    clear H'
    obtain ⟨x3_1, x4_1, rfl, rfl, HA, HK1, HB⟩ := hrel
    cases gk with
    | zero => exact absurd HA.out (by simp [cornucopialaw5_Small.l0])
    | succ k1 =>
      have H := HA.out
      clear HA
      simp only [cornucopialaw5_Small.l0] at H
      by_cases c2 : x4_1 < (l0.length : Int)
      · rw [if_pos c2] at H
        have c2b0 : decide (x4_1 < (l0.length : Int)) = true := decide_eq_true c2
        clear c2
        by_cases c3 : x4_1 < 400
        · rw [if_pos c3] at H
          have c3b0 : decide (x4_1 < 400) = true := decide_eq_true c3
          clear c3
          by_cases c4 : x3_1 ≥ 0
          · rw [if_pos c4] at H
            have c4b0 : decide (0 ≤ x3_1) = true := decide_eq_true c4
            clear c4
            by_cases c5 : 0 ≤ x4_1
            · rw [if_pos c5] at H
              have c5b0 : decide (0 ≤ x4_1) = true := decide_eq_true c5
              clear c5
              obtain ⟨y105, hy105⟩ : ∃ y_ : List Int, y_ = (([(((rd_T29 l0 x4_1).f0).size : Int), (((rd_T29 l0 x4_1).f3).size : Int)] : List Int)) := ⟨_, rfl⟩
              replace H : ((cornucopiabook_Room.f k1 x3_1 y105).bind fun t108 => (cornucopialaw5_Small.l0 k1 l0 t108 (wrap64 (x4_1 + 1)))) = some r := by first | (rw [hy105]; with_reducible exact H) | (have H2_ := (Option.bind_some _ _).symm.trans H; rw [hy105]; with_reducible exact H2_) | (have H2_ := (Option.bind_some _ _).symm.trans H; with_reducible exact H2_) | with_reducible exact H | (rw [hy105]; exact H) | exact H
              have Ny105 := Aside0.mk hy105
              clear hy105
              replace H := Option.bind_eq_some_iff.mp H
              obtain ⟨t108, A60, H⟩ := H
              replace H : (cornucopialaw5_Small.l0 k1 l0 t108 (wrap64 (x4_1 + 1))) = some r := H
              have A6 := Aside0.mk A60
              clear A60
              have H' := Aside0.mk H
              clear H
              try go_wp2
              have n0_ := Aside0.mk (below_drew1 HB.out)
              clear HB
              have HB := n0_
              clear n0_
              have p103 : 0 ≤ (x4_1 : Int) := of_decide_eq_true (by first | (with_reducible assumption) | assumption)
              have q103 : x4_1 < (l0.length : Int) := of_decide_eq_true (by first | (with_reducible assumption) | assumption)
              obtain ⟨ad103, e103, hx103_0, hx103_1, hx103_2, hx103_3⟩ := at_T29 HR0.out x4_1 p103 q103
              have hw103_3 := hx103_3
              have hw103_2 := hx103_2
              have hw103_1 := hx103_1
              have hw103_0 := hx103_0
              cases e103
              replace hx103_0 := (HB.out.cell (World.block_lt_of_cell? w _ hx103_0)).trans hx103_0
              replace hx103_1 := (HB.out.cell (World.block_lt_of_cell? w _ hx103_1)).trans hx103_1
              replace hx103_2 := (HB.out.cell (World.block_lt_of_cell? w _ hx103_2)).trans hx103_2
              replace hx103_3 := (HB.out.cell (World.block_lt_of_cell? w _ hx103_3)).trans hx103_3
              replace p103 := eq_true p103
              replace q103 := eq_true q103
              have p104 : 0 ≤ (x4_1 : Int) := of_decide_eq_true (by first | (with_reducible assumption) | assumption)
              have q104 : x4_1 < (l0.length : Int) := of_decide_eq_true (by first | (with_reducible assumption) | assumption)
              obtain ⟨ad104, e104, hx104_0, hx104_1, hx104_2, hx104_3⟩ := at_T29 HR0.out x4_1 p104 q104
              have hw104_3 := hx104_3
              have hw104_2 := hx104_2
              have hw104_1 := hx104_1
              have hw104_0 := hx104_0
              obtain rfl : ad103 = ad104 := (by injection e104)
              replace hx104_0 := (HB.out.cell (World.block_lt_of_cell? w _ hx104_0)).trans hx104_0
              replace hx104_1 := (HB.out.cell (World.block_lt_of_cell? w _ hx104_1)).trans hx104_1
              replace hx104_2 := (HB.out.cell (World.block_lt_of_cell? w _ hx104_2)).trans hx104_2
              replace hx104_3 := (HB.out.cell (World.block_lt_of_cell? w _ hx104_3)).trans hx104_3
              replace p104 := eq_true p104
              replace q104 := eq_true q104
              refine start_ (n := 16) (S := fun w' => w'.cell? (ad103.add ((x4_1).toNat * 4)) = some (.string ((rd_T29 l0 x4_1).f0)) ∧ w'.cell? ⟨(ad103.add ((x4_1).toNat * 4)).block, (ad103.add ((x4_1).toNat * 4)).off + 1, none⟩ = some (.int .u64 ((rd_T29 l0 x4_1).f1)) ∧ w'.cell? ⟨(ad103.add ((x4_1).toNat * 4)).block, (ad103.add ((x4_1).toNat * 4)).off + 2, none⟩ = some (.int .i64 ((rd_T29 l0 x4_1).f2)) ∧ w'.cell? ⟨(ad103.add ((x4_1).toNat * 4)).block, (ad103.add ((x4_1).toNat * 4)).off + 3, none⟩ = some (.string ((rd_T29 l0 x4_1).f3)) ∧ w'.cell? (ad103.add ((x4_1).toNat * 4)) = some (.string ((rd_T29 l0 x4_1).f0)) ∧ w'.cell? ⟨(ad103.add ((x4_1).toNat * 4)).block, (ad103.add ((x4_1).toNat * 4)).off + 1, none⟩ = some (.int .u64 ((rd_T29 l0 x4_1).f1)) ∧ w'.cell? ⟨(ad103.add ((x4_1).toNat * 4)).block, (ad103.add ((x4_1).toNat * 4)).off + 2, none⟩ = some (.int .i64 ((rd_T29 l0 x4_1).f2)) ∧ w'.cell? ⟨(ad103.add ((x4_1).toNat * 4)).block, (ad103.add ((x4_1).toNat * 4)).off + 3, none⟩ = some (.string ((rd_T29 l0 x4_1).f3))) (ds := []) #[false, false, false, false, false, false, false, false, false, false, false, false, false, false, false, false] (by kernel_rfl) rfl rfl ⟨((HB.out.cell (World.block_lt_of_cell? w _ hw103_0)).trans hw103_0), ((HB.out.cell (World.block_lt_of_cell? w _ hw103_1)).trans hw103_1), ((HB.out.cell (World.block_lt_of_cell? w _ hw103_2)).trans hw103_2), ((HB.out.cell (World.block_lt_of_cell? w _ hw103_3)).trans hw103_3), ((HB.out.cell (World.block_lt_of_cell? w _ hw104_0)).trans hw104_0), ((HB.out.cell (World.block_lt_of_cell? w _ hw104_1)).trans hw104_1), ((HB.out.cell (World.block_lt_of_cell? w _ hw104_2)).trans hw104_2), ((HB.out.cell (World.block_lt_of_cell? w _ hw104_3)).trans hw104_3)⟩ (fun hHeld => ?_); refine with_tabW cornucopialaw5_Small.tab5 cornucopialaw5_Small.bits5 (fun HT_ HW_ => ?_)
              generalize wr.drew = w7 at HB hx103_0 hx103_1 hx103_2 hx103_3 hx104_0 hx104_1 hx104_2 hx104_3 hHeld ⊢
              refine pure_ (i := 0) (N := some 19) (v := ?_) (a' := ?_) #[true, false, false, false, false, false, false, false, false, false, false, false, false, false, false, false] rfl rfl (any_of HT_.out (by kernel_rfl)) (fun _ _ _ h => h) (Or.inl ⟨by rfl, ?_⟩) ?_ ?_
              rotate_left
              · intro w'
                go_simp
                with_reducible rfl
              rotate_left
              · simp only [Act.put, List.setIfInBounds_toArray, List.set_cons_zero, List.set_cons_succ, i64_w, i32_w]
                rfl
              refine pure_ (i := 1) (N := some 20) (v := ?_) (a' := ?_) #[true, true, false, false, false, false, false, false, false, false, false, false, false, false, false, false] rfl rfl (any_of HT_.out (by kernel_rfl)) (fun _ _ _ h => h) (Or.inl ⟨by rfl, ?_⟩) ?_ ?_
              rotate_left
              · intro w'
                go_simp
                with_reducible rfl
              rotate_left
              · simp only [Act.put, List.setIfInBounds_toArray, List.set_cons_zero, List.set_cons_succ, i64_w, i32_w]
                rfl
              refine pure_ (i := 2) (N := some 21) (v := ?_) (a' := ?_) #[true, true, true, false, false, false, false, false, false, false, false, false, false, false, false, false] rfl rfl (any_of HT_.out (by kernel_rfl)) (fun _ _ _ h => h) (Or.inl ⟨by rfl, ?_⟩) ?_ ?_
              rotate_left
              · intro w'
                go_simp
                with_reducible rfl
              rotate_left
              · simp only [Act.put, List.setIfInBounds_toArray, List.set_cons_zero, List.set_cons_succ, i64_w, i32_w]
                rfl
              refine pure_ (i := 3) (N := some 22) (v := ?_) (a' := ?_) #[true, true, true, true, false, false, false, false, false, false, false, false, false, false, false, false] rfl rfl (any_of HT_.out (by kernel_rfl)) (fun _ _ _ h => h) (Or.inl ⟨by rfl, ?_⟩) ?_ ?_
              rotate_left
              · intro w'
                go_simp
                with_reducible rfl
              rotate_left
              · simp only [Act.put, List.setIfInBounds_toArray, List.set_cons_zero, List.set_cons_succ, i64_w, i32_w]
                rfl
              refine pure_ (i := 4) (N := some 23) (v := ?_) (a' := ?_) #[true, true, true, true, true, false, false, false, false, false, false, false, false, false, false, false] rfl rfl (any_of HT_.out (by kernel_rfl)) (fun _ _ _ h => h) (Or.inl ⟨by rfl, ?_⟩) ?_ ?_
              rotate_left
              · intro w'
                go_simp
                with_reducible rfl
              rotate_left
              · simp only [Act.put, List.setIfInBounds_toArray, List.set_cons_zero, List.set_cons_succ, i64_w, i32_w]
                rfl
              refine pure_ (i := 7) (N := some 26) (v := ?_) (a' := ?_) #[true, true, true, true, true, false, false, true, false, false, false, false, false, false, false, false] rfl rfl (any_of HT_.out (by kernel_rfl)) (fun _ _ _ h => h) (Or.inl ⟨by rfl, ?_⟩) ?_ ?_
              rotate_left
              · intro w'
                go_simp
                with_reducible rfl
              rotate_left
              · simp only [Act.put, List.setIfInBounds_toArray, List.set_cons_zero, List.set_cons_succ, i64_w, i32_w]
                rfl
              refine pure_ (i := 8) (N := some 27) (v := ?_) (a' := ?_) #[true, true, true, true, true, false, false, true, true, false, false, false, false, false, false, false] rfl rfl (any_of HT_.out (by kernel_rfl)) (fun _ _ _ h => h) (Or.inl ⟨by rfl, ?_⟩) ?_ ?_
              rotate_left
              · intro w'
                go_simp
                with_reducible rfl
              rotate_left
              · simp only [Act.put, List.setIfInBounds_toArray, List.set_cons_zero, List.set_cons_succ, i64_w, i32_w]
                rfl
              refine pure_ (i := 9) (N := some 28) (v := ?_) (a' := ?_) #[true, true, true, true, true, false, false, true, true, true, false, false, false, false, false, false] rfl rfl (any_of HT_.out (by kernel_rfl)) (fun _ _ _ h => h) (Or.inl ⟨by rfl, ?_⟩) ?_ ?_
              rotate_left
              · intro w'
                go_simp
                with_reducible rfl
              rotate_left
              · simp only [Act.put, List.setIfInBounds_toArray, List.set_cons_zero, List.set_cons_succ, i64_w, i32_w]
                rfl
              refine pure_ (i := 10) (N := some 29) (v := ?_) (a' := ?_) #[true, true, true, true, true, false, false, true, true, true, true, false, false, false, false, false] rfl rfl (any_of HT_.out (by kernel_rfl)) (fun _ _ _ h => h) (Or.inl ⟨by rfl, ?_⟩) ?_ ?_
              rotate_left
              · intro w'
                go_simp
                with_reducible rfl
              rotate_left
              · simp only [Act.put, List.setIfInBounds_toArray, List.set_cons_zero, List.set_cons_succ, i64_w, i32_w]
                rfl
              refine take_ (i := 5) (N := some 24) (v := ?_) (a' := ?_) #[true, true, true, true, true, true, false, true, true, true, true, false, false, false, false, false] rfl rfl (take_ofW HT_.out HW_.out (by kernel_rfl)) (fun _ _ _ h => h) (Or.inl ⟨by rfl, ?_⟩) hHeld ?_ ?_
              rotate_left
              · rintro w' ⟨s0, s1, s2, s3, s4, s5, s6, s7⟩
                go_simp
                with_reducible rfl
              rotate_left
              · simp only [Act.put, List.setIfInBounds_toArray, List.set_cons_zero, List.set_cons_succ, i64_w, i32_w]
                rfl
              refine pure_ (i := 6) (N := some 25) (v := ?_) (a' := ?_) #[true, true, true, true, true, true, true, true, true, true, true, false, false, false, false, false] rfl rfl (any_of HT_.out (by kernel_rfl)) (fun _ _ _ h => h) (Or.inl ⟨by rfl, ?_⟩) ?_ ?_
              rotate_left
              · intro w'
                go_simp
                with_reducible rfl
              rotate_left
              · simp only [Act.put, List.setIfInBounds_toArray, List.set_cons_zero, List.set_cons_succ, i64_w, i32_w]
                rfl
              refine take_ (i := 11) (N := some 30) (v := ?_) (a' := ?_) #[true, true, true, true, true, true, true, true, true, true, true, true, false, false, false, false] rfl rfl (take_ofW HT_.out HW_.out (by kernel_rfl)) (fun _ _ _ h => h) (Or.inl ⟨by rfl, ?_⟩) hHeld ?_ ?_
              rotate_left
              · rintro w' ⟨s0, s1, s2, s3, s4, s5, s6, s7⟩
                go_simp
                with_reducible rfl
              rotate_left
              · simp only [Act.put, List.setIfInBounds_toArray, List.set_cons_zero, List.set_cons_succ, i64_w, i32_w]
                rfl
              refine pure_ (i := 12) (N := some 31) (v := ?_) (a' := ?_) #[true, true, true, true, true, true, true, true, true, true, true, true, true, false, false, false] rfl rfl (any_of HT_.out (by kernel_rfl)) (fun _ _ _ h => h) (Or.inl ⟨by rfl, ?_⟩) ?_ ?_
              rotate_left
              · intro w'
                go_simp
                with_reducible rfl
              rotate_left
              · simp only [Act.put, List.setIfInBounds_toArray, List.set_cons_zero, List.set_cons_succ, i64_w, i32_w]
                rfl
              refine one_ (i := 13) (N := some 32) #[true, true, true, true, true, true, true, true, true, true, true, true, true, true, false, false] rfl rfl (one_of HT_.out (by kernel_rfl)) (by decide) (fun K hK => ?_)
              refine Kd.R_lit_step (Kd.int .i64) _ 3 ?hg (N := 32) ?hd (xs := ([(((rd_T29 l0 x4_1).f0).size : Int), (((rd_T29 l0 x4_1).f3).size : Int)] : List Int)) (inner := [.int .i64 (((rd_T29 l0 x4_1).f0).size : Int), .int .i64 (((rd_T29 l0 x4_1).f3).size : Int)]) (ok := fun _ => True) (okp := fun _ => True) ?hr ?hp (fun _ hk => hk) trivial (Below.refl _ _) (Nat.le_refl _) (by simp) ?_; (case hd => rfl); (case hg => rfl); (case hr => first | (go_simp; done) | (go_simp; rfl)); (case hp => exact (Reps.one (show Kd.M (Kd.int .i64) _ _ _ (((rd_T29 l0 x4_1).f0).size : Int) [.int .i64 (((rd_T29 l0 x4_1).f0).size : Int)] from rfl) (Reps.one (show Kd.M (Kd.int .i64) _ _ _ (((rd_T29 l0 x4_1).f3).size : Int) [.int .i64 (((rd_T29 l0 x4_1).f3).size : Int)] from rfl) (Reps.none _ _))))
              intro v106 w8 ho9 hb hg_ hnew_
              clear hg_ hnew_
              (first | rw [← Ny105.out] at ho9 | (simp only [Int.reduceToNat] at ho9; rw [← Ny105.out] at ho9))
              have n0_ := Aside0.mk (Kd.R_lower ho9 (below_size (by repeat (first | (with_reducible first | exact HB.out | apply below_alloc | apply pw_below_drewN | apply below_drew1) | exact HB.out))))
              have n1_ := Aside0.mk (below_step (by repeat (first | (with_reducible first | exact HB.out | apply below_alloc | apply pw_below_drewN | apply below_drew1) | exact HB.out)) hb)
              clear HB
              have HO107 := n0_
              have HB := n1_
              clear n0_ n1_
              clear hb ho9
              obtain ⟨Ao10, co10, eo10⟩ := Kd.R_slice HO107.out
              (first | subst eo10 | (injection eo10 with f1_ f2_ f3_; have f4_ := f1_.symm; have f5_ := f3_.symm; clear f1_ f2_ f3_; subst f4_; subst f5_))
              refine hK.out _ _ ⟨((HB.out.cell (World.block_lt_of_cell? w _ hw103_0)).trans hw103_0), ((HB.out.cell (World.block_lt_of_cell? w _ hw103_1)).trans hw103_1), ((HB.out.cell (World.block_lt_of_cell? w _ hw103_2)).trans hw103_2), ((HB.out.cell (World.block_lt_of_cell? w _ hw103_3)).trans hw103_3), ((HB.out.cell (World.block_lt_of_cell? w _ hw104_0)).trans hw104_0), ((HB.out.cell (World.block_lt_of_cell? w _ hw104_1)).trans hw104_1), ((HB.out.cell (World.block_lt_of_cell? w _ hw104_2)).trans hw104_2), ((HB.out.cell (World.block_lt_of_cell? w _ hw104_3)).trans hw104_3)⟩ (fun hHeld => ?_)
              clear hK K
              refine norm_ (a' := ?_) ?_ ?_
              rotate_left
              · show Act.put _ (some 32) _ = _
                simp only [Act.put, List.setIfInBounds_toArray, List.set_cons_zero, List.set_cons_succ, i64_w, i32_w]
                rfl
              refine one_ (i := 14) (N := some 33) #[true, true, true, true, true, true, true, true, true, true, true, true, true, true, true, false] rfl rfl (one_of HT_.out (by kernel_rfl)) (by decide) (fun K hK => ?_)
              refine goes_ Try.func27 (by kernel_rfl) rfl #[.int .i64 x3_1, .slice Ao10 y105.length co10] (by rfl) rfl rfl (by (try simp only [List.map_toArray, List.map_cons, List.map_nil]); first | done | rfl | (simp only [List.length_drop, List.length_take]; rfl)) ?_
              with_reducible refine (cornucopiabook_Room.calls k1 x3_1 _ _ y105 t108 _ ?side1 ?side2 A6.out).mono ?_
              (case side1 => repeat (first | exact (Kd.R_reads' HO107.out).2.2 | (with_reducible refine Kd.C_alloc ?_ _) | (with_reducible refine Kd.C_drewN ?_ _) | (with_reducible refine Kd.C_drew ?_)))
              (case side2 => exact (Kd.R_reads' HO107.out).2.1)
              rintro e w' ⟨rfl, ⟨nd, rfl⟩⟩
              refine ⟨_, rfl, ?_⟩
              refine hK.out _ _ ⟨((HB.out.cell (World.block_lt_of_cell? w _ hw103_0)).trans hw103_0), ((HB.out.cell (World.block_lt_of_cell? w _ hw103_1)).trans hw103_1), ((HB.out.cell (World.block_lt_of_cell? w _ hw103_2)).trans hw103_2), ((HB.out.cell (World.block_lt_of_cell? w _ hw103_3)).trans hw103_3), ((HB.out.cell (World.block_lt_of_cell? w _ hw104_0)).trans hw104_0), ((HB.out.cell (World.block_lt_of_cell? w _ hw104_1)).trans hw104_1), ((HB.out.cell (World.block_lt_of_cell? w _ hw104_2)).trans hw104_2), ((HB.out.cell (World.block_lt_of_cell? w _ hw104_3)).trans hw104_3)⟩ (fun hHeld => ?_)
              clear hK K
              refine norm_ (a' := ?_) ?_ ?_
              rotate_left
              · show Act.put _ (some 33) _ = _
                simp only [Act.put, List.setIfInBounds_toArray, List.set_cons_zero, List.set_cons_succ, i64_w, i32_w]
                rfl
              refine pure_ (i := 15) (N := some 3) (v := ?_) (a' := ?_) #[true, true, true, true, true, true, true, true, true, true, true, true, true, true, true, true] rfl rfl (any_of HT_.out (by kernel_rfl)) (fun _ _ _ h => h) (Or.inl ⟨by rfl, ?_⟩) ?_ ?_
              rotate_left
              · intro w'
                go_simp
                with_reducible rfl
              rotate_left
              · simp only [Act.put, List.setIfInBounds_toArray, List.set_cons_zero, List.set_cons_succ, i64_w, i32_w]
                rfl
              refine done_ (done_of HT_.out (by kernel_rfl)) ?_
              try go_wp2
              go_roundg k1
              case measure => have := HK1.out; omega
              case rel => exact ⟨(t108), (wrap64 (x4_1 + 1)), (by first | rfl | (simp; done) | (simp [*]; done)), (by first | rfl | (simp; done) | (simp [*]; done)), H', ⟨by have := HK1.out; omega⟩, ⟨by repeat (first | (with_reducible first | exact HB.out | apply below_alloc | apply pw_below_drewN | apply below_drew1) | exact HB.out)⟩⟩
            · rw [if_neg c5] at H
              exact absurd H (by simp)
          · rw [if_neg c4] at H
            have c4b0 : decide (0 ≤ x3_1) = false := decide_eq_false c4
            clear c4
            by_cases c11 : (l0.length : Int) ≤ 150
            · rw [if_pos c11] at H
              have c11b0 : decide ((l0.length : Int) ≤ 150) = true := decide_eq_true c11
              have c11b1 : decide (l0.length ≤ 150) = true := decide_eq_true (by omega)
              clear c11
              obtain rfl := Option.some.inj H
              go_wp2
              go_ret
              exact ⟨by first | rfl | (simp [errW_none, errW_some] <;> rfl) | (simp [*, errW_none, errW_some] <;> rfl), by repeat (first | (with_reducible first | exact HB.out | apply below_alloc | apply pw_below_drewN | apply below_drew1) | exact HB.out)⟩
            · rw [if_neg c11] at H
              have c11b0 : decide ((l0.length : Int) ≤ 150) = false := decide_eq_false c11
              have c11b1 : decide (l0.length ≤ 150) = false := decide_eq_false (by omega)
              clear c11
              obtain rfl := Option.some.inj H
              go_wp2
              go_ret
              exact ⟨by first | rfl | (simp [errW_none, errW_some] <;> rfl) | (simp [*, errW_none, errW_some] <;> rfl), by repeat (first | (with_reducible first | exact HB.out | apply below_alloc | apply pw_below_drewN | apply below_drew1) | exact HB.out)⟩
        · rw [if_neg c3] at H
          have c3b0 : decide (x4_1 < 400) = false := decide_eq_false c3
          clear c3
          by_cases c12 : (l0.length : Int) ≤ 150
          · rw [if_pos c12] at H
            have c12b0 : decide ((l0.length : Int) ≤ 150) = true := decide_eq_true c12
            have c12b1 : decide (l0.length ≤ 150) = true := decide_eq_true (by omega)
            clear c12
            obtain rfl := Option.some.inj H
            go_wp2
            go_ret
            exact ⟨by first | rfl | (simp [errW_none, errW_some] <;> rfl) | (simp [*, errW_none, errW_some] <;> rfl), by repeat (first | (with_reducible first | exact HB.out | apply below_alloc | apply pw_below_drewN | apply below_drew1) | exact HB.out)⟩
          · rw [if_neg c12] at H
            have c12b0 : decide ((l0.length : Int) ≤ 150) = false := decide_eq_false c12
            have c12b1 : decide (l0.length ≤ 150) = false := decide_eq_false (by omega)
            clear c12
            obtain rfl := Option.some.inj H
            go_wp2
            go_ret
            exact ⟨by first | rfl | (simp [errW_none, errW_some] <;> rfl) | (simp [*, errW_none, errW_some] <;> rfl), by repeat (first | (with_reducible first | exact HB.out | apply below_alloc | apply pw_below_drewN | apply below_drew1) | exact HB.out)⟩
      · rw [if_neg c2] at H
        have c2b0 : decide (x4_1 < (l0.length : Int)) = false := decide_eq_false c2
        clear c2
        by_cases c13 : (l0.length : Int) ≤ 150
        · rw [if_pos c13] at H
          have c13b0 : decide ((l0.length : Int) ≤ 150) = true := decide_eq_true c13
          have c13b1 : decide (l0.length ≤ 150) = true := decide_eq_true (by omega)
          clear c13
          obtain rfl := Option.some.inj H
          go_wp2
          go_ret
          exact ⟨by first | rfl | (simp [errW_none, errW_some] <;> rfl) | (simp [*, errW_none, errW_some] <;> rfl), by repeat (first | (with_reducible first | exact HB.out | apply below_alloc | apply pw_below_drewN | apply below_drew1) | exact HB.out)⟩
        · rw [if_neg c13] at H
          have c13b0 : decide ((l0.length : Int) ≤ 150) = false := decide_eq_false c13
          have c13b1 : decide (l0.length ≤ 150) = false := decide_eq_false (by omega)
          clear c13
          obtain rfl := Option.some.inj H
          go_wp2
          go_ret
          exact ⟨by first | rfl | (simp [errW_none, errW_some] <;> rfl) | (simp [*, errW_none, errW_some] <;> rfl), by repeat (first | (with_reducible first | exact HB.out | apply below_alloc | apply pw_below_drewN | apply below_drew1) | exact HB.out)⟩
end Go.Proofs.Ytchgpcgolgcfdaa.PNum
end
section
namespace Go.Proofs.Ytchgpcgolgcfdaa.PuSm
open Go Go.RowKit Go.Proofs.Ytchgpcgolgcfdaa.PNum Go.Proofs.Ytchgpcgolgcfdaa.PuIkC Go.Proofs.YtchgpcgolgcfdaaW.PrintWords Go.Proofs.YtchgpcgolgcfdaaW.PrintLast Go.Proofs.YtchgpcgolgcfdaaW.PrintMore Go.Proofs.YtchgpcgolgcfdaaW.Pu
theorem at_nat (l : List S29) (i : Nat) (h : i < l.length) : rd_T29 l (i : Int) = l[i] := by
  simp [rd_T29, h]
theorem Small_l0 (l : List S29) (hs : ∀ e ∈ l, e.f0.size ≤ 140737488351232 ∧ e.f3.size ≤ 140737488351232) (d : Nat) : ∀ (i : Nat) (r : Int), i + d = 400 → -1 ≤ r → r ≤ 20000 →
    ∃ b, Ev (fun k => cornucopialaw5_Small.l0 k l r (i : Int)) b ∧ (b = true → l.length ≤ 150) := by
  have leaf : ∀ (i : Nat) (r : Int), ∃ b, Ev (fun _ : Nat => if (l.length : Int) ≤ 150 then (some (decide (r ≥ 0))) else (some false)) b ∧ (b = true → l.length ≤ 150) := by
    intro i r
    by_cases h : (l.length : Int) ≤ 150
    · exact ⟨decide (r ≥ 0), ev_pos h (ev_const rfl), fun _ => by omega⟩
    · exact ⟨false, ev_neg h (ev_const rfl), fun k => by cases k⟩
  induction d with
  | zero =>
    intro i r hi h0 h1
    obtain ⟨b, hb, hl⟩ := leaf i r
    refine ⟨b, Ev.step (fun k => by rw [cornucopialaw5_Small.l0]) ?_, hl⟩
    by_cases h : (i : Int) < (l.length : Int)
    · exact ev_pos h (ev_neg (by omega) hb)
    · exact ev_neg h hb
  | succ d ih =>
    intro i r hi h0 h1
    by_cases h : (i : Int) < (l.length : Int)
    · by_cases hr : r ≥ 0
      · have hlt : i < l.length := by omega
        have hsz := hs l[i] (List.getElem_mem hlt)
        obtain ⟨q, hq, q0, q1⟩ := Room_ev r (l[i].f0.size : Int) (l[i].f3.size : Int) ⟨h0, h1⟩ ⟨by omega, by omega⟩ ⟨by omega, by omega⟩
        obtain ⟨b, hb, hl⟩ := ih (i + 1) q (by omega) q0 q1
        refine ⟨b, Ev.step (fun k => by rw [cornucopialaw5_Small.l0, at_nat l i hlt]) (ev_pos h (ev_pos (by omega) (ev_pos hr (ev_pos (by omega) (Ev.bind hq ?_))))), hl⟩
        rw [wrap64_id (by omega), show ((i : Int) + 1) = ((i + 1 : Nat) : Int) from by omega]
        exact hb
      · obtain ⟨b, hb, hl⟩ := leaf i r
        exact ⟨b, Ev.step (fun k => by rw [cornucopialaw5_Small.l0]) (ev_pos h (ev_pos (by omega) (ev_neg hr hb))), hl⟩
    · obtain ⟨b, hb, hl⟩ := leaf i r
      exact ⟨b, Ev.step (fun k => by rw [cornucopialaw5_Small.l0]) (ev_neg h hb), hl⟩
theorem Small_ev (l : List S29) (hs : ∀ e ∈ l, e.f0.size ≤ 140737488351232 ∧ e.f3.size ≤ 140737488351232) : ∃ b, Ev (fun k => cornucopialaw5_Small.f k l) b ∧ (b = true → l.length ≤ 150) := by
  obtain ⟨b, hb, hl⟩ := Small_l0 l hs 400 0 20000 (by omega) (by omega) (by omega)
  exact ⟨b, Ev.congr (fun k => by rw [cornucopialaw5_Small.f]; rfl) hb, hl⟩
end Go.Proofs.Ytchgpcgolgcfdaa.PuSm
end
section
namespace Go.Proofs.Ytchgpcgolgcfdaa.PNum
open Go.RowKit Go.Proofs.YtchgpcgolgcfdaaW.PrintWords Go.Proofs.YtchgpcgolgcfdaaW.PrintLast Go.Proofs.YtchgpcgolgcfdaaW.PrintMore
attribute [local go_sem] max2_int min2_int max_two min_two max_three min_three max_four min_four   -- for this text's walks alone
set_option linter.unusedVariables false
set_option linter.unusedSimpArgs false
mutual
def cornucopiaref1_Less.l0 : Nat → ByteArray → ByteArray → Int → Option (Bool)
  | 0, _, _, _ => none
  | k + 1, x0, x1, x5 => if x5 < (x0.size : Int) then (cornucopiaref1_Less.j1 k x0 x1 x5 (decide (x5 < (x1.size : Int)))) else (cornucopiaref1_Less.j1 k x0 x1 x5 false)
def cornucopiaref1_Less.j1 : Nat → ByteArray → ByteArray → Int → Bool → Option (Bool)
  | 0, _, _, _, _ => none
  | k + 1, x0, x1, x5, x15 => if x15 = true then (if 0 ≤ x5 then (if x5 < (x0.size : Int) then (if x5 < (x1.size : Int) then (if (bt x0 x5) = (bt x1 x5) then (cornucopiaref1_Less.l0 k x0 x1 (wrap64 (x5 + 1))) else (some (decide ((bt x0 x5) < (bt x1 x5))))) else (none)) else (none)) else (none)) else (some (decide ((x0.size : Int) < (x1.size : Int))))
end
def cornucopiaref1_Less.f (k : Nat) (a0 : ByteArray) (a1 : ByteArray) : Option (Bool) := cornucopiaref1_Less.l0 k a0 a1 0
theorem cornucopiaref1_Less.mono_l : ∀ k, (∀ y0 y1 y2, LeO (cornucopiaref1_Less.l0 k y0 y1 y2) (cornucopiaref1_Less.l0 (k + 1) y0 y1 y2)) ∧ (∀ y0 y1 y2 y3, LeO (cornucopiaref1_Less.j1 k y0 y1 y2 y3) (cornucopiaref1_Less.j1 (k + 1) y0 y1 y2 y3))
  | 0 => ⟨fun _ _ _ r h => by simp [cornucopiaref1_Less.l0] at h, fun _ _ _ _ r h => by simp [cornucopiaref1_Less.j1] at h⟩
  | k + 1 => by
    obtain ⟨ih0, ih1⟩ := cornucopiaref1_Less.mono_l k
    refine ⟨?_, ?_⟩
    · intro y0 y1 y2
      unfold cornucopiaref1_Less.l0
      repeat' first
      | (with_reducible exact ih0 _ _ _)
      | (with_reducible exact ih1 _ _ _ _)
      | (with_reducible exact LeO.refl _)
      | (with_reducible exact LeO.none _)
      | (with_reducible refine LeO.ite ?_ ?_)
      | (with_reducible refine LeO.bind ?_ (fun _ => ?_))
      | exact ih0 _ _ _
      | exact ih1 _ _ _ _
      | exact LeO.none _
      | refine LeO.ite ?_ ?_
      | refine LeO.bind ?_ (fun _ => ?_)
    · intro y0 y1 y2 y3
      unfold cornucopiaref1_Less.j1
      repeat' first
      | (with_reducible exact ih0 _ _ _)
      | (with_reducible exact ih1 _ _ _ _)
      | (with_reducible exact LeO.refl _)
      | (with_reducible exact LeO.none _)
      | (with_reducible refine LeO.ite ?_ ?_)
      | (with_reducible refine LeO.bind ?_ (fun _ => ?_))
      | exact ih0 _ _ _
      | exact ih1 _ _ _ _
      | exact LeO.none _
      | refine LeO.ite ?_ ?_
      | refine LeO.bind ?_ (fun _ => ?_)
theorem cornucopiaref1_Less.mono : ∀ a0 a1 k, LeO (cornucopiaref1_Less.f k a0 a1) (cornucopiaref1_Less.f (k + 1) a0 a1) := by
  intro a0 a1 k
  obtain ⟨ih0, ih1⟩ := cornucopiaref1_Less.mono_l k
  unfold cornucopiaref1_Less.f
  repeat' first
      | (with_reducible exact ih0 _ _ _)
      | (with_reducible exact ih1 _ _ _ _)
      | (with_reducible exact LeO.refl _)
      | (with_reducible exact LeO.none _)
      | (with_reducible refine LeO.ite ?_ ?_)
      | (with_reducible refine LeO.bind ?_ (fun _ => ?_))
      | exact ih0 _ _ _
      | exact ih1 _ _ _ _
      | exact LeO.none _
      | refine LeO.ite ?_ ?_
      | refine LeO.bind ?_ (fun _ => ?_)
set_option maxHeartbeats 8000000 in
set_option maxRecDepth 100000 in
theorem cornucopiaref1_Less.calls (k : Nat) (a0 : ByteArray) (a1 : ByteArray) (r : Bool) (w : World) (h : cornucopiaref1_Less.f k a0 a1 = some r) :
    Calls Try.prog 54 #[.string a0, .string a1] w fun e w' => e = .returned (.bool r) ∧ Drawn0 w w' := by
  have H : (cornucopiaref1_Less.l0 k a0 a1 0) = some r := h
  clear h
  have H' := Aside0.mk H
  clear H
  go_enter Try.func54, Try.ntmps54
  go_wp2
  repeat (go_quiet (fail); try go_wp2)
  go_loopg [5] k (fun kq v5 w' => ∃ (x5_1 : Int), v5 = .int .i64 x5_1 ∧ Aside0 (cornucopiaref1_Less.l0 kq a0 a1 x5_1 = some r) ∧ Aside0 (kq ≤ k) ∧ Drawn0 w w')
  case atStart => exact ⟨(0), (by first | rfl | (simp; done) | (simp [*]; done)), H', ⟨Nat.le_refl _⟩, by repeat (first | exact Drawn0.refl _ | apply Drawn0.step)⟩
  case round =>
    clear H'
    try clear p2
    obtain ⟨x5_1, rfl, HA, HK1, ⟨m1, rfl⟩⟩ := hrel
    cases gk with
    | zero => exact absurd HA.out (by simp [cornucopiaref1_Less.l0])
    | succ k1 =>
      have H := HA.out
      clear HA
      simp only [cornucopiaref1_Less.l0] at H
      have HC3 := Aside0.mk H
      clear H
      go_upto_region 2 with (fail)
      repeat (go_quiet (fail); go_upto_region 2 with (fail))
      go_cut [15] (fun v15 wc => ∃ (kq : Nat) (x15_2 : Bool), v15 = .bool x15_2 ∧ Aside0 (cornucopiaref1_Less.j1 kq a0 a1 x5_1 x15_2 = some r) ∧ Aside0 (kq ≤ k1) ∧ Drawn0 w wc)
      case first =>
        have H := HC3.out
        clear HC3
        by_cases c4 : x5_1 < (a0.size : Int)
        · rw [if_pos c4] at H
          have c4b0 : decide (x5_1 < (a0.size : Int)) = true := decide_eq_true c4
          clear c4
          (first | rw [c4b0] | (simp only [i64_w, i32_w]; rw [c4b0]) | skip)
          have H' := Aside0.mk H
          clear H
          go_wp2
          repeat (go_quiet (fail); try go_wp2)
          go_meet
          case rel => exact ⟨_, (decide (x5_1 < (a1.size : Int))), (by first | rfl | (simp; done) | (simp [*]; done)), H', ⟨by have := HK1.out; first | omega | exact Nat.le_refl _⟩, by repeat (first | exact Drawn0.refl _ | apply Drawn0.step)⟩
        · rw [if_neg c4] at H
          have c4b0 : decide (x5_1 < (a0.size : Int)) = false := decide_eq_false c4
          clear c4
          (first | rw [c4b0] | (simp only [i64_w, i32_w]; rw [c4b0]) | skip)
          have H' := Aside0.mk H
          clear H
          go_wp2
          repeat (go_quiet (fail); try go_wp2)
          go_meet
          case rel => exact ⟨_, (false), (by first | rfl | (simp; done) | (simp [*]; done)), H', ⟨by have := HK1.out; first | omega | exact Nat.le_refl _⟩, by repeat (first | exact Drawn0.refl _ | apply Drawn0.step)⟩
      case rest =>
        clear HC3
        try clear p2
        try clear c4
        try clear c4b0
        try clear p2
        obtain ⟨kq, x15_2, rfl, HA, HJ2, ⟨mc2, rfl⟩⟩ := hcut
        cases kq with
        | zero => exact absurd HA.out (by simp [cornucopiaref1_Less.j1])
        | succ kj2 =>
          have H := HA.out
          clear HA
          simp only [cornucopiaref1_Less.j1] at H
          by_cases c5 : x15_2 = true
          · subst c5
            have H1 : (if 0 ≤ x5_1 then (if x5_1 < (a0.size : Int) then (if x5_1 < (a1.size : Int) then (if (bt a0 x5_1) = (bt a1 x5_1) then (cornucopiaref1_Less.l0 kj2 a0 a1 (wrap64 (x5_1 + 1))) else (some (decide ((bt a0 x5_1) < (bt a1 x5_1))))) else (none)) else (none)) else (none)) = some r := by rw [if_pos rfl] at H; exact H
            clear H
            have H := H1
            clear H1
            by_cases c6 : 0 ≤ x5_1
            · rw [if_pos c6] at H
              have c6b0 : decide (0 ≤ x5_1) = true := decide_eq_true c6
              clear c6
              by_cases c7 : x5_1 < (a0.size : Int)
              · rw [if_pos c7] at H
                have c7b0 : decide (x5_1 < (a0.size : Int)) = true := decide_eq_true c7
                clear c7
                by_cases c9 : x5_1 < (a1.size : Int)
                · rw [if_pos c9] at H
                  have c9b0 : decide (x5_1 < (a1.size : Int)) = true := decide_eq_true c9
                  clear c9
                  by_cases c11 : (bt a0 x5_1) = (bt a1 x5_1)
                  · rw [if_pos c11] at H
                    have c11b0 : ((bt a0 x5_1) == (bt a1 x5_1)) = true := beq_iff_eq.mpr c11
                    have c11b1 : ((bt a0 x5_1) != (bt a1 x5_1)) = false := bne_eq_false_iff_eq.mpr c11
                    clear c11
                    have H' := Aside0.mk H
                    clear H
                    have p8 : 0 ≤ (x5_1 : Int) := of_decide_eq_true (by first | (with_reducible assumption) | assumption)
                    have q8 : x5_1 < (a0.size : Int) := of_decide_eq_true (by first | (with_reducible assumption) | assumption)
                    have hx8 := bt_at a0 x5_1
                    replace p8 := eq_true p8
                    replace q8 := eq_true q8
                    have p10 : 0 ≤ (x5_1 : Int) := of_decide_eq_true (by first | (with_reducible assumption) | assumption)
                    have q10 : x5_1 < (a1.size : Int) := of_decide_eq_true (by first | (with_reducible assumption) | assumption)
                    have hx10 := bt_at a1 x5_1
                    replace p10 := eq_true p10
                    replace q10 := eq_true q10
                    go_wp2
                    repeat (go_quiet (fail); try go_wp2)
                    go_roundg kj2
                    case measure => have := HK1.out; have := HJ2.out; omega
                    case rel => exact ⟨(wrap64 (x5_1 + 1)), (by first | rfl | (simp; done) | (simp [*]; done)), H', ⟨by have := HK1.out; have := HJ2.out; omega⟩, by repeat (first | exact Drawn0.refl _ | apply Drawn0.step)⟩
                  · rw [if_neg c11] at H
                    have c11b0 : ((bt a0 x5_1) == (bt a1 x5_1)) = false := beq_eq_false_iff_ne.mpr c11
                    have c11b1 : ((bt a0 x5_1) != (bt a1 x5_1)) = true := bne_iff_ne.mpr c11
                    obtain rfl := Option.some.inj H
                    have p8 : 0 ≤ (x5_1 : Int) := of_decide_eq_true (by first | (with_reducible assumption) | assumption)
                    have q8 : x5_1 < (a0.size : Int) := of_decide_eq_true (by first | (with_reducible assumption) | assumption)
                    have hx8 := bt_at a0 x5_1
                    replace p8 := eq_true p8
                    replace q8 := eq_true q8
                    have p10 : 0 ≤ (x5_1 : Int) := of_decide_eq_true (by first | (with_reducible assumption) | assumption)
                    have q10 : x5_1 < (a1.size : Int) := of_decide_eq_true (by first | (with_reducible assumption) | assumption)
                    have hx10 := bt_at a1 x5_1
                    replace p10 := eq_true p10
                    replace q10 := eq_true q10
                    have p12 : 0 ≤ (x5_1 : Int) := of_decide_eq_true (by first | (with_reducible assumption) | assumption)
                    have q12 : x5_1 < (a0.size : Int) := of_decide_eq_true (by first | (with_reducible assumption) | assumption)
                    have hx12 := bt_at a0 x5_1
                    replace p12 := eq_true p12
                    replace q12 := eq_true q12
                    have p13 : 0 ≤ (x5_1 : Int) := of_decide_eq_true (by first | (with_reducible assumption) | assumption)
                    have q13 : x5_1 < (a1.size : Int) := of_decide_eq_true (by first | (with_reducible assumption) | assumption)
                    have hx13 := bt_at a1 x5_1
                    replace p13 := eq_true p13
                    replace q13 := eq_true q13
                    go_wp2
                    repeat (go_quiet (fail); try go_wp2)
                    go_ret
                    exact ⟨by first | rfl | (simp; done) | (simp [*]; done), by repeat (first | exact Drawn0.refl _ | apply Drawn0.step)⟩
                · rw [if_neg c9] at H
                  exact absurd H (by simp)
              · rw [if_neg c7] at H
                exact absurd H (by simp)
            · rw [if_neg c6] at H
              exact absurd H (by simp)
          · replace c5 := Bool.eq_false_iff.mpr c5
            subst c5
            have H1 : (some (decide ((a0.size : Int) < (a1.size : Int)))) = some r := by rw [if_neg (show ¬ (false = true) by decide)] at H; exact H
            clear H
            have H := H1
            clear H1
            obtain rfl := Option.some.inj H
            go_wp2
            repeat (go_quiet (fail); try go_wp2)
            go_ret
            exact ⟨by first | rfl | (simp; done) | (simp [*]; done), by repeat (first | exact Drawn0.refl _ | apply Drawn0.step)⟩
def cornucopiaref5_Compare.f (k : Nat) (a0_0 : ByteArray) (a0_1 : Int) (a0_2 : Int) (a0_3 : ByteArray) (a1_0 : ByteArray) (a1_1 : Int) (a1_2 : Int) (a1_3 : ByteArray) : Option (Int) := (cornucopiaref1_Less.f k a0_0 a1_0).bind fun t111 => (if t111 = true then (some (-1)) else ((cornucopiaref1_Less.f k a1_0 a0_0).bind fun t112 => (if t112 = true then (some 1) else (if a0_1 > a1_1 then (some (-1)) else (if a0_1 < a1_1 then (some 1) else (some 0))))))
theorem cornucopiaref5_Compare.mono : ∀ a0 a1 a2 a3 a4 a5 a6 a7 k, LeO (cornucopiaref5_Compare.f k a0 a1 a2 a3 a4 a5 a6 a7) (cornucopiaref5_Compare.f (k + 1) a0 a1 a2 a3 a4 a5 a6 a7) := by
  intro a0 a1 a2 a3 a4 a5 a6 a7 k
  unfold cornucopiaref5_Compare.f
  repeat' first
      | (with_reducible exact cornucopiaref1_Less.mono _ _ _)
      | (with_reducible exact LeO.refl _)
      | (with_reducible exact LeO.none _)
      | (with_reducible refine LeO.ite ?_ ?_)
      | (with_reducible refine LeO.bind ?_ (fun _ => ?_))
      | exact cornucopiaref1_Less.mono _ _ _
      | exact LeO.none _
      | refine LeO.ite ?_ ?_
      | refine LeO.bind ?_ (fun _ => ?_)
set_option maxHeartbeats 8000000 in
set_option maxRecDepth 100000 in
theorem cornucopiaref5_Compare.calls (k : Nat) (a0_0 : ByteArray) (a0_1 : Int) (a0_2 : Int) (a0_3 : ByteArray) (a1_0 : ByteArray) (a1_1 : Int) (a1_2 : Int) (a1_3 : ByteArray) (r : Int) (w : World) (h : cornucopiaref5_Compare.f k a0_0 a0_1 a0_2 a0_3 a1_0 a1_1 a1_2 a1_3 = some r) :
    Calls Try.prog 28 #[.agg #[.string a0_0, .int .u64 a0_1, .int .i64 a0_2, .string a0_3], .agg #[.string a1_0, .int .u64 a1_1, .int .i64 a1_2, .string a1_3]] w fun e w' => e = .returned (.int .i64 r) ∧ Below w.heap.size w w' := by
  have hu29 := Try.underlying29
  have HB := Aside0.mk (Below.refl w.heap.size w)
  have H : ((cornucopiaref1_Less.f k a0_0 a1_0).bind fun t111 => (if t111 = true then (some (-1)) else ((cornucopiaref1_Less.f k a1_0 a0_0).bind fun t112 => (if t112 = true then (some 1) else (if a0_1 > a1_1 then (some (-1)) else (if a0_1 < a1_1 then (some 1) else (some 0))))))) = some r := h
  clear h
  replace H := Option.bind_eq_some_iff.mp H
  obtain ⟨t111, A30, H⟩ := H
  replace H : (if t111 = true then (some (-1)) else ((cornucopiaref1_Less.f k a1_0 a0_0).bind fun t112 => (if t112 = true then (some 1) else (if a0_1 > a1_1 then (some (-1)) else (if a0_1 < a1_1 then (some 1) else (some 0)))))) = some r := H
  have A3 := Aside0.mk A30
  clear A30
  by_cases c4 : t111 = true
  · subst c4
    have H1 : (some (-1)) = some r := by rw [if_pos rfl] at H; exact H
    clear H
    have H := H1
    clear H1
    obtain rfl := Option.some.inj H
    go_enter Try.func28, Try.ntmps28
    go_wp2_with (first | ((with_reducible refine gate_dst (N := 2) rfl ?_); refine box_event ?hg (N := 2) ?hd (cs := #[.string a0_0, .int .u64 a0_1, .int .i64 a0_2, .string a0_3]) (t := 29) ?hr ?_; (case hd => rfl); (case hg => rfl); (case hr => first | (go_simp; done) | (go_simp; rfl)); intro gb109 hg w5 hbox hb; have n0_ := Aside0.mk (below_step (by repeat (first | (with_reducible first | exact HB.out | apply below_alloc | apply pw_below_drewN | apply below_drew1) | exact HB.out)) hb); have n1_ := Aside0.mk (hbox); have n2_ := Aside0.mk ((by rw [hg]; exact (below_size (by repeat (first | (with_reducible first | exact HB.out | apply below_alloc | apply pw_below_drewN | apply below_drew1) | exact HB.out))) : w.heap.size ≤ gb109)); have n3_ := Aside0.mk ((by rw [hg]; exact (below_size (by repeat (first | (with_reducible first | exact HB.out | apply below_alloc | apply pw_below_drewN | apply below_drew1) | exact HB.out))) : w.heap.size ≤ gb109)); clear HB; have HB := n0_; have BK109 := n1_; have GW109 := n2_; have GE109 := n3_; clear n0_ n1_ n2_ n3_; clear hb hbox hg) | ((with_reducible refine gate_dst (N := 3) rfl ?_); refine box_event ?hg (N := 3) ?hd (cs := #[.string a1_0, .int .u64 a1_1, .int .i64 a1_2, .string a1_3]) (t := 29) ?hr ?_; (case hd => rfl); (case hg => rfl); (case hr => first | (go_simp; done) | (go_simp; rfl)); intro gb110 hg w6 hbox hb; have n0_ := Aside0.mk (blk_below (g := gb109) (o := .cells #[.string a0_0, .int .u64 a0_1, .int .i64 a0_2, .string a0_3] 29 (0, 0)) (by (with_reducible repeat (first | refine blk_drewN ?_ _ | refine blk_drew ?_ | refine blk_alloc ?_ _)); exact BK109.out) hb); have n1_ := Aside0.mk (below_step (by repeat (first | (with_reducible first | exact HB.out | apply below_alloc | apply pw_below_drewN | apply below_drew1 | refine below_set ?_ GE109.out) | exact HB.out)) hb); have n2_ := Aside0.mk (hbox); have n3_ := Aside0.mk ((by rw [hg]; exact (below_size (by repeat (first | (with_reducible first | exact HB.out | apply below_alloc | apply pw_below_drewN | apply below_drew1 | refine below_set ?_ GE109.out) | exact HB.out))) : w.heap.size ≤ gb110)); have n4_ := Aside0.mk ((by rw [hg]; exact (below_size (by repeat (first | (with_reducible first | exact HB.out | apply below_alloc | apply pw_below_drewN | apply below_drew1 | refine below_set ?_ GE109.out) | exact HB.out))) : w.heap.size ≤ gb110)); have n5_ := Aside0.mk ((by rw [hg]; exact Nat.ne_of_lt (blk_lt (g := gb109) (o := .cells #[.string a0_0, .int .u64 a0_1, .int .i64 a0_2, .string a0_3] 29 (0, 0)) (by (with_reducible repeat (first | refine blk_drewN ?_ _ | refine blk_drew ?_ | refine blk_alloc ?_ _)); exact BK109.out)) : gb109 ≠ gb110)); have n6_ := Aside0.mk ((by rw [hg]; exact Nat.ne_of_gt (blk_lt (g := gb109) (o := .cells #[.string a0_0, .int .u64 a0_1, .int .i64 a0_2, .string a0_3] 29 (0, 0)) (by (with_reducible repeat (first | refine blk_drewN ?_ _ | refine blk_drew ?_ | refine blk_alloc ?_ _)); exact BK109.out)) : gb110 ≠ gb109)); clear BK109; clear HB; have BK109 := n0_; have HB := n1_; have BK110 := n2_; have GW110 := n3_; have GE110 := n4_; have NB109_110 := n5_; have NB110_109 := n6_; clear n0_ n1_ n2_ n3_ n4_ n5_ n6_; clear hb hbox hg; have hnb7 := NB109_110.out; have hnc7 := NB110_109.out; have hcz8_0 : w6.cell? ⟨gb109, 0, none⟩ = some (.string a0_0) := (blk_cell BK109.out 0).trans rfl; have hcz8_1 : w6.cell? ⟨gb109, 1, none⟩ = some (.int .u64 a0_1) := (blk_cell BK109.out 1).trans rfl; have hcz8_2 : w6.cell? ⟨gb109, 2, none⟩ = some (.int .i64 a0_2) := (blk_cell BK109.out 2).trans rfl; have hcz8_3 : w6.cell? ⟨gb109, 3, none⟩ = some (.string a0_3) := (blk_cell BK109.out 3).trans rfl; have hfz8_0 := blk_frozen BK109.out 0; have hfz8_1 := blk_frozen BK109.out 1; have hfz8_2 := blk_frozen BK109.out 2; have hfz8_3 := blk_frozen BK109.out 3; have hcz9_0 : w6.cell? ⟨gb110, 0, none⟩ = some (.string a1_0) := (blk_cell BK110.out 0).trans rfl; have hcz9_1 : w6.cell? ⟨gb110, 1, none⟩ = some (.int .u64 a1_1) := (blk_cell BK110.out 1).trans rfl; have hcz9_2 : w6.cell? ⟨gb110, 2, none⟩ = some (.int .i64 a1_2) := (blk_cell BK110.out 2).trans rfl; have hcz9_3 : w6.cell? ⟨gb110, 3, none⟩ = some (.string a1_3) := (blk_cell BK110.out 3).trans rfl; have hfz9_0 := blk_frozen BK110.out 0; have hfz9_1 := blk_frozen BK110.out 1; have hfz9_2 := blk_frozen BK110.out 2; have hfz9_3 := blk_frozen BK110.out 3) | ((with_reducible refine gate_callee (f := 54) rfl ?_); refine goesL_ (some 10) rfl rfl Try.func54 (by kernel_rfl) rfl #[.string a0_0, .string a1_0] rfl (by (try simp only [List.map_toArray, List.map_cons, List.map_nil]); first | done | rfl | (simp only [List.length_drop, List.length_take]; rfl)) ?_; (with_reducible refine (cornucopiaref1_Less.calls k a0_0 a1_0 true _ A3.out).mono ?_); rintro e w' ⟨rfl, ⟨nd, rfl⟩⟩; refine ⟨_, rfl, ?_⟩))
    go_ret
    exact ⟨by first | rfl | (simp [errW_none, errW_some] <;> rfl) | (simp [*, errW_none, errW_some] <;> rfl), by repeat (first | (with_reducible first | exact HB.out | apply below_alloc | apply pw_below_drewN | apply below_drew1 | refine below_set ?_ GE109.out | refine below_set ?_ GE110.out) | exact HB.out)⟩
  · replace c4 := Bool.eq_false_iff.mpr c4
    subst c4
    have H1 : ((cornucopiaref1_Less.f k a1_0 a0_0).bind fun t112 => (if t112 = true then (some 1) else (if a0_1 > a1_1 then (some (-1)) else (if a0_1 < a1_1 then (some 1) else (some 0))))) = some r := by rw [if_neg (show ¬ (false = true) by decide)] at H; exact H
    clear H
    have H := H1
    clear H1
    replace H := Option.bind_eq_some_iff.mp H
    obtain ⟨t112, A100, H⟩ := H
    replace H : (if t112 = true then (some 1) else (if a0_1 > a1_1 then (some (-1)) else (if a0_1 < a1_1 then (some 1) else (some 0)))) = some r := H
    have A10 := Aside0.mk A100
    clear A100
    by_cases c11 : t112 = true
    · subst c11
      have H1 : (some 1) = some r := by rw [if_pos rfl] at H; exact H
      clear H
      have H := H1
      clear H1
      obtain rfl := Option.some.inj H
      go_enter Try.func28, Try.ntmps28
      go_wp2_with (first | ((with_reducible refine gate_dst (N := 2) rfl ?_); refine box_event ?hg (N := 2) ?hd (cs := #[.string a0_0, .int .u64 a0_1, .int .i64 a0_2, .string a0_3]) (t := 29) ?hr ?_; (case hd => rfl); (case hg => rfl); (case hr => first | (go_simp; done) | (go_simp; rfl)); intro gb109 hg w12 hbox hb; have n0_ := Aside0.mk (below_step (by repeat (first | (with_reducible first | exact HB.out | apply below_alloc | apply pw_below_drewN | apply below_drew1) | exact HB.out)) hb); have n1_ := Aside0.mk (hbox); have n2_ := Aside0.mk ((by rw [hg]; exact (below_size (by repeat (first | (with_reducible first | exact HB.out | apply below_alloc | apply pw_below_drewN | apply below_drew1) | exact HB.out))) : w.heap.size ≤ gb109)); have n3_ := Aside0.mk ((by rw [hg]; exact (below_size (by repeat (first | (with_reducible first | exact HB.out | apply below_alloc | apply pw_below_drewN | apply below_drew1) | exact HB.out))) : w.heap.size ≤ gb109)); clear HB; have HB := n0_; have BK109 := n1_; have GW109 := n2_; have GE109 := n3_; clear n0_ n1_ n2_ n3_; clear hb hbox hg) | ((with_reducible refine gate_dst (N := 3) rfl ?_); refine box_event ?hg (N := 3) ?hd (cs := #[.string a1_0, .int .u64 a1_1, .int .i64 a1_2, .string a1_3]) (t := 29) ?hr ?_; (case hd => rfl); (case hg => rfl); (case hr => first | (go_simp; done) | (go_simp; rfl)); intro gb110 hg w13 hbox hb; have n0_ := Aside0.mk (blk_below (g := gb109) (o := .cells #[.string a0_0, .int .u64 a0_1, .int .i64 a0_2, .string a0_3] 29 (0, 0)) (by (with_reducible repeat (first | refine blk_drewN ?_ _ | refine blk_drew ?_ | refine blk_alloc ?_ _)); exact BK109.out) hb); have n1_ := Aside0.mk (below_step (by repeat (first | (with_reducible first | exact HB.out | apply below_alloc | apply pw_below_drewN | apply below_drew1 | refine below_set ?_ GE109.out) | exact HB.out)) hb); have n2_ := Aside0.mk (hbox); have n3_ := Aside0.mk ((by rw [hg]; exact (below_size (by repeat (first | (with_reducible first | exact HB.out | apply below_alloc | apply pw_below_drewN | apply below_drew1 | refine below_set ?_ GE109.out) | exact HB.out))) : w.heap.size ≤ gb110)); have n4_ := Aside0.mk ((by rw [hg]; exact (below_size (by repeat (first | (with_reducible first | exact HB.out | apply below_alloc | apply pw_below_drewN | apply below_drew1 | refine below_set ?_ GE109.out) | exact HB.out))) : w.heap.size ≤ gb110)); have n5_ := Aside0.mk ((by rw [hg]; exact Nat.ne_of_lt (blk_lt (g := gb109) (o := .cells #[.string a0_0, .int .u64 a0_1, .int .i64 a0_2, .string a0_3] 29 (0, 0)) (by (with_reducible repeat (first | refine blk_drewN ?_ _ | refine blk_drew ?_ | refine blk_alloc ?_ _)); exact BK109.out)) : gb109 ≠ gb110)); have n6_ := Aside0.mk ((by rw [hg]; exact Nat.ne_of_gt (blk_lt (g := gb109) (o := .cells #[.string a0_0, .int .u64 a0_1, .int .i64 a0_2, .string a0_3] 29 (0, 0)) (by (with_reducible repeat (first | refine blk_drewN ?_ _ | refine blk_drew ?_ | refine blk_alloc ?_ _)); exact BK109.out)) : gb110 ≠ gb109)); clear BK109; clear HB; have BK109 := n0_; have HB := n1_; have BK110 := n2_; have GW110 := n3_; have GE110 := n4_; have NB109_110 := n5_; have NB110_109 := n6_; clear n0_ n1_ n2_ n3_ n4_ n5_ n6_; clear hb hbox hg; have hnb14 := NB109_110.out; have hnc14 := NB110_109.out; have hcz15_0 : w13.cell? ⟨gb109, 0, none⟩ = some (.string a0_0) := (blk_cell BK109.out 0).trans rfl; have hcz15_1 : w13.cell? ⟨gb109, 1, none⟩ = some (.int .u64 a0_1) := (blk_cell BK109.out 1).trans rfl; have hcz15_2 : w13.cell? ⟨gb109, 2, none⟩ = some (.int .i64 a0_2) := (blk_cell BK109.out 2).trans rfl; have hcz15_3 : w13.cell? ⟨gb109, 3, none⟩ = some (.string a0_3) := (blk_cell BK109.out 3).trans rfl; have hfz15_0 := blk_frozen BK109.out 0; have hfz15_1 := blk_frozen BK109.out 1; have hfz15_2 := blk_frozen BK109.out 2; have hfz15_3 := blk_frozen BK109.out 3; have hcz16_0 : w13.cell? ⟨gb110, 0, none⟩ = some (.string a1_0) := (blk_cell BK110.out 0).trans rfl; have hcz16_1 : w13.cell? ⟨gb110, 1, none⟩ = some (.int .u64 a1_1) := (blk_cell BK110.out 1).trans rfl; have hcz16_2 : w13.cell? ⟨gb110, 2, none⟩ = some (.int .i64 a1_2) := (blk_cell BK110.out 2).trans rfl; have hcz16_3 : w13.cell? ⟨gb110, 3, none⟩ = some (.string a1_3) := (blk_cell BK110.out 3).trans rfl; have hfz16_0 := blk_frozen BK110.out 0; have hfz16_1 := blk_frozen BK110.out 1; have hfz16_2 := blk_frozen BK110.out 2; have hfz16_3 := blk_frozen BK110.out 3) | ((with_reducible refine gate_callee (f := 54) rfl ?_); refine goesL_ (some 10) rfl rfl Try.func54 (by kernel_rfl) rfl #[.string a0_0, .string a1_0] rfl (by (try simp only [List.map_toArray, List.map_cons, List.map_nil]); first | done | rfl | (simp only [List.length_drop, List.length_take]; rfl)) ?_; (with_reducible refine (cornucopiaref1_Less.calls k a0_0 a1_0 false _ A3.out).mono ?_); rintro e w' ⟨rfl, ⟨nd, rfl⟩⟩; refine ⟨_, rfl, ?_⟩) | ((with_reducible refine gate_callee (f := 54) rfl ?_); refine goesL_ (some 16) rfl rfl Try.func54 (by kernel_rfl) rfl #[.string a1_0, .string a0_0] rfl (by (try simp only [List.map_toArray, List.map_cons, List.map_nil]); first | done | rfl | (simp only [List.length_drop, List.length_take]; rfl)) ?_; (with_reducible refine (cornucopiaref1_Less.calls k a1_0 a0_0 true _ A10.out).mono ?_); rintro e w' ⟨rfl, ⟨nd, rfl⟩⟩; refine ⟨_, rfl, ?_⟩))
      go_ret
      exact ⟨by first | rfl | (simp [errW_none, errW_some] <;> rfl) | (simp [*, errW_none, errW_some] <;> rfl), by repeat (first | (with_reducible first | exact HB.out | apply below_alloc | apply pw_below_drewN | apply below_drew1 | refine below_set ?_ GE109.out | refine below_set ?_ GE110.out) | exact HB.out)⟩
    · replace c11 := Bool.eq_false_iff.mpr c11
      subst c11
      have H1 : (if a0_1 > a1_1 then (some (-1)) else (if a0_1 < a1_1 then (some 1) else (some 0))) = some r := by rw [if_neg (show ¬ (false = true) by decide)] at H; exact H
      clear H
      have H := H1
      clear H1
      by_cases c17 : a0_1 > a1_1
      · rw [if_pos c17] at H
        have c17b0 : decide (a1_1 < a0_1) = true := decide_eq_true c17
        clear c17
        obtain rfl := Option.some.inj H
        go_enter Try.func28, Try.ntmps28
        go_wp2_with (first | ((with_reducible refine gate_dst (N := 2) rfl ?_); refine box_event ?hg (N := 2) ?hd (cs := #[.string a0_0, .int .u64 a0_1, .int .i64 a0_2, .string a0_3]) (t := 29) ?hr ?_; (case hd => rfl); (case hg => rfl); (case hr => first | (go_simp; done) | (go_simp; rfl)); intro gb109 hg w18 hbox hb; have n0_ := Aside0.mk (below_step (by repeat (first | (with_reducible first | exact HB.out | apply below_alloc | apply pw_below_drewN | apply below_drew1) | exact HB.out)) hb); have n1_ := Aside0.mk (hbox); have n2_ := Aside0.mk ((by rw [hg]; exact (below_size (by repeat (first | (with_reducible first | exact HB.out | apply below_alloc | apply pw_below_drewN | apply below_drew1) | exact HB.out))) : w.heap.size ≤ gb109)); have n3_ := Aside0.mk ((by rw [hg]; exact (below_size (by repeat (first | (with_reducible first | exact HB.out | apply below_alloc | apply pw_below_drewN | apply below_drew1) | exact HB.out))) : w.heap.size ≤ gb109)); clear HB; have HB := n0_; have BK109 := n1_; have GW109 := n2_; have GE109 := n3_; clear n0_ n1_ n2_ n3_; clear hb hbox hg) | ((with_reducible refine gate_dst (N := 3) rfl ?_); refine box_event ?hg (N := 3) ?hd (cs := #[.string a1_0, .int .u64 a1_1, .int .i64 a1_2, .string a1_3]) (t := 29) ?hr ?_; (case hd => rfl); (case hg => rfl); (case hr => first | (go_simp; done) | (go_simp; rfl)); intro gb110 hg w19 hbox hb; have n0_ := Aside0.mk (blk_below (g := gb109) (o := .cells #[.string a0_0, .int .u64 a0_1, .int .i64 a0_2, .string a0_3] 29 (0, 0)) (by (with_reducible repeat (first | refine blk_drewN ?_ _ | refine blk_drew ?_ | refine blk_alloc ?_ _)); exact BK109.out) hb); have n1_ := Aside0.mk (below_step (by repeat (first | (with_reducible first | exact HB.out | apply below_alloc | apply pw_below_drewN | apply below_drew1 | refine below_set ?_ GE109.out) | exact HB.out)) hb); have n2_ := Aside0.mk (hbox); have n3_ := Aside0.mk ((by rw [hg]; exact (below_size (by repeat (first | (with_reducible first | exact HB.out | apply below_alloc | apply pw_below_drewN | apply below_drew1 | refine below_set ?_ GE109.out) | exact HB.out))) : w.heap.size ≤ gb110)); have n4_ := Aside0.mk ((by rw [hg]; exact (below_size (by repeat (first | (with_reducible first | exact HB.out | apply below_alloc | apply pw_below_drewN | apply below_drew1 | refine below_set ?_ GE109.out) | exact HB.out))) : w.heap.size ≤ gb110)); have n5_ := Aside0.mk ((by rw [hg]; exact Nat.ne_of_lt (blk_lt (g := gb109) (o := .cells #[.string a0_0, .int .u64 a0_1, .int .i64 a0_2, .string a0_3] 29 (0, 0)) (by (with_reducible repeat (first | refine blk_drewN ?_ _ | refine blk_drew ?_ | refine blk_alloc ?_ _)); exact BK109.out)) : gb109 ≠ gb110)); have n6_ := Aside0.mk ((by rw [hg]; exact Nat.ne_of_gt (blk_lt (g := gb109) (o := .cells #[.string a0_0, .int .u64 a0_1, .int .i64 a0_2, .string a0_3] 29 (0, 0)) (by (with_reducible repeat (first | refine blk_drewN ?_ _ | refine blk_drew ?_ | refine blk_alloc ?_ _)); exact BK109.out)) : gb110 ≠ gb109)); clear BK109; clear HB; have BK109 := n0_; have HB := n1_; have BK110 := n2_; have GW110 := n3_; have GE110 := n4_; have NB109_110 := n5_; have NB110_109 := n6_; clear n0_ n1_ n2_ n3_ n4_ n5_ n6_; clear hb hbox hg; have hnb20 := NB109_110.out; have hnc20 := NB110_109.out; have hcz21_0 : w19.cell? ⟨gb109, 0, none⟩ = some (.string a0_0) := (blk_cell BK109.out 0).trans rfl; have hcz21_1 : w19.cell? ⟨gb109, 1, none⟩ = some (.int .u64 a0_1) := (blk_cell BK109.out 1).trans rfl; have hcz21_2 : w19.cell? ⟨gb109, 2, none⟩ = some (.int .i64 a0_2) := (blk_cell BK109.out 2).trans rfl; have hcz21_3 : w19.cell? ⟨gb109, 3, none⟩ = some (.string a0_3) := (blk_cell BK109.out 3).trans rfl; have hfz21_0 := blk_frozen BK109.out 0; have hfz21_1 := blk_frozen BK109.out 1; have hfz21_2 := blk_frozen BK109.out 2; have hfz21_3 := blk_frozen BK109.out 3; have hcz22_0 : w19.cell? ⟨gb110, 0, none⟩ = some (.string a1_0) := (blk_cell BK110.out 0).trans rfl; have hcz22_1 : w19.cell? ⟨gb110, 1, none⟩ = some (.int .u64 a1_1) := (blk_cell BK110.out 1).trans rfl; have hcz22_2 : w19.cell? ⟨gb110, 2, none⟩ = some (.int .i64 a1_2) := (blk_cell BK110.out 2).trans rfl; have hcz22_3 : w19.cell? ⟨gb110, 3, none⟩ = some (.string a1_3) := (blk_cell BK110.out 3).trans rfl; have hfz22_0 := blk_frozen BK110.out 0; have hfz22_1 := blk_frozen BK110.out 1; have hfz22_2 := blk_frozen BK110.out 2; have hfz22_3 := blk_frozen BK110.out 3) | ((with_reducible refine gate_callee (f := 54) rfl ?_); refine goesL_ (some 10) rfl rfl Try.func54 (by kernel_rfl) rfl #[.string a0_0, .string a1_0] rfl (by (try simp only [List.map_toArray, List.map_cons, List.map_nil]); first | done | rfl | (simp only [List.length_drop, List.length_take]; rfl)) ?_; (with_reducible refine (cornucopiaref1_Less.calls k a0_0 a1_0 false _ A3.out).mono ?_); rintro e w' ⟨rfl, ⟨nd, rfl⟩⟩; refine ⟨_, rfl, ?_⟩) | ((with_reducible refine gate_callee (f := 54) rfl ?_); refine goesL_ (some 16) rfl rfl Try.func54 (by kernel_rfl) rfl #[.string a1_0, .string a0_0] rfl (by (try simp only [List.map_toArray, List.map_cons, List.map_nil]); first | done | rfl | (simp only [List.length_drop, List.length_take]; rfl)) ?_; (with_reducible refine (cornucopiaref1_Less.calls k a1_0 a0_0 false _ A10.out).mono ?_); rintro e w' ⟨rfl, ⟨nd, rfl⟩⟩; refine ⟨_, rfl, ?_⟩))
        go_ret
        exact ⟨by first | rfl | (simp [errW_none, errW_some] <;> rfl) | (simp [*, errW_none, errW_some] <;> rfl), by repeat (first | (with_reducible first | exact HB.out | apply below_alloc | apply pw_below_drewN | apply below_drew1 | refine below_set ?_ GE109.out | refine below_set ?_ GE110.out) | exact HB.out)⟩
      · rw [if_neg c17] at H
        have c17b0 : decide (a1_1 < a0_1) = false := decide_eq_false c17
        clear c17
        by_cases c23 : a0_1 < a1_1
        · rw [if_pos c23] at H
          have c23b0 : decide (a0_1 < a1_1) = true := decide_eq_true c23
          clear c23
          obtain rfl := Option.some.inj H
          go_enter Try.func28, Try.ntmps28
          go_wp2_with (first | ((with_reducible refine gate_dst (N := 2) rfl ?_); refine box_event ?hg (N := 2) ?hd (cs := #[.string a0_0, .int .u64 a0_1, .int .i64 a0_2, .string a0_3]) (t := 29) ?hr ?_; (case hd => rfl); (case hg => rfl); (case hr => first | (go_simp; done) | (go_simp; rfl)); intro gb109 hg w24 hbox hb; have n0_ := Aside0.mk (below_step (by repeat (first | (with_reducible first | exact HB.out | apply below_alloc | apply pw_below_drewN | apply below_drew1) | exact HB.out)) hb); have n1_ := Aside0.mk (hbox); have n2_ := Aside0.mk ((by rw [hg]; exact (below_size (by repeat (first | (with_reducible first | exact HB.out | apply below_alloc | apply pw_below_drewN | apply below_drew1) | exact HB.out))) : w.heap.size ≤ gb109)); have n3_ := Aside0.mk ((by rw [hg]; exact (below_size (by repeat (first | (with_reducible first | exact HB.out | apply below_alloc | apply pw_below_drewN | apply below_drew1) | exact HB.out))) : w.heap.size ≤ gb109)); clear HB; have HB := n0_; have BK109 := n1_; have GW109 := n2_; have GE109 := n3_; clear n0_ n1_ n2_ n3_; clear hb hbox hg) | ((with_reducible refine gate_dst (N := 3) rfl ?_); refine box_event ?hg (N := 3) ?hd (cs := #[.string a1_0, .int .u64 a1_1, .int .i64 a1_2, .string a1_3]) (t := 29) ?hr ?_; (case hd => rfl); (case hg => rfl); (case hr => first | (go_simp; done) | (go_simp; rfl)); intro gb110 hg w25 hbox hb; have n0_ := Aside0.mk (blk_below (g := gb109) (o := .cells #[.string a0_0, .int .u64 a0_1, .int .i64 a0_2, .string a0_3] 29 (0, 0)) (by (with_reducible repeat (first | refine blk_drewN ?_ _ | refine blk_drew ?_ | refine blk_alloc ?_ _)); exact BK109.out) hb); have n1_ := Aside0.mk (below_step (by repeat (first | (with_reducible first | exact HB.out | apply below_alloc | apply pw_below_drewN | apply below_drew1 | refine below_set ?_ GE109.out) | exact HB.out)) hb); have n2_ := Aside0.mk (hbox); have n3_ := Aside0.mk ((by rw [hg]; exact (below_size (by repeat (first | (with_reducible first | exact HB.out | apply below_alloc | apply pw_below_drewN | apply below_drew1 | refine below_set ?_ GE109.out) | exact HB.out))) : w.heap.size ≤ gb110)); have n4_ := Aside0.mk ((by rw [hg]; exact (below_size (by repeat (first | (with_reducible first | exact HB.out | apply below_alloc | apply pw_below_drewN | apply below_drew1 | refine below_set ?_ GE109.out) | exact HB.out))) : w.heap.size ≤ gb110)); have n5_ := Aside0.mk ((by rw [hg]; exact Nat.ne_of_lt (blk_lt (g := gb109) (o := .cells #[.string a0_0, .int .u64 a0_1, .int .i64 a0_2, .string a0_3] 29 (0, 0)) (by (with_reducible repeat (first | refine blk_drewN ?_ _ | refine blk_drew ?_ | refine blk_alloc ?_ _)); exact BK109.out)) : gb109 ≠ gb110)); have n6_ := Aside0.mk ((by rw [hg]; exact Nat.ne_of_gt (blk_lt (g := gb109) (o := .cells #[.string a0_0, .int .u64 a0_1, .int .i64 a0_2, .string a0_3] 29 (0, 0)) (by (with_reducible repeat (first | refine blk_drewN ?_ _ | refine blk_drew ?_ | refine blk_alloc ?_ _)); exact BK109.out)) : gb110 ≠ gb109)); clear BK109; clear HB; have BK109 := n0_; have HB := n1_; have BK110 := n2_; have GW110 := n3_; have GE110 := n4_; have NB109_110 := n5_; have NB110_109 := n6_; clear n0_ n1_ n2_ n3_ n4_ n5_ n6_; clear hb hbox hg; have hnb26 := NB109_110.out; have hnc26 := NB110_109.out; have hcz27_0 : w25.cell? ⟨gb109, 0, none⟩ = some (.string a0_0) := (blk_cell BK109.out 0).trans rfl; have hcz27_1 : w25.cell? ⟨gb109, 1, none⟩ = some (.int .u64 a0_1) := (blk_cell BK109.out 1).trans rfl; have hcz27_2 : w25.cell? ⟨gb109, 2, none⟩ = some (.int .i64 a0_2) := (blk_cell BK109.out 2).trans rfl; have hcz27_3 : w25.cell? ⟨gb109, 3, none⟩ = some (.string a0_3) := (blk_cell BK109.out 3).trans rfl; have hfz27_0 := blk_frozen BK109.out 0; have hfz27_1 := blk_frozen BK109.out 1; have hfz27_2 := blk_frozen BK109.out 2; have hfz27_3 := blk_frozen BK109.out 3; have hcz28_0 : w25.cell? ⟨gb110, 0, none⟩ = some (.string a1_0) := (blk_cell BK110.out 0).trans rfl; have hcz28_1 : w25.cell? ⟨gb110, 1, none⟩ = some (.int .u64 a1_1) := (blk_cell BK110.out 1).trans rfl; have hcz28_2 : w25.cell? ⟨gb110, 2, none⟩ = some (.int .i64 a1_2) := (blk_cell BK110.out 2).trans rfl; have hcz28_3 : w25.cell? ⟨gb110, 3, none⟩ = some (.string a1_3) := (blk_cell BK110.out 3).trans rfl; have hfz28_0 := blk_frozen BK110.out 0; have hfz28_1 := blk_frozen BK110.out 1; have hfz28_2 := blk_frozen BK110.out 2; have hfz28_3 := blk_frozen BK110.out 3) | ((with_reducible refine gate_callee (f := 54) rfl ?_); refine goesL_ (some 10) rfl rfl Try.func54 (by kernel_rfl) rfl #[.string a0_0, .string a1_0] rfl (by (try simp only [List.map_toArray, List.map_cons, List.map_nil]); first | done | rfl | (simp only [List.length_drop, List.length_take]; rfl)) ?_; (with_reducible refine (cornucopiaref1_Less.calls k a0_0 a1_0 false _ A3.out).mono ?_); rintro e w' ⟨rfl, ⟨nd, rfl⟩⟩; refine ⟨_, rfl, ?_⟩) | ((with_reducible refine gate_callee (f := 54) rfl ?_); refine goesL_ (some 16) rfl rfl Try.func54 (by kernel_rfl) rfl #[.string a1_0, .string a0_0] rfl (by (try simp only [List.map_toArray, List.map_cons, List.map_nil]); first | done | rfl | (simp only [List.length_drop, List.length_take]; rfl)) ?_; (with_reducible refine (cornucopiaref1_Less.calls k a1_0 a0_0 false _ A10.out).mono ?_); rintro e w' ⟨rfl, ⟨nd, rfl⟩⟩; refine ⟨_, rfl, ?_⟩))
          go_ret
          exact ⟨by first | rfl | (simp [errW_none, errW_some] <;> rfl) | (simp [*, errW_none, errW_some] <;> rfl), by repeat (first | (with_reducible first | exact HB.out | apply below_alloc | apply pw_below_drewN | apply below_drew1 | refine below_set ?_ GE109.out | refine below_set ?_ GE110.out) | exact HB.out)⟩
        · rw [if_neg c23] at H
          have c23b0 : decide (a0_1 < a1_1) = false := decide_eq_false c23
          clear c23
          obtain rfl := Option.some.inj H
          go_enter Try.func28, Try.ntmps28
          go_wp2_with (first | ((with_reducible refine gate_dst (N := 2) rfl ?_); refine box_event ?hg (N := 2) ?hd (cs := #[.string a0_0, .int .u64 a0_1, .int .i64 a0_2, .string a0_3]) (t := 29) ?hr ?_; (case hd => rfl); (case hg => rfl); (case hr => first | (go_simp; done) | (go_simp; rfl)); intro gb109 hg w29 hbox hb; have n0_ := Aside0.mk (below_step (by repeat (first | (with_reducible first | exact HB.out | apply below_alloc | apply pw_below_drewN | apply below_drew1) | exact HB.out)) hb); have n1_ := Aside0.mk (hbox); have n2_ := Aside0.mk ((by rw [hg]; exact (below_size (by repeat (first | (with_reducible first | exact HB.out | apply below_alloc | apply pw_below_drewN | apply below_drew1) | exact HB.out))) : w.heap.size ≤ gb109)); have n3_ := Aside0.mk ((by rw [hg]; exact (below_size (by repeat (first | (with_reducible first | exact HB.out | apply below_alloc | apply pw_below_drewN | apply below_drew1) | exact HB.out))) : w.heap.size ≤ gb109)); clear HB; have HB := n0_; have BK109 := n1_; have GW109 := n2_; have GE109 := n3_; clear n0_ n1_ n2_ n3_; clear hb hbox hg) | ((with_reducible refine gate_dst (N := 3) rfl ?_); refine box_event ?hg (N := 3) ?hd (cs := #[.string a1_0, .int .u64 a1_1, .int .i64 a1_2, .string a1_3]) (t := 29) ?hr ?_; (case hd => rfl); (case hg => rfl); (case hr => first | (go_simp; done) | (go_simp; rfl)); intro gb110 hg w30 hbox hb; have n0_ := Aside0.mk (blk_below (g := gb109) (o := .cells #[.string a0_0, .int .u64 a0_1, .int .i64 a0_2, .string a0_3] 29 (0, 0)) (by (with_reducible repeat (first | refine blk_drewN ?_ _ | refine blk_drew ?_ | refine blk_alloc ?_ _)); exact BK109.out) hb); have n1_ := Aside0.mk (below_step (by repeat (first | (with_reducible first | exact HB.out | apply below_alloc | apply pw_below_drewN | apply below_drew1 | refine below_set ?_ GE109.out) | exact HB.out)) hb); have n2_ := Aside0.mk (hbox); have n3_ := Aside0.mk ((by rw [hg]; exact (below_size (by repeat (first | (with_reducible first | exact HB.out | apply below_alloc | apply pw_below_drewN | apply below_drew1 | refine below_set ?_ GE109.out) | exact HB.out))) : w.heap.size ≤ gb110)); have n4_ := Aside0.mk ((by rw [hg]; exact (below_size (by repeat (first | (with_reducible first | exact HB.out | apply below_alloc | apply pw_below_drewN | apply below_drew1 | refine below_set ?_ GE109.out) | exact HB.out))) : w.heap.size ≤ gb110)); have n5_ := Aside0.mk ((by rw [hg]; exact Nat.ne_of_lt (blk_lt (g := gb109) (o := .cells #[.string a0_0, .int .u64 a0_1, .int .i64 a0_2, .string a0_3] 29 (0, 0)) (by (with_reducible repeat (first | refine blk_drewN ?_ _ | refine blk_drew ?_ | refine blk_alloc ?_ _)); exact BK109.out)) : gb109 ≠ gb110)); have n6_ := Aside0.mk ((by rw [hg]; exact Nat.ne_of_gt (blk_lt (g := gb109) (o := .cells #[.string a0_0, .int .u64 a0_1, .int .i64 a0_2, .string a0_3] 29 (0, 0)) (by (with_reducible repeat (first | refine blk_drewN ?_ _ | refine blk_drew ?_ | refine blk_alloc ?_ _)); exact BK109.out)) : gb110 ≠ gb109)); clear BK109; clear HB; have BK109 := n0_; have HB := n1_; have BK110 := n2_; have GW110 := n3_; have GE110 := n4_; have NB109_110 := n5_; have NB110_109 := n6_; clear n0_ n1_ n2_ n3_ n4_ n5_ n6_; clear hb hbox hg; have hnb31 := NB109_110.out; have hnc31 := NB110_109.out; have hcz32_0 : w30.cell? ⟨gb109, 0, none⟩ = some (.string a0_0) := (blk_cell BK109.out 0).trans rfl; have hcz32_1 : w30.cell? ⟨gb109, 1, none⟩ = some (.int .u64 a0_1) := (blk_cell BK109.out 1).trans rfl; have hcz32_2 : w30.cell? ⟨gb109, 2, none⟩ = some (.int .i64 a0_2) := (blk_cell BK109.out 2).trans rfl; have hcz32_3 : w30.cell? ⟨gb109, 3, none⟩ = some (.string a0_3) := (blk_cell BK109.out 3).trans rfl; have hfz32_0 := blk_frozen BK109.out 0; have hfz32_1 := blk_frozen BK109.out 1; have hfz32_2 := blk_frozen BK109.out 2; have hfz32_3 := blk_frozen BK109.out 3; have hcz33_0 : w30.cell? ⟨gb110, 0, none⟩ = some (.string a1_0) := (blk_cell BK110.out 0).trans rfl; have hcz33_1 : w30.cell? ⟨gb110, 1, none⟩ = some (.int .u64 a1_1) := (blk_cell BK110.out 1).trans rfl; have hcz33_2 : w30.cell? ⟨gb110, 2, none⟩ = some (.int .i64 a1_2) := (blk_cell BK110.out 2).trans rfl; have hcz33_3 : w30.cell? ⟨gb110, 3, none⟩ = some (.string a1_3) := (blk_cell BK110.out 3).trans rfl; have hfz33_0 := blk_frozen BK110.out 0; have hfz33_1 := blk_frozen BK110.out 1; have hfz33_2 := blk_frozen BK110.out 2; have hfz33_3 := blk_frozen BK110.out 3) | ((with_reducible refine gate_callee (f := 54) rfl ?_); refine goesL_ (some 10) rfl rfl Try.func54 (by kernel_rfl) rfl #[.string a0_0, .string a1_0] rfl (by (try simp only [List.map_toArray, List.map_cons, List.map_nil]); first | done | rfl | (simp only [List.length_drop, List.length_take]; rfl)) ?_; (with_reducible refine (cornucopiaref1_Less.calls k a0_0 a1_0 false _ A3.out).mono ?_); rintro e w' ⟨rfl, ⟨nd, rfl⟩⟩; refine ⟨_, rfl, ?_⟩) | ((with_reducible refine gate_callee (f := 54) rfl ?_); refine goesL_ (some 16) rfl rfl Try.func54 (by kernel_rfl) rfl #[.string a1_0, .string a0_0] rfl (by (try simp only [List.map_toArray, List.map_cons, List.map_nil]); first | done | rfl | (simp only [List.length_drop, List.length_take]; rfl)) ?_; (with_reducible refine (cornucopiaref1_Less.calls k a1_0 a0_0 false _ A10.out).mono ?_); rintro e w' ⟨rfl, ⟨nd, rfl⟩⟩; refine ⟨_, rfl, ?_⟩))
          go_ret
          exact ⟨by first | rfl | (simp [errW_none, errW_some] <;> rfl) | (simp [*, errW_none, errW_some] <;> rfl), by repeat (first | (with_reducible first | exact HB.out | apply below_alloc | apply pw_below_drewN | apply below_drew1 | refine below_set ?_ GE109.out | refine below_set ?_ GE110.out) | exact HB.out)⟩
end Go.Proofs.Ytchgpcgolgcfdaa.PNum
end
section
namespace Go.Proofs.Ytchgpcgolgcfdaa.PNum
open Go.RowKit Go.Proofs.YtchgpcgolgcfdaaW.PrintWords Go.Proofs.YtchgpcgolgcfdaaW.PrintLast Go.Proofs.YtchgpcgolgcfdaaW.PrintMore
attribute [local go_sem] max2_int min2_int max_two min_two max_three min_three max_four min_four   -- for this text's walks alone
set_option linter.unusedVariables false
set_option linter.unusedSimpArgs false
def cornucopialaw5_Ordered.l0 : Nat → List (S29) → Int → Option (Bool)
  | 0, _, _ => none
  | k + 1, x0, x3 => if x3 < (x0.length : Int) then (if 0 ≤ (wrap64 (x3 - 1)) then (if (wrap64 (x3 - 1)) < (x0.length : Int) then (if 0 ≤ x3 then ((cornucopiaref5_Compare.f k ((rd_T29 x0 (wrap64 (x3 - 1))).f0) ((rd_T29 x0 (wrap64 (x3 - 1))).f1) ((rd_T29 x0 (wrap64 (x3 - 1))).f2) ((rd_T29 x0 (wrap64 (x3 - 1))).f3) ((rd_T29 x0 x3).f0) ((rd_T29 x0 x3).f1) ((rd_T29 x0 x3).f2) ((rd_T29 x0 x3).f3)).bind fun t115 => (if t115 ≥ 0 then (some false) else (cornucopialaw5_Ordered.l0 k x0 (wrap64 (x3 + 1))))) else (none)) else (none)) else (none)) else (some true)
def cornucopialaw5_Ordered.f (k : Nat) (l0 : List (S29)) : Option (Bool) := cornucopialaw5_Ordered.l0 k l0 1
theorem cornucopialaw5_Ordered.mono_l : ∀ k, (∀ y0 y1, LeO (cornucopialaw5_Ordered.l0 k y0 y1) (cornucopialaw5_Ordered.l0 (k + 1) y0 y1))
  | 0 => fun _ _ r h => by simp [cornucopialaw5_Ordered.l0] at h
  | k + 1 => by
    have ih0 := cornucopialaw5_Ordered.mono_l k
    · intro y0 y1
      unfold cornucopialaw5_Ordered.l0
      repeat' first
      | (with_reducible exact ih0 _ _)
      | (with_reducible exact cornucopiaref5_Compare.mono _ _ _ _ _ _ _ _ _)
      | (with_reducible exact LeO.refl _)
      | (with_reducible exact LeO.none _)
      | (with_reducible refine LeO.ite ?_ ?_)
      | (with_reducible refine LeO.bind ?_ (fun _ => ?_))
      | exact ih0 _ _
      | exact cornucopiaref5_Compare.mono _ _ _ _ _ _ _ _ _
      | exact LeO.none _
      | refine LeO.ite ?_ ?_
      | refine LeO.bind ?_ (fun _ => ?_)
theorem cornucopialaw5_Ordered.mono : ∀ a0 k, LeO (cornucopialaw5_Ordered.f k a0) (cornucopialaw5_Ordered.f (k + 1) a0) := by
  intro a0 k
  have ih0 := cornucopialaw5_Ordered.mono_l k
  unfold cornucopialaw5_Ordered.f
  repeat' first
      | (with_reducible exact ih0 _ _)
      | (with_reducible exact cornucopiaref5_Compare.mono _ _ _ _ _ _ _ _ _)
      | (with_reducible exact LeO.refl _)
      | (with_reducible exact LeO.none _)
      | (with_reducible refine LeO.ite ?_ ?_)
      | (with_reducible refine LeO.bind ?_ (fun _ => ?_))
      | exact ih0 _ _
      | exact cornucopiaref5_Compare.mono _ _ _ _ _ _ _ _ _
      | exact LeO.none _
      | refine LeO.ite ?_ ?_
      | refine LeO.bind ?_ (fun _ => ?_)
def cornucopialaw5_Ordered.T4 : Bool × List (List Nat × List Nat) := (true, [([], []), ([], []), ([1], [1]), ([0, 2], [0, 2]), ([3], [3]), ([], []), ([], []), ([5, 6], [5, 6]), ([7], [7]), ([4, 8], [4, 8]), ([9], [9])])
def cornucopialaw5_Ordered.B4 : List Nat := [0, 0, 2, 7, 15, 0, 0, 96, 224, 511, 1023]
theorem cornucopialaw5_Ordered.tab4 : rtab .any (opsOf Try.f10 4) = cornucopialaw5_Ordered.T4 := by kernel_rfl
theorem cornucopialaw5_Ordered.bits4 : waitsOk cornucopialaw5_Ordered.T4.2 cornucopialaw5_Ordered.B4 = true := by kernel_rfl
set_option maxHeartbeats 8000000 in
set_option maxRecDepth 100000 in
theorem cornucopialaw5_Ordered.calls (k : Nat) (A0 : Option Addr) (c0 : Nat) (l0 : List (S29)) (r : Bool) (w : World) (hr0 : Kd.C k29 w A0 l0.length l0) (hc0 : l0.length ≤ c0) (h : cornucopialaw5_Ordered.f k l0 = some r) :
    Calls Try.prog 10 #[.slice A0 l0.length c0] w fun e w' => e = .returned (.bool r) ∧ Below w.heap.size w w' := by
  have hu29 := Try.underlying29
  have HR0 := Aside0.mk hr0
  have HC0 := Aside0.mk hc0
  clear hr0 hc0
  have HB := Aside0.mk (Below.refl w.heap.size w)
  have H : (cornucopialaw5_Ordered.l0 k l0 1) = some r := h
  clear h
  have H' := Aside0.mk H
  clear H
  go_enter Try.func10, Try.ntmps10
  go_wp2
  go_loopg [3] k (fun kq v3 w' => ∃ (x3_1 : Int), v3 = .int .i64 x3_1 ∧ Aside0 (cornucopialaw5_Ordered.l0 kq l0 x3_1 = some r) ∧ Aside0 (kq ≤ k) ∧ Aside0 (Below w.heap.size w w'))
  case atStart => exact ⟨(1), (by first | rfl | (simp; done) | (simp [*]; done)), H', ⟨Nat.le_refl _⟩, ⟨by repeat (first | (with_reducible first | exact HB.out | apply below_alloc | apply pw_below_drewN | apply below_drew1) | exact HB.out)⟩⟩
  case round =>
    clear H'
    try clear c1
    obtain ⟨x3_1, rfl, HA, HK1, HB⟩ := hrel
    cases gk with
    | zero => exact absurd HA.out (by simp [cornucopialaw5_Ordered.l0])
    | succ k1 =>
      have H := HA.out
      clear HA
      simp only [cornucopialaw5_Ordered.l0] at H
      by_cases c2 : x3_1 < (l0.length : Int)
      · rw [if_pos c2] at H
        have c2b0 : decide (x3_1 < (l0.length : Int)) = true := decide_eq_true c2
        clear c2
        obtain ⟨ji3, hji3⟩ : ∃ j_ : Int, (wrap64 (x3_1 - 1)) = j_ := ⟨_, rfl⟩
        replace H : (if 0 ≤ (ji3) then (if (ji3) < (l0.length : Int) then (if 0 ≤ x3_1 then ((cornucopiaref5_Compare.f k1 ((rd_T29 l0 (ji3)).f0) ((rd_T29 l0 (ji3)).f1) ((rd_T29 l0 (ji3)).f2) ((rd_T29 l0 (ji3)).f3) ((rd_T29 l0 x3_1).f0) ((rd_T29 l0 x3_1).f1) ((rd_T29 l0 x3_1).f2) ((rd_T29 l0 x3_1).f3)).bind fun t115 => (if t115 ≥ 0 then (some false) else (cornucopialaw5_Ordered.l0 k1 l0 (wrap64 (x3_1 + 1))))) else (none)) else (none)) else (none)) = some r := by first | (rw [hji3] at H; exact H) | (simp only [hji3] at H ⊢; exact H)
        have hji3w : (IntKind.i64.wrap (x3_1 - 1)) = ji3 := (i64_w _).trans hji3
        by_cases c4 : 0 ≤ (ji3)
        · rw [if_pos c4] at H
          have c4b0 : decide (0 ≤ (ji3)) = true := decide_eq_true c4
          clear c4
          by_cases c5 : (ji3) < (l0.length : Int)
          · rw [if_pos c5] at H
            have c5b0 : decide ((ji3) < (l0.length : Int)) = true := decide_eq_true c5
            clear c5
            by_cases c6 : 0 ≤ x3_1
            · rw [if_pos c6] at H
              have c6b0 : decide (0 ≤ x3_1) = true := decide_eq_true c6
              clear c6
              replace H := Option.bind_eq_some_iff.mp H
              obtain ⟨t115, A70, H⟩ := H
              replace H : (if t115 ≥ 0 then (some false) else (cornucopialaw5_Ordered.l0 k1 l0 (wrap64 (x3_1 + 1)))) = some r := H
              have A7 := Aside0.mk A70
              clear A70
              by_cases c8 : t115 ≥ 0
              · rw [if_pos c8] at H
                have c8b0 : decide (0 ≤ t115) = true := decide_eq_true c8
                clear c8
                obtain rfl := Option.some.inj H
                try go_wp2
                have n0_ := Aside0.mk (below_drew1 HB.out)
                clear HB
                have HB := n0_
                clear n0_
                have p113 : 0 ≤ ((ji3) : Int) := of_decide_eq_true (by first | (with_reducible assumption) | assumption)
                have q113 : (ji3) < (l0.length : Int) := of_decide_eq_true (by first | (with_reducible assumption) | assumption)
                obtain ⟨ad113, e113, hx113_0, hx113_1, hx113_2, hx113_3⟩ := at_T29 HR0.out (ji3) p113 q113
                have hw113_3 := hx113_3
                have hw113_2 := hx113_2
                have hw113_1 := hx113_1
                have hw113_0 := hx113_0
                cases e113
                replace hx113_0 := (HB.out.cell (World.block_lt_of_cell? w _ hx113_0)).trans hx113_0
                replace hx113_1 := (HB.out.cell (World.block_lt_of_cell? w _ hx113_1)).trans hx113_1
                replace hx113_2 := (HB.out.cell (World.block_lt_of_cell? w _ hx113_2)).trans hx113_2
                replace hx113_3 := (HB.out.cell (World.block_lt_of_cell? w _ hx113_3)).trans hx113_3
                replace p113 := eq_true p113
                replace q113 := eq_true q113
                have p114 : 0 ≤ (x3_1 : Int) := of_decide_eq_true (by first | (with_reducible assumption) | assumption)
                have q114 : x3_1 < (l0.length : Int) := of_decide_eq_true (by first | (with_reducible assumption) | assumption)
                obtain ⟨ad114, e114, hx114_0, hx114_1, hx114_2, hx114_3⟩ := at_T29 HR0.out x3_1 p114 q114
                have hw114_3 := hx114_3
                have hw114_2 := hx114_2
                have hw114_1 := hx114_1
                have hw114_0 := hx114_0
                obtain rfl : ad113 = ad114 := (by injection e114)
                replace hx114_0 := (HB.out.cell (World.block_lt_of_cell? w _ hx114_0)).trans hx114_0
                replace hx114_1 := (HB.out.cell (World.block_lt_of_cell? w _ hx114_1)).trans hx114_1
                replace hx114_2 := (HB.out.cell (World.block_lt_of_cell? w _ hx114_2)).trans hx114_2
                replace hx114_3 := (HB.out.cell (World.block_lt_of_cell? w _ hx114_3)).trans hx114_3
                replace p114 := eq_true p114
                replace q114 := eq_true q114
                refine start_ (n := 11) (S := fun w' => w'.cell? (ad113.add (((ji3)).toNat * 4)) = some (.string ((rd_T29 l0 (ji3)).f0)) ∧ w'.cell? ⟨(ad113.add (((ji3)).toNat * 4)).block, (ad113.add (((ji3)).toNat * 4)).off + 1, none⟩ = some (.int .u64 ((rd_T29 l0 (ji3)).f1)) ∧ w'.cell? ⟨(ad113.add (((ji3)).toNat * 4)).block, (ad113.add (((ji3)).toNat * 4)).off + 2, none⟩ = some (.int .i64 ((rd_T29 l0 (ji3)).f2)) ∧ w'.cell? ⟨(ad113.add (((ji3)).toNat * 4)).block, (ad113.add (((ji3)).toNat * 4)).off + 3, none⟩ = some (.string ((rd_T29 l0 (ji3)).f3)) ∧ w'.cell? (ad113.add ((x3_1).toNat * 4)) = some (.string ((rd_T29 l0 x3_1).f0)) ∧ w'.cell? ⟨(ad113.add ((x3_1).toNat * 4)).block, (ad113.add ((x3_1).toNat * 4)).off + 1, none⟩ = some (.int .u64 ((rd_T29 l0 x3_1).f1)) ∧ w'.cell? ⟨(ad113.add ((x3_1).toNat * 4)).block, (ad113.add ((x3_1).toNat * 4)).off + 2, none⟩ = some (.int .i64 ((rd_T29 l0 x3_1).f2)) ∧ w'.cell? ⟨(ad113.add ((x3_1).toNat * 4)).block, (ad113.add ((x3_1).toNat * 4)).off + 3, none⟩ = some (.string ((rd_T29 l0 x3_1).f3))) (ds := []) #[false, false, false, false, false, false, false, false, false, false, false] (by kernel_rfl) rfl rfl ⟨((HB.out.cell (World.block_lt_of_cell? w _ hw113_0)).trans hw113_0), ((HB.out.cell (World.block_lt_of_cell? w _ hw113_1)).trans hw113_1), ((HB.out.cell (World.block_lt_of_cell? w _ hw113_2)).trans hw113_2), ((HB.out.cell (World.block_lt_of_cell? w _ hw113_3)).trans hw113_3), ((HB.out.cell (World.block_lt_of_cell? w _ hw114_0)).trans hw114_0), ((HB.out.cell (World.block_lt_of_cell? w _ hw114_1)).trans hw114_1), ((HB.out.cell (World.block_lt_of_cell? w _ hw114_2)).trans hw114_2), ((HB.out.cell (World.block_lt_of_cell? w _ hw114_3)).trans hw114_3)⟩ (fun hHeld => ?_); refine with_tabW cornucopialaw5_Ordered.tab4 cornucopialaw5_Ordered.bits4 (fun HT_ HW_ => ?_)
                generalize wr.drew = w9 at HB hx113_0 hx113_1 hx113_2 hx113_3 hx114_0 hx114_1 hx114_2 hx114_3 hHeld ⊢
                refine pure_ (i := 0) (N := some 10) (v := ?_) (a' := ?_) #[true, false, false, false, false, false, false, false, false, false, false] rfl rfl (any_of HT_.out (by kernel_rfl)) (fun _ _ _ h => h) (Or.inl ⟨by rfl, ?_⟩) ?_ ?_
                rotate_left
                · intro w'
                  go_simp
                  with_reducible rfl
                rotate_left
                · simp only [Act.put, List.setIfInBounds_toArray, List.set_cons_zero, List.set_cons_succ, i64_w, i32_w]
                  rfl
                refine pure_ (i := 1) (N := some 11) (v := ?_) (a' := ?_) #[true, true, false, false, false, false, false, false, false, false, false] rfl rfl (any_of HT_.out (by kernel_rfl)) (fun _ _ _ h => h) (Or.inl ⟨by rfl, ?_⟩) ?_ ?_
                rotate_left
                · intro w'
                  go_simp
                  with_reducible rfl
                rotate_left
                · simp only [Act.put, List.setIfInBounds_toArray, List.set_cons_zero, List.set_cons_succ, i64_w, i32_w]
                  rfl
                refine pure_ (i := 2) (N := some 12) (v := ?_) (a' := ?_) #[true, true, true, false, false, false, false, false, false, false, false] rfl rfl (any_of HT_.out (by kernel_rfl)) (fun _ _ _ h => h) (Or.inl ⟨by rfl, ?_⟩) ?_ ?_
                rotate_left
                · intro w'
                  go_simp
                  with_reducible rfl
                rotate_left
                · simp only [Act.put, List.setIfInBounds_toArray, List.set_cons_zero, List.set_cons_succ, i64_w, i32_w]
                  rfl
                refine pure_ (i := 3) (N := some 13) (v := ?_) (a' := ?_) #[true, true, true, true, false, false, false, false, false, false, false] rfl rfl (any_of HT_.out (by kernel_rfl)) (fun _ _ _ h => h) (Or.inl ⟨by rfl, ?_⟩) ?_ ?_
                rotate_left
                · intro w'
                  go_simp
                  with_reducible rfl
                rotate_left
                · simp only [Act.put, List.setIfInBounds_toArray, List.set_cons_zero, List.set_cons_succ, i64_w, i32_w]
                  rfl
                refine pure_ (i := 5) (N := some 15) (v := ?_) (a' := ?_) #[true, true, true, true, false, true, false, false, false, false, false] rfl rfl (any_of HT_.out (by kernel_rfl)) (fun _ _ _ h => h) (Or.inl ⟨by rfl, ?_⟩) ?_ ?_
                rotate_left
                · intro w'
                  go_simp
                  with_reducible rfl
                rotate_left
                · simp only [Act.put, List.setIfInBounds_toArray, List.set_cons_zero, List.set_cons_succ, i64_w, i32_w]
                  rfl
                refine pure_ (i := 6) (N := some 16) (v := ?_) (a' := ?_) #[true, true, true, true, false, true, true, false, false, false, false] rfl rfl (any_of HT_.out (by kernel_rfl)) (fun _ _ _ h => h) (Or.inl ⟨by rfl, ?_⟩) ?_ ?_
                rotate_left
                · intro w'
                  go_simp
                  with_reducible rfl
                rotate_left
                · simp only [Act.put, List.setIfInBounds_toArray, List.set_cons_zero, List.set_cons_succ, i64_w, i32_w]
                  rfl
                refine pure_ (i := 7) (N := some 17) (v := ?_) (a' := ?_) #[true, true, true, true, false, true, true, true, false, false, false] rfl rfl (any_of HT_.out (by kernel_rfl)) (fun _ _ _ h => h) (Or.inl ⟨by rfl, ?_⟩) ?_ ?_
                rotate_left
                · intro w'
                  go_simp
                  with_reducible rfl
                rotate_left
                · simp only [Act.put, List.setIfInBounds_toArray, List.set_cons_zero, List.set_cons_succ, i64_w, i32_w]
                  rfl
                refine take_ (i := 4) (N := some 14) (v := ?_) (a' := ?_) #[true, true, true, true, true, true, true, true, false, false, false] rfl rfl (take_ofW HT_.out HW_.out (by kernel_rfl)) (fun _ _ _ h => h) (Or.inl ⟨by rfl, ?_⟩) hHeld ?_ ?_
                rotate_left
                · rintro w' ⟨s0, s1, s2, s3, s4, s5, s6, s7⟩
                  go_simp
                  with_reducible rfl
                rotate_left
                · simp only [Act.put, List.setIfInBounds_toArray, List.set_cons_zero, List.set_cons_succ, i64_w, i32_w]
                  rfl
                refine take_ (i := 8) (N := some 18) (v := ?_) (a' := ?_) #[true, true, true, true, true, true, true, true, true, false, false] rfl rfl (take_ofW HT_.out HW_.out (by kernel_rfl)) (fun _ _ _ h => h) (Or.inl ⟨by rfl, ?_⟩) hHeld ?_ ?_
                rotate_left
                · rintro w' ⟨s0, s1, s2, s3, s4, s5, s6, s7⟩
                  go_simp
                  with_reducible rfl
                rotate_left
                · simp only [Act.put, List.setIfInBounds_toArray, List.set_cons_zero, List.set_cons_succ, i64_w, i32_w]
                  rfl
                refine one_ (i := 9) (N := some 19) #[true, true, true, true, true, true, true, true, true, true, false] rfl rfl (one_of HT_.out (by kernel_rfl)) (by decide) (fun K hK => ?_)
                refine goes_ Try.func28 (by kernel_rfl) rfl #[.agg #[.string ((rd_T29 l0 (ji3)).f0), .int .u64 ((rd_T29 l0 (ji3)).f1), .int .i64 ((rd_T29 l0 (ji3)).f2), .string ((rd_T29 l0 (ji3)).f3)], .agg #[.string ((rd_T29 l0 x3_1).f0), .int .u64 ((rd_T29 l0 x3_1).f1), .int .i64 ((rd_T29 l0 x3_1).f2), .string ((rd_T29 l0 x3_1).f3)]] (by rfl) rfl rfl (by (try simp only [List.map_toArray, List.map_cons, List.map_nil]); first | done | (simp only [hji3]; rfl) | rfl | (simp only [List.length_drop, List.length_take]; rfl)) ?_
                with_reducible refine (cornucopiaref5_Compare.calls k1 ((rd_T29 l0 (ji3)).f0) ((rd_T29 l0 (ji3)).f1) ((rd_T29 l0 (ji3)).f2) ((rd_T29 l0 (ji3)).f3) ((rd_T29 l0 x3_1).f0) ((rd_T29 l0 x3_1).f1) ((rd_T29 l0 x3_1).f2) ((rd_T29 l0 x3_1).f3) t115 _ A7.out).mono ?_
                rintro e w10 ⟨rfl, hb⟩
                refine ⟨_, rfl, ?_⟩
                have n0_ := Aside0.mk (below_step (by repeat (first | (with_reducible first | exact HB.out | apply below_alloc | apply pw_below_drewN | apply below_drew1) | exact HB.out)) hb)
                clear HB
                have HB := n0_
                clear n0_
                (try clear hb)
                (try clear hb2)
                (try clear hk)
                (try clear hi)
                refine hK.out _ _ ⟨((HB.out.cell (World.block_lt_of_cell? w _ hw113_0)).trans hw113_0), ((HB.out.cell (World.block_lt_of_cell? w _ hw113_1)).trans hw113_1), ((HB.out.cell (World.block_lt_of_cell? w _ hw113_2)).trans hw113_2), ((HB.out.cell (World.block_lt_of_cell? w _ hw113_3)).trans hw113_3), ((HB.out.cell (World.block_lt_of_cell? w _ hw114_0)).trans hw114_0), ((HB.out.cell (World.block_lt_of_cell? w _ hw114_1)).trans hw114_1), ((HB.out.cell (World.block_lt_of_cell? w _ hw114_2)).trans hw114_2), ((HB.out.cell (World.block_lt_of_cell? w _ hw114_3)).trans hw114_3)⟩ (fun hHeld => ?_)
                clear hK K
                refine norm_ (a' := ?_) ?_ ?_
                rotate_left
                · show Act.put _ (some 19) _ = _
                  simp only [Act.put, List.setIfInBounds_toArray, List.set_cons_zero, List.set_cons_succ, i64_w, i32_w]
                  rfl
                refine pure_ (i := 10) (N := some 20) (v := ?_) (a' := ?_) #[true, true, true, true, true, true, true, true, true, true, true] rfl rfl (any_of HT_.out (by kernel_rfl)) (fun _ _ _ h => h) (Or.inl ⟨by rfl, ?_⟩) ?_ ?_
                rotate_left
                · intro w'
                  go_simp
                  with_reducible rfl
                rotate_left
                · simp only [Act.put, List.setIfInBounds_toArray, List.set_cons_zero, List.set_cons_succ, i64_w, i32_w]
                  rfl
                refine done_ (done_of HT_.out (by kernel_rfl)) ?_
                try go_wp2
                go_ret
                exact ⟨by first | rfl | (simp [errW_none, errW_some] <;> rfl) | (simp only [← hji3]; first | rfl | (simp [errW_none, errW_some] <;> rfl)) | (simp [*, errW_none, errW_some] <;> rfl), by repeat (first | (with_reducible first | exact HB.out | apply below_alloc | apply pw_below_drewN | apply below_drew1) | exact HB.out)⟩
              · rw [if_neg c8] at H
                have c8b0 : decide (0 ≤ t115) = false := decide_eq_false c8
                clear c8
                have H' := Aside0.mk H
                clear H
                try go_wp2
                have n0_ := Aside0.mk (below_drew1 HB.out)
                clear HB
                have HB := n0_
                clear n0_
                have p113 : 0 ≤ ((ji3) : Int) := of_decide_eq_true (by first | (with_reducible assumption) | assumption)
                have q113 : (ji3) < (l0.length : Int) := of_decide_eq_true (by first | (with_reducible assumption) | assumption)
                obtain ⟨ad113, e113, hx113_0, hx113_1, hx113_2, hx113_3⟩ := at_T29 HR0.out (ji3) p113 q113
                have hw113_3 := hx113_3
                have hw113_2 := hx113_2
                have hw113_1 := hx113_1
                have hw113_0 := hx113_0
                cases e113
                replace hx113_0 := (HB.out.cell (World.block_lt_of_cell? w _ hx113_0)).trans hx113_0
                replace hx113_1 := (HB.out.cell (World.block_lt_of_cell? w _ hx113_1)).trans hx113_1
                replace hx113_2 := (HB.out.cell (World.block_lt_of_cell? w _ hx113_2)).trans hx113_2
                replace hx113_3 := (HB.out.cell (World.block_lt_of_cell? w _ hx113_3)).trans hx113_3
                replace p113 := eq_true p113
                replace q113 := eq_true q113
                have p114 : 0 ≤ (x3_1 : Int) := of_decide_eq_true (by first | (with_reducible assumption) | assumption)
                have q114 : x3_1 < (l0.length : Int) := of_decide_eq_true (by first | (with_reducible assumption) | assumption)
                obtain ⟨ad114, e114, hx114_0, hx114_1, hx114_2, hx114_3⟩ := at_T29 HR0.out x3_1 p114 q114
                have hw114_3 := hx114_3
                have hw114_2 := hx114_2
                have hw114_1 := hx114_1
                have hw114_0 := hx114_0
                obtain rfl : ad113 = ad114 := (by injection e114)
                replace hx114_0 := (HB.out.cell (World.block_lt_of_cell? w _ hx114_0)).trans hx114_0
                replace hx114_1 := (HB.out.cell (World.block_lt_of_cell? w _ hx114_1)).trans hx114_1
                replace hx114_2 := (HB.out.cell (World.block_lt_of_cell? w _ hx114_2)).trans hx114_2
                replace hx114_3 := (HB.out.cell (World.block_lt_of_cell? w _ hx114_3)).trans hx114_3
                replace p114 := eq_true p114
                replace q114 := eq_true q114
                refine start_ (n := 11) (S := fun w' => w'.cell? (ad113.add (((ji3)).toNat * 4)) = some (.string ((rd_T29 l0 (ji3)).f0)) ∧ w'.cell? ⟨(ad113.add (((ji3)).toNat * 4)).block, (ad113.add (((ji3)).toNat * 4)).off + 1, none⟩ = some (.int .u64 ((rd_T29 l0 (ji3)).f1)) ∧ w'.cell? ⟨(ad113.add (((ji3)).toNat * 4)).block, (ad113.add (((ji3)).toNat * 4)).off + 2, none⟩ = some (.int .i64 ((rd_T29 l0 (ji3)).f2)) ∧ w'.cell? ⟨(ad113.add (((ji3)).toNat * 4)).block, (ad113.add (((ji3)).toNat * 4)).off + 3, none⟩ = some (.string ((rd_T29 l0 (ji3)).f3)) ∧ w'.cell? (ad113.add ((x3_1).toNat * 4)) = some (.string ((rd_T29 l0 x3_1).f0)) ∧ w'.cell? ⟨(ad113.add ((x3_1).toNat * 4)).block, (ad113.add ((x3_1).toNat * 4)).off + 1, none⟩ = some (.int .u64 ((rd_T29 l0 x3_1).f1)) ∧ w'.cell? ⟨(ad113.add ((x3_1).toNat * 4)).block, (ad113.add ((x3_1).toNat * 4)).off + 2, none⟩ = some (.int .i64 ((rd_T29 l0 x3_1).f2)) ∧ w'.cell? ⟨(ad113.add ((x3_1).toNat * 4)).block, (ad113.add ((x3_1).toNat * 4)).off + 3, none⟩ = some (.string ((rd_T29 l0 x3_1).f3))) (ds := []) #[false, false, false, false, false, false, false, false, false, false, false] (by kernel_rfl) rfl rfl ⟨((HB.out.cell (World.block_lt_of_cell? w _ hw113_0)).trans hw113_0), ((HB.out.cell (World.block_lt_of_cell? w _ hw113_1)).trans hw113_1), ((HB.out.cell (World.block_lt_of_cell? w _ hw113_2)).trans hw113_2), ((HB.out.cell (World.block_lt_of_cell? w _ hw113_3)).trans hw113_3), ((HB.out.cell (World.block_lt_of_cell? w _ hw114_0)).trans hw114_0), ((HB.out.cell (World.block_lt_of_cell? w _ hw114_1)).trans hw114_1), ((HB.out.cell (World.block_lt_of_cell? w _ hw114_2)).trans hw114_2), ((HB.out.cell (World.block_lt_of_cell? w _ hw114_3)).trans hw114_3)⟩ (fun hHeld => ?_); refine with_tabW cornucopialaw5_Ordered.tab4 cornucopialaw5_Ordered.bits4 (fun HT_ HW_ => ?_)
                generalize wr.drew = w11 at HB hx113_0 hx113_1 hx113_2 hx113_3 hx114_0 hx114_1 hx114_2 hx114_3 hHeld ⊢
                refine pure_ (i := 0) (N := some 10) (v := ?_) (a' := ?_) #[true, false, false, false, false, false, false, false, false, false, false] rfl rfl (any_of HT_.out (by kernel_rfl)) (fun _ _ _ h => h) (Or.inl ⟨by rfl, ?_⟩) ?_ ?_
                rotate_left
                · intro w'
                  go_simp
                  with_reducible rfl
                rotate_left
                · simp only [Act.put, List.setIfInBounds_toArray, List.set_cons_zero, List.set_cons_succ, i64_w, i32_w]
                  rfl
                refine pure_ (i := 1) (N := some 11) (v := ?_) (a' := ?_) #[true, true, false, false, false, false, false, false, false, false, false] rfl rfl (any_of HT_.out (by kernel_rfl)) (fun _ _ _ h => h) (Or.inl ⟨by rfl, ?_⟩) ?_ ?_
                rotate_left
                · intro w'
                  go_simp
                  with_reducible rfl
                rotate_left
                · simp only [Act.put, List.setIfInBounds_toArray, List.set_cons_zero, List.set_cons_succ, i64_w, i32_w]
                  rfl
                refine pure_ (i := 2) (N := some 12) (v := ?_) (a' := ?_) #[true, true, true, false, false, false, false, false, false, false, false] rfl rfl (any_of HT_.out (by kernel_rfl)) (fun _ _ _ h => h) (Or.inl ⟨by rfl, ?_⟩) ?_ ?_
                rotate_left
                · intro w'
                  go_simp
                  with_reducible rfl
                rotate_left
                · simp only [Act.put, List.setIfInBounds_toArray, List.set_cons_zero, List.set_cons_succ, i64_w, i32_w]
                  rfl
                refine pure_ (i := 3) (N := some 13) (v := ?_) (a' := ?_) #[true, true, true, true, false, false, false, false, false, false, false] rfl rfl (any_of HT_.out (by kernel_rfl)) (fun _ _ _ h => h) (Or.inl ⟨by rfl, ?_⟩) ?_ ?_
                rotate_left
                · intro w'
                  go_simp
                  with_reducible rfl
                rotate_left
                · simp only [Act.put, List.setIfInBounds_toArray, List.set_cons_zero, List.set_cons_succ, i64_w, i32_w]
                  rfl
                refine pure_ (i := 5) (N := some 15) (v := ?_) (a' := ?_) #[true, true, true, true, false, true, false, false, false, false, false] rfl rfl (any_of HT_.out (by kernel_rfl)) (fun _ _ _ h => h) (Or.inl ⟨by rfl, ?_⟩) ?_ ?_
                rotate_left
                · intro w'
                  go_simp
                  with_reducible rfl
                rotate_left
                · simp only [Act.put, List.setIfInBounds_toArray, List.set_cons_zero, List.set_cons_succ, i64_w, i32_w]
                  rfl
                refine pure_ (i := 6) (N := some 16) (v := ?_) (a' := ?_) #[true, true, true, true, false, true, true, false, false, false, false] rfl rfl (any_of HT_.out (by kernel_rfl)) (fun _ _ _ h => h) (Or.inl ⟨by rfl, ?_⟩) ?_ ?_
                rotate_left
                · intro w'
                  go_simp
                  with_reducible rfl
                rotate_left
                · simp only [Act.put, List.setIfInBounds_toArray, List.set_cons_zero, List.set_cons_succ, i64_w, i32_w]
                  rfl
                refine pure_ (i := 7) (N := some 17) (v := ?_) (a' := ?_) #[true, true, true, true, false, true, true, true, false, false, false] rfl rfl (any_of HT_.out (by kernel_rfl)) (fun _ _ _ h => h) (Or.inl ⟨by rfl, ?_⟩) ?_ ?_
                rotate_left
                · intro w'
                  go_simp
                  with_reducible rfl
                rotate_left
                · simp only [Act.put, List.setIfInBounds_toArray, List.set_cons_zero, List.set_cons_succ, i64_w, i32_w]
                  rfl
                refine take_ (i := 4) (N := some 14) (v := ?_) (a' := ?_) #[true, true, true, true, true, true, true, true, false, false, false] rfl rfl (take_ofW HT_.out HW_.out (by kernel_rfl)) (fun _ _ _ h => h) (Or.inl ⟨by rfl, ?_⟩) hHeld ?_ ?_
                rotate_left
                · rintro w' ⟨s0, s1, s2, s3, s4, s5, s6, s7⟩
                  go_simp
                  with_reducible rfl
                rotate_left
                · simp only [Act.put, List.setIfInBounds_toArray, List.set_cons_zero, List.set_cons_succ, i64_w, i32_w]
                  rfl
                refine take_ (i := 8) (N := some 18) (v := ?_) (a' := ?_) #[true, true, true, true, true, true, true, true, true, false, false] rfl rfl (take_ofW HT_.out HW_.out (by kernel_rfl)) (fun _ _ _ h => h) (Or.inl ⟨by rfl, ?_⟩) hHeld ?_ ?_
                rotate_left
                · rintro w' ⟨s0, s1, s2, s3, s4, s5, s6, s7⟩
                  go_simp
                  with_reducible rfl
                rotate_left
                · simp only [Act.put, List.setIfInBounds_toArray, List.set_cons_zero, List.set_cons_succ, i64_w, i32_w]
                  rfl
                refine one_ (i := 9) (N := some 19) #[true, true, true, true, true, true, true, true, true, true, false] rfl rfl (one_of HT_.out (by kernel_rfl)) (by decide) (fun K hK => ?_)
                refine goes_ Try.func28 (by kernel_rfl) rfl #[.agg #[.string ((rd_T29 l0 (ji3)).f0), .int .u64 ((rd_T29 l0 (ji3)).f1), .int .i64 ((rd_T29 l0 (ji3)).f2), .string ((rd_T29 l0 (ji3)).f3)], .agg #[.string ((rd_T29 l0 x3_1).f0), .int .u64 ((rd_T29 l0 x3_1).f1), .int .i64 ((rd_T29 l0 x3_1).f2), .string ((rd_T29 l0 x3_1).f3)]] (by rfl) rfl rfl (by (try simp only [List.map_toArray, List.map_cons, List.map_nil]); first | done | (simp only [hji3]; rfl) | rfl | (simp only [List.length_drop, List.length_take]; rfl)) ?_
                with_reducible refine (cornucopiaref5_Compare.calls k1 ((rd_T29 l0 (ji3)).f0) ((rd_T29 l0 (ji3)).f1) ((rd_T29 l0 (ji3)).f2) ((rd_T29 l0 (ji3)).f3) ((rd_T29 l0 x3_1).f0) ((rd_T29 l0 x3_1).f1) ((rd_T29 l0 x3_1).f2) ((rd_T29 l0 x3_1).f3) t115 _ A7.out).mono ?_
                rintro e w12 ⟨rfl, hb⟩
                refine ⟨_, rfl, ?_⟩
                have n0_ := Aside0.mk (below_step (by repeat (first | (with_reducible first | exact HB.out | apply below_alloc | apply pw_below_drewN | apply below_drew1) | exact HB.out)) hb)
                clear HB
                have HB := n0_
                clear n0_
                (try clear hb)
                (try clear hb2)
                (try clear hk)
                (try clear hi)
                refine hK.out _ _ ⟨((HB.out.cell (World.block_lt_of_cell? w _ hw113_0)).trans hw113_0), ((HB.out.cell (World.block_lt_of_cell? w _ hw113_1)).trans hw113_1), ((HB.out.cell (World.block_lt_of_cell? w _ hw113_2)).trans hw113_2), ((HB.out.cell (World.block_lt_of_cell? w _ hw113_3)).trans hw113_3), ((HB.out.cell (World.block_lt_of_cell? w _ hw114_0)).trans hw114_0), ((HB.out.cell (World.block_lt_of_cell? w _ hw114_1)).trans hw114_1), ((HB.out.cell (World.block_lt_of_cell? w _ hw114_2)).trans hw114_2), ((HB.out.cell (World.block_lt_of_cell? w _ hw114_3)).trans hw114_3)⟩ (fun hHeld => ?_)
                clear hK K
                refine norm_ (a' := ?_) ?_ ?_
                rotate_left
                · show Act.put _ (some 19) _ = _
                  simp only [Act.put, List.setIfInBounds_toArray, List.set_cons_zero, List.set_cons_succ, i64_w, i32_w]
                  rfl
                refine pure_ (i := 10) (N := some 20) (v := ?_) (a' := ?_) #[true, true, true, true, true, true, true, true, true, true, true] rfl rfl (any_of HT_.out (by kernel_rfl)) (fun _ _ _ h => h) (Or.inl ⟨by rfl, ?_⟩) ?_ ?_
                rotate_left
                · intro w'
                  go_simp
                  with_reducible rfl
                rotate_left
                · simp only [Act.put, List.setIfInBounds_toArray, List.set_cons_zero, List.set_cons_succ, i64_w, i32_w]
                  rfl
                refine done_ (done_of HT_.out (by kernel_rfl)) ?_
                try go_wp2
                go_roundg k1
                case measure => have := HK1.out; omega
                case rel => exact ⟨(wrap64 (x3_1 + 1)), (by first | rfl | (simp; done) | (simp [*]; done)), H', ⟨by have := HK1.out; omega⟩, ⟨by repeat (first | (with_reducible first | exact HB.out | apply below_alloc | apply pw_below_drewN | apply below_drew1) | exact HB.out)⟩⟩
            · rw [if_neg c6] at H
              exact absurd H (by simp)
          · rw [if_neg c5] at H
            exact absurd H (by simp)
        · rw [if_neg c4] at H
          exact absurd H (by simp)
      · rw [if_neg c2] at H
        have c2b0 : decide (x3_1 < (l0.length : Int)) = false := decide_eq_false c2
        clear c2
        obtain rfl := Option.some.inj H
        go_wp2
        go_ret
        exact ⟨by first | rfl | (simp [errW_none, errW_some] <;> rfl) | (simp [*, errW_none, errW_some] <;> rfl), by repeat (first | (with_reducible first | exact HB.out | apply below_alloc | apply pw_below_drewN | apply below_drew1) | exact HB.out)⟩
end Go.Proofs.Ytchgpcgolgcfdaa.PNum
end
section
namespace Go.Proofs.Ytchgpcgolgcfdaa.PuLess
open Go Go.RowKit Go.Proofs.Ytchgpcgolgcfdaa.PNum Go.Proofs.Ytchgpcgolgcfdaa.PuIkC Go.Proofs.YtchgpcgolgcfdaaW.PrintWords Go.Proofs.YtchgpcgolgcfdaaW.PrintLast Go.Proofs.YtchgpcgolgcfdaaW.PrintMore Go.Proofs.YtchgpcgolgcfdaaW.Pu
abbrev E := S29
theorem bt_at (s : ByteArray) (i : Nat) (h : i < s.data.toList.length) : bt s (i : Int) = (s.data.toList[i].toNat : Int) := by
  have h' : i < s.data.size := by simpa using h
  rw [bt_eq]
  simp only [bytesOf, List.getD_eq_getElem?_getD, List.getElem?_map, Array.getElem?_toList, Array.getElem_toList]
  rw [Array.getElem?_eq_getElem h']
  rfl
theorem size_data (s : ByteArray) : s.data.toList.length = s.size := by
  show s.data.toList.length = s.data.size
  simp
theorem Less_l0 (a b : ByteArray) (_ha : a.size ≤ 140737488351232) (hb : b.size ≤ 140737488351232) (d : Nat) : ∀ i, i + d = a.size → i ≤ b.size →
    Ev (fun k => cornucopiaref1_Less.l0 k a b (i : Int)) (decide (Lib.compareBytes (a.data.toList.drop i) (b.data.toList.drop i) = -1)) := by
  have la := size_data a
  have lb := size_data b
  induction d with
  | zero =>
    intro i hi hib
    refine Ev.step (fun k => by rw [cornucopiaref1_Less.l0]) (ev_neg (by omega) ?_)
    refine Ev.step (fun k => by rw [cornucopiaref1_Less.j1]) (ev_neg (by simp) (ev_const ?_))
    rw [show a.data.toList.drop i = [] from List.drop_of_length_le (by omega)]
    refine congrArg some (decide_eq_decide.2 ?_)
    cases h : b.data.toList.drop i with
    | nil =>
      have := congrArg List.length h
      rw [List.length_drop] at this
      simp only [List.length_nil] at this
      rw [Lib.compareBytes]
      omega
    | cons y ys =>
      have := congrArg List.length h
      rw [List.length_drop] at this
      simp only [List.length_cons] at this
      rw [Lib.compareBytes]
      omega
  | succ d ih =>
    intro i hi hib
    have ia : i < a.data.toList.length := by omega
    refine Ev.step (fun k => by rw [cornucopiaref1_Less.l0]) (ev_pos (by omega) ?_)
    have da : a.data.toList.drop i = a.data.toList[i] :: a.data.toList.drop (i + 1) := List.drop_eq_getElem_cons ia
    by_cases h : i < b.size
    · have ib : i < b.data.toList.length := by omega
      have db : b.data.toList.drop i = b.data.toList[i] :: b.data.toList.drop (i + 1) := List.drop_eq_getElem_cons ib
      rw [decide_eq_true (show (i : Int) < (b.size : Int) by omega), da, db, Lib.compareBytes]
      refine Ev.step (fun k => by rw [cornucopiaref1_Less.j1, bt_at a i ia, bt_at b i ib]) (ev_pos rfl (ev_pos (by omega) (ev_pos (by omega) (ev_pos (by omega) ?_))))
      by_cases e : a.data.toList[i] = b.data.toList[i]
      · refine ev_pos (by rw [e]) ?_
        rw [e, if_neg (UInt8.lt_irrefl _), if_neg (UInt8.lt_irrefl _), wrap64_id (by omega), show ((i : Int) + 1) = ((i + 1 : Nat) : Int) from by omega]
        exact ih (i + 1) (by omega) (by omega)
      · have hne : a.data.toList[i].toNat ≠ b.data.toList[i].toNat := fun k => e (UInt8.toNat_inj.1 k)
        refine ev_neg (by omega) (ev_const ?_)
        refine congrArg some (decide_eq_decide.2 ?_)
        by_cases k : a.data.toList[i] < b.data.toList[i]
        · rw [if_pos k]
          have := UInt8.lt_iff_toNat_lt.1 k
          omega
        · have k2 : b.data.toList[i] < a.data.toList[i] := UInt8.lt_iff_toNat_lt.2 (by have := mt UInt8.lt_iff_toNat_lt.2 k; omega)
          rw [if_neg k, if_pos k2]
          have := UInt8.lt_iff_toNat_lt.1 k2
          omega
    · rw [decide_eq_false (show ¬ (i : Int) < (b.size : Int) by omega), da, show b.data.toList.drop i = [] from List.drop_of_length_le (by omega), Lib.compareBytes]
      refine Ev.step (fun k => by rw [cornucopiaref1_Less.j1]) (ev_neg (by simp) (ev_const ?_))
      refine congrArg some (decide_eq_decide.2 ?_)
      omega
theorem Less_ev (a b : ByteArray) (ha : a.size ≤ 140737488351232) (hb : b.size ≤ 140737488351232) : Ev (fun k => cornucopiaref1_Less.f k a b) (decide (cb a b = -1)) := by
  have := Less_l0 a b ha hb a.size 0 (by omega) (by omega)
  rw [List.drop_zero, List.drop_zero] at this
  exact Ev.congr (fun k => by rw [cornucopiaref1_Less.f]; rfl) this
theorem RefCompare_ev (a b : E) (ha : a.f0.size ≤ 140737488351232) (hb : b.f0.size ≤ 140737488351232) : Ev (fun k => cornucopiaref5_Compare.f k a.f0 a.f1 a.f2 a.f3 b.f0 b.f1 b.f2 b.f3) (ce a b) := by
  refine Ev.congr (fun k => by rw [cornucopiaref5_Compare.f]) (Ev.bind (Less_ev _ _ ha hb) ?_)
  have r : cb a.f0 b.f0 = -1 ∨ cb a.f0 b.f0 = 0 ∨ cb a.f0 b.f0 = 1 := cl_range _ _
  have n := cb_neg a.f0 b.f0
  unfold ce
  by_cases h : cb a.f0 b.f0 = -1
  · rw [if_neg (show ¬ cb a.f0 b.f0 = 0 by omega), decide_eq_true h, h]
    exact ev_pos rfl (ev_const rfl)
  · rw [decide_eq_false h]
    refine ev_neg (by simp) (Ev.bind (Less_ev _ _ hb ha) ?_)
    by_cases k : cb b.f0 a.f0 = -1
    · rw [if_neg (show ¬ cb a.f0 b.f0 = 0 by omega), decide_eq_true k, show cb a.f0 b.f0 = 1 by omega]
      exact ev_pos rfl (ev_const rfl)
    · rw [if_pos (show cb a.f0 b.f0 = 0 by omega), decide_eq_false k]
      refine ev_neg (by simp) ?_
      unfold cs
      by_cases q : a.f1 > b.f1
      · refine ev_pos q (ev_const ?_)
        rw [if_pos q]
      · refine ev_neg q ?_
        rw [if_neg q]
        by_cases q2 : a.f1 < b.f1
        · refine ev_pos q2 (ev_const ?_)
          rw [if_pos q2]
        · refine ev_neg q2 (ev_const ?_)
          rw [if_neg q2]
end Go.Proofs.Ytchgpcgolgcfdaa.PuLess
end
section
namespace Go.Proofs.Ytchgpcgolgcfdaa.PuOrd
open Go Go.RowKit Go.Proofs.Ytchgpcgolgcfdaa.PNum Go.Proofs.Ytchgpcgolgcfdaa.PuIkC Go.Proofs.Ytchgpcgolgcfdaa.PuLess Go.Proofs.YtchgpcgolgcfdaaW.PrintWords Go.Proofs.YtchgpcgolgcfdaaW.PrintLast Go.Proofs.YtchgpcgolgcfdaaW.PrintMore Go.Proofs.YtchgpcgolgcfdaaW.Pu
theorem at_nat (l : List E) (i : Nat) (h : i < l.length) : rd_T29 l (i : Int) = l[i] := by
  simp [rd_T29, h]
def Rl (a b : E) : Prop := ce a b = -1
theorem Ordered_l0 (l : List E) (hs : ∀ e ∈ l, e.f0.size ≤ 140737488351232) (hl : l.length ≤ 140737488351232) (d : Nat) : ∀ i, i + 1 + d = l.length →
    ∃ b, Ev (fun k => cornucopialaw5_Ordered.l0 k l ((i + 1 : Nat) : Int)) b ∧ (b = true → (l.drop i).Pairwise Rl) := by
  induction d with
  | zero =>
    intro i hi
    have hlt : i < l.length := by omega
    refine ⟨true, Ev.step (fun k => by rw [cornucopialaw5_Ordered.l0]) (ev_neg (by omega) (ev_const rfl)), fun _ => ?_⟩
    rw [List.drop_eq_getElem_cons hlt, List.drop_of_length_le (by omega)]
    exact List.pairwise_singleton _ _
  | succ d ih =>
    intro i hi
    have h0 : i < l.length := by omega
    have h1 : i + 1 < l.length := by omega
    have hw : wrap64 (((i + 1 : Nat) : Int) - 1) = (i : Int) := by rw [wrap64_id (by omega)]; omega
    have hr := RefCompare_ev l[i] l[i + 1] (hs _ (List.getElem_mem h0)) (hs _ (List.getElem_mem h1))
    obtain ⟨b, hb, hp⟩ := ih (i + 1) (by omega)
    by_cases k : ce l[i] l[i + 1] ≥ 0
    · refine ⟨false, Ev.step (fun k => by rw [cornucopialaw5_Ordered.l0, hw, at_nat l i h0, at_nat l (i + 1) h1]) (ev_pos (by omega) (ev_pos (by omega) (ev_pos (by omega) (ev_pos (by omega) (Ev.bind hr (ev_pos k (ev_const rfl))))))), fun q => by cases q⟩
    · refine ⟨b, Ev.step (fun k => by rw [cornucopialaw5_Ordered.l0, hw, at_nat l i h0, at_nat l (i + 1) h1]) (ev_pos (by omega) (ev_pos (by omega) (ev_pos (by omega) (ev_pos (by omega) (Ev.bind hr (ev_neg k ?_)))))), fun q => ?_⟩
      · rw [wrap64_id (by omega), show (((i + 1 : Nat) : Int) + 1) = ((i + 1 + 1 : Nat) : Int) from by omega]
        exact hb
      · have hp := hp q
        have e0 : l.drop i = l[i] :: l.drop (i + 1) := List.drop_eq_getElem_cons h0
        have e1 : l.drop (i + 1) = l[i + 1] :: l.drop (i + 1 + 1) := List.drop_eq_getElem_cons h1
        have r : Rl l[i] l[i + 1] := by have := ce_range l[i] l[i + 1]; unfold Rl; omega
        rw [e0]
        refine List.pairwise_cons.2 ⟨fun y hy => ?_, hp⟩
        rw [e1] at hy hp
        rcases List.mem_cons.1 hy with rfl | hy
        · exact r
        · exact ce_trans r ((List.pairwise_cons.1 hp).1 y hy)
theorem Ordered_ev (l : List E) (hs : ∀ e ∈ l, e.f0.size ≤ 140737488351232) (hl : l.length ≤ 140737488351232) : ∃ b, Ev (fun k => cornucopialaw5_Ordered.f k l) b ∧ (b = true → l.Pairwise Rl) := by
  by_cases h : l = []
  · subst h
    exact ⟨true, Ev.congr (fun k => by rw [cornucopialaw5_Ordered.f]) (Ev.step (fun k => by rw [cornucopialaw5_Ordered.l0]) (ev_neg (by simp) (ev_const rfl))), fun _ => List.Pairwise.nil⟩
  · have : 0 < l.length := List.length_pos_iff.2 h
    obtain ⟨b, hb, hp⟩ := Ordered_l0 l hs hl (l.length - 1) 0 (by omega)
    exact ⟨b, Ev.congr (fun k => by rw [cornucopialaw5_Ordered.f]; rfl) hb, by simpa using hp⟩
end Go.Proofs.Ytchgpcgolgcfdaa.PuOrd
end
section
namespace Go.Proofs.Ytchgpcgolgcfdaa.PuAl14
open Go Go.RowKit Go.Proofs.Ytchgpcgolgcfdaa.PNum Go.Proofs.Ytchgpcgolgcfdaa.PuIkC Go.Proofs.Ytchgpcgolgcfdaa.PuCut Go.Proofs.YtchgpcgolgcfdaaW.PrintWords Go.Proofs.YtchgpcgolgcfdaaW.PrintLast Go.Proofs.YtchgpcgolgcfdaaW.PrintMore Go.Proofs.YtchgpcgolgcfdaaW.Pu
theorem at_nat (l : List E) (i : Nat) (h : i < l.length) : rd_T29 l (i : Int) = l[i] := by
  simp [rd_T29, h]
theorem Cut_l0 (most : Int) (l : List E) (hl : l.length ≤ 1000000) (d : Nat) : ∀ (i p : Nat) (out : List (List E)), i + d = l.length → p ≤ i → out.length ≤ i →
    Ev (fun k => merge_Cut.l0 k most l out (p : Int) (l.length : Int) (i : Int)) (out ++ cutS (mx most 1) ((l.take i).drop p) (l.drop i)) := by
  induction d with
  | zero =>
    intro i p out hi hp ho
    have hn : l.drop i = [] := List.drop_of_length_le (by omega)
    rw [hn, cutS_nil, List.append_nil]
    exact Ev.step (fun k => by rw [merge_Cut.l0]) (ev_neg (by omega) (ev_const rfl))
  | succ d ih =>
    intro i p out hi hp ho
    have h0 : i < l.length := by omega
    have hw : wrap64 ((i : Int) + 1) = ((i + 1 : Nat) : Int) := by rw [wrap64_id (by omega)]; omega
    have hd : l.drop i = l[i] :: l.drop (i + 1) := List.drop_eq_getElem_cons h0
    have hpl : ((l.take i).drop p).length = i - p := by rw [List.length_drop, List.length_take]; omega
    have hpe : (l.take i).drop p ++ [l[i]] = (l.take (i + 1)).drop p := by
      rw [List.take_succ_eq_append_getElem h0, List.drop_append_of_le_length (by rw [List.length_take]; omega)]
    have hcl : ((l.take (i + 1)).drop p).length = i + 1 - p := by rw [List.length_drop, List.length_take]; omega
    have hnil : (l.take (i + 1)).drop (i + 1) = [] := List.drop_of_length_le (by rw [List.length_take]; omega)
    have hgo : ∀ (y : List E), y = (l.take (i + 1)).drop p → Ev (fun k => if ([] : List E).length + y.length < 2932031007402 then (if out.length < 5864062014805 then (merge_Cut.l0 k most l (out ++ [([] : List E) ++ y]) ((i + 1 : Nat) : Int) (l.length : Int) ((i + 1 : Nat) : Int)) else none) else none) (out ++ ((l.take (i + 1)).drop p) :: cutS (mx most 1) [] (l.drop (i + 1))) := by
      intro y hy
      subst hy
      refine ev_pos (by rw [hcl]; simp; omega) (ev_pos (by omega) ?_)
      have := ih (i + 1) (i + 1) (out ++ [([] : List E) ++ (l.take (i + 1)).drop p]) (by omega) (Nat.le_refl _) (by simp; omega)
      rw [hnil, List.nil_append, List.append_assoc] at this
      exact this
    refine Ev.step (fun k => by rw [merge_Cut.l0, hw]) (ev_pos (by omega) ?_)
    rw [hd, cutS, hpe]
    by_cases hend : i + 1 = l.length
    · rw [if_pos (show ends (mx most 1) ((l.take i).drop p) l[i] (l.drop (i + 1)) from .inl (by rw [List.drop_of_length_le (by omega)]; rfl))]
      refine ev_pos (by omega) (ev_pos (by omega) (ev_pos (by omega) (ev_pos (by omega) (ev_some (hgo _ ?_)))))
      simp
    · have h1 : i + 1 < l.length := by omega
      have hne : l.drop (i + 1) = l[i + 1] :: l.drop (i + 1 + 1) := List.drop_eq_getElem_cons h1
      have hws : wrap64 (((i + 1 : Nat) : Int) - (p : Int)) = ((i + 1 : Nat) : Int) - (p : Int) := wrap64_id (by omega)
      refine ev_neg (by omega) ?_
      rw [hws]
      have hstay : ¬ ends (mx most 1) ((l.take i).drop p) l[i] (l.drop (i + 1)) → Ev (fun k => merge_Cut.l0 k most l out (p : Int) (l.length : Int) ((i + 1 : Nat) : Int)) (out ++ (if ends (mx most 1) ((l.take i).drop p) l[i] (l.drop (i + 1)) then (l.take (i + 1)).drop p :: cutS (mx most 1) [] (l.drop (i + 1)) else cutS (mx most 1) ((l.take (i + 1)).drop p) (l.drop (i + 1)))) := by
        intro hn
        rw [if_neg hn]
        exact ih (i + 1) p out (by omega) (by omega) (by omega)
      have hhd : (l.drop (i + 1)).head?.map (·.f0) = some l[i + 1].f0 := by rw [hne]; rfl
      have hem : (l.drop (i + 1)).isEmpty = false := by rw [hne]; rfl
      by_cases hm : ((i + 1 : Nat) : Int) - (p : Int) ≥ mx most 1
      · refine ev_pos hm (ev_pos (by omega) (ev_pos (by omega) (ev_pos (by omega) (ev_pos (by omega) ?_))))
        rw [at_nat l i h0, at_nat l (i + 1) h1]
        by_cases hk : l[i + 1].f0 = l[i].f0
        · refine ev_pos (tl_ext.2 hk) (hstay ?_)
          rintro (q | q)
          · rw [hem] at q; cases q
          · exact q.2 (by rw [hhd, hk])
        · refine ev_neg (fun q => hk (tl_ext.1 q)) (ev_pos (by omega) (ev_pos (by omega) (ev_pos (by omega) (ev_some ?_))))
          rw [if_pos (show ends (mx most 1) ((l.take i).drop p) l[i] (l.drop (i + 1)) from .inr ⟨by rw [hpl]; omega, by rw [hhd]; exact fun q => hk (Option.some.inj q)⟩)]
          refine hgo _ ?_
          simp
      · refine ev_neg hm (hstay ?_)
        rintro (q | q)
        · rw [hem] at q; cases q
        · have := q.1
          rw [hpl] at this
          omega
theorem Cut_ev (most : Int) (l : List E) (hl : l.length ≤ 1000000) : Ev (fun k => merge_Cut.f k most l) (cutS (mx most 1) [] l) := by
  have := Cut_l0 most l hl l.length 0 0 [] (by omega) (Nat.le_refl _) (Nat.le_refl _)
  simp only [List.take_zero, List.drop_nil, List.drop_zero, List.nil_append] at this
  exact Ev.congr (fun k => by rw [merge_Cut.f]; rfl) this
abbrev ka : ByteArray := ⟨#[97]⟩
abbrev kb : ByteArray := ⟨#[98]⟩
abbrev kn : ByteArray := ⟨#[]⟩
theorem first_latest : merge_Latest.f 2 [[⟨ka, 3, 1, kn⟩], [⟨ka, 1, 2, kn⟩, ⟨kb, 2, 1, kn⟩]] = some [⟨kb, kn⟩] := by kernel_rfl
theorem first_all : merge_All.f [] = some [] := by kernel_rfl
theorem first_cut : cutS (mx 1 1) [] [⟨ka, 2, 0, kn⟩, ⟨ka, 1, 0, kn⟩, ⟨kb, 1, 0, kn⟩] = [[⟨ka, 2, 0, kn⟩, ⟨ka, 1, 0, kn⟩], [⟨kb, 1, 0, kn⟩]] := by kernel_rfl
theorem alive_ev : Ev (fun k => cornucopialaw14_alive.f k) true := by
  have hc := Cut_ev 1 [⟨ka, 2, 0, kn⟩, ⟨ka, 1, 0, kn⟩, ⟨kb, 1, 0, kn⟩] (by simp)
  rw [first_cut] at hc
  refine Ev.congr (fun k => by rw [cornucopialaw14_alive.f]) (ev_call first_latest (Ev.bind hc ?_))
  refine ev_pos rfl (ev_pos (by decide) (ev_pos (show kb.toList = [98] by rw [toList_data]) (ev_pos rfl (ev_pos (by decide) (ev_pos rfl (ev_call first_all (ev_const rfl)))))))
end Go.Proofs.Ytchgpcgolgcfdaa.PuAl14
end
section
namespace Go.Proofs.Ytchgpcgolgcfdaa.Mw
open Go Go.RowKit Go.Proofs.Ytchgpcgolgcfdaa.PNum Go.Proofs.Ytchgpcgolgcfdaa.BkW Go.Proofs.Ytchgpcgolgcfdaa.PuIkC Go.Proofs.Ytchgpcgolgcfdaa.PuLat Go.Proofs.Ytchgpcgolgcfdaa.Lt Go.Proofs.YtchgpcgolgcfdaaW.PrintWords Go.Proofs.YtchgpcgolgcfdaaW.PrintLast Go.Proofs.YtchgpcgolgcfdaaW.PrintMore Go.Proofs.YtchgpcgolgcfdaaW.Pu Go.Proofs.YtchgpcgolgcfdaaW.PuMrg Go.Proofs.Ytchgpcgolgcfdaa.Hp
set_option linter.unusedVariables false
set_option linter.unusedSimpArgs false
abbrev E := S29
abbrev P := S37
def Sl (W : World) (v : Value) (l : List E) : Prop := ∃ A c, v = .slice A l.length c ∧ l.length ≤ c ∧ Kd.C k29 W A l.length l
def Sls (W : World) : List Value → List (List E) → Prop
  | [], [] => True
  | v :: vs, l :: ls => Sl W v l ∧ Sls W vs ls
  | _, _ => False
theorem Sls.len {W : World} : ∀ {vs : List Value} {ls : List (List E)}, Sls W vs ls → vs.length = ls.length
  | [], [], _ => rfl
  | v :: vs, l :: ls, h => by simp [Sls.len h.2]
  | [], l :: ls, h => h.elim
  | v :: vs, [], h => h.elim
theorem Sls.at_ {W : World} : ∀ {vs : List Value} {ls : List (List E)}, Sls W vs ls → ∀ (j : Nat) (l : List E), ls[j]? = some l → ∃ v, vs[j]? = some v ∧ Sl W v l
  | [], [], _, j, l, hj => by simp at hj
  | v :: vs, x :: ls, h, 0, l, hj => by
    simp at hj
    subst hj
    exact ⟨v, rfl, h.1⟩
  | v :: vs, x :: ls, h, j + 1, l, hj => by
    obtain ⟨u, h1, h2⟩ := Sls.at_ h.2 j l (by simpa using hj)
    exact ⟨u, by simpa using h1, h2⟩
  | [], l :: ls, h, _, _, _ => h.elim
  | v :: vs, [], h, _, _, _ => h.elim
theorem Sl.below {W W1 : World} {v : Value} {l : List E} (h : Sl W v l) (hb : Below W.heap.size W W1) : Sl W1 v l := by
  obtain ⟨A, c, e, hc, hC⟩ := h
  exact ⟨A, c, e, hc, Kd.C_below hC hb⟩
theorem Sls.below {W W1 : World} (hb : Below W.heap.size W W1) : ∀ {vs : List Value} {ls : List (List E)}, Sls W vs ls → Sls W1 vs ls
  | [], [], h => h
  | v :: vs, l :: ls, h => ⟨h.1.below hb, Sls.below hb h.2⟩
  | [], l :: ls, h => h.elim
  | v :: vs, [], h => h.elim
theorem lit_C {W : World} {g : Nat} {vs : List Value} {ls : List (List E)} (hb : W.heap[g]? = some (.cells vs.toArray 22 (0, 0))) (h : Sls W vs ls) (hm : ls.length ≤ 9223372036854775807) : Kd.C (Kd.slice 29 k29) W (some ⟨g, 0, none⟩) ls.length ls := by
  refine ⟨rfl, hm, fun h0 => ?_⟩
  refine ⟨_, rfl, fun j l hj => ?_⟩
  obtain ⟨v, hv, A, c, e, hc, hC⟩ := h.at_ j l hj
  refine ⟨[v], rfl, ⟨A, c, by rw [e], hc, hC⟩, fun i u hi => ?_⟩
  cases i with
  | zero =>
    have hvu : v = u := by simpa using hi
    subst hvu
    rw [add_at]
    show W.cell? ⟨g, 0 + (j * 1 + 0), none⟩ = some v
    have h1 := blk_cell hb (0 + (j * 1 + 0))
    rw [h1]
    simpa using hv
  | succ i => simp at hi
def encP (x : P) : List Value := [.string x.f0, .string x.f1]
theorem flatP : Flat k37 encP := ⟨fun _ => rfl, fun h => k37_openM h, fun w x => k37_mk w x, fun h => k37_open h⟩
theorem latest_of {V : World} {g : Nat} {vs : List Value} {ls : List (List E)} (s : Int) (hgb : V.heap[g]? = some (.cells vs.toArray 22 (0, 0))) (h : Sls V vs ls) (hg : merge_All.fit ls = true) (n : Nat) (hn : n = ls.length) (L : List P) (hL : L = lat s (mrg ce ls) []) :
    Calls Try.prog 15 #[.int .u64 s, .slice (some ⟨g, 0, none⟩) n n] V fun e w' => ∃ A c, e = .returned (.slice A L.length c) ∧ L.length ≤ c ∧ Rw w' 37 2 (.slice A L.length c) L.length (encL encP L) ∧ Below V.heap.size V w' := by
  subst hn
  subst hL
  have hlen : ls.length ≤ 800 := ((merge_All.fit_iff ls).1 hg).1
  have hC := lit_C hgb h (by omega)
  refine (latest_calls s _ _ ls V hC (Nat.le_refl _) hg).mono ?_
  rintro e w' ⟨v, rfl, hR, hb⟩
  have h1 := flatP.of_R hR
  obtain ⟨A, c, rfl, hc⟩ := h1.slice
  exact ⟨A, c, rfl, hc, h1, hb⟩
theorem alive_calls (w : World) : Calls Try.prog 11 #[] w fun e w' => e = .returned (.bool true) ∧ Below w.heap.size w w' := by
  obtain ⟨k, hk⟩ := Ev.rounds PuAl14.alive_ev
  exact cornucopialaw14_alive.calls k true w hk
theorem small_calls {w : World} {v : Value} {l : List E} (h : Sl w v l) (b : Bool) (hb : Ev (fun k => cornucopialaw5_Small.f k l) b) :
    Calls Try.prog 9 #[v] w fun e w' => e = .returned (.bool b) ∧ Below w.heap.size w w' := by
  obtain ⟨A, c, rfl, hc, hC⟩ := h
  obtain ⟨k, hk⟩ := Ev.rounds hb
  exact cornucopialaw5_Small.calls k A c l b w hC hc hk
theorem ordered_calls {w : World} {v : Value} {l : List E} (h : Sl w v l) (b : Bool) (hb : Ev (fun k => cornucopialaw5_Ordered.f k l) b) :
    Calls Try.prog 10 #[v] w fun e w' => e = .returned (.bool b) ∧ Below w.heap.size w w' := by
  obtain ⟨A, c, rfl, hc, hC⟩ := h
  obtain ⟨k, hk⟩ := Ev.rounds hb
  exact cornucopialaw5_Ordered.calls k A c l b w hC hc hk
def wfE (e : E) : Prop := e.f0.size ≤ 140737488351232 ∧ e.f3.size ≤ 140737488351232 ∧ (Lit.int .u64 e.f1).wf = true
theorem fit_of {ls : List (List E)} (h1 : ls.length ≤ 800) (h2 : ∀ l ∈ ls, Srt ce l) (h3 : ∀ l ∈ ls, ∀ e ∈ l, wfE e) (h4 : ls.flatten.length ≤ 1000000) : merge_All.fit ls = true :=
  (merge_All.fit_iff ls).2 ⟨h1, h2, fun l hl e he => ⟨Nat.le_trans (h3 l hl e he).1 (by decide), (h3 l hl e he).2.2⟩, h4⟩
end Go.Proofs.Ytchgpcgolgcfdaa.Mw
end
