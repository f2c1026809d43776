/- Texts of this claim, put together and cut down to what is used (T6). -/
import Derived.Test.YtchgpcgolgcfdaaGreatMgT3
import Derived.Test.YtchgpcgolgcfdaaGreatMgT4
import Derived.Test.YtchgpcgolgcfdaaGreatMgT5
section
namespace Go.Proofs.YtchgpcgolgcfdaaGreat.BkAEntriesPairs
open Go Go.RowKit Go.Proofs.YtchgpcgolgcfdaaGreat.PNum Go.Proofs.YtchgpcgolgcfdaaGreat.BkW Go.Proofs.YtchgpcgolgcfdaaGreatW.PrintWords Go.Proofs.YtchgpcgolgcfdaaGreatW.PrintLast Go.Proofs.YtchgpcgolgcfdaaGreatW.PrintMore
set_option linter.unusedVariables false
set_option linter.unusedSimpArgs false
def bcells (pEntries qEntries pPairs qPairs : Value) : Array Value := #[.slice none 0 0, .slice none 0 0, .slice none 0 0, .slice none 0 0, .slice none 0 0, .slice none 0 0, pEntries, qEntries, pPairs, qPairs, .slice none 0 0, .slice none 0 0, .slice none 0 0, .slice none 0 0, .slice none 0 0, .slice none 0 0, .slice none 0 0, .slice none 0 0, .slice none 0 0, .slice none 0 0, .slice none 0 0, .slice none 0 0, .slice none 0 0, .slice none 0 0, .slice none 0 0, .slice none 0 0, .slice none 0 0, .slice none 0 0]
theorem outEntries {w : World} {base b0 n : Nat} {p : Value} {A : Option Addr} {c : Nat} {vs ws : List Value} {X : Nat → List S32} (h : BkEntries.GrO w base b0 p vs X (.slice A n c) ws) (hn : ws.length = n) :
  n ≤ c ∧ Kd.C (Kd.slice 32 k32) w A n ((List.range n).map fun i => BkEntries.grown X i) := by
 subst hn
 have h1 := Rw.of_own h.o
 obtain ⟨A', c', e, hc⟩ := h1.slice
 injection e with e1 _ e2
 subst e1; subst e2
 refine ⟨hc, by simp, h1.max, fun h0 => ?_⟩
 obtain ⟨g, o, c2, e, _, _, hcell⟩ := h1.form h0
 injection e with e _ _
 subst e
 refine ⟨_, rfl, fun j l hj => ?_⟩
 have hjn : j < ws.length := by
  have := (List.getElem?_eq_some_iff.1 hj).1
  simpa using this
 have hl : BkEntries.grown X j = l := by
  rw [List.getElem?_map, List.getElem?_range hjn] at hj
  exact Option.some.inj hj
 have hu := List.getElem?_eq_getElem hjn
 obtain ⟨A3, c3, e3, hc3⟩ := (h.W j _ hu).1.slice
 have hr := (h.W j _ hu).1
 rw [e3] at hr
 refine ⟨[ws[j]], rfl, ⟨A3, c3, by rw [e3, hl], by rw [← hl]; exact hc3, by rw [← hl]; exact BkEntries.flat.to_C hr rfl⟩, fun i u hi => ?_⟩
 cases i with
 | zero =>
  have : ws[j] = u := by simpa using hi
  subst this
  rw [add_at, Nat.add_zero]
  exact hcell _ _ (by rw [show (Kd.slice 32 k32).sz = 1 from rfl, Nat.mul_one]; exact hu)
 | succ i => simp at hi
theorem inEntries {w : World} {base n : Nat} {A : Option Addr} {c : Nat} {vs : List Value} {X : Nat → List S32} (h : Held BkEntries.enc 4 22 32 w base (.slice A n c) vs X) (hn : vs.length = n) :
  n ≤ c ∧ Kd.C (Kd.slice 32 k32) w A n ((List.range n).map X) := by
 subst hn
 have h1 := Rw.of_own h.rp
 obtain ⟨A', c', e, hc⟩ := h1.slice
 injection e with e1 _ e2
 subst e1; subst e2
 refine ⟨hc, by simp, h1.max, fun h0 => ?_⟩
 obtain ⟨g, o, c2, e, _, _, hcell⟩ := h1.form h0
 injection e with e _ _
 subst e
 refine ⟨_, rfl, fun j l hj => ?_⟩
 have hjn : j < vs.length := by
  have := (List.getElem?_eq_some_iff.1 hj).1
  simpa using this
 have hl : X j = l := by
  rw [List.getElem?_map, List.getElem?_range hjn] at hj
  exact Option.some.inj hj
 have hu := List.getElem?_eq_getElem hjn
 obtain ⟨A3, c3, e3, hc3⟩ := (h.el j _ hu).1.slice
 have hr := (h.el j _ hu).1
 rw [e3] at hr
 refine ⟨[vs[j]], rfl, ⟨A3, c3, by rw [e3, hl], by rw [← hl]; exact hc3, by rw [← hl]; exact BkEntries.flat.to_C hr rfl⟩, fun i u hi => ?_⟩
 cases i with
 | zero =>
  have : vs[j] = u := by simpa using hi
  subst this
  rw [add_at, Nat.add_zero]
  exact hcell _ _ (by rw [show (Kd.slice 32 k32).sz = 1 from rfl, Nat.mul_one]; exact hu)
 | succ i => simp at hi
theorem outPairs {w : World} {base b0 n : Nat} {p : Value} {A : Option Addr} {c : Nat} {vs ws : List Value} {X : Nat → List S184} (h : BkPairs.GrO w base b0 p vs X (.slice A n c) ws) (hn : ws.length = n) :
  n ≤ c ∧ Kd.C (Kd.slice 184 k184) w A n ((List.range n).map fun i => BkPairs.grown X i) := by
 subst hn
 have h1 := Rw.of_own h.o
 obtain ⟨A', c', e, hc⟩ := h1.slice
 injection e with e1 _ e2
 subst e1; subst e2
 refine ⟨hc, by simp, h1.max, fun h0 => ?_⟩
 obtain ⟨g, o, c2, e, _, _, hcell⟩ := h1.form h0
 injection e with e _ _
 subst e
 refine ⟨_, rfl, fun j l hj => ?_⟩
 have hjn : j < ws.length := by
  have := (List.getElem?_eq_some_iff.1 hj).1
  simpa using this
 have hl : BkPairs.grown X j = l := by
  rw [List.getElem?_map, List.getElem?_range hjn] at hj
  exact Option.some.inj hj
 have hu := List.getElem?_eq_getElem hjn
 obtain ⟨A3, c3, e3, hc3⟩ := (h.W j _ hu).1.slice
 have hr := (h.W j _ hu).1
 rw [e3] at hr
 refine ⟨[ws[j]], rfl, ⟨A3, c3, by rw [e3, hl], by rw [← hl]; exact hc3, by rw [← hl]; exact BkPairs.flat.to_C hr rfl⟩, fun i u hi => ?_⟩
 cases i with
 | zero =>
  have : ws[j] = u := by simpa using hi
  subst this
  rw [add_at, Nat.add_zero]
  exact hcell _ _ (by rw [show (Kd.slice 184 k184).sz = 1 from rfl, Nat.mul_one]; exact hu)
 | succ i => simp at hi
theorem inPairs {w : World} {base n : Nat} {A : Option Addr} {c : Nat} {vs : List Value} {X : Nat → List S184} (h : Held BkPairs.enc 2 79 184 w base (.slice A n c) vs X) (hn : vs.length = n) :
  n ≤ c ∧ Kd.C (Kd.slice 184 k184) w A n ((List.range n).map X) := by
 subst hn
 have h1 := Rw.of_own h.rp
 obtain ⟨A', c', e, hc⟩ := h1.slice
 injection e with e1 _ e2
 subst e1; subst e2
 refine ⟨hc, by simp, h1.max, fun h0 => ?_⟩
 obtain ⟨g, o, c2, e, _, _, hcell⟩ := h1.form h0
 injection e with e _ _
 subst e
 refine ⟨_, rfl, fun j l hj => ?_⟩
 have hjn : j < vs.length := by
  have := (List.getElem?_eq_some_iff.1 hj).1
  simpa using this
 have hl : X j = l := by
  rw [List.getElem?_map, List.getElem?_range hjn] at hj
  exact Option.some.inj hj
 have hu := List.getElem?_eq_getElem hjn
 obtain ⟨A3, c3, e3, hc3⟩ := (h.el j _ hu).1.slice
 have hr := (h.el j _ hu).1
 rw [e3] at hr
 refine ⟨[vs[j]], rfl, ⟨A3, c3, by rw [e3, hl], by rw [← hl]; exact hc3, by rw [← hl]; exact BkPairs.flat.to_C hr rfl⟩, fun i u hi => ?_⟩
 cases i with
 | zero =>
  have : vs[j] = u := by simpa using hi
  subst this
  rw [add_at, Nat.add_zero]
  exact hcell _ _ (by rw [show (Kd.slice 184 k184).sz = 1 from rfl, Nat.mul_one]; exact hu)
 | succ i => simp at hi
theorem markEntries {w : World} {A : Option Addr} {c n N : Nat} (L : List (List S32)) (hL : L.length = n) (hC : Kd.C (Kd.slice 32 k32) w A n L) (hc : n ≤ c) (hn : n ≤ 1000000) (hN : N ≤ 1000000) (hm : ∀ (j : Nat) (l : List S32), L[j]? = some l → l.length ≤ N ∧ l = BkEntries.marks j 0 l.length) :
  Calls Tryz.prog 149 #[.slice A n c] w fun e w' => e = .returned (.bool true) ∧ Below w.heap.size w w' := by
 subst hL
 exact cornucopiabook_markedEntries.calls (N + L.length + 1) A c L true w hC hc (BkEntries.marked_ev L N hn hm hN)
theorem markOutEntries {w : World} {base b0 n : Nat} {p : Value} {A : Option Addr} {c : Nat} {vs ws : List Value} {X : Nat → List S32} (h : BkEntries.GrO w base b0 p vs (fun i => BkEntries.marks i 0 (X i).length) (.slice A n c) ws) (hn : ws.length = n) (hx : ∀ i, (X i).length ≤ 1000) (h250 : n ≤ 250) :
  Calls Tryz.prog 149 #[.slice A n c] w fun e w' => e = .returned (.bool true) ∧ Below w.heap.size w w' := by
 obtain ⟨hc, hC⟩ := outEntries h hn
 refine markEntries (N := 1072) _ (by simp) hC hc (by omega) (by omega) (fun j l hj => ?_)
 have hjn : j < n := by
  have := (List.getElem?_eq_some_iff.1 hj).1
  simpa using this
 rw [List.getElem?_map, List.getElem?_range hjn] at hj
 obtain rfl := Option.some.inj hj
 show (BkEntries.marks j 0 ((BkEntries.marks j 0 (X j).length).length + 72)).length ≤ 1072 ∧ _
 refine ⟨?_, ?_⟩
 ·rw [BkEntries.marks_len, BkEntries.marks_len]
  have := hx j
  omega
 ·show BkEntries.marks j 0 ((BkEntries.marks j 0 (X j).length).length + 72) = BkEntries.marks j 0 (BkEntries.marks j 0 ((BkEntries.marks j 0 (X j).length).length + 72)).length
  rw [BkEntries.marks_len, BkEntries.marks_len]
theorem markInEntries {w : World} {base n : Nat} {A : Option Addr} {c : Nat} {vs : List Value} {X : Nat → List S32} (h : Held BkEntries.enc 4 22 32 w base (.slice A n c) vs (fun i => BkEntries.marks i 0 (X i).length)) (hn : vs.length = n) (hx : ∀ i, (X i).length ≤ 1000) (h250 : n ≤ 250) :
  Calls Tryz.prog 149 #[.slice A n c] w fun e w' => e = .returned (.bool true) ∧ Below w.heap.size w w' := by
 obtain ⟨hc, hC⟩ := inEntries h hn
 refine markEntries (N := 1000) _ (by simp) hC hc (by omega) (by omega) (fun j l hj => ?_)
 have hjn : j < n := by
  have := (List.getElem?_eq_some_iff.1 hj).1
  simpa using this
 rw [List.getElem?_map, List.getElem?_range hjn] at hj
 obtain rfl := Option.some.inj hj
 refine ⟨?_, ?_⟩
 ·show (BkEntries.marks j 0 (X j).length).length ≤ 1000
  rw [BkEntries.marks_len]
  exact hx j
 ·show BkEntries.marks j 0 (X j).length = BkEntries.marks j 0 (BkEntries.marks j 0 (X j).length).length
  rw [BkEntries.marks_len]
theorem markPairs {w : World} {A : Option Addr} {c n N : Nat} (L : List (List S184)) (hL : L.length = n) (hC : Kd.C (Kd.slice 184 k184) w A n L) (hc : n ≤ c) (hn : n ≤ 1000000) (hN : N ≤ 1000000) (hm : ∀ (j : Nat) (l : List S184), L[j]? = some l → l.length ≤ N ∧ l = BkPairs.marks j 0 l.length) :
  Calls Tryz.prog 150 #[.slice A n c] w fun e w' => e = .returned (.bool true) ∧ Below w.heap.size w w' := by
 subst hL
 exact cornucopiabook_markedPairs.calls (N + L.length + 1) A c L true w hC hc (BkPairs.marked_ev L N hn hm hN)
theorem markOutPairs {w : World} {base b0 n : Nat} {p : Value} {A : Option Addr} {c : Nat} {vs ws : List Value} {X : Nat → List S184} (h : BkPairs.GrO w base b0 p vs (fun i => BkPairs.marks i 0 (X i).length) (.slice A n c) ws) (hn : ws.length = n) (hx : ∀ i, (X i).length ≤ 1000) (h250 : n ≤ 250) :
  Calls Tryz.prog 150 #[.slice A n c] w fun e w' => e = .returned (.bool true) ∧ Below w.heap.size w w' := by
 obtain ⟨hc, hC⟩ := outPairs h hn
 refine markPairs (N := 1072) _ (by simp) hC hc (by omega) (by omega) (fun j l hj => ?_)
 have hjn : j < n := by
  have := (List.getElem?_eq_some_iff.1 hj).1
  simpa using this
 rw [List.getElem?_map, List.getElem?_range hjn] at hj
 obtain rfl := Option.some.inj hj
 show (BkPairs.marks j 0 ((BkPairs.marks j 0 (X j).length).length + 72)).length ≤ 1072 ∧ _
 refine ⟨?_, ?_⟩
 ·rw [BkPairs.marks_len, BkPairs.marks_len]
  have := hx j
  omega
 ·show BkPairs.marks j 0 ((BkPairs.marks j 0 (X j).length).length + 72) = BkPairs.marks j 0 (BkPairs.marks j 0 ((BkPairs.marks j 0 (X j).length).length + 72)).length
  rw [BkPairs.marks_len, BkPairs.marks_len]
theorem markInPairs {w : World} {base n : Nat} {A : Option Addr} {c : Nat} {vs : List Value} {X : Nat → List S184} (h : Held BkPairs.enc 2 79 184 w base (.slice A n c) vs (fun i => BkPairs.marks i 0 (X i).length)) (hn : vs.length = n) (hx : ∀ i, (X i).length ≤ 1000) (h250 : n ≤ 250) :
  Calls Tryz.prog 150 #[.slice A n c] w fun e w' => e = .returned (.bool true) ∧ Below w.heap.size w w' := by
 obtain ⟨hc, hC⟩ := inPairs h hn
 refine markPairs (N := 1000) _ (by simp) hC hc (by omega) (by omega) (fun j l hj => ?_)
 have hjn : j < n := by
  have := (List.getElem?_eq_some_iff.1 hj).1
  simpa using this
 rw [List.getElem?_map, List.getElem?_range hjn] at hj
 obtain rfl := Option.some.inj hj
 refine ⟨?_, ?_⟩
 ·show (BkPairs.marks j 0 (X j).length).length ≤ 1000
  rw [BkPairs.marks_len]
  exact hx j
 ·show BkPairs.marks j 0 (X j).length = BkPairs.marks j 0 (BkPairs.marks j 0 (X j).length).length
  rw [BkPairs.marks_len]
structure Bk (w0 w : World) (g : Nat) (pEntries qEntries pPairs qPairs : Value) (esEntries : List (Ent S32)) (esPairs : List (Ent S184)) : Prop where
 blk : w.heap[g]? = some (.cells (bcells pEntries qEntries pPairs qPairs) 56 (0, 0))
 kEntries : Kept BkEntries.enc 4 22 32 w w0.heap.size pEntries qEntries esEntries
 nEntries : esEntries.length ≤ 250
 lEntries : ∀ x ∈ esEntries, x.xs.length ≤ 1000
 kPairs : Kept BkPairs.enc 2 79 184 w w0.heap.size pPairs qPairs esPairs
 nPairs : esPairs.length ≤ 250
 lPairs : ∀ x ∈ esPairs, x.xs.length ≤ 1000
 bel : Below w0.heap.size w0 w
 gb : w0.heap.size ≤ g
set_option maxHeartbeats 16000000 in
set_option maxRecDepth 100000 in
theorem apart_calls (w0 w : World) (g : Nat) (pEntries qEntries pPairs qPairs : Value) (esEntries : List (Ent S32)) (esPairs : List (Ent S184)) (h : Bk w0 w g pEntries qEntries pPairs qPairs esEntries esPairs) :
  Calls Tryz.prog 29 #[.pointer (some ⟨g, 0, none⟩)] w fun e w' => e = .returned (.bool true) ∧ Below w0.heap.size w0 w' := by
 have HG := Aside0.mk h.blk
 have HB := Aside0.mk h.bel
 have HGB := Aside0.mk h.gb
 obtain ⟨AEntries, cEntries, eEntries⟩ := own_slice h.kEntries.rp
 obtain ⟨vsEntries, hvsEntries⟩ : ∃ vs, vs = esEntries.map (·.v) := ⟨_, rfl⟩
 obtain ⟨nEntries, hnEntries⟩ : ∃ n, n = esEntries.length := ⟨_, rfl⟩
 obtain ⟨XEntries, hXEntries⟩ : ∃ X : Nat → List S32, X = (fun i => ((esEntries.map (·.xs))[i]?).getD []) := ⟨_, rfl⟩
 have HVLEntries : Aside0 (vsEntries.length = nEntries) := ⟨by rw [hvsEntries, hnEntries, List.length_map]⟩
 have HNNEntries : Aside0 (nEntries ≤ 250) := ⟨by rw [hnEntries]; exact h.nEntries⟩
 have HESEntries : Aside0 (esEntries.length ≤ 250 ∧ ∀ x ∈ esEntries, x.xs.length ≤ 1000) := ⟨h.nEntries, h.lEntries⟩
 have HXLEntries : Aside0 (∀ i, (XEntries i).length ≤ 1000) := ⟨by rw [hXEntries]; exact xs_le h.lEntries⟩
 have HKEntries := Aside0.mk h.kEntries
 have HHEntries : Aside0 (Held BkEntries.enc 4 22 32 w w0.heap.size pEntries vsEntries XEntries) := ⟨by rw [hvsEntries, hXEntries]; exact h.kEntries.held⟩
 rw [← hnEntries] at eEntries
 subst eEntries
 obtain ⟨APairs, cPairs, ePairs⟩ := own_slice h.kPairs.rp
 obtain ⟨vsPairs, hvsPairs⟩ : ∃ vs, vs = esPairs.map (·.v) := ⟨_, rfl⟩
 obtain ⟨nPairs, hnPairs⟩ : ∃ n, n = esPairs.length := ⟨_, rfl⟩
 obtain ⟨XPairs, hXPairs⟩ : ∃ X : Nat → List S184, X = (fun i => ((esPairs.map (·.xs))[i]?).getD []) := ⟨_, rfl⟩
 have HVLPairs : Aside0 (vsPairs.length = nPairs) := ⟨by rw [hvsPairs, hnPairs, List.length_map]⟩
 have HNNPairs : Aside0 (nPairs ≤ 250) := ⟨by rw [hnPairs]; exact h.nPairs⟩
 have HESPairs : Aside0 (esPairs.length ≤ 250 ∧ ∀ x ∈ esPairs, x.xs.length ≤ 1000) := ⟨h.nPairs, h.lPairs⟩
 have HXLPairs : Aside0 (∀ i, (XPairs i).length ≤ 1000) := ⟨by rw [hXPairs]; exact xs_le h.lPairs⟩
 have HKPairs := Aside0.mk h.kPairs
 have HHPairs : Aside0 (Held BkPairs.enc 2 79 184 w w0.heap.size pPairs vsPairs XPairs) := ⟨by rw [hvsPairs, hXPairs]; exact h.kPairs.held⟩
 rw [← hnPairs] at ePairs
 subst ePairs
 clear h hvsEntries hnEntries hXEntries hvsPairs hnPairs hXPairs
 go_enter Tryz.func29, Tryz.ntmps29
 go_wp2_with (first
  | (go_at_call 104; refine (BkN.stillTexts _ g ((blk_cell HG.out 0).trans rfl)).mono ?_; rintro e w' ⟨rfl, rfl⟩)
  | (go_at_call 105; refine (BkN.stillInts _ g ((blk_cell HG.out 2).trans rfl)).mono ?_; rintro e w' ⟨rfl, rfl⟩)
  | (go_at_call 106; refine (BkN.stillNums _ g ((blk_cell HG.out 4).trans rfl)).mono ?_; rintro e w' ⟨rfl, rfl⟩)
  | (go_at_call 107; refine (BkEntries.still_calls _ _ g _ _ _ _ HG.out rfl rfl HKEntries.out (fun x hx => Nat.le_trans (HESEntries.out.2 x hx) (by decide)) (Nat.le_trans HESEntries.out.1 (by decide))).mono ?_; rintro e w' ⟨rfl, hd⟩; have n0_ := Aside0.mk (blk_below HG.out hd.below); have n1_ := Aside0.mk (below_step HB.out hd.below); have nkEntries_ := Aside0.mk (HKEntries.out.below hd.below); have nhEntries_ := Aside0.mk (HHEntries.out.below hd.below); have nkPairs_ := Aside0.mk (HKPairs.out.below hd.below); have nhPairs_ := Aside0.mk (HHPairs.out.below hd.below); clear hd HG HB HKEntries HHEntries HKPairs HHPairs; have HG := n0_; have HB := n1_; have HKEntries := nkEntries_; have HHEntries := nhEntries_; have HKPairs := nkPairs_; have HHPairs := nhPairs_; clear n0_ n1_ nkEntries_ nhEntries_ nkPairs_ nhPairs_)
  | (go_at_call 108; refine (BkPairs.still_calls _ _ g _ _ _ _ HG.out rfl rfl HKPairs.out (fun x hx => Nat.le_trans (HESPairs.out.2 x hx) (by decide)) (Nat.le_trans HESPairs.out.1 (by decide))).mono ?_; rintro e w' ⟨rfl, hd⟩; have n0_ := Aside0.mk (blk_below HG.out hd.below); have n1_ := Aside0.mk (below_step HB.out hd.below); have nkEntries_ := Aside0.mk (HKEntries.out.below hd.below); have nhEntries_ := Aside0.mk (HHEntries.out.below hd.below); have nkPairs_ := Aside0.mk (HKPairs.out.below hd.below); have nhPairs_ := Aside0.mk (HHPairs.out.below hd.below); clear hd HG HB HKEntries HHEntries HKPairs HHPairs; have HG := n0_; have HB := n1_; have HKEntries := nkEntries_; have HHEntries := nhEntries_; have HKPairs := nkPairs_; have HHPairs := nhPairs_; clear n0_ n1_ nkEntries_ nhEntries_ nkPairs_ nhPairs_)
  | (go_at_call 109; refine (BkN.stillWrites _ g ((blk_cell HG.out 10).trans rfl)).mono ?_; rintro e w' ⟨rfl, rfl⟩)
  | (go_at_call 110; refine (BkN.stillTables _ g ((blk_cell HG.out 12).trans rfl)).mono ?_; rintro e w' ⟨rfl, rfl⟩)
  | (go_at_call 111; refine (BkN.stillDots _ g ((blk_cell HG.out 14).trans rfl)).mono ?_; rintro e w' ⟨rfl, rfl⟩)
  | (go_at_call 112; refine (BkN.stillSpans _ g ((blk_cell HG.out 16).trans rfl)).mono ?_; rintro e w' ⟨rfl, rfl⟩)
  | (go_at_call 113; refine (BkN.stillItems _ g ((blk_cell HG.out 18).trans rfl)).mono ?_; rintro e w' ⟨rfl, rfl⟩)
  | (go_at_call 114; refine (BkN.stillParts _ g ((blk_cell HG.out 20).trans rfl)).mono ?_; rintro e w' ⟨rfl, rfl⟩)
  | (go_at_call 115; refine (BkN.stillBatches _ g ((blk_cell HG.out 22).trans rfl)).mono ?_; rintro e w' ⟨rfl, rfl⟩)
  | (go_at_call 116; refine (BkN.stillPackets _ g ((blk_cell HG.out 24).trans rfl)).mono ?_; rintro e w' ⟨rfl, rfl⟩)
  | (go_at_call 117; refine (BkN.stillSteps _ g ((blk_cell HG.out 26).trans rfl)).mono ?_; rintro e w' ⟨rfl, rfl⟩)
  | (go_at_call 118; refine (BkN.putBatches _ g ((blk_cell HG.out 22).trans rfl)).mono ?_; rintro e w' ⟨rfl, rfl⟩)
  | (go_at_call 119; refine (BkN.putSteps _ g ((blk_cell HG.out 26).trans rfl)).mono ?_; rintro e w' ⟨rfl, rfl⟩)
  | (go_at_call 120; refine (BkN.putTexts _ g ((blk_cell HG.out 0).trans rfl)).mono ?_; rintro e w' ⟨rfl, rfl⟩)
  | (go_at_call 121; refine (BkN.putInts _ g ((blk_cell HG.out 2).trans rfl)).mono ?_; rintro e w' ⟨rfl, rfl⟩)
  | (go_at_call 122; refine (BkN.putNums _ g ((blk_cell HG.out 4).trans rfl)).mono ?_; rintro e w' ⟨rfl, rfl⟩)
  | (go_at_call 123; refine (BkEntries.put_calls w0 _ g _ (.slice AEntries nEntries cEntries) vsEntries XEntries HG.out rfl HHEntries.out HB.out (fun i _ => Nat.le_trans (HXLEntries.out i) (by decide)) (by rw [HVLEntries.out]; exact Nat.le_trans HNNEntries.out (by decide))).mono ?_; rintro e w' ⟨rfl, hh, hb, hs, hz⟩; have n0_ := Aside0.mk (hs.blk HG.out (by decide)); have n1_ := Aside0.mk hb; have n2_ := Aside0.mk hh; have nhPairs_ := Aside0.mk (HHPairs.out.still hs (by decide) (by decide)); clear hh hb hs hz HG HB HHEntries HHPairs; have HG := n0_; have HB := n1_; have HPEntries := n2_; have HHPairs := nhPairs_; clear n0_ n1_ n2_ nhPairs_)
  | (go_at_call 124; refine (BkPairs.put_calls w0 _ g _ (.slice APairs nPairs cPairs) vsPairs XPairs HG.out rfl HHPairs.out HB.out (fun i _ => Nat.le_trans (HXLPairs.out i) (by decide)) (by rw [HVLPairs.out]; exact Nat.le_trans HNNPairs.out (by decide))).mono ?_; rintro e w' ⟨rfl, hh, hb, hs, hz⟩; have n0_ := Aside0.mk (hs.blk HG.out (by decide)); have n1_ := Aside0.mk hb; have n2_ := Aside0.mk hh; have nhEntries_ := Aside0.mk (HPEntries.out.still hs (by decide) (by decide)); clear hh hb hs hz HG HB HPEntries HHPairs; have HG := n0_; have HB := n1_; have HPPairs := n2_; have HPEntries := nhEntries_; clear n0_ n1_ n2_ nhEntries_)
  | (go_at_call 125; refine (BkN.putWrites _ g ((blk_cell HG.out 10).trans rfl)).mono ?_; rintro e w' ⟨rfl, rfl⟩)
  | (go_at_call 126; refine (BkN.putTables _ g ((blk_cell HG.out 12).trans rfl)).mono ?_; rintro e w' ⟨rfl, rfl⟩)
  | (go_at_call 127; refine (BkN.putDots _ g ((blk_cell HG.out 14).trans rfl)).mono ?_; rintro e w' ⟨rfl, rfl⟩)
  | (go_at_call 128; refine (BkN.putSpans _ g ((blk_cell HG.out 16).trans rfl)).mono ?_; rintro e w' ⟨rfl, rfl⟩)
  | (go_at_call 129; refine (BkN.putItems _ g ((blk_cell HG.out 18).trans rfl)).mono ?_; rintro e w' ⟨rfl, rfl⟩)
  | (go_at_call 130; refine (BkN.putParts _ g ((blk_cell HG.out 20).trans rfl)).mono ?_; rintro e w' ⟨rfl, rfl⟩)
  | (go_at_call 131; refine (BkN.putPackets _ g ((blk_cell HG.out 24).trans rfl)).mono ?_; rintro e w' ⟨rfl, rfl⟩)
  | (go_at_call 132; refine (BkN.growTexts _ g ((blk_cell HG.out 0).trans rfl)).mono ?_; rintro e w' ⟨rfl, rfl⟩)
  | (go_at_call 133; refine (BkN.growInts _ g ((blk_cell HG.out 2).trans rfl)).mono ?_; rintro e w' ⟨rfl, rfl⟩)
  | (go_at_call 134; refine (BkN.growNums _ g ((blk_cell HG.out 4).trans rfl)).mono ?_; rintro e w' ⟨rfl, rfl⟩)
  | (go_at_call 135; refine (BkEntries.grow_calls w0 _ g _ (.slice AEntries nEntries cEntries) vsEntries (fun i => BkEntries.marks i 0 (XEntries i).length) HG.out rfl HPEntries.out (fun i _ => by simp only [BkEntries.marks_len]) HB.out (fun i _ => by rw [BkEntries.marks_len]; exact Nat.le_trans (HXLEntries.out i) (by decide)) (by rw [HVLEntries.out]; exact Nat.le_trans HNNEntries.out (by decide))).mono ?_; rintro e w' ⟨o_, wsEntries, rfl, hwl, ho, hb, hs, hz⟩; have hsl := own_slice ho.o; rw [hwl, HVLEntries.out] at hsl; obtain ⟨AoEntries, coEntries, rfl⟩ := hsl; have n0_ := Aside0.mk (hs.blk HG.out (by decide)); have n1_ := Aside0.mk hb; have n2_ := Aside0.mk ho; have n3_ := Aside0.mk (hwl.trans HVLEntries.out); have nhPairs_ := Aside0.mk (HPPairs.out.still hs (by decide) (by decide)); clear hwl ho hb hs hz HG HB HPEntries HPPairs; have HG := n0_; have HB := n1_; have HOEntries := n2_; have HWLEntries := n3_; have HPPairs := nhPairs_; clear n0_ n1_ n2_ n3_ nhPairs_)
  | (go_at_call 136; refine (BkPairs.grow_calls w0 _ g _ (.slice APairs nPairs cPairs) vsPairs (fun i => BkPairs.marks i 0 (XPairs i).length) HG.out rfl HPPairs.out (fun i _ => by simp only [BkPairs.marks_len]) HB.out (fun i _ => by rw [BkPairs.marks_len]; exact Nat.le_trans (HXLPairs.out i) (by decide)) (by rw [HVLPairs.out]; exact Nat.le_trans HNNPairs.out (by decide))).mono ?_; rintro e w' ⟨o_, wsPairs, rfl, hwl, ho, hb, hs, hz⟩; have hsl := own_slice ho.o; rw [hwl, HVLPairs.out] at hsl; obtain ⟨AoPairs, coPairs, rfl⟩ := hsl; have n0_ := Aside0.mk (hs.blk HG.out (by decide)); have n1_ := Aside0.mk hb; have n2_ := Aside0.mk ho; have n3_ := Aside0.mk (hwl.trans HVLPairs.out); have nhEntries_ := Aside0.mk (HOEntries.out.still hs (by decide) (by decide)); clear hwl ho hb hs hz HG HB HPPairs HOEntries; have HG := n0_; have HB := n1_; have HOPairs := n2_; have HWLPairs := n3_; have HOEntries := nhEntries_; clear n0_ n1_ n2_ n3_ nhEntries_)
  | (go_at_call 137; refine (BkN.growWrites _ g ((blk_cell HG.out 10).trans rfl)).mono ?_; rintro e w' ⟨rfl, rfl⟩)
  | (go_at_call 138; refine (BkN.growTables _ g ((blk_cell HG.out 12).trans rfl)).mono ?_; rintro e w' ⟨rfl, rfl⟩)
  | (go_at_call 139; refine (BkN.growDots _ g ((blk_cell HG.out 14).trans rfl)).mono ?_; rintro e w' ⟨rfl, rfl⟩)
  | (go_at_call 140; refine (BkN.growSpans _ g ((blk_cell HG.out 16).trans rfl)).mono ?_; rintro e w' ⟨rfl, rfl⟩)
  | (go_at_call 141; refine (BkN.growItems _ g ((blk_cell HG.out 18).trans rfl)).mono ?_; rintro e w' ⟨rfl, rfl⟩)
  | (go_at_call 142; refine (BkN.growParts _ g ((blk_cell HG.out 20).trans rfl)).mono ?_; rintro e w' ⟨rfl, rfl⟩)
  | (go_at_call 143; refine (BkN.growBatches _ g ((blk_cell HG.out 22).trans rfl)).mono ?_; rintro e w' ⟨rfl, rfl⟩)
  | (go_at_call 144; refine (BkN.growPackets _ g ((blk_cell HG.out 24).trans rfl)).mono ?_; rintro e w' ⟨rfl, rfl⟩)
  | (go_at_call 145; refine (BkN.growSteps _ g ((blk_cell HG.out 26).trans rfl)).mono ?_; rintro e w' ⟨rfl, rfl⟩; have b0 : _ = some (Value.slice none 0 0) := (blk_cell HG.out 0).trans rfl; have b2 : _ = some (Value.slice none 0 0) := (blk_cell HG.out 2).trans rfl; have b4 : _ = some (Value.slice none 0 0) := (blk_cell HG.out 4).trans rfl; have b6 : _ = some (Value.slice AEntries nEntries cEntries) := (blk_cell HG.out 6).trans rfl; have b8 : _ = some (Value.slice APairs nPairs cPairs) := (blk_cell HG.out 8).trans rfl; have b10 : _ = some (Value.slice none 0 0) := (blk_cell HG.out 10).trans rfl; have b12 : _ = some (Value.slice none 0 0) := (blk_cell HG.out 12).trans rfl; have b14 : _ = some (Value.slice none 0 0) := (blk_cell HG.out 14).trans rfl; have b16 : _ = some (Value.slice none 0 0) := (blk_cell HG.out 16).trans rfl; have b18 : _ = some (Value.slice none 0 0) := (blk_cell HG.out 18).trans rfl; have b20 : _ = some (Value.slice none 0 0) := (blk_cell HG.out 20).trans rfl; have b22 : _ = some (Value.slice none 0 0) := (blk_cell HG.out 22).trans rfl; have b24 : _ = some (Value.slice none 0 0) := (blk_cell HG.out 24).trans rfl; have b26 : _ = some (Value.slice none 0 0) := (blk_cell HG.out 26).trans rfl; have TK0 := Aside0.mk True.intro)
  | (go_at_call 149; have t_ := TK0; refine (markOutEntries HOEntries.out HWLEntries.out (fun i => HXLEntries.out i) HNNEntries.out).mono ?_; rintro e w' ⟨rfl, hb⟩; have n0_ := Aside0.mk (blk_below HG.out hb); have n1_ := Aside0.mk (below_step HB.out hb); have noEntries_ := Aside0.mk (HOEntries.out.below hb); have noPairs_ := Aside0.mk (HOPairs.out.below hb); clear hb t_ TK0 HG HB b0 b2 b4 b6 b8 b10 b12 b14 b16 b18 b20 b22 b24 b26 HOEntries HOPairs; have HG := n0_; have HB := n1_; have HOEntries := noEntries_; have HOPairs := noPairs_; clear n0_ n1_ noEntries_ noPairs_; have b0 : _ = some (Value.slice none 0 0) := (blk_cell HG.out 0).trans rfl; have b2 : _ = some (Value.slice none 0 0) := (blk_cell HG.out 2).trans rfl; have b4 : _ = some (Value.slice none 0 0) := (blk_cell HG.out 4).trans rfl; have b6 : _ = some (Value.slice AEntries nEntries cEntries) := (blk_cell HG.out 6).trans rfl; have b8 : _ = some (Value.slice APairs nPairs cPairs) := (blk_cell HG.out 8).trans rfl; have b10 : _ = some (Value.slice none 0 0) := (blk_cell HG.out 10).trans rfl; have b12 : _ = some (Value.slice none 0 0) := (blk_cell HG.out 12).trans rfl; have b14 : _ = some (Value.slice none 0 0) := (blk_cell HG.out 14).trans rfl; have b16 : _ = some (Value.slice none 0 0) := (blk_cell HG.out 16).trans rfl; have b18 : _ = some (Value.slice none 0 0) := (blk_cell HG.out 18).trans rfl; have b20 : _ = some (Value.slice none 0 0) := (blk_cell HG.out 20).trans rfl; have b22 : _ = some (Value.slice none 0 0) := (blk_cell HG.out 22).trans rfl; have b24 : _ = some (Value.slice none 0 0) := (blk_cell HG.out 24).trans rfl; have b26 : _ = some (Value.slice none 0 0) := (blk_cell HG.out 26).trans rfl; have TK1 := Aside0.mk True.intro)
  | (go_at_call 149; have t_ := TK1; refine (markInEntries HOEntries.out.H HVLEntries.out (fun i => HXLEntries.out i) HNNEntries.out).mono ?_; rintro e w' ⟨rfl, hb⟩; have n0_ := Aside0.mk (blk_below HG.out hb); have n1_ := Aside0.mk (below_step HB.out hb); have noEntries_ := Aside0.mk (HOEntries.out.below hb); have noPairs_ := Aside0.mk (HOPairs.out.below hb); clear hb t_ TK1 HG HB b0 b2 b4 b6 b8 b10 b12 b14 b16 b18 b20 b22 b24 b26 HOEntries HOPairs; have HG := n0_; have HB := n1_; have HOEntries := noEntries_; have HOPairs := noPairs_; clear n0_ n1_ noEntries_ noPairs_; have b0 : _ = some (Value.slice none 0 0) := (blk_cell HG.out 0).trans rfl; have b2 : _ = some (Value.slice none 0 0) := (blk_cell HG.out 2).trans rfl; have b4 : _ = some (Value.slice none 0 0) := (blk_cell HG.out 4).trans rfl; have b6 : _ = some (Value.slice AEntries nEntries cEntries) := (blk_cell HG.out 6).trans rfl; have b8 : _ = some (Value.slice APairs nPairs cPairs) := (blk_cell HG.out 8).trans rfl; have b10 : _ = some (Value.slice none 0 0) := (blk_cell HG.out 10).trans rfl; have b12 : _ = some (Value.slice none 0 0) := (blk_cell HG.out 12).trans rfl; have b14 : _ = some (Value.slice none 0 0) := (blk_cell HG.out 14).trans rfl; have b16 : _ = some (Value.slice none 0 0) := (blk_cell HG.out 16).trans rfl; have b18 : _ = some (Value.slice none 0 0) := (blk_cell HG.out 18).trans rfl; have b20 : _ = some (Value.slice none 0 0) := (blk_cell HG.out 20).trans rfl; have b22 : _ = some (Value.slice none 0 0) := (blk_cell HG.out 22).trans rfl; have b24 : _ = some (Value.slice none 0 0) := (blk_cell HG.out 24).trans rfl; have b26 : _ = some (Value.slice none 0 0) := (blk_cell HG.out 26).trans rfl; have TK2 := Aside0.mk True.intro)
  | (go_at_call 150; have t_ := TK2; refine (markOutPairs HOPairs.out HWLPairs.out (fun i => HXLPairs.out i) HNNPairs.out).mono ?_; rintro e w' ⟨rfl, hb⟩; have n0_ := Aside0.mk (blk_below HG.out hb); have n1_ := Aside0.mk (below_step HB.out hb); have noEntries_ := Aside0.mk (HOEntries.out.below hb); have noPairs_ := Aside0.mk (HOPairs.out.below hb); clear hb t_ TK2 HG HB b0 b2 b4 b6 b8 b10 b12 b14 b16 b18 b20 b22 b24 b26 HOEntries HOPairs; have HG := n0_; have HB := n1_; have HOEntries := noEntries_; have HOPairs := noPairs_; clear n0_ n1_ noEntries_ noPairs_; have b0 : _ = some (Value.slice none 0 0) := (blk_cell HG.out 0).trans rfl; have b2 : _ = some (Value.slice none 0 0) := (blk_cell HG.out 2).trans rfl; have b4 : _ = some (Value.slice none 0 0) := (blk_cell HG.out 4).trans rfl; have b6 : _ = some (Value.slice AEntries nEntries cEntries) := (blk_cell HG.out 6).trans rfl; have b8 : _ = some (Value.slice APairs nPairs cPairs) := (blk_cell HG.out 8).trans rfl; have b10 : _ = some (Value.slice none 0 0) := (blk_cell HG.out 10).trans rfl; have b12 : _ = some (Value.slice none 0 0) := (blk_cell HG.out 12).trans rfl; have b14 : _ = some (Value.slice none 0 0) := (blk_cell HG.out 14).trans rfl; have b16 : _ = some (Value.slice none 0 0) := (blk_cell HG.out 16).trans rfl; have b18 : _ = some (Value.slice none 0 0) := (blk_cell HG.out 18).trans rfl; have b20 : _ = some (Value.slice none 0 0) := (blk_cell HG.out 20).trans rfl; have b22 : _ = some (Value.slice none 0 0) := (blk_cell HG.out 22).trans rfl; have b24 : _ = some (Value.slice none 0 0) := (blk_cell HG.out 24).trans rfl; have b26 : _ = some (Value.slice none 0 0) := (blk_cell HG.out 26).trans rfl; have TK3 := Aside0.mk True.intro)
  | (go_at_call 150; have t_ := TK3; refine (markInPairs HOPairs.out.H HVLPairs.out (fun i => HXLPairs.out i) HNNPairs.out).mono ?_; rintro e w' ⟨rfl, hb⟩; have n0_ := Aside0.mk (blk_below HG.out hb); have n1_ := Aside0.mk (below_step HB.out hb); have noEntries_ := Aside0.mk (HOEntries.out.below hb); have noPairs_ := Aside0.mk (HOPairs.out.below hb); clear hb t_ TK3 HG HB b0 b2 b4 b6 b8 b10 b12 b14 b16 b18 b20 b22 b24 b26 HOEntries HOPairs; have HG := n0_; have HB := n1_; have HOEntries := noEntries_; have HOPairs := noPairs_; clear n0_ n1_ noEntries_ noPairs_; have b0 : _ = some (Value.slice none 0 0) := (blk_cell HG.out 0).trans rfl; have b2 : _ = some (Value.slice none 0 0) := (blk_cell HG.out 2).trans rfl; have b4 : _ = some (Value.slice none 0 0) := (blk_cell HG.out 4).trans rfl; have b6 : _ = some (Value.slice AEntries nEntries cEntries) := (blk_cell HG.out 6).trans rfl; have b8 : _ = some (Value.slice APairs nPairs cPairs) := (blk_cell HG.out 8).trans rfl; have b10 : _ = some (Value.slice none 0 0) := (blk_cell HG.out 10).trans rfl; have b12 : _ = some (Value.slice none 0 0) := (blk_cell HG.out 12).trans rfl; have b14 : _ = some (Value.slice none 0 0) := (blk_cell HG.out 14).trans rfl; have b16 : _ = some (Value.slice none 0 0) := (blk_cell HG.out 16).trans rfl; have b18 : _ = some (Value.slice none 0 0) := (blk_cell HG.out 18).trans rfl; have b20 : _ = some (Value.slice none 0 0) := (blk_cell HG.out 20).trans rfl; have b22 : _ = some (Value.slice none 0 0) := (blk_cell HG.out 22).trans rfl; have b24 : _ = some (Value.slice none 0 0) := (blk_cell HG.out 24).trans rfl; have b26 : _ = some (Value.slice none 0 0) := (blk_cell HG.out 26).trans rfl; have TK4 := Aside0.mk True.intro)
  | (go_at_call 146; refine (BkN.markedTexts _).mono ?_; rintro e w' ⟨rfl, rfl⟩)
  | (go_at_call 147; refine (BkN.markedInts _).mono ?_; rintro e w' ⟨rfl, rfl⟩)
  | (go_at_call 148; refine (BkN.markedNums _).mono ?_; rintro e w' ⟨rfl, rfl⟩)
  | (go_at_call 151; refine (BkN.markedWrites _).mono ?_; rintro e w' ⟨rfl, rfl⟩)
  | (go_at_call 152; refine (BkN.markedTables _).mono ?_; rintro e w' ⟨rfl, rfl⟩)
  | (go_at_call 153; refine (BkN.markedDots _).mono ?_; rintro e w' ⟨rfl, rfl⟩)
  | (go_at_call 154; refine (BkN.markedSpans _).mono ?_; rintro e w' ⟨rfl, rfl⟩)
  | (go_at_call 155; refine (BkN.markedItems _).mono ?_; rintro e w' ⟨rfl, rfl⟩)
  | (go_at_call 156; refine (BkN.markedParts _).mono ?_; rintro e w' ⟨rfl, rfl⟩)
  | (go_at_call 157; refine (BkN.markedBatches _).mono ?_; rintro e w' ⟨rfl, rfl⟩)
  | (go_at_call 158; refine (BkN.markedPackets _).mono ?_; rintro e w' ⟨rfl, rfl⟩)
  | (go_at_call 159; refine (BkN.markedSteps _).mono ?_; rintro e w' ⟨rfl, rfl⟩))
 go_ret
 exact ⟨rfl, HB.out⟩
def BkX (w0 w : World) (g : Nat) (P : Nat → Prop) : Prop := ∃ pEntries qEntries pPairs qPairs, ∃ esEntries esPairs, Bk w0 w g pEntries qEntries pPairs qPairs esEntries esPairs ∧ (∀ x ∈ esEntries, ∀ k, x.v.ownBlock = some k → P k) ∧ (∀ x ∈ esPairs, ∀ k, x.v.ownBlock = some k → P k)
theorem BkX.mono {w0 w : World} {g : Nat} {P P' : Nat → Prop} (h : BkX w0 w g P) (hn : ∀ k, P k → P' k) : BkX w0 w g P' := by
 obtain ⟨pEntries, qEntries, pPairs, qPairs, esEntries, esPairs, hk, hoEntries, hoPairs⟩ := h
 exact ⟨pEntries, qEntries, pPairs, qPairs, esEntries, esPairs, hk, fun x hx k e => hn k (hoEntries x hx k e), fun x hx k e => hn k (hoPairs x hx k e)⟩
theorem BkX.still {w0 w w1 : World} {g : Nat} {P : Nat → Prop} (h : BkX w0 w g P) {T : List TypeId} (hs : Still T w w1) (hB : 56 ∉ T) (hSEntries : 22 ∉ T) (hEEntries : 32 ∉ T) (hSPairs : 79 ∉ T) (hEPairs : 184 ∉ T) (hb : Below w0.heap.size w0 w1) : BkX w0 w1 g P := by
 obtain ⟨pEntries, qEntries, pPairs, qPairs, esEntries, esPairs, hk, hoEntries, hoPairs⟩ := h
 exact ⟨pEntries, qEntries, pPairs, qPairs, esEntries, esPairs, ⟨hs.blk hk.blk hB, hk.kEntries.still hs hSEntries hEEntries, hk.nEntries, hk.lEntries, hk.kPairs.still hs hSPairs hEPairs, hk.nPairs, hk.lPairs, hb, hk.gb⟩, hoEntries, hoPairs⟩
theorem BkX.below {w0 w w1 : World} {g : Nat} {P : Nat → Prop} (h : BkX w0 w g P) (hb : Below w.heap.size w w1) : BkX w0 w1 g P := by
 have h0 := h
 obtain ⟨pEntries, qEntries, pPairs, qPairs, esEntries, esPairs, hk, hoEntries, hoPairs⟩ := h0
 exact h.still (T := []) (Still.of_below hb) (by simp) (by simp) (by simp) (by simp) (by simp) (below_step hk.bel hb)
theorem BkX.bel {w0 w : World} {g : Nat} {P : Nat → Prop} (h : BkX w0 w g P) : Below w0.heap.size w0 w := by
 obtain ⟨pEntries, qEntries, pPairs, qPairs, esEntries, esPairs, hk, hoEntries, hoPairs⟩ := h
 exact hk.bel
theorem BkX.new {w0 w : World} (hb : Below w0.heap.size w0 w) (P : Nat → Prop) : BkX w0 (w.alloc (.cells #[.slice none 0 0, .slice none 0 0, .slice none 0 0, .slice none 0 0, .slice none 0 0, .slice none 0 0, .slice none 0 0, .slice none 0 0, .slice none 0 0, .slice none 0 0, .slice none 0 0, .slice none 0 0, .slice none 0 0, .slice none 0 0, .slice none 0 0, .slice none 0 0, .slice none 0 0, .slice none 0 0, .slice none 0 0, .slice none 0 0, .slice none 0 0, .slice none 0 0, .slice none 0 0, .slice none 0 0, .slice none 0 0, .slice none 0 0, .slice none 0 0, .slice none 0 0] 56)) w.heap.size P :=
 ⟨.slice none 0 0, .slice none 0 0, .slice none 0 0, .slice none 0 0, [], [], ⟨blk_new w _, (Kept.none_ _ _ _ _ _ _), (by simp), (by simp), (Kept.none_ _ _ _ _ _ _), (by simp), (by simp), below_alloc hb _, hb.size⟩, (by simp), (by simp)⟩
theorem BkX.apart {w0 w : World} {g : Nat} {P : Nat → Prop} (h : BkX w0 w g P) : Calls Tryz.prog 29 #[.pointer (some ⟨g, 0, none⟩)] w fun e w' => e = .returned (.bool true) ∧ Below w0.heap.size w0 w' := by
 obtain ⟨pEntries, qEntries, pPairs, qPairs, esEntries, esPairs, hk, hoEntries, hoPairs⟩ := h
 exact apart_calls w0 w g _ _ _ _ _ _ hk
theorem BkX.keepEntries {w0 w : World} {g : Nat} {P P' : Nat → Prop} (h : BkX w0 w g P) {A : Option Addr} {c : Nat} {xs : List S32} (hv : Rw w 32 4 (.slice A xs.length c) xs.length (encL BkEntries.enc xs)) (hvk : ∀ k, (Value.slice A xs.length c).ownBlock = some k → ¬ P k ∧ P' k ∧ w0.heap.size ≤ k) (hNN : ∀ k, P k → P' k) (hx : xs.length ≤ 1000) :
  Calls Tryz.prog 18 #[.pointer (some ⟨g, 0, none⟩), .slice A xs.length c] w fun e w' => e = .returned (.tuple #[]) ∧ BkX w0 w' g P' ∧ Still [56, 22] w w' ∧ w.heap.size ≤ w'.heap.size ∧ Below w0.heap.size w0 w' := by
 have h0 := h
 obtain ⟨pEntries, qEntries, pPairs, qPairs, esEntries, esPairs, hk, hoEntries, hoPairs⟩ := h0
 by_cases hn : esEntries.length < 250
 ·refine (BkEntries.keep_calls w0 w g (bcells pEntries qEntries pPairs qPairs) pEntries qEntries esEntries A c xs hk.blk rfl rfl hk.kEntries hk.bel hk.gb hv (fun k e => (hvk k e).2.2) (fun x hx k e e2 => ?_) (Nat.le_trans hx (by decide)) hn).mono ?_
  ·exact (hvk k e2).1 (hoEntries x hx k e)
  ·rintro e w' ⟨rfl, p', q', u, hb, hK, hB, hs, hz, _⟩
   exact ⟨rfl, ⟨p', q', pPairs, qPairs, esEntries ++ [⟨.slice A xs.length c, u, xs⟩], esPairs, ⟨hb, hK, (by rw [List.length_append, List.length_singleton]; omega), mem_snoc_imp hk.lEntries hx, hk.kPairs.still hs (by decide) (by decide), hk.nPairs, hk.lPairs, hB, hk.gb⟩, mem_snoc_imp (fun x hx' k e => hNN k (hoEntries x hx' k e)) (fun k e => (hvk k e).2.1), fun x hx' k e => hNN k (hoPairs x hx' k e)⟩, hs, hz, hB⟩
 ·obtain ⟨Ap, cp, ep⟩ := own_slice hk.kEntries.rp
  refine (BkEntries.keep_full w g (bcells pEntries qEntries pPairs qPairs) _ Ap esEntries.length cp hk.blk (by rw [← ep]; rfl) hn).mono ?_
  rintro e w' ⟨rfl, rfl⟩
  exact ⟨rfl, h.mono hNN, Still.refl _ _, Nat.le_refl _, hk.bel⟩
theorem BkX.keepPairs {w0 w : World} {g : Nat} {P P' : Nat → Prop} (h : BkX w0 w g P) {A : Option Addr} {c : Nat} {xs : List S184} (hv : Rw w 184 2 (.slice A xs.length c) xs.length (encL BkPairs.enc xs)) (hvk : ∀ k, (Value.slice A xs.length c).ownBlock = some k → ¬ P k ∧ P' k ∧ w0.heap.size ≤ k) (hNN : ∀ k, P k → P' k) (hx : xs.length ≤ 1000) :
  Calls Tryz.prog 36 #[.pointer (some ⟨g, 0, none⟩), .slice A xs.length c] w fun e w' => e = .returned (.tuple #[]) ∧ BkX w0 w' g P' ∧ Still [56, 79] w w' ∧ w.heap.size ≤ w'.heap.size ∧ Below w0.heap.size w0 w' := by
 have h0 := h
 obtain ⟨pEntries, qEntries, pPairs, qPairs, esEntries, esPairs, hk, hoEntries, hoPairs⟩ := h0
 by_cases hn : esPairs.length < 250
 ·refine (BkPairs.keep_calls w0 w g (bcells pEntries qEntries pPairs qPairs) pPairs qPairs esPairs A c xs hk.blk rfl rfl hk.kPairs hk.bel hk.gb hv (fun k e => (hvk k e).2.2) (fun x hx k e e2 => ?_) (Nat.le_trans hx (by decide)) hn).mono ?_
  ·exact (hvk k e2).1 (hoPairs x hx k e)
  ·rintro e w' ⟨rfl, p', q', u, hb, hK, hB, hs, hz, _⟩
   exact ⟨rfl, ⟨pEntries, qEntries, p', q', esEntries, esPairs ++ [⟨.slice A xs.length c, u, xs⟩], ⟨hb, hk.kEntries.still hs (by decide) (by decide), hk.nEntries, hk.lEntries, hK, (by rw [List.length_append, List.length_singleton]; omega), mem_snoc_imp hk.lPairs hx, hB, hk.gb⟩, fun x hx' k e => hNN k (hoEntries x hx' k e), mem_snoc_imp (fun x hx' k e => hNN k (hoPairs x hx' k e)) (fun k e => (hvk k e).2.1)⟩, hs, hz, hB⟩
 ·obtain ⟨Ap, cp, ep⟩ := own_slice hk.kPairs.rp
  refine (BkPairs.keep_full w g (bcells pEntries qEntries pPairs qPairs) _ Ap esPairs.length cp hk.blk (by rw [← ep]; rfl) hn).mono ?_
  rintro e w' ⟨rfl, rfl⟩
  exact ⟨rfl, h.mono hNN, Still.refl _ _, Nat.le_refl _, hk.bel⟩
def BkZ (w0 w : World) (g : Nat) (P Q : Nat → Prop) : Prop := ∃ pEntries qEntries pPairs qPairs, ∃ esEntries esPairs, Bk w0 w g pEntries qEntries pPairs qPairs esEntries esPairs ∧ (∀ x ∈ esEntries, ∀ k, x.v.ownBlock = some k → P k) ∧ (∀ x ∈ esPairs, ∀ k, x.v.ownBlock = some k → P k) ∧ (∀ k, pEntries.ownBlock = some k → Q k) ∧ (∀ k, qEntries.ownBlock = some k → Q k) ∧ (∀ k, pPairs.ownBlock = some k → Q k) ∧ (∀ k, qPairs.ownBlock = some k → Q k)
theorem BkZ.toX {w0 w : World} {g : Nat} {P Q : Nat → Prop} (h : BkZ w0 w g P Q) : BkX w0 w g P := by
 obtain ⟨pEntries, qEntries, pPairs, qPairs, esEntries, esPairs, hk, hoEntries, hoPairs, hpEntries, hqEntries, hpPairs, hqPairs⟩ := h
 exact ⟨pEntries, qEntries, pPairs, qPairs, esEntries, esPairs, hk, hoEntries, hoPairs⟩
theorem BkZ.mono {w0 w : World} {g : Nat} {P P' Q Q' : Nat → Prop} (h : BkZ w0 w g P Q) (hn : ∀ k, P k → P' k) (hm : ∀ k, k < w.heap.size → Q k → Q' k) : BkZ w0 w g P' Q' := by
 obtain ⟨pEntries, qEntries, pPairs, qPairs, esEntries, esPairs, hk, hoEntries, hoPairs, hpEntries, hqEntries, hpPairs, hqPairs⟩ := h
 exact ⟨pEntries, qEntries, pPairs, qPairs, esEntries, esPairs, hk, fun x hx k e => hn k (hoEntries x hx k e), fun x hx k e => hn k (hoPairs x hx k e), fun k e => hm k ((Rw.of_own hk.kEntries.rp).lt k e) (hpEntries k e), fun k e => hm k ((Rw.of_own hk.kEntries.rq).lt k e) (hqEntries k e), fun k e => hm k ((Rw.of_own hk.kPairs.rp).lt k e) (hpPairs k e), fun k e => hm k ((Rw.of_own hk.kPairs.rq).lt k e) (hqPairs k e)⟩
theorem BkZ.still {w0 w w1 : World} {g : Nat} {P Q : Nat → Prop} (h : BkZ w0 w g P Q) {T : List TypeId} (hs : Still T w w1) (hB : 56 ∉ T) (hSEntries : 22 ∉ T) (hEEntries : 32 ∉ T) (hSPairs : 79 ∉ T) (hEPairs : 184 ∉ T) (hb : Below w0.heap.size w0 w1) : BkZ w0 w1 g P Q := by
 obtain ⟨pEntries, qEntries, pPairs, qPairs, esEntries, esPairs, hk, hoEntries, hoPairs, hpEntries, hqEntries, hpPairs, hqPairs⟩ := h
 exact ⟨pEntries, qEntries, pPairs, qPairs, esEntries, esPairs, ⟨hs.blk hk.blk hB, hk.kEntries.still hs hSEntries hEEntries, hk.nEntries, hk.lEntries, hk.kPairs.still hs hSPairs hEPairs, hk.nPairs, hk.lPairs, hb, hk.gb⟩, hoEntries, hoPairs, hpEntries, hqEntries, hpPairs, hqPairs⟩
theorem BkZ.far {w0 w w1 : World} {g : Nat} {P Q : Nat → Prop} (h : BkZ w0 w g P Q) {T : List TypeId} (hs : Still T w w1) (hB : 56 ∉ T) (hEEntries : 32 ∉ T) (hEPairs : 184 ∉ T) (hq : ∀ k, k < w.heap.size → Q k → w1.heap[k]? = w.heap[k]?) (hb : Below w0.heap.size w0 w1) : BkZ w0 w1 g P Q := by
 obtain ⟨pEntries, qEntries, pPairs, qPairs, esEntries, esPairs, hk, hoEntries, hoPairs, hpEntries, hqEntries, hpPairs, hqPairs⟩ := h
 exact ⟨pEntries, qEntries, pPairs, qPairs, esEntries, esPairs, ⟨hs.blk hk.blk hB, hk.kEntries.turn hs hEEntries (fun k e => hq k ((Rw.of_own hk.kEntries.rp).lt k e) (hpEntries k e)) (fun k e => hq k ((Rw.of_own hk.kEntries.rq).lt k e) (hqEntries k e)), hk.nEntries, hk.lEntries, hk.kPairs.turn hs hEPairs (fun k e => hq k ((Rw.of_own hk.kPairs.rp).lt k e) (hpPairs k e)) (fun k e => hq k ((Rw.of_own hk.kPairs.rq).lt k e) (hqPairs k e)), hk.nPairs, hk.lPairs, hb, hk.gb⟩, hoEntries, hoPairs, hpEntries, hqEntries, hpPairs, hqPairs⟩
theorem BkZ.bel {w0 w : World} {g : Nat} {P Q : Nat → Prop} (h : BkZ w0 w g P Q) : Below w0.heap.size w0 w := h.toX.bel
theorem BkZ.below {w0 w w1 : World} {g : Nat} {P Q : Nat → Prop} (h : BkZ w0 w g P Q) (hb : Below w.heap.size w w1) : BkZ w0 w1 g P Q :=
 h.still (T := []) (Still.of_below hb) (by simp) (by simp) (by simp) (by simp) (by simp) (below_step h.bel hb)
theorem BkZ.new {w0 w : World} (hb : Below w0.heap.size w0 w) (P Q : Nat → Prop) : BkZ w0 (w.alloc (.cells #[.slice none 0 0, .slice none 0 0, .slice none 0 0, .slice none 0 0, .slice none 0 0, .slice none 0 0, .slice none 0 0, .slice none 0 0, .slice none 0 0, .slice none 0 0, .slice none 0 0, .slice none 0 0, .slice none 0 0, .slice none 0 0, .slice none 0 0, .slice none 0 0, .slice none 0 0, .slice none 0 0, .slice none 0 0, .slice none 0 0, .slice none 0 0, .slice none 0 0, .slice none 0 0, .slice none 0 0, .slice none 0 0, .slice none 0 0, .slice none 0 0, .slice none 0 0] 56)) w.heap.size P Q :=
 ⟨.slice none 0 0, .slice none 0 0, .slice none 0 0, .slice none 0 0, [], [], ⟨blk_new w _, (Kept.none_ _ _ _ _ _ _), (by simp), (by simp), (Kept.none_ _ _ _ _ _ _), (by simp), (by simp), below_alloc hb _, hb.size⟩, (by simp), (by simp), (fun k e => by simp [Value.ownBlock] at e), (fun k e => by simp [Value.ownBlock] at e), (fun k e => by simp [Value.ownBlock] at e), (fun k e => by simp [Value.ownBlock] at e)⟩
theorem BkZ.keepEntries {w0 w : World} {g : Nat} {P P' Q : Nat → Prop} (h : BkZ w0 w g P Q) {A : Option Addr} {c : Nat} {xs : List S32} (hv : Rw w 32 4 (.slice A xs.length c) xs.length (encL BkEntries.enc xs)) (hvk : ∀ k, (Value.slice A xs.length c).ownBlock = some k → ¬ P k ∧ P' k ∧ w0.heap.size ≤ k) (hNN : ∀ k, P k → P' k) (hx : xs.length ≤ 1000) :
  Calls Tryz.prog 18 #[.pointer (some ⟨g, 0, none⟩), .slice A xs.length c] w fun e w' => e = .returned (.tuple #[]) ∧ BkZ w0 w' g P' (fun k => Q k ∨ w.heap.size ≤ k) ∧ (∀ k, k < w.heap.size → k ≠ g → ¬ Q k → w'.heap[k]? = w.heap[k]?) ∧ Still [56, 22] w w' ∧ w.heap.size ≤ w'.heap.size ∧ Below w0.heap.size w0 w' := by
 obtain ⟨pEntries, qEntries, pPairs, qPairs, esEntries, esPairs, hk, hoEntries, hoPairs, hpEntries, hqEntries, hpPairs, hqPairs⟩ := h
 by_cases hn : esEntries.length < 250
 ·refine (BkEntries.keep_calls w0 w g (bcells pEntries qEntries pPairs qPairs) pEntries qEntries esEntries A c xs hk.blk rfl rfl hk.kEntries hk.bel hk.gb hv (fun k e => (hvk k e).2.2) (fun x hx k e e2 => ?_) (Nat.le_trans hx (by decide)) hn).mono ?_
  ·exact (hvk k e2).1 (hoEntries x hx k e)
  ·rintro e w' ⟨rfl, p', q', u, hb, hK, hB, hs, hz, hF, hN1, hN2⟩
   exact ⟨rfl, ⟨p', q', pPairs, qPairs, esEntries ++ [⟨.slice A xs.length c, u, xs⟩], esPairs, ⟨hb, hK, (by rw [List.length_append, List.length_singleton]; omega), mem_snoc_imp hk.lEntries hx, hk.kPairs.still hs (by decide) (by decide), hk.nPairs, hk.lPairs, hB, hk.gb⟩, mem_snoc_imp (fun x hx' k e => hNN k (hoEntries x hx' k e)) (fun k e => (hvk k e).2.1), fun x hx' k e => hNN k (hoPairs x hx' k e), fun k e => (hN1 k e).imp (hpEntries k) id, fun k e => (hN2 k e).imp (hqEntries k) id, fun k e => .inl (hpPairs k e), fun k e => .inl (hqPairs k e)⟩, fun k h1 h2 h3 => hF k h1 h2 (fun e => h3 (hpEntries k e)) (fun e => h3 (hqEntries k e)), hs, hz, hB⟩
 ·obtain ⟨Ap, cp, ep⟩ := own_slice hk.kEntries.rp
  refine (BkEntries.keep_full w g (bcells pEntries qEntries pPairs qPairs) _ Ap esEntries.length cp hk.blk (by rw [← ep]; rfl) hn).mono ?_
  rintro e w' ⟨rfl, rfl⟩
  exact ⟨rfl, BkZ.mono (Q := Q) ⟨pEntries, qEntries, pPairs, qPairs, esEntries, esPairs, hk, hoEntries, hoPairs, hpEntries, hqEntries, hpPairs, hqPairs⟩ hNN (fun _ _ h => .inl h), fun _ _ _ _ => rfl, Still.refl _ _, Nat.le_refl _, hk.bel⟩
theorem BkZ.keepPairs {w0 w : World} {g : Nat} {P P' Q : Nat → Prop} (h : BkZ w0 w g P Q) {A : Option Addr} {c : Nat} {xs : List S184} (hv : Rw w 184 2 (.slice A xs.length c) xs.length (encL BkPairs.enc xs)) (hvk : ∀ k, (Value.slice A xs.length c).ownBlock = some k → ¬ P k ∧ P' k ∧ w0.heap.size ≤ k) (hNN : ∀ k, P k → P' k) (hx : xs.length ≤ 1000) :
  Calls Tryz.prog 36 #[.pointer (some ⟨g, 0, none⟩), .slice A xs.length c] w fun e w' => e = .returned (.tuple #[]) ∧ BkZ w0 w' g P' (fun k => Q k ∨ w.heap.size ≤ k) ∧ (∀ k, k < w.heap.size → k ≠ g → ¬ Q k → w'.heap[k]? = w.heap[k]?) ∧ Still [56, 79] w w' ∧ w.heap.size ≤ w'.heap.size ∧ Below w0.heap.size w0 w' := by
 obtain ⟨pEntries, qEntries, pPairs, qPairs, esEntries, esPairs, hk, hoEntries, hoPairs, hpEntries, hqEntries, hpPairs, hqPairs⟩ := h
 by_cases hn : esPairs.length < 250
 ·refine (BkPairs.keep_calls w0 w g (bcells pEntries qEntries pPairs qPairs) pPairs qPairs esPairs A c xs hk.blk rfl rfl hk.kPairs hk.bel hk.gb hv (fun k e => (hvk k e).2.2) (fun x hx k e e2 => ?_) (Nat.le_trans hx (by decide)) hn).mono ?_
  ·exact (hvk k e2).1 (hoPairs x hx k e)
  ·rintro e w' ⟨rfl, p', q', u, hb, hK, hB, hs, hz, hF, hN1, hN2⟩
   exact ⟨rfl, ⟨pEntries, qEntries, p', q', esEntries, esPairs ++ [⟨.slice A xs.length c, u, xs⟩], ⟨hb, hk.kEntries.still hs (by decide) (by decide), hk.nEntries, hk.lEntries, hK, (by rw [List.length_append, List.length_singleton]; omega), mem_snoc_imp hk.lPairs hx, hB, hk.gb⟩, fun x hx' k e => hNN k (hoEntries x hx' k e), mem_snoc_imp (fun x hx' k e => hNN k (hoPairs x hx' k e)) (fun k e => (hvk k e).2.1), fun k e => .inl (hpEntries k e), fun k e => .inl (hqEntries k e), fun k e => (hN1 k e).imp (hpPairs k) id, fun k e => (hN2 k e).imp (hqPairs k) id⟩, fun k h1 h2 h3 => hF k h1 h2 (fun e => h3 (hpPairs k e)) (fun e => h3 (hqPairs k e)), hs, hz, hB⟩
 ·obtain ⟨Ap, cp, ep⟩ := own_slice hk.kPairs.rp
  refine (BkPairs.keep_full w g (bcells pEntries qEntries pPairs qPairs) _ Ap esPairs.length cp hk.blk (by rw [← ep]; rfl) hn).mono ?_
  rintro e w' ⟨rfl, rfl⟩
  exact ⟨rfl, BkZ.mono (Q := Q) ⟨pEntries, qEntries, pPairs, qPairs, esEntries, esPairs, hk, hoEntries, hoPairs, hpEntries, hqEntries, hpPairs, hqPairs⟩ hNN (fun _ _ h => .inl h), fun _ _ _ _ => rfl, Still.refl _ _, Nat.le_refl _, hk.bel⟩
end Go.Proofs.YtchgpcgolgcfdaaGreat.BkAEntriesPairs
end
