/- A map from texts to writes, told by the list of all writes that were put into it, one behind the other: what it holds under a key is the last one of that key. (No program in sight but the types' numbers.) -/
import Derived.Test.YtnaojalieecaeaaPBatx0
import Derived.Test.YtnaojalieecaeaaWRd
import Derived.Maps.OwnSet
import Derived.Maps.Range
import Derived.Sort.KeysCollected
namespace Go.Proofs.Ytnaojalieecaeaa.BatM
open Go Go.RowKit Go.Maps Go.Proofs.Ytnaojalieecaeaa.PBat Go.Proofs.YtnaojalieecaeaaW.PrintWords
def dW (x : S27) : DataW Unit := .agg [.lit (.string x.f0.data.toList), .lit (.string x.f1.data.toList), .lit (.bool x.f2)]
/-- How a write reads. -/
def RW : Value → Option (DataW Unit × List MemPlace)
  | .agg cs => match cs.toList with
    | [.string k, .string v, .bool d] => some (.agg [.lit (.string k.data.toList), .lit (.string v.data.toList), .lit (.bool d)], [])
    | _ => none
  | _ => none
theorem RW_mk (x : S27) : RW (.agg #[.string x.f0, .string x.f1, .bool x.f2]) = some (dW x, []) := rfl
theorem ba_ext {a b : ByteArray} (h : a.data.toList = b.data.toList) : a = b := by
  cases a; cases b; simp at h; simp [h]
theorem RW_inv {v : Value} {x : S27} {ps : List MemPlace} (h : RW v = some (dW x, ps)) : v = .agg #[.string x.f0, .string x.f1, .bool x.f2] := by
  unfold RW at h
  split at h
  · rename_i cs
    split at h
    · rename_i k v d e
      simp only [dW, Option.some.injEq, Prod.mk.injEq, DataW.agg.injEq, List.cons.injEq, DataW.lit.injEq, Lit.string.injEq, Lit.bool.injEq] at h
      obtain ⟨⟨h1, h2, h3, _⟩, _⟩ := h
      have e2 : cs = #[.string k, .string v, .bool d] := by
        cases cs
        simpa using e
      rw [e2, ba_ext h1, ba_ext h2, h3]
    · cases h
  · cases h
def ky (s : List UInt8) : Lit := .string s
def bs (s : ByteArray) : List UInt8 := s.data.toList
theorem isKey (s : List UInt8) : WideAt.IsKeyLit (ky s) := trivial
def D (l : List S27) : DataW Unit := l.foldl (fun m x => m.put (ky (bs x.f0)) (dW x)) (.map [])
theorem D_snoc (l : List S27) (x : S27) : D (l ++ [x]) = (D l).put (ky (bs x.f0)) (dW x) := by simp [D]
/-- The last write of a key. -/
def last (l : List S27) (k : List UInt8) : Option S27 := l.foldl (fun o x => if bs x.f0 = k then some x else o) none
theorem last_snoc (l : List S27) (x : S27) (k : List UInt8) : last (l ++ [x]) k = if bs x.f0 = k then some x else last l k := by simp [last]
theorem snocInd {α : Type} {p : List α → Prop} (h0 : p []) (h1 : ∀ l x, p l → p (l ++ [x])) (l : List α) : p l := by
  rw [← List.reverse_reverse l]
  induction l.reverse with
  | nil => exact h0
  | cons a t ih =>
    rw [List.reverse_cons]
    exact h1 _ _ ih
theorem D_tidy (l : List S27) : Tidy (D l) := by
  refine snocInd (p := fun l => Tidy (D l)) tidy_empty (fun l x h => ?_) l
  rw [D_snoc]
  exact h.put (isKey _) _
theorem at_D (l : List S27) (k : List UInt8) (z : DataW Unit) : (D l).atKey (ky k) z = match last l k with | some x => dW x | none => z := by
  refine snocInd (p := fun l => (D l).atKey (ky k) z = match last l k with | some x => dW x | none => z) rfl (fun l x h => ?_) l
  rw [D_snoc, last_snoc]
  by_cases e : bs x.f0 = k
  · rw [if_pos e, e]
    exact atKey_put_same (D_tidy l).isMap (isKey _) _ _
  · rw [if_neg e, atKey_put_other (by simp only [ky, ne_eq, Lit.string.injEq]; exact fun h => e h.symm), h]
theorem has_D (l : List S27) (k : List UInt8) : has (D l) (ky k) = (last l k).isSome := by
  refine snocInd (p := fun l => has (D l) (ky k) = (last l k).isSome) rfl (fun l x h => ?_) l
  rw [D_snoc, last_snoc]
  by_cases e : bs x.f0 = k
  · rw [if_pos e, e]
    exact has_put_same (D_tidy l).isMap (isKey _) _
  · rw [if_neg e, has_put_other (by simp only [ky, ne_eq, Lit.string.injEq]; exact fun h => e h.symm), h]
theorem last_key {l : List S27} {k : List UInt8} {x : S27} (h : last l k = some x) : bs x.f0 = k := by
  refine snocInd (p := fun l => last l k = some x → bs x.f0 = k) (fun h => by simp [last] at h) (fun l y ih h => ?_) l h
  rw [last_snoc] at h
  split at h
  · injection h with h
    subst h
    assumption
  · exact ih h
/-- All keys are texts. -/
theorem D_str (l : List S27) : ∃ es, D l = .map es ∧ es.Pairwise (fun p q => p.1 ≠ q.1) ∧ ∀ p ∈ es, ∃ x, p.1 = .string x := by
  obtain ⟨es, he, hp⟩ := D_tidy l
  refine ⟨es, he, hp, ?_⟩
  have : ∀ es, D l = .map es → ∀ p ∈ es, ∃ x, p.1 = Lit.string x := by
    refine snocInd (p := fun l => ∀ es, D l = .map es → ∀ p ∈ es, ∃ x, p.1 = Lit.string x) (fun es h p hp => ?_) (fun l x ih es h p hp => ?_) l
    · simp [D] at h
      subst h
      simp at hp
    · obtain ⟨es0, he0, _⟩ := D_tidy l
      rw [D_snoc, he0] at h
      simp only [DataW.put, DataW.map.injEq] at h
      subst h
      rcases Go.ChangeMaps.mem_insert_iff.1 hp with rfl | hp
      · exact ⟨_, rfl⟩
      · exact ih es0 he0 p (List.mem_filter.1 hp).1
  exact this es he
/-- The keys, rising. -/
def ks (l : List S27) : List (List UInt8) := (strKeys (D l)).mergeSort leB
theorem mem_keys (l : List S27) (k : List UInt8) : k ∈ strKeys (D l) ↔ (last l k).isSome = true := by
  obtain ⟨es, he, hp, hs⟩ := D_str l
  rw [← has_D, he, has_eq, List.any_eq_true]
  show k ∈ es.map (fun p => strOf p.1) ↔ _
  rw [List.mem_map]
  constructor
  · rintro ⟨p, hp', rfl⟩
    obtain ⟨a, ha⟩ := hs p hp'
    exact ⟨p, hp', by rw [ha]; simp [Lit.sameKey, strOf, ky]⟩
  · rintro ⟨p, hp', hk⟩
    obtain ⟨a, ha⟩ := hs p hp'
    rw [ha] at hk
    exact ⟨p, hp', by rw [ha]; simpa [Lit.sameKey, strOf, ky] using hk⟩
theorem nodup_keys (l : List S27) : (strKeys (D l)).Nodup := by
  obtain ⟨es, he, hp, hs⟩ := D_str l
  rw [he]
  show (es.map fun p => strOf p.1).Nodup
  refine List.pairwise_map.2 (hp.imp_of_mem fun {p q} hp' hq' hne e => hne ?_)
  obtain ⟨a, ha⟩ := hs p hp'
  obtain ⟨b, hb⟩ := hs q hq'
  rw [ha, hb] at e ⊢
  exact congrArg _ e
theorem mem_ks (l : List S27) (k : List UInt8) : k ∈ ks l ↔ (last l k).isSome = true := by
  rw [← mem_keys]
  exact (List.mergeSort_perm _ _).mem_iff
theorem size_ks (l : List S27) : (ks l).length = Maps.size (D l) := by
  obtain ⟨es, he, _, _⟩ := D_str l
  unfold ks
  rw [List.length_mergeSort, he]
  simp [strKeys, Maps.size]
theorem rise_ks (l : List S27) : (ks l).Pairwise (· < ·) := by
  have tr : ∀ a b c : List UInt8, leB a b = true → leB b c = true → leB a c = true := fun a b c h1 h2 => by simp only [leB, decide_eq_true_eq] at *; exact List.le_trans h1 h2
  have tot : ∀ a b : List UInt8, (leB a b || leB b a) = true := fun a b => by simp only [leB, Bool.or_eq_true, decide_eq_true_eq]; exact List.le_total a b
  have h1 := List.pairwise_mergeSort tr tot (strKeys (D l))
  have h2 : (ks l).Nodup := (List.mergeSort_perm _ _).nodup_iff.2 (nodup_keys l)
  refine (h1.and h2).imp (fun {a b} h => ?_)
  obtain ⟨h3, h4⟩ := h
  simp only [leB, decide_eq_true_eq] at h3
  exact Std.lt_of_le_of_ne h3 h4
/-- All writes: of each key the last one, the keys rising. -/
def wr (l : List S27) (k : List UInt8) : S27 := (last l k).getD z27
def writes (l : List S27) : List S27 := (ks l).map (wr l)
theorem wr_at (l : List S27) (k : List UInt8) : (D l).atKey (ky k) (dW z27) = dW (wr l k) := by
  rw [at_D]
  unfold wr
  cases last l k <;> rfl
theorem length_writes (l : List S27) : (writes l).length = Maps.size (D l) := by
  unfold writes
  rw [List.length_map, size_ks]
theorem wr_key {l : List S27} {k : List UInt8} (h : k ∈ ks l) : bs (wr l k).f0 = k := by
  have h1 := (mem_ks l k).1 h
  unfold wr
  cases e : last l k with
  | none => rw [e] at h1; cases h1
  | some x => exact last_key e
theorem writes_rise {l : List S27} {i : Nat} (h1 : 1 ≤ i) (h : i < (writes l).length) : bs (rd_T27 (writes l) ((i : Int) - 1)).f0 < bs (rd_T27 (writes l) (i : Int)).f0 := by
  have h2 : i < (ks l).length := by simpa [writes] using h
  have e : ((i : Int) - 1).toNat = i - 1 := by omega
  have g : ∀ (j : Nat) (hj : j < (ks l).length), bs ((writes l).getD j z27).f0 = (ks l)[j] := fun j hj => by
    have : (writes l).getD j z27 = wr l (ks l)[j] := by simp [writes, List.getD_eq_getElem?_getD, hj]
    rw [this]
    exact wr_key (List.getElem_mem hj)
  unfold rd_T27
  rw [e, Int.toNat_natCast, g i h2, g (i - 1) (by omega)]
  exact List.pairwise_iff_getElem.1 (rise_ks l) (i - 1) i (by omega) h2 (by omega)
theorem writes_nil : writes [] = [] := by simp [writes, ks, D, strKeys]
end Go.Proofs.Ytnaojalieecaeaa.BatM
