/- Texts of this claim, put together and cut down to what is used (PuRef5). -/
import Derived.Test.YtchgpcgolgcfdaaGreatMgPuLess
import Derived.Test.YtchgpcgolgcfdaaGreatMgPNumx13
import Derived.Test.YtchgpcgolgcfdaaGreatMgPNumx14
section
namespace Go.Proofs.YtchgpcgolgcfdaaGreat.PuRef5
open Go Go.RowKit Go.Proofs.YtchgpcgolgcfdaaGreat.PNum Go.Proofs.YtchgpcgolgcfdaaGreat.PuIkC Go.Proofs.YtchgpcgolgcfdaaGreat.PuLess Go.Proofs.YtchgpcgolgcfdaaGreatW.PrintWords Go.Proofs.YtchgpcgolgcfdaaGreatW.PrintLast Go.Proofs.YtchgpcgolgcfdaaGreatW.PrintMore Go.Proofs.YtchgpcgolgcfdaaGreatW.Pu
theorem rdE {l : List E} {i : Nat} (h : i < l.length) : rd_T32 l (i : Int) = l[i] := by simp [rd_T32, h]
def inR (a b : ByteArray) (x : E) : Bool := !decide (cb x.f0 a = -1) && (decide (b = ⟨#[]⟩) || decide (cb x.f0 b = -1))
theorem range_l (R : List E) (a b : ByteArray) (hs : ∀ x ∈ R, x.f0.size ≤ 140737488351232) (ha : a.size ≤ 140737488351232) (hb : b.size ≤ 140737488351232) (hR : R.length ≤ 1000000) : ∀ (d i : Nat) (acc : List E), i + d = R.length → acc.length ≤ i → Ev (fun k => cornucopiaref5_Range.l0 k R a b acc (i : Int)) (acc ++ (R.drop i).filter (inR a b))
  | 0, i, acc, hi, hacc => by
    refine Ev.step (fun k => by rw [cornucopiaref5_Range.l0]) (ev_neg (by omega) (ev_const ?_))
    rw [List.drop_of_length_le (by omega)]
    simp
  | d + 1, i, acc, hi, hacc => by
    have hlt : i < R.length := by omega
    have hx := hs _ (List.getElem_mem hlt)
    have hd : R.drop i = R[i] :: R.drop (i + 1) := List.drop_eq_getElem_cons hlt
    have hw : wrap64 ((i : Int) + 1) = ((i + 1 : Nat) : Int) := by rw [wrap64_id (by omega)]; omega
    refine Ev.step (fun k => by rw [cornucopiaref5_Range.l0, rdE hlt, hw]) (ev_pos (by omega) (ev_pos (by omega) (Ev.bind (Less_ev _ _ hx ha) ?_)))
    have keep : ∀ (h : inR a b R[i] = true), Ev (fun k => cornucopiaref5_Range.l0 k R a b (acc ++ [(⟨R[i].f0, R[i].f1, R[i].f2, R[i].f3⟩ : E)]) ((i + 1 : Nat) : Int)) (acc ++ (R.drop i).filter (inR a b)) := by
      intro h
      have ih := range_l R a b hs ha hb hR d (i + 1) (acc ++ [R[i]]) (by omega) (by simp; omega)
      rw [hd, List.filter_cons, if_pos h]
      rw [List.append_assoc] at ih
      exact ih
    have drop_ : ∀ (h : inR a b R[i] = false), Ev (fun k => cornucopiaref5_Range.l0 k R a b acc ((i + 1 : Nat) : Int)) (acc ++ (R.drop i).filter (inR a b)) := by
      intro h
      have ih := range_l R a b hs ha hb hR d (i + 1) acc (by omega) (by omega)
      rw [hd, List.filter_cons, if_neg (by rw [h]; simp)]
      exact ih
    by_cases h1 : cb R[i].f0 a = -1
    · rw [decide_eq_true h1]
      exact ev_pos rfl (drop_ (by unfold inR; rw [decide_eq_true h1]; rfl))
    · rw [decide_eq_false h1]
      refine ev_neg (by simp) ?_
      by_cases h2 : b = ⟨#[]⟩
      · refine ev_pos (by rw [h2]; exact nil_toList) (ev_pos (by omega) (keep (by unfold inR; rw [decide_eq_false h1, decide_eq_true h2]; rfl)))
      · refine ev_neg (fun h => h2 (tl_ext.1 (h.trans nil_toList.symm))) (Ev.bind (Less_ev _ _ hx hb) ?_)
        by_cases h3 : cb R[i].f0 b = -1
        · rw [decide_eq_true h3]
          exact ev_pos rfl (ev_pos (by omega) (keep (by unfold inR; rw [decide_eq_false h1, decide_eq_false h2, decide_eq_true h3]; rfl)))
        · rw [decide_eq_false h3]
          exact ev_neg (by simp) (drop_ (by unfold inR; rw [decide_eq_false h1, decide_eq_false h2, decide_eq_false h3]; rfl))
theorem Range_ev (R : List E) (a b : ByteArray) (hs : ∀ x ∈ R, x.f0.size ≤ 140737488351232) (ha : a.size ≤ 140737488351232) (hb : b.size ≤ 140737488351232) (hR : R.length ≤ 1000000) : Ev (fun k => cornucopiaref5_Range.f k R a b) (R.filter (inR a b)) := by
  have h := range_l R a b hs ha hb hR R.length 0 [] (by omega) (by simp)
  rw [List.drop_zero, List.nil_append] at h
  exact h
def pick1 (key : ByteArray) (s : Int) : List E → Option E
  | [] => none
  | x :: r => if x.f0 = key ∧ x.f1 ≤ s then some x else pick1 key s r
def zE : E := ⟨⟨#[]⟩, 0, 0, ⟨#[]⟩⟩
theorem pick_l (R : List E) (key : ByteArray) (s : Int) (hsr : R.Pairwise (fun x y => ce x y = -1)) (hR : R.length ≤ 1000000) : ∀ (d i : Nat) (f : Bool) (b : E), i + d = R.length → (f = true → ∀ y ∈ R.drop i, y.f0 = key → y.f1 < b.f1) →
    Ev (fun k => cornucopiaref5_Pick.l0 k R key s f (i : Int) b.f0 b.f1 b.f2 b.f3) (if f = true then (b.f0, b.f1, b.f2, b.f3, true) else (((pick1 key s (R.drop i)).getD b).f0, ((pick1 key s (R.drop i)).getD b).f1, ((pick1 key s (R.drop i)).getD b).f2, ((pick1 key s (R.drop i)).getD b).f3, (pick1 key s (R.drop i)).isSome))
  | 0, i, f, b, hi, hf => by
    refine Ev.step (fun k => by rw [cornucopiaref5_Pick.l0]) (ev_neg (by omega) (ev_const ?_))
    rw [List.drop_of_length_le (by omega)]
    cases f <;> rfl
  | d + 1, i, f, b, hi, hf => by
    have hlt : i < R.length := by omega
    have hd : R.drop i = R[i] :: R.drop (i + 1) := List.drop_eq_getElem_cons hlt
    have hw : wrap64 ((i : Int) + 1) = ((i + 1 : Nat) : Int) := by rw [wrap64_id (by omega)]; omega
    have hp : ∀ y ∈ R.drop (i + 1), ce R[i] y = -1 := by
      have h2 : (R.drop i).Pairwise (fun x y => ce x y = -1) := hsr.sublist (List.drop_sublist _ _)
      rw [hd] at h2
      exact (List.pairwise_cons.1 h2).1
    refine Ev.step (fun k => by rw [cornucopiaref5_Pick.l0, rdE hlt, hw]) (ev_pos (by omega) (ev_pos (by omega) ?_))
    have skip : ∀ (h : ¬ (R[i].f0 = key ∧ R[i].f1 ≤ s) ∨ f = true), Ev (fun k => cornucopiaref5_Pick.l0 k R key s f ((i + 1 : Nat) : Int) b.f0 b.f1 b.f2 b.f3) (if f = true then (b.f0, b.f1, b.f2, b.f3, true) else (((pick1 key s (R.drop i)).getD b).f0, ((pick1 key s (R.drop i)).getD b).f1, ((pick1 key s (R.drop i)).getD b).f2, ((pick1 key s (R.drop i)).getD b).f3, (pick1 key s (R.drop i)).isSome)) := by
      intro h
      have ih := pick_l R key s hsr hR d (i + 1) f b (by omega) (fun hf2 y hy => hf hf2 y (by rw [hd]; exact List.mem_cons_of_mem _ hy))
      cases f with
      | true => exact ih
      | false =>
        rw [hd]
        rw [show pick1 key s (R[i] :: R.drop (i + 1)) = pick1 key s (R.drop (i + 1)) from if_neg (h.resolve_right (by simp))]
        exact ih
    by_cases h1 : R[i].f0 = key
    · refine ev_pos (by rw [h1]) ?_
      by_cases h2 : R[i].f1 ≤ s
      · refine ev_pos h2 ?_
        cases f with
        | true =>
          refine ev_pos rfl (ev_neg ?_ (skip (.inr rfl)))
          have := hf rfl R[i] (by rw [hd]; exact List.mem_cons_self) h1
          omega
        | false =>
          refine ev_neg (fun h => Bool.noConfusion h) ?_
          have ih := pick_l R key s hsr hR d (i + 1) true R[i] (by omega) (fun _ y hy hk => by
            have h3 := hp y hy
            unfold ce at h3
            rw [h1, hk, if_pos ((cb_zero _ _).2 rfl)] at h3
            unfold cs at h3
            split at h3
            · omega
            · split at h3
              · omega
              · omega)
          rw [hd, show pick1 key s (R[i] :: R.drop (i + 1)) = some R[i] from if_pos ⟨h1, h2⟩]
          exact ih
      · exact ev_neg h2 (skip (.inl (fun h => h2 h.2)))
    · exact ev_neg (fun h => h1 (tl_ext.1 h)) (skip (.inl (fun h => h1 h.1)))
theorem Pick_ev (R : List E) (key : ByteArray) (s : Int) (hsr : R.Pairwise (fun x y => ce x y = -1)) (hR : R.length ≤ 1000000) : Ev (fun k => cornucopiaref5_Pick.f k R key s) (((pick1 key s R).getD zE).f0, ((pick1 key s R).getD zE).f1, ((pick1 key s R).getD zE).f2, ((pick1 key s R).getD zE).f3, (pick1 key s R).isSome) := by
  have h := pick_l R key s hsr hR R.length 0 false zE (by omega) (fun h => by cases h)
  rw [List.drop_zero] at h
  exact h
end Go.Proofs.YtchgpcgolgcfdaaGreat.PuRef5
end
