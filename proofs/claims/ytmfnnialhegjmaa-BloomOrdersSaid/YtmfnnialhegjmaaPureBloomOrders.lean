/- BloomOrders, in plain lists: the order of the keys, and how often one stands, play no part but in how long the filter is. -/
import Derived.Test.YtmfnnialhegjmaaPBlmx12
import Derived.Test.YtmfnnialhegjmaaPuBlm
import Derived.Test.YtmfnnialhegjmaaPuBlmA
namespace Go.Proofs.Ytmfnnialhegjmaa.Pure
open Go Go.RowKit Go.Proofs.Ytmfnnialhegjmaa.PBlm Go.Proofs.Ytmfnnialhegjmaa.PuBlm Go.Proofs.YtmfnnialhegjmaaW.PrintWords Go.Proofs.YtmfnnialhegjmaaW.PrintLast Go.Proofs.YtmfnnialhegjmaaW.PrintMore Go.Proofs.YtmfnnialhegjmaaW.Pu
theorem mk_perm {q : Nat} {n : Int} {keys m : List ByteArray} (hn : 8 ≤ n ∧ n % 8 = 0) (h : keys.Perm m) : mk q n keys = mk q n m := by
  unfold mk
  rw [sbs_perm (h.flatMap_right _)]
  intro p hp
  obtain ⟨s, _, hs⟩ := List.mem_flatMap.1 hp
  have := pls_range s q (n := n) (by omega) p hs
  rw [List.length_replicate]
  omega
theorem orders_end (l : List ByteArray) (a b : Nat) (ha : a < l.length) (hb : b < l.length) (hl : l.length ≤ 60) (hs : ∀ s ∈ l, s.size ≤ 100) (i : Nat) (hi : i = l.length) :
    Ev (fun k => cornucopialaw9_BloomOrders.l0 k l (a : Int) (b : Int) (i : Int)) true := by
  subst hi
  refine Ev.step (fun k => by rw [cornucopialaw9_BloomOrders.l0]) (ev_neg (by omega) (ev_pos (by simp; omega) ?_))
  rw [List.nil_append]
  refine ev_some (ev_pos (by omega) (ev_pos (by omega) (ev_pos (by omega) (ev_pos (by omega) (ev_some ?_)))))
  rw [Int.toNat_natCast, Int.toNat_natCast, rdOf_nth l b hb, rdOf_nth l a ha]
  have hp : ((l.set a l[b]).set b l[a]).Perm l := List.set_set_perm ha hb
  have hml : ((l.set a l[b]).set b l[a]).length = l.length := by simp
  generalize hm : (l.set a l[b]).set b l[a] = m at *
  have hk : ∀ s ∈ l, s.size ≤ 9223372036854775806 := fun s h => by have := hs s h; omega
  have hkm : ∀ s ∈ m, s.size ≤ 9223372036854775806 := fun s h => hk s (hp.mem_iff.1 h)
  have hkx : ∀ s ∈ m ++ [l[a]], s.size ≤ 9223372036854775806 := fun s h => by
    rcases List.mem_append.1 h with h | h
    · exact hkm s h
    · rw [List.mem_singleton.1 h]; exact hk _ (List.getElem_mem ha)
  have hr := bitsN_range (bits := 10) (len := l.length) (by omega) (by omega)
  have hrx := bitsN_range (bits := 10) (len := (m ++ [l[a]]).length) (by omega) (by simp; omega)
  have h1 := Make_yes (bits := 10) (q := 4) (by omega) (by decide) (by omega) hk
  have h2 := Make_yes (bits := 10) (q := 4) (by omega) (by decide) (by omega) hkm
  have h3 := Make_yes (bits := 10) (q := 4) (keys := m ++ [l[a]]) (by omega) (by decide) (by simp; omega) hkx
  rw [hml, ← mk_perm (by omega) hp.symm] at h2
  refine Ev.bind h1 (Ev.bind h2 (ev_pos (by omega) (ev_pos (by omega) (Ev.bind h3 (Ev.bind alive_ev (ev_pos rfl (ev_pos rfl (ev_pos rfl (ev_pos rfl (ev_pos rfl (ev_pos ?_ (ev_pos (by omega) (Ev.bind ?_ (ev_const rfl))))))))))))))
  · simp only [S_size]
    rw [mk_len (by omega), mk_len (by omega)]
    have : bitsN 10 l.length ≤ bitsN 10 (m ++ [l[a]]).length := by
      unfold bitsN
      rw [List.length_append, hml]
      simp
      omega
    omega
  · refine May_has ⟨by omega, by omega, by omega⟩ (by decide) (hk _ (List.getElem_mem hb)) ?_
    exact List.mem_append_left _ (hp.mem_iff.2 (List.getElem_mem hb))
theorem orders_loop (l : List ByteArray) (a b : Nat) (ha : a < l.length) (hb : b < l.length) (hl : l.length ≤ 60) (d : Nat) : ∀ i, i + d = l.length → (∀ s ∈ l.take i, s.size ≤ 100) →
    Ev (fun k => cornucopialaw9_BloomOrders.l0 k l (a : Int) (b : Int) (i : Int)) true := by
  induction d with
  | zero =>
    intro i hi hs
    rw [List.take_of_length_le (by omega)] at hs
    exact orders_end l a b ha hb hl hs i (by omega)
  | succ d ih =>
    intro i hi hs
    have hlt : i < l.length := by omega
    refine Ev.step (fun k => by rw [cornucopialaw9_BloomOrders.l0, rdOf_nth l i hlt]) (ev_pos (by omega) (ev_pos (by omega) ?_))
    by_cases hc : (l[i].size : Int) > 100
    · exact ev_pos hc (Ev.bind alive_ev (ev_const rfl))
    · refine ev_neg hc ?_
      rw [wrap64_id (by omega), show ((i : Int) + 1) = ((i + 1 : Nat) : Int) from by omega]
      refine ih (i + 1) (by omega) (fun s h => ?_)
      rw [List.take_succ_eq_append_getElem hlt] at h
      rcases List.mem_append.1 h with h | h
      · exact hs s h
      · rw [List.mem_singleton.1 h]; omega
theorem BloomOrders : cornucopialaw9_BloomOrders.Pure := by
  intro l0 a1 a2 h0 h0w h1 h2
  refine Ev.rounds (Ev.congr (fun k => by rw [cornucopialaw9_BloomOrders.f]) ?_)
  have hskip : Ev (fun k => cornucopialaw9_BloomOrders.j0 k l0 a1 a2 true) true :=
    Ev.step (fun k => by rw [cornucopialaw9_BloomOrders.j0]) (ev_pos rfl (Ev.bind alive_ev (ev_const rfl)))
  by_cases c1 : (l0.length : Int) > 60
  · exact ev_pos c1 hskip
  refine ev_neg c1 ?_
  by_cases c2 : (l0.length : Int) = 0
  · exact ev_pos c2 hskip
  refine ev_neg c2 ?_
  by_cases c3 : a1 < 0
  · exact ev_pos c3 hskip
  refine ev_neg c3 ?_
  by_cases c4 : a2 < 0
  · exact ev_pos c4 hskip
  refine ev_neg c4 ?_
  by_cases c5 : a1 ≥ (l0.length : Int)
  · exact ev_pos c5 hskip
  refine ev_neg c5 ?_
  by_cases c6 : a2 ≥ (l0.length : Int)
  · rw [decide_eq_true c6]
    exact hskip
  · rw [decide_eq_false c6]
    refine Ev.step (fun k => by rw [cornucopialaw9_BloomOrders.j0]) (ev_neg (by simp) ?_)
    obtain ⟨a, rfl⟩ := Int.eq_ofNat_of_zero_le (show 0 ≤ a1 by omega)
    obtain ⟨b, rfl⟩ := Int.eq_ofNat_of_zero_le (show 0 ≤ a2 by omega)
    exact orders_loop l0 a b (by omega) (by omega) (by omega) l0.length 0 (by omega) (by simp)
end Go.Proofs.Ytmfnnialhegjmaa.Pure
