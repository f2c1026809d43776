/- BloomHolds, in plain lists: of each key that a filter was made of it says that it may be there; a filter is made just where its numbers can be. -/
import Derived.Test.YtmfnnialhegjmaaPBlmx11
import Derived.Test.YtmfnnialhegjmaaPuBlm
import Derived.Test.YtmfnnialhegjmaaPuBlmA
import Derived.Test.YtmfnnialhegjmaaPuShort
namespace Go.Proofs.Ytmfnnialhegjmaa.Pure
open Go Go.RowKit Go.Proofs.Ytmfnnialhegjmaa.PBlm Go.Proofs.Ytmfnnialhegjmaa.PuBlm Go.Proofs.Ytmfnnialhegjmaa.PuShort Go.Proofs.YtmfnnialhegjmaaW.PrintWords Go.Proofs.YtmfnnialhegjmaaW.PrintLast Go.Proofs.YtmfnnialhegjmaaW.PrintMore Go.Proofs.YtmfnnialhegjmaaW.Pu
theorem holds_loop (keys : List ByteArray) (hl : keys.length ≤ 200) (hk : ∀ s ∈ keys, s.size ≤ 9223372036854775806) (more : ByteArray) (hm : more.size ≤ 300) (q : Nat) (hq : 1 ≤ q ∧ q ≤ 20) (n : Int) (hn : 8 ≤ n ∧ n % 8 = 0 ∧ n ≤ 1000000) (d : Nat) : ∀ i, i + d = keys.length →
    Ev (fun k => cornucopialaw9_BloomHolds.l0 k keys more (strOfNums (mk q n keys)) (i : Int)) true := by
  induction d with
  | zero =>
    intro i hi
    refine Ev.step (fun k => by rw [cornucopialaw9_BloomHolds.l0]) (ev_neg (by omega) (Ev.bind alive_ev (ev_pos rfl ?_)))
    have hv := Valid_eq (strOfNums (mk q n keys)) (by rw [S_size, mk_len hn.1]; omega)
    rw [of_S (mk_ok hq.2), mk_okF hn.1 hq] at hv
    refine ev_call hv (ev_pos rfl ?_)
    by_cases h : (keys.length : Int) > 0
    · exact ev_pos h (ev_const rfl)
    · refine ev_neg h ?_
      obtain rfl : keys = [] := List.eq_nil_of_length_eq_zero (by omega)
      exact Ev.bind (May_none hn hq more (by omega)) (ev_const rfl)
  | succ d ih =>
    intro i hi
    have hlt : i < keys.length := by omega
    have hin := List.getElem_mem hlt
    refine Ev.step (fun k => by rw [cornucopialaw9_BloomHolds.l0, rdOf_nth keys i hlt]) (ev_pos (by omega) (ev_pos (by omega) (Ev.bind (May_has hn hq (hk _ hin) hin) (ev_pos rfl ?_))))
    rw [wrap64_id (by omega), show ((i : Int) + 1) = ((i + 1 : Nat) : Int) from by omega]
    exact ih (i + 1) (by omega)
theorem BloomHolds : cornucopialaw9_BloomHolds.Pure := by
  intro a0 a1 l2 a3 h0 h1 h2 h2w h3
  refine Ev.rounds (Ev.congr (fun k => by rw [cornucopialaw9_BloomHolds.f]) (Ev.bind (Short_ev 200 6000 l2 (by omega) (by omega)) ?_))
  have hskip : Ev (fun k => cornucopialaw9_BloomHolds.j0 k a0 a1 l2 a3 true) true :=
    Ev.step (fun k => by rw [cornucopialaw9_BloomHolds.j0]) (ev_pos rfl (Ev.bind alive_ev (ev_const rfl)))
  by_cases hs : (l2.length : Int) ≤ 200 ∧ sizes l2 ≤ 6000
  · rw [decide_eq_true hs]
    refine ev_pos rfl ?_
    by_cases hm : (a3.size : Int) > 300
    · rw [decide_eq_true hm]
      exact hskip
    · rw [decide_eq_false hm]
      refine Ev.step (fun k => by rw [cornucopialaw9_BloomHolds.j0]) (ev_neg (by simp) ?_)
      have hk : ∀ s ∈ l2, s.size ≤ 9223372036854775806 := fun s hin => by have := h2w s hin; omega
      by_cases hok : 1 ≤ a0 ∧ a0 ≤ 64 ∧ 1 ≤ a1 ∧ a1 ≤ 20
      · obtain ⟨q, rfl⟩ := Int.eq_ofNat_of_zero_le (show 0 ≤ a1 by omega)
        have hr := bitsN_range (bits := a0) (len := l2.length) (by omega) (by omega)
        refine Ev.bind (Make_yes (q := q) (by omega) (by omega) (by omega) hk) (ev_pos rfl ?_)
        exact holds_loop l2 (by omega) hk a3 (by omega) q (by omega) _ (by omega) l2.length 0 (by omega)
      · refine Ev.bind (Make_no (by omega)) (ev_neg (by decide) (Ev.bind alive_ev (ev_pos rfl (ev_pos (by rw [toList_data]) ?_))))
        by_cases c1 : a0 < 1
        · exact ev_pos c1 (ev_const rfl)
        refine ev_neg c1 ?_
        by_cases c2 : a0 > 64
        · exact ev_pos c2 (ev_const rfl)
        refine ev_neg c2 ?_
        by_cases c3 : a1 < 1
        · exact ev_pos c3 (ev_const rfl)
        refine ev_neg c3 (ev_const ?_)
        rw [decide_eq_true (show a1 > 20 by omega)]
        rfl
  · rw [decide_eq_false hs]
    exact ev_neg (by simp) hskip
end Go.Proofs.Ytmfnnialhegjmaa.Pure
