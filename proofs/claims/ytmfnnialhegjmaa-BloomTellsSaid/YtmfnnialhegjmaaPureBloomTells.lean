/- BloomTells, in plain lists. -/
import Derived.Test.YtmfnnialhegjmaaPBlmx10
import Derived.Test.YtmfnnialhegjmaaPuBlmT
import Derived.Test.YtmfnnialhegjmaaPuBlmA
import Derived.Test.YtmfnnialhegjmaaPuShort
namespace Go.Proofs.Ytmfnnialhegjmaa.Pure
open Go Go.RowKit Go.Proofs.Ytmfnnialhegjmaa.PBlm Go.Proofs.Ytmfnnialhegjmaa.PuBlm Go.Proofs.Ytmfnnialhegjmaa.PuBlmT Go.Proofs.Ytmfnnialhegjmaa.PuShort Go.Proofs.YtmfnnialhegjmaaW.PrintWords Go.Proofs.YtmfnnialhegjmaaW.PrintLast Go.Proofs.YtmfnnialhegjmaaW.PrintMore Go.Proofs.YtmfnnialhegjmaaW.Pu
theorem Same_l0 (l : List ByteArray) (hl : l.length ≤ 9223372036854775806) (d : Nat) : ∀ i, i + d = l.length → Ev (fun k => cornucopiabook_SameTexts.l0 k l l (i : Int)) true := by
  induction d with
  | zero =>
    intro i hi
    refine Ev.step (fun k => by rw [cornucopiabook_SameTexts.l0]) ?_
    exact ev_neg (show ¬ (i : Int) < (l.length : Int) by omega) (ev_const rfl)
  | succ d ih =>
    intro i hi
    refine Ev.step (fun k => by rw [cornucopiabook_SameTexts.l0]) ?_
    refine ev_pos (show (i : Int) < (l.length : Int) by omega) (ev_pos (by omega) (ev_pos (show (i : Int) < (l.length : Int) by omega) (ev_pos rfl ?_)))
    rw [wrap64_id (by omega), show ((i : Int) + 1) = ((i + 1 : Nat) : Int) from by omega]
    exact ih (i + 1) (by omega)
theorem Stays_ev (l : List ByteArray) (hl : l.length ≤ 200) : Ev (fun k => cornucopiabook_StaysTexts.f k l l) true := by
  refine Ev.congr (fun k => by rw [cornucopiabook_StaysTexts.f]) (ev_pos (by omega) ?_)
  refine Ev.congr (fun k => by rw [cornucopiabook_SameTexts.f]) (ev_pos rfl ?_)
  exact Same_l0 l (by omega) l.length 0 (by omega)
theorem Lent_eq (l : List ByteArray) (hl : l.length ≤ 200) : cornucopiabook_LentTexts.f l = some l := by
  unfold cornucopiabook_LentTexts.f
  rw [if_pos (by simp; omega)]
  simp only [Option.bind_some, List.nil_append]
  rw [if_pos (by omega), if_pos (by omega), if_pos (by simp only [List.length_append, List.length_singleton]; omega), show ((l.length : Int) : Int).toNat = l.length from by omega, List.take_left']
  rfl
theorem tells_go (a0 a1 : Int) (l : List ByteArray) (f key : ByteArray) (seed : Int) (hl : l.length ≤ 200) (hf : f.size ≤ 3000) (hk : key.size ≤ 3000) (F : ByteArray × Int) (hF : F.1.size ≤ 1000000000)
    (h1 : Ev (fun k => bloom_Make.f k a0 a1 l) F) (h2 : Ev (fun k => cornucopiaref5_Make.f k a0 a1 l) F) : Ev (fun k => cornucopialaw9_BloomTells.j0 k a0 a1 l f key seed false) true := by
  obtain ⟨b, hb1, hb2⟩ := both_May f key (by omega) (by omega)
  obtain ⟨c, hc1, hc2⟩ := both_May F.1 key hF (by omega)
  refine Ev.step (fun k => by rw [cornucopialaw9_BloomTells.j0]) (ev_neg (by simp) (ev_call (Lent_eq l hl) (Ev.bind h1 (Ev.bind h2 (Ev.bind alive_ev (ev_pos rfl (ev_pos rfl (ev_pos rfl ?_))))))))
  refine Ev.bind (Hash_ev key seed (by omega)) (Ev.bind (RHash_ev key seed (by omega)) (ev_pos rfl ?_))
  refine Ev.bind hb1 (Ev.bind hb2 (ev_pos (by simp) ?_))
  refine ev_call (Valid_eq f (by omega)) (ev_call (RValid_eq f (by omega)) (ev_pos (by simp) ?_))
  exact Ev.bind hc1 (Ev.bind hc2 (ev_pos (by simp) (Ev.bind (Stays_ev l hl) (ev_const rfl))))
theorem BloomTells : cornucopialaw9_BloomTells.Pure := by
  intro a0 a1 l2 a3 a4 a5 h0 h1 h2 h2w h3 h4 h5
  refine Ev.rounds (Ev.congr (fun k => by rw [cornucopialaw9_BloomTells.f]) (Ev.bind (Short_ev 200 6000 l2 (by omega) (by omega)) ?_))
  have hskip : Ev (fun k => cornucopialaw9_BloomTells.j0 k a0 a1 l2 a3 a4 a5 true) true :=
    Ev.step (fun k => by rw [cornucopialaw9_BloomTells.j0]) (ev_pos rfl (Ev.bind alive_ev (ev_const rfl)))
  by_cases hs : (l2.length : Int) ≤ 200 ∧ sizes l2 ≤ 6000
  · rw [decide_eq_true hs]
    refine ev_pos rfl ?_
    by_cases hf : (a3.size : Int) > 3000
    · exact ev_pos hf hskip
    refine ev_neg hf ?_
    by_cases hk : (a4.size : Int) > 3000
    · rw [decide_eq_true hk]; exact hskip
    rw [decide_eq_false hk]
    have hks : ∀ s ∈ l2, s.size ≤ 9223372036854775806 := fun s hin => by have := h2w s hin; omega
    by_cases hb : 1 ≤ a0 ∧ a0 ≤ 64 ∧ 1 ≤ a1 ∧ a1 ≤ 20
    · obtain ⟨q, rfl⟩ := Int.eq_ofNat_of_zero_le (show 0 ≤ a1 by omega)
      have hr := bitsN_range (bits := a0) (len := l2.length) ⟨hb.1, hb.2.1⟩ (by omega)
      refine tells_go a0 (q : Int) l2 a3 a4 a5 (by omega) (by omega) (by omega) _ ?_ (Make_yes ⟨hb.1, hb.2.1⟩ (by omega) (by omega) hks) (RMake_yes ⟨hb.1, hb.2.1⟩ (by omega) (by omega) hks)
      show (strOfNums (mk q (bitsN a0 l2.length) l2)).size ≤ 1000000000
      rw [S_size, mk_len (by omega)]
      omega
    · refine tells_go a0 a1 l2 a3 a4 a5 (by omega) (by omega) (by omega) _ ?_ (Make_no (by omega)) (RMake_no (by omega))
      show (0 : Nat) ≤ 1000000000
      omega
  · rw [decide_eq_false hs]
    exact ev_neg (by simp) hskip
end Go.Proofs.Ytmfnnialhegjmaa.Pure
