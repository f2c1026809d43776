/- Are texts few and short: the printed Short in plain numbers. -/
import Derived.Test.YtmfnnialhegjmaaPBlmx1
import Derived.Test.YtmfnnialhegjmaaWPu
namespace Go.Proofs.Ytmfnnialhegjmaa.PuShort
open Go Go.RowKit Go.Proofs.Ytmfnnialhegjmaa.PBlm Go.Proofs.YtmfnnialhegjmaaW.PrintWords Go.Proofs.YtmfnnialhegjmaaW.PrintLast Go.Proofs.YtmfnnialhegjmaaW.PrintMore Go.Proofs.YtmfnnialhegjmaaW.Pu
/-! ### are texts few and short -/
def sizes (l : List ByteArray) : Int := ((l.map fun s => s.size).sum : Nat)
theorem sizes_cons (s : ByteArray) (l : List ByteArray) : sizes (s :: l) = s.size + sizes l := by simp [sizes]
theorem sizes_nonneg (l : List ByteArray) : 0 ≤ sizes l := Int.natCast_nonneg _
theorem Room_one (x : Int) (n : Nat) (hx : 0 ≤ x ∧ x ≤ 9223372036854775807) : Ev (fun k => cornucopiabook_Room.f k x [(n : Int)]) (if (n : Int) ≤ x then x - n else -1) := by
  refine Ev.congr (fun k => by rw [cornucopiabook_Room.f]) ?_
  refine Ev.step (fun k => by rw [cornucopiabook_Room.l0]) ?_
  refine ev_pos (by simp) (ev_neg (by omega) (ev_pos (by omega) ?_))
  have hr : rd [(n : Int)] 0 = n := rfl
  rw [hr]
  by_cases h : (n : Int) ≤ x
  · refine ev_neg (by omega) ?_
    rw [if_pos h, wrap64_id (x := x - n) (by omega), wrap64_id (x := 0 + 1) (by omega)]
    refine Ev.step (fun k => by rw [cornucopiabook_Room.l0]) ?_
    exact ev_neg (by simp) (ev_const rfl)
  · rw [if_neg h]
    exact ev_pos (by omega) (ev_const rfl)
theorem rdOf_nat (l : List ByteArray) (i : Nat) (h : i < l.length) : rdOf ByteArray.empty l (i : Int) = l[i] := by
  simp [rdOf, List.getElem?_eq_getElem h]
theorem Short_l0 (l : List ByteArray) (hl : l.length ≤ 9223372036854775806) (d : Nat) : ∀ (i : Nat) (x : Int), i + d = l.length → -1 ≤ x ∧ x ≤ 9223372036854775807 →
    Ev (fun k => cornucopiabook_Short.l0 k x l (i : Int)) (decide (sizes (l.drop i) ≤ x)) := by
  induction d with
  | zero =>
    intro i x hi hx
    refine Ev.step (fun k => by rw [cornucopiabook_Short.l0]) ?_
    refine ev_neg (by omega) (ev_const ?_)
    rw [List.drop_of_length_le (by omega)]
    rfl
  | succ d ih =>
    intro i x hi hx
    have hlt : i < l.length := by omega
    refine Ev.step (fun k => by rw [cornucopiabook_Short.l0, rdOf_nat l i hlt]) ?_
    refine ev_pos (by omega) ?_
    have hd : l.drop i = l[i] :: l.drop (i + 1) := List.drop_eq_getElem_cons hlt
    rw [hd, sizes_cons]
    have hn := sizes_nonneg (l.drop (i + 1))
    by_cases h0 : x ≥ 0
    · refine ev_pos h0 (ev_pos (by omega) (Ev.bind (Room_one x _ ⟨h0, hx.2⟩) ?_))
      rw [wrap64_id (by omega), show ((i : Int) + 1) = ((i + 1 : Nat) : Int) from by omega]
      by_cases hle : (l[i].size : Int) ≤ x
      · rw [if_pos hle]
        have := ih (i + 1) (x - l[i].size) (by omega) (by omega)
        rwa [show decide (sizes (l.drop (i + 1)) ≤ x - l[i].size) = decide ((l[i].size : Int) + sizes (l.drop (i + 1)) ≤ x) from decide_eq_decide.2 (by omega)] at this
      · rw [if_neg hle]
        have := ih (i + 1) (-1) (by omega) (by omega)
        rwa [show decide (sizes (l.drop (i + 1)) ≤ -1) = decide ((l[i].size : Int) + sizes (l.drop (i + 1)) ≤ x) from decide_eq_decide.2 (by omega)] at this
    · refine ev_neg h0 (ev_const ?_)
      rw [decide_eq_false h0, decide_eq_false (by omega)]
theorem Short_ev (few r : Int) (l : List ByteArray) (hl : l.length ≤ 9223372036854775806) (hr : -1 ≤ r ∧ r ≤ 9223372036854775807) :
    Ev (fun k => cornucopiabook_Short.f k few r l) (decide ((l.length : Int) ≤ few ∧ sizes l ≤ r)) := by
  refine Ev.congr (fun k => by rw [cornucopiabook_Short.f]) ?_
  by_cases h : (l.length : Int) > few
  · refine ev_pos h (ev_const ?_)
    rw [decide_eq_false (by omega)]
  · refine ev_neg h ?_
    have := Short_l0 l hl l.length 0 r (by omega) hr
    rw [List.drop_zero] at this
    rwa [show decide (sizes l ≤ r) = decide ((l.length : Int) ≤ few ∧ sizes l ≤ r) from decide_eq_decide.2 (by omega)] at this
theorem sizes_mem {l : List ByteArray} {s : ByteArray} (h : s ∈ l) : (s.size : Int) ≤ sizes l := by
  induction l with
  | nil => simp at h
  | cons x l ih =>
    rw [sizes_cons]
    have := sizes_nonneg l
    rcases List.mem_cons.1 h with rfl | h
    · omega
    · have := ih h
      omega
end Go.Proofs.Ytmfnnialhegjmaa.PuShort
