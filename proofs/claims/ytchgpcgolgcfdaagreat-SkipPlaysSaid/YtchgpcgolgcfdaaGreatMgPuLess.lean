/- Texts of this claim, put together and cut down to what is used (PuLess). -/
import Derived.Test.YtchgpcgolgcfdaaGreatMgPNumx12
import Derived.Test.YtchgpcgolgcfdaaGreatMgPuIkC
section
namespace Go.Proofs.YtchgpcgolgcfdaaGreat.PuLess
open Go Go.RowKit Go.Proofs.YtchgpcgolgcfdaaGreat.PNum Go.Proofs.YtchgpcgolgcfdaaGreat.PuIkC Go.Proofs.YtchgpcgolgcfdaaGreatW.PrintWords Go.Proofs.YtchgpcgolgcfdaaGreatW.PrintLast Go.Proofs.YtchgpcgolgcfdaaGreatW.PrintMore Go.Proofs.YtchgpcgolgcfdaaGreatW.Pu
abbrev E := S32
theorem bt_at (s : ByteArray) (i : Nat) (h : i < s.data.toList.length) : bt s (i : Int) = (s.data.toList[i].toNat : Int) := by
  have h' : i < s.data.size := by simpa using h
  rw [bt_eq]
  simp only [bytesOf, List.getD_eq_getElem?_getD, List.getElem?_map, Array.getElem?_toList, Array.getElem_toList]
  rw [Array.getElem?_eq_getElem h']
  rfl
theorem size_data (s : ByteArray) : s.data.toList.length = s.size := by
  show s.data.toList.length = s.data.size
  simp
theorem Less_l0 (a b : ByteArray) (_ha : a.size ≤ 140737488351232) (hb : b.size ≤ 140737488351232) (d : Nat) : ∀ i, i + d = a.size → i ≤ b.size →
    Ev (fun k => cornucopiaref1_Less.l0 k a b (i : Int)) (decide (Lib.compareBytes (a.data.toList.drop i) (b.data.toList.drop i) = -1)) := by
  have la := size_data a
  have lb := size_data b
  induction d with
  | zero =>
    intro i hi hib
    refine Ev.step (fun k => by rw [cornucopiaref1_Less.l0]) (ev_neg (by omega) ?_)
    refine Ev.step (fun k => by rw [cornucopiaref1_Less.j1]) (ev_neg (by simp) (ev_const ?_))
    rw [show a.data.toList.drop i = [] from List.drop_of_length_le (by omega)]
    refine congrArg some (decide_eq_decide.2 ?_)
    cases h : b.data.toList.drop i with
    | nil =>
      have := congrArg List.length h
      rw [List.length_drop] at this
      simp only [List.length_nil] at this
      rw [Lib.compareBytes]
      omega
    | cons y ys =>
      have := congrArg List.length h
      rw [List.length_drop] at this
      simp only [List.length_cons] at this
      rw [Lib.compareBytes]
      omega
  | succ d ih =>
    intro i hi hib
    have ia : i < a.data.toList.length := by omega
    refine Ev.step (fun k => by rw [cornucopiaref1_Less.l0]) (ev_pos (by omega) ?_)
    have da : a.data.toList.drop i = a.data.toList[i] :: a.data.toList.drop (i + 1) := List.drop_eq_getElem_cons ia
    by_cases h : i < b.size
    · have ib : i < b.data.toList.length := by omega
      have db : b.data.toList.drop i = b.data.toList[i] :: b.data.toList.drop (i + 1) := List.drop_eq_getElem_cons ib
      rw [decide_eq_true (show (i : Int) < (b.size : Int) by omega), da, db, Lib.compareBytes]
      refine Ev.step (fun k => by rw [cornucopiaref1_Less.j1, bt_at a i ia, bt_at b i ib]) (ev_pos rfl (ev_pos (by omega) (ev_pos (by omega) (ev_pos (by omega) ?_))))
      by_cases e : a.data.toList[i] = b.data.toList[i]
      · refine ev_pos (by rw [e]) ?_
        rw [e, if_neg (UInt8.lt_irrefl _), if_neg (UInt8.lt_irrefl _), wrap64_id (by omega), show ((i : Int) + 1) = ((i + 1 : Nat) : Int) from by omega]
        exact ih (i + 1) (by omega) (by omega)
      · have hne : a.data.toList[i].toNat ≠ b.data.toList[i].toNat := fun k => e (UInt8.toNat_inj.1 k)
        refine ev_neg (by omega) (ev_const ?_)
        refine congrArg some (decide_eq_decide.2 ?_)
        by_cases k : a.data.toList[i] < b.data.toList[i]
        · rw [if_pos k]
          have := UInt8.lt_iff_toNat_lt.1 k
          omega
        · have k2 : b.data.toList[i] < a.data.toList[i] := UInt8.lt_iff_toNat_lt.2 (by have := mt UInt8.lt_iff_toNat_lt.2 k; omega)
          rw [if_neg k, if_pos k2]
          have := UInt8.lt_iff_toNat_lt.1 k2
          omega
    · rw [decide_eq_false (show ¬ (i : Int) < (b.size : Int) by omega), da, show b.data.toList.drop i = [] from List.drop_of_length_le (by omega), Lib.compareBytes]
      refine Ev.step (fun k => by rw [cornucopiaref1_Less.j1]) (ev_neg (by simp) (ev_const ?_))
      refine congrArg some (decide_eq_decide.2 ?_)
      omega
theorem Less_ev (a b : ByteArray) (ha : a.size ≤ 140737488351232) (hb : b.size ≤ 140737488351232) : Ev (fun k => cornucopiaref1_Less.f k a b) (decide (cb a b = -1)) := by
  have := Less_l0 a b ha hb a.size 0 (by omega) (by omega)
  rw [List.drop_zero, List.drop_zero] at this
  exact Ev.congr (fun k => by rw [cornucopiaref1_Less.f]; rfl) this
theorem RefCompare_ev (a b : E) (ha : a.f0.size ≤ 140737488351232) (hb : b.f0.size ≤ 140737488351232) : Ev (fun k => cornucopiaref5_Compare.f k a.f0 a.f1 a.f2 a.f3 b.f0 b.f1 b.f2 b.f3) (ce a b) := by
  refine Ev.congr (fun k => by rw [cornucopiaref5_Compare.f]) (Ev.bind (Less_ev _ _ ha hb) ?_)
  have r : cb a.f0 b.f0 = -1 ∨ cb a.f0 b.f0 = 0 ∨ cb a.f0 b.f0 = 1 := cl_range _ _
  have n := cb_neg a.f0 b.f0
  unfold ce
  by_cases h : cb a.f0 b.f0 = -1
  · rw [if_neg (show ¬ cb a.f0 b.f0 = 0 by omega), decide_eq_true h, h]
    exact ev_pos rfl (ev_const rfl)
  · rw [decide_eq_false h]
    refine ev_neg (by simp) (Ev.bind (Less_ev _ _ hb ha) ?_)
    by_cases k : cb b.f0 a.f0 = -1
    · rw [if_neg (show ¬ cb a.f0 b.f0 = 0 by omega), decide_eq_true k, show cb a.f0 b.f0 = 1 by omega]
      exact ev_pos rfl (ev_const rfl)
    · rw [if_pos (show cb a.f0 b.f0 = 0 by omega), decide_eq_false k]
      refine ev_neg (by simp) ?_
      unfold cs
      by_cases q : a.f1 > b.f1
      · refine ev_pos q (ev_const ?_)
        rw [if_pos q]
      · refine ev_neg q ?_
        rw [if_neg q]
        by_cases q2 : a.f1 < b.f1
        · refine ev_pos q2 (ev_const ?_)
          rw [if_pos q2]
        · refine ev_neg q2 (ev_const ?_)
          rw [if_neg q2]
end Go.Proofs.YtchgpcgolgcfdaaGreat.PuLess
end
