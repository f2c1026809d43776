/- Texts of this claim, put together and cut down to what is used (PuSkP). -/
import Derived.Test.YtchgpcgolgcfdaaGreatMgPuLess
import Derived.Test.YtchgpcgolgcfdaaGreatMgSk
import Derived.Test.YtchgpcgolgcfdaaGreatMgPNumx16
import Derived.Test.YtchgpcgolgcfdaaGreatMgPNumx7
import Derived.Test.YtchgpcgolgcfdaaGreatMgPNumx9
section
namespace Go.Proofs.YtchgpcgolgcfdaaGreat.PuSkP
open Go Go.RowKit Go.Proofs.YtchgpcgolgcfdaaGreat.PNum Go.Proofs.YtchgpcgolgcfdaaGreat.SkM Go.Proofs.YtchgpcgolgcfdaaGreat.Sk Go.Proofs.YtchgpcgolgcfdaaGreat.PuIkC Go.Proofs.YtchgpcgolgcfdaaGreat.PuLess Go.Proofs.YtchgpcgolgcfdaaGreatW.PrintWords Go.Proofs.YtchgpcgolgcfdaaGreatW.PrintLast Go.Proofs.YtchgpcgolgcfdaaGreatW.PrintMore Go.Proofs.YtchgpcgolgcfdaaGreatW.Pu
abbrev Tw := S62
theorem rdT {l : List Tw} {i : Nat} (h : i < l.length) : rd_T62 l (i : Int) = l[i] := by simp [rd_T62, h]
def hmT (l : List Tw) : Nat := l.foldl (fun m t => max m t.f1.toNat) 0
theorem hmT_snoc (l : List Tw) (t : Tw) : hmT (l ++ [t]) = max (hmT l) t.f1.toNat := by simp [hmT]
def up (key : ByteArray) (L : Nat) (t : Tw) : Bool := decide ((L : Int) + 1 ≤ t.f1) && decide (cb t.f0.f0 key = -1)
def cntT (key : ByteArray) (L : Nat) (l : List Tw) : Int := ((l.filter (up key L)).length : Int)
def pathT (key : ByteArray) (l : List Tw) (T : Nat) : List Int := (List.range T).reverse.map fun L => cntT key L l
theorem path_l2 (l : List Tw) (key : ByteArray) (hs : ∀ t ∈ l, t.f0.f0.size ≤ 140737488351232) (hk : key.size ≤ 140737488351232) (hl : l.length ≤ 1000000) (L : Nat) (acc : List Int) (hacc : acc.length ≤ 1000000) (r : List Int) :
    ∀ (d i : Nat) (n : Int), i + d = l.length → 0 ≤ n ∧ n ≤ i → Ev (fun k => cornucopiaref5_Path.l1 k l key (acc ++ [n + cntT key L (l.drop i)]) (wrap64 (((L : Int) + 1) - 1))) r → Ev (fun k => cornucopiaref5_Path.l2 k l key acc ((L : Int) + 1) n (i : Int)) r
  | 0, i, n, hi, hn, h => by
    rw [List.drop_of_length_le (by omega), show cntT key L [] = 0 from rfl, Int.add_zero] at h
    exact Ev.step (fun k => by rw [cornucopiaref5_Path.l2]) (ev_neg (by omega) (ev_pos (by omega) h))
  | d + 1, i, n, hi, hn, h => by
    have hlt : i < l.length := by omega
    have hd : l.drop i = l[i] :: l.drop (i + 1) := List.drop_eq_getElem_cons hlt
    have hw : wrap64 ((i : Int) + 1) = ((i + 1 : Nat) : Int) := by rw [wrap64_id (by omega)]; omega
    have hx := hs _ (List.getElem_mem hlt)
    refine Ev.step (fun k => by rw [cornucopiaref5_Path.l2, rdT hlt, hw]) (ev_pos (by omega) (ev_pos (by omega) ?_))
    have no : up key L l[i] = false → Ev (fun k => cornucopiaref5_Path.l2 k l key acc ((L : Int) + 1) n ((i + 1 : Nat) : Int)) r := fun hu => by
      refine path_l2 l key hs hk hl L acc hacc r d (i + 1) n (by omega) (by omega) ?_
      rw [hd] at h
      rw [show cntT key L (l[i] :: l.drop (i + 1)) = cntT key L (l.drop (i + 1)) from by unfold cntT; rw [List.filter_cons, if_neg (by rw [hu]; simp)]] at h
      exact h
    by_cases h1 : l[i].f1 ≥ (L : Int) + 1
    · refine ev_pos h1 (Ev.bind (Less_ev _ _ hx hk) ?_)
      by_cases h2 : cb l[i].f0.f0 key = -1
      · rw [decide_eq_true h2]
        refine ev_pos rfl ?_
        rw [wrap64_id (x := n + 1) (by omega)]
        refine path_l2 l key hs hk hl L acc hacc r d (i + 1) (n + 1) (by omega) (by omega) ?_
        rw [hd] at h
        rw [show cntT key L (l[i] :: l.drop (i + 1)) = 1 + cntT key L (l.drop (i + 1)) from by unfold cntT; rw [List.filter_cons, if_pos (by unfold up; rw [decide_eq_true h2, decide_eq_true (show (L : Int) + 1 ≤ l[i].f1 from h1)]; rfl), List.length_cons]; omega, ← Int.add_assoc] at h
        exact h
      · rw [decide_eq_false h2]
        exact ev_neg (by simp) (no (by unfold up; rw [decide_eq_false h2, Bool.and_false]))
    · exact ev_neg h1 (no (by unfold up; rw [decide_eq_false (show ¬ (L : Int) + 1 ≤ l[i].f1 from h1)]; rfl))
theorem path_l1 (l : List Tw) (key : ByteArray) (hs : ∀ t ∈ l, t.f0.f0.size ≤ 140737488351232) (hk : key.size ≤ 140737488351232) (hl : l.length ≤ 1000000) : ∀ (T : Nat) (acc : List Int), acc.length + T ≤ 1000000 → Ev (fun k => cornucopiaref5_Path.l1 k l key acc (T : Int)) (acc ++ pathT key l T)
  | 0, acc, _ => Ev.step (fun k => by rw [cornucopiaref5_Path.l1]) (ev_neg (by omega) (ev_const (by simp [pathT])))
  | T + 1, acc, hT => by
    have ih := path_l1 l key hs hk hl T (acc ++ [cntT key T l]) (by rw [List.length_append, List.length_singleton]; omega)
    refine Ev.step (fun k => by rw [cornucopiaref5_Path.l1]) (ev_pos (by omega) ?_)
    rw [show ((T + 1 : Nat) : Int) = (T : Int) + 1 from by omega]
    refine path_l2 l key hs hk hl T acc (by omega) _ l.length 0 0 (by omega) (by omega) ?_
    rw [List.drop_zero, Int.zero_add, wrap64_id (by omega), show (T : Int) + 1 - 1 = (T : Int) from by omega]
    rw [show pathT key l (T + 1) = cntT key T l :: pathT key l T from by unfold pathT; rw [List.range_succ, List.reverse_append]; rfl]
    rw [List.append_assoc] at ih
    exact ih
theorem path_l0 (l : List Tw) (key : ByteArray) (hs : ∀ t ∈ l, t.f0.f0.size ≤ 140737488351232) (hk : key.size ≤ 140737488351232) (hl : l.length ≤ 1000000) (hv : ∀ t ∈ l, 0 ≤ t.f1 ∧ t.f1 ≤ 8) : ∀ (d i : Nat), i + d = l.length → Ev (fun k => cornucopiaref5_Path.l0 k l key (hmT (l.take i) : Int) (i : Int)) (pathT key l (hmT l))
  | 0, i, hi => by
    have h8 : hmT l ≤ 8 := by
      have : ∀ (q : List Tw) (m : Nat), m ≤ 8 → (∀ t ∈ q, 0 ≤ t.f1 ∧ t.f1 ≤ 8) → q.foldl (fun m t => max m t.f1.toNat) m ≤ 8 := by
        intro q
        induction q with
        | nil => intro m hm _; exact hm
        | cons t r ih =>
          intro m hm hq
          rw [List.foldl_cons]
          have := hq t (by simp)
          exact ih _ (by omega) (fun x hx => hq x (by simp [hx]))
      exact this l 0 (by omega) hv
    refine Ev.step (fun k => by rw [cornucopiaref5_Path.l0]) (ev_neg (by omega) ?_)
    rw [List.take_of_length_le (by omega)]
    have := path_l1 l key hs hk hl (hmT l) [] (by simp; omega)
    rw [List.nil_append] at this
    exact this
  | d + 1, i, hi => by
    have hlt : i < l.length := by omega
    have hw : wrap64 ((i : Int) + 1) = ((i + 1 : Nat) : Int) := by rw [wrap64_id (by omega)]; omega
    have h2 := hv _ (List.getElem_mem hlt)
    have hm : mx (hmT (l.take i) : Int) l[i].f1 = (hmT (l.take (i + 1)) : Int) := by
      rw [List.take_succ_eq_append_getElem hlt, hmT_snoc]
      unfold mx
      omega
    refine Ev.step (fun k => by rw [cornucopiaref5_Path.l0, rdT hlt, hw, hm]) (ev_pos (by omega) (ev_pos (by omega) ?_))
    exact path_l0 l key hs hk hl hv d (i + 1) (by omega)
theorem Path_ev (l : List Tw) (key : ByteArray) (hs : ∀ t ∈ l, t.f0.f0.size ≤ 140737488351232) (hk : key.size ≤ 140737488351232) (hl : l.length ≤ 1000000) (hv : ∀ t ∈ l, 0 ≤ t.f1 ∧ t.f1 ≤ 8) : Ev (fun k => cornucopiaref5_Path.f k l key) (pathT key l (hmT l)) := by
  have h := path_l0 l key hs hk hl hv l.length 0 (by omega)
  exact h
def tw (x : Nd) : Tw := ⟨x.e, (x.h : Int)⟩
theorem cnt_all {key : ByteArray} {L : Nat} : ∀ {ns : List Nd}, (∀ x ∈ ns, lt key x.e = false) → ns.filter (fun x => decide (L < x.h) && lt key x.e) = []
  | [], _ => rfl
  | x :: r, h => by
    rw [List.filter_cons, if_neg (by rw [h x (by simp), Bool.and_false]; simp)]
    exact cnt_all (fun y hy => h y (by simp [hy]))
theorem cntL_eq {key : ByteArray} {L : Nat} : ∀ {ns : List Nd}, Srt ns → cntL key L ns = ((ns.filter (fun x => decide (L < x.h) && lt key x.e)).length : Int)
  | [], _ => rfl
  | x :: r, h => by
    have h2 := List.pairwise_cons.1 h
    have ih := cntL_eq (key := key) (L := L) h2.2
    rw [cntL]
    by_cases h3 : L < x.h
    · rw [if_pos h3]
      by_cases h4 : lt key x.e = true
      · rw [if_pos h4, List.filter_cons, if_pos (by rw [h4, decide_eq_true h3]; rfl), List.length_cons, ih]
        omega
      · have h5 : lt key x.e = false := by simpa using h4
        rw [if_neg h4, cnt_all (fun y hy => ?_)]
        · rfl
        · rcases List.mem_cons.1 hy with rfl | hy
          · exact h5
          · cases h6 : lt key y.e with
            | false => rfl
            | true =>
              have := lt_down key _ _ (h2.1 y hy) h6
              rw [h5] at this
              cases this
    · rw [if_neg h3, List.filter_cons, if_neg (by rw [decide_eq_false h3]; simp)]
      exact ih
theorem path_eq {key : ByteArray} {ns : List Nd} {l : List Tw} (hS : Srt ns) (hp : (ns.map tw).Perm l) (T : Nat) : pathL key ns T = pathT key l T := by
  unfold pathL pathT
  refine List.map_congr_left (fun L _ => ?_)
  rw [cntL_eq hS]
  unfold cntT
  have h1 := (hp.filter (up key L)).length_eq
  rw [← h1, List.filter_map, List.length_map]
  congr 2
  refine List.filter_congr (fun x _ => ?_)
  unfold up tw
  rw [Function.comp, lt_cb]
  congr 1
  exact decide_eq_decide.2 (by simp; omega)
theorem Room1_ev (r a : Int) (hr : -1 ≤ r ∧ r ≤ 20000) (ha : 0 ≤ a ∧ a ≤ 9223372036854775807) : ∃ q, Ev (fun k => cornucopiabook_Room.f k r [a]) q ∧ -1 ≤ q ∧ q ≤ 20000 := by
  have fin : ∀ q, (h : Ev (fun k => cornucopiabook_Room.l0 k r [a] 0) q) → Ev (fun k => cornucopiabook_Room.f k r [a]) q := fun q h => Ev.congr (fun k => by rw [cornucopiabook_Room.f]) h
  have l2 : (([a] : List Int).length : Int) = 1 := rfl
  by_cases h0 : r < 0
  · exact ⟨-1, fin _ (Ev.step (fun k => by rw [cornucopiabook_Room.l0, l2]) (ev_pos (by omega) (ev_pos h0 (ev_const rfl)))), by omega, by omega⟩
  by_cases h1 : a > r
  · exact ⟨-1, fin _ (Ev.step (fun k => by rw [cornucopiabook_Room.l0, l2, show rd [a] 0 = a from rfl]) (ev_pos (by omega) (ev_neg h0 (ev_pos (by omega) (ev_pos h1 (ev_const rfl)))))), by omega, by omega⟩
  have s1 : wrap64 (r - a) = r - a := wrap64_id (by omega)
  have s2 : wrap64 ((0 : Int) + 1) = 1 := wrap64_id (by omega)
  exact ⟨r - a, fin _ (Ev.step (fun k => by rw [cornucopiabook_Room.l0, l2, show rd [a] 0 = a from rfl, s1, s2]) (ev_pos (by omega) (ev_neg h0 (ev_pos (by omega) (ev_neg h1 (Ev.step (fun k => by rw [cornucopiabook_Room.l0, l2]) (ev_neg (by omega) (ev_const rfl)))))))), by omega, by omega⟩
theorem Short_l0 (l : List ByteArray) (few : Int) (hs : ∀ s ∈ l, s.size ≤ 140737488351232) (hl : l.length ≤ 1000000) : ∀ (d i : Nat) (r : Int), i + d = l.length → -1 ≤ r ∧ r ≤ 20000 → ∃ b, Ev (fun k => cornucopiabook_Short.l0 k r l (i : Int)) b
  | 0, i, r, hi, hr => ⟨_, Ev.step (fun k => by rw [cornucopiabook_Short.l0]) (ev_neg (by omega) (ev_const rfl))⟩
  | d + 1, i, r, hi, hr => by
    have hlt : i < l.length := by omega
    have hw : wrap64 ((i : Int) + 1) = ((i + 1 : Nat) : Int) := by rw [wrap64_id (by omega)]; omega
    have hx : rdOf ByteArray.empty l (i : Int) = l[i] := by simp [rdOf, hlt]
    have hz := hs _ (List.getElem_mem hlt)
    by_cases h0 : r ≥ 0
    · obtain ⟨q, hq, h1, h2⟩ := Room1_ev r (l[i].size : Int) hr (by omega)
      obtain ⟨b, hb⟩ := Short_l0 l few hs hl d (i + 1) q (by omega) ⟨h1, h2⟩
      exact ⟨b, Ev.step (fun k => by rw [cornucopiabook_Short.l0, hx, hw]) (ev_pos (by omega) (ev_pos h0 (ev_pos (by omega) (Ev.bind hq hb))))⟩
    · exact ⟨_, Ev.step (fun k => by rw [cornucopiabook_Short.l0]) (ev_pos (by omega) (ev_neg h0 (ev_const rfl)))⟩
theorem Short_ev (l : List ByteArray) (few room : Nat) (hs : ∀ s ∈ l, s.size ≤ 140737488351232) (hf : few ≤ 1000000) (hr : room ≤ 20000) : ∃ b, Ev (fun k => cornucopiabook_Short.f k few room l) b ∧ (b = true → l.length ≤ few) := by
  by_cases h : (l.length : Int) > few
  · exact ⟨false, Ev.congr (fun k => by rw [cornucopiabook_Short.f]) (ev_pos h (ev_const rfl)), fun h => by cases h⟩
  · obtain ⟨b, hb⟩ := Short_l0 l few hs (by omega) l.length 0 room (by omega) (by omega)
    have hb2 : Ev (fun k => cornucopiabook_Short.l0 k (room : Int) l 0) b := hb
    exact ⟨b, Ev.congr (fun k => by rw [cornucopiabook_Short.f]) (ev_neg h hb2), fun _ => by omega⟩
end Go.Proofs.YtchgpcgolgcfdaaGreat.PuSkP
end
