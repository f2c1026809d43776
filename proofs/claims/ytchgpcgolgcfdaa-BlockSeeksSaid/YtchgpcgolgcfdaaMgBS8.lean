/- Texts of this claim, put together and cut down to what is used (BS8). -/
import Derived.Test.YtchgpcgolgcfdaaMgBS4
import Derived.Test.YtchgpcgolgcfdaaMgBS5
import Derived.Test.YtchgpcgolgcfdaaMgBS7
import Derived.Test.YtchgpcgolgcfdaaMgBS6
section
namespace Go.Proofs.Ytchgpcgolgcfdaa.PuBk
open Go Go.RowKit Go.Proofs.Ytchgpcgolgcfdaa.PNum Go.Proofs.Ytchgpcgolgcfdaa.PuVt Go.Proofs.Ytchgpcgolgcfdaa.PuVr Go.Proofs.Ytchgpcgolgcfdaa.PuCrc Go.Proofs.YtchgpcgolgcfdaaW.PrintWords Go.Proofs.YtchgpcgolgcfdaaW.PrintLast Go.Proofs.YtchgpcgolgcfdaaW.PrintMore Go.Proofs.YtchgpcgolgcfdaaW.Pu Go.Proofs.Ytchgpcgolgcfdaa.Bl2
def lt (key : ByteArray) (e : E) : Bool := Op.bytesLess e.f0.toList key.toList
theorem Seek_l0 (key : ByteArray) (l : List E) (hlen : l.length ≤ 9223372036854775806) (d : Nat) : ∀ i, i + d = l.length → Ev (fun k => block_Seek.l0 k key l 0 l (l.length : Int) (i : Int)) ((l.drop i).dropWhile (lt key), 0) := by
  induction d with
  | zero =>
    intro i hi
    rw [List.drop_eq_nil_of_le (by omega), List.dropWhile_nil]
    have c1 : ¬ ((i : Int) < (l.length : Int)) := by omega
    exact Ev.step (fun k => by rw [block_Seek.l0]) (ev_neg c1 (ev_const rfl))
  | succ d ih =>
    intro i hi
    have hlt : i < l.length := by omega
    have he : rd_T29 l (i : Int) = l[i] := at_nat l i hlt
    have c1 : (i : Int) < (l.length : Int) := by omega
    have c2 : (0 : Int) ≤ (i : Int) := by omega
    have c3 : (i : Int) ≤ (l.length : Int) := by omega
    have hw : wrap64 ((i : Int) + 1) = ((i + 1 : Nat) : Int) := by rw [wrap64_id (by omega)]; omega
    have h1 := ih (i + 1) (by omega)
    refine Ev.step (fun k => by rw [block_Seek.l0, he, hw, Int.toNat_natCast]) (ev_pos c1 (ev_pos c2 (ev_pos c1 ?_)))
    by_cases hl : Op.bytesLess l[i].f0.toList key.toList = true
    · refine ev_pos hl ?_
      have hd : (l.drop i).dropWhile (lt key) = (l.drop (i + 1)).dropWhile (lt key) := by
        rw [List.drop_eq_getElem_cons hlt, List.dropWhile_cons, if_pos (show lt key l[i] = true from hl)]
      rw [hd]
      exact h1
    · have hd : (l.drop i).dropWhile (lt key) = l.drop i := by
        conv => lhs; rw [List.drop_eq_getElem_cons hlt, List.dropWhile_cons, if_neg (show ¬ lt key l[i] = true from hl)]
        rw [← List.drop_eq_getElem_cons hlt]
      rw [hd]
      exact ev_neg hl (ev_pos c3 (ev_const rfl))
theorem Seek_ev (key s : ByteArray) (l : List E) (hlen : l.length ≤ 400) (h : Ev (fun k => block_Get.f k s) (l, 0)) : Ev (fun k => block_Seek.f k s key) (l.dropWhile (lt key), 0) := by
  unfold block_Seek.f
  exact Ev.bind h (Seek_l0 key l (by omega) l.length 0 (Nat.zero_add _))
theorem less_cb : ∀ a b : List UInt8, Op.bytesLess a b = decide (Lib.compareBytes a b = -1)
  | [], [] => by simp [Op.bytesLess, Lib.compareBytes]
  | [], _ :: _ => by simp [Op.bytesLess, Lib.compareBytes]
  | _ :: _, [] => by simp [Op.bytesLess, Lib.compareBytes]
  | a :: x, b :: y => by
    have ih := less_cb x y
    unfold Op.bytesLess Lib.compareBytes
    rw [ih]
    by_cases h1 : a < b
    · simp [h1]
    · by_cases h2 : b < a
      · have h3 : a ≠ b := fun e => by subst e; exact h1 h2
        simp [h1, h2, h3]
      · have h3 : a = b := UInt8.le_antisymm (UInt8.not_lt.1 h2) (UInt8.not_lt.1 h1)
        subst h3
        simp
theorem lt_cb (key : ByteArray) (e : E) : lt key e = decide (Go.Proofs.Ytchgpcgolgcfdaa.PuIkC.cb e.f0 key = -1) := by
  unfold lt
  rw [less_cb, toList_data, toList_data]
  rfl
theorem lt_mono (key : ByteArray) (a b : E) (h : Go.Proofs.Ytchgpcgolgcfdaa.PuIkC.ce a b = -1) (hb : lt key b = true) : lt key a = true := by
  rw [lt_cb, decide_eq_true_eq] at hb ⊢
  unfold Go.Proofs.Ytchgpcgolgcfdaa.PuIkC.ce at h
  by_cases h0 : Go.Proofs.Ytchgpcgolgcfdaa.PuIkC.cb a.f0 b.f0 = 0
  · rw [(Go.Proofs.Ytchgpcgolgcfdaa.PuIkC.cb_zero _ _).1 h0]
    exact hb
  · rw [if_neg h0] at h
    exact Go.Proofs.Ytchgpcgolgcfdaa.PuIkC.cl_trans _ _ _ h hb
theorem lt_all (key : ByteArray) (l : List E) (ho : ∀ j (h : j < l.length), ∀ h0 : 0 < j, Go.Proofs.Ytchgpcgolgcfdaa.PuIkC.ce (l[j - 1]'(by omega)) l[j] = -1) (d : Nat) : ∀ i (hi : i + d < l.length), lt key (l[i + d]'hi) = true → lt key (l[i]'(by omega)) = true := by
  induction d with
  | zero => intro i hi h; exact h
  | succ d ih =>
    intro i hi h
    have h1 := ho (i + (d + 1)) hi (by omega)
    exact ih i (by omega) (lt_mono key _ _ h1 h)
theorem split (key : ByteArray) (l : List E) : ∃ j, j ≤ l.length ∧ l.dropWhile (lt key) = l.drop j ∧ (∀ i (h : i < l.length), i < j → lt key l[i] = true) ∧ (∀ h : j < l.length, lt key l[j] = false) := by
  induction l with
  | nil => exact ⟨0, Nat.le_refl _, rfl, fun i h => by simp at h, fun h => by simp at h⟩
  | cons a l ih =>
    by_cases ha : lt key a = true
    · obtain ⟨j, hj, hd, h1, h2⟩ := ih
      refine ⟨j + 1, by simpa using hj, ?_, ?_, ?_⟩
      · rw [List.dropWhile_cons, if_pos ha, hd, List.drop_succ_cons]
      · intro i hi hij
        cases i with
        | zero => exact ha
        | succ i => exact h1 i (by simpa using hi) (by omega)
      · intro h
        exact h2 (by simpa using h)
    · refine ⟨0, Nat.zero_le _, ?_, fun i _ h => by omega, fun _ => by simpa using ha⟩
      rw [List.dropWhile_cons, if_neg ha, List.drop_zero]
end Go.Proofs.Ytchgpcgolgcfdaa.PuBk
end
section
namespace Go.Proofs.Ytchgpcgolgcfdaa.PuBk
open Go Go.RowKit Go.Proofs.Ytchgpcgolgcfdaa.PNum Go.Proofs.Ytchgpcgolgcfdaa.PuVt Go.Proofs.Ytchgpcgolgcfdaa.PuVr Go.Proofs.Ytchgpcgolgcfdaa.PuCrc Go.Proofs.YtchgpcgolgcfdaaW.PrintWords Go.Proofs.YtchgpcgolgcfdaaW.PrintLast Go.Proofs.YtchgpcgolgcfdaaW.PrintMore Go.Proofs.YtchgpcgolgcfdaaW.Pu Go.Proofs.Ytchgpcgolgcfdaa.Bl2
def L3 : List E := [⟨⟨#[97]⟩, 2, 1, ⟨#[]⟩⟩, ⟨⟨#[97]⟩, 1, 1, ⟨#[]⟩⟩, ⟨⟨#[98]⟩, 1, 2, ⟨#[]⟩⟩]
theorem L3_ok : ∀ e ∈ L3, Ok e := by
  intro e he
  simp only [L3, List.mem_cons, List.not_mem_nil, or_false] at he
  rcases he with rfl | rfl | rfl
  · exact ⟨by decide, by decide, by decide, by decide⟩
  · exact ⟨by decide, by decide, by decide, by decide⟩
  · exact ⟨by decide, by decide, by decide, by decide⟩
theorem L3_right : block_Right.f 20 L3 = some true := by decide +kernel
theorem L3_seek : L3.dropWhile (lt ⟨#[98]⟩) = [⟨⟨#[98]⟩, 1, 2, ⟨#[]⟩⟩] := by
  unfold L3
  rw [List.dropWhile_cons, if_pos (by decide +kernel), List.dropWhile_cons, if_pos (by decide +kernel), List.dropWhile_cons, if_neg (by decide +kernel)]
theorem L3_shared : block_Shared.f 10 ⟨#[97, 98, 99]⟩ ⟨#[97, 98, 100]⟩ = some 2 := by decide +kernel
theorem alive_ev : Ev (fun k => cornucopialaw10_alive.f k) true := by
  obtain ⟨s, _, hP, hG⟩ := Put_ev L3 L3_ok (by decide) (ev_at (block_Right.mono _) 20 L3_right)
  have hS := Seek_ev ⟨#[98]⟩ s L3 (by decide) hG
  rw [L3_seek] at hS
  have hH : Ev (fun k => block_Shared.f k ⟨#[97, 98, 99]⟩ ⟨#[97, 98, 100]⟩) 2 := ev_at (block_Shared.mono _ _) 10 L3_shared
  have hE := Go.Proofs.Ytchgpcgolgcfdaa.PuAl14.Same_ev L3 (by decide)
  unfold cornucopialaw10_alive.f
  refine ev_call rfl (Ev.bind hP ?_)
  dsimp only
  refine Ev.bind hG ?_
  dsimp only
  refine Ev.bind hS ?_
  dsimp only
  refine Ev.bind hH ?_
  refine ev_pos rfl (ev_pos rfl (ev_pos rfl (Ev.bind hE ?_)))
  refine ev_pos rfl (ev_pos rfl (ev_pos rfl (ev_pos (by decide) (ev_pos (by decide) (ev_const ?_)))))
  decide +kernel
end Go.Proofs.Ytchgpcgolgcfdaa.PuBk
end
section
namespace Go.Proofs.Ytchgpcgolgcfdaa.Pure
open Go Go.RowKit Go.Proofs.Ytchgpcgolgcfdaa.PNum Go.Proofs.Ytchgpcgolgcfdaa.PuBk Go.Proofs.YtchgpcgolgcfdaaW.PrintWords Go.Proofs.YtchgpcgolgcfdaaW.PrintLast Go.Proofs.YtchgpcgolgcfdaaW.PrintMore Go.Proofs.YtchgpcgolgcfdaaW.Pu Go.Proofs.Ytchgpcgolgcfdaa.Bl2
theorem bs_l0 (l : List E) (key : ByteArray) (hk : key.size ≤ 140737488351232) (hlen : l.length ≤ 400) (j : Nat) (hj : j ≤ l.length) (h1 : ∀ i (h : i < l.length), i < j → lt key l[i] = true) (h2 : ∀ i (h : i < l.length), j ≤ i → lt key l[i] = false) (d : Nat) : ∀ i, i + d = l.length →
    Ev (fun k => cornucopialaw10_BlockSeeks.l0 k l key (l.drop j) 0 l 0 ((i - j : Nat) : Int) (i : Int)) true := by
  induction d with
  | zero =>
    intro i hi
    have c1 : ¬ ((i : Int) < (l.length : Int)) := by omega
    have c2 : ((i - j : Nat) : Int) = ((l.drop j).length : Int) := by rw [List.length_drop]; omega
    have hs1 := Shared_ev key key (by omega)
    rw [sh_self, bytesOf_length] at hs1
    have hs2 := Shared_ev key ⟨#[]⟩ (by omega)
    rw [bytesOf_nil, sh_nil] at hs2
    refine Ev.step (fun k => by rw [cornucopialaw10_BlockSeeks.l0]) (ev_neg c1 ?_)
    exact Ev.bind hs1 (Ev.bind hs2 (Ev.bind alive_ev (ev_pos rfl (ev_pos rfl (ev_pos rfl (ev_pos c2 (ev_pos rfl (ev_pos rfl (ev_const rfl)))))))))
  | succ d ih =>
    intro i hi
    have hlt : i < l.length := by omega
    have he : rd_T29 l (i : Int) = l[i] := at_nat l i hlt
    have c1 : (i : Int) < (l.length : Int) := by omega
    have c2 : (0 : Int) ≤ (i : Int) := by omega
    have hw : wrap64 ((i : Int) + 1) = ((i + 1 : Nat) : Int) := by rw [wrap64_id (by omega)]; omega
    have hgo := ih (i + 1) (by omega)
    by_cases hij : i < j
    · have hl := h1 i hlt hij
      rw [show i + 1 - j = i - j by omega] at hgo
      refine Ev.step (fun k => by rw [cornucopialaw10_BlockSeeks.l0, he, hw]) (ev_pos c1 (ev_pos c2 ?_))
      exact ev_pos hl hgo
    · have hl := h2 i hlt (by omega)
      have hl2 : ¬ (Op.bytesLess l[i].f0.toList key.toList = true) := by
        intro h
        rw [show lt key l[i] = true from h] at hl
        cases hl
      have hml : (l.drop j).length = l.length - j := List.length_drop
      have he2 : rd_T29 (l.drop j) ((i - j : Nat) : Int) = l[i] := by
        rw [show rd_T29 (l.drop j) ((i - j : Nat) : Int) = (l.drop j)[i - j]'(by omega) from at_nat _ _ (by omega), List.getElem_drop]
        congr 1
        omega
      have c3 : ¬ (((i - j : Nat) : Int) ≥ ((l.drop j).length : Int)) := by omega
      have c4 : (0 : Int) ≤ ((i - j : Nat) : Int) := by omega
      have c5 : ((i - j : Nat) : Int) < ((l.drop j).length : Int) := by omega
      have hw2 : wrap64 (((i - j : Nat) : Int) + 1) = ((i + 1 - j : Nat) : Int) := by rw [wrap64_id (by omega)]; omega
      refine Ev.step (fun k => by rw [cornucopialaw10_BlockSeeks.l0, he, he2, hw, hw2]) (ev_pos c1 (ev_pos c2 ?_))
      exact ev_neg hl2 (ev_neg c3 (ev_pos c4 (ev_pos c5 (ev_neg (by simp) hgo))))
theorem BlockSeeks : cornucopialaw10_BlockSeeks.Pure := by
  intro l key hl hwf hk
  obtain ⟨b, hb, hbt⟩ := Go.Proofs.Ytchgpcgolgcfdaa.PuSm.Small_ev l (fun e he => ⟨(hwf e he).1, (hwf e he).2.2.2⟩)
  have halive : ∀ k0 : List E, Ev (fun k => cornucopialaw10_BlockSeeks.j0 k l key true) true := fun _ =>
    Ev.step (fun k => by rw [cornucopialaw10_BlockSeeks.j0]) (ev_pos rfl (Ev.bind alive_ev (ev_const rfl)))
  have main : Ev (fun k => cornucopialaw10_BlockSeeks.f k l key) true := by
    unfold cornucopialaw10_BlockSeeks.f
    refine Ev.bind hb ?_
    cases b with
    | false => exact ev_neg Bool.false_ne_true (halive l)
    | true =>
      refine ev_pos rfl ?_
      by_cases hk3 : (key.size : Int) > 300
      · rw [decide_eq_true hk3]
        exact halive l
      · rw [decide_eq_false hk3]
        have h150 := hbt rfl
        obtain ⟨q, hq, hqt⟩ := Right_ev l (by omega)
        refine Ev.step (fun k => by rw [cornucopialaw10_BlockSeeks.j0]) (ev_neg Bool.false_ne_true ?_)
        cases q with
        | false =>
          have hP : Ev (fun k => block_Put.f k l) (⟨#[]⟩, 1) := by
            show Ev (fun k => putF k l) _
            unfold putF
            exact Ev.bind hq (ev_neg Bool.false_ne_true (ev_const rfl))
          exact Ev.bind hP (ev_neg (by decide) (Ev.bind alive_ev (ev_const rfl)))
        | true =>
          have hR := hqt rfl
          have hok : ∀ e ∈ l, Ok e := by
            intro e he
            obtain ⟨j, hj, rfl⟩ := List.getElem_of_mem he
            have hv := (hR j hj).1
            have hw := hwf _ (List.getElem_mem hj)
            unfold Go.Proofs.Ytchgpcgolgcfdaa.PuIkC.valid at hv
            rw [decide_eq_true_eq] at hv
            obtain ⟨v1, v2, v3⟩ := hv
            refine ⟨by omega, u64_wf hw.2.1, ?_, by omega⟩
            by_cases h2 : l[j].f2 = 2
            · exact Or.inr h2
            · rw [if_neg h2] at v3
              exact Or.inl v3
          obtain ⟨s, _, hP, hG⟩ := Put_ev l hok (by omega) hq
          obtain ⟨j, hj, hd, hl1, hl2⟩ := split key l
          have hS1 := Seek_ev key s l (by omega) hG
          rw [hd] at hS1
          have hS2 := Seek_ev ⟨#[]⟩ s l (by omega) hG
          have hall : l.dropWhile (lt ⟨#[]⟩) = l := by
            cases l with
            | nil => rfl
            | cons a l =>
              rw [List.dropWhile_cons, if_neg]
              unfold lt
              rw [toList_data, toList_data]
              cases a.f0.data.toList <;> simp [Op.bytesLess]
          rw [hall] at hS2
          have hrest : ∀ i (h : i < l.length), j ≤ i → lt key l[i] = false := by
            intro i hi hji
            cases hc : lt key l[i] with
            | false => rfl
            | true =>
              obtain ⟨d, rfl⟩ : ∃ d, i = j + d := ⟨i - j, by omega⟩
              have hx := lt_all key l (fun x hx h0 => (hR x hx).2 h0) d j hi hc
              rw [hl2 (by omega)] at hx
              cases hx
          have hlaw := bs_l0 l key hk (by omega) j hj hl1 hrest l.length 0 (Nat.zero_add _)
          rw [Nat.zero_sub] at hlaw
          exact Ev.bind hP (ev_pos rfl (Ev.bind hS1 (Ev.bind hS2 hlaw)))
  exact main.rounds
end Go.Proofs.Ytchgpcgolgcfdaa.Pure
end
