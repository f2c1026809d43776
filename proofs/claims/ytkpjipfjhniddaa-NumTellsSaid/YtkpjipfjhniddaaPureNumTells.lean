/- NumTells, in plain numbers: digits, the document's own functions, and the law (one text, as a claim has at most 60 files). -/
import Derived.Test.YtkpjipfjhniddaaPNumx10
import Derived.Test.YtkpjipfjhniddaaPNumx15
import Derived.Test.YtkpjipfjhniddaaPNumx17
import Derived.Test.YtkpjipfjhniddaaPNumx22
import Derived.Test.YtkpjipfjhniddaaPNumx23
import Derived.Test.YtkpjipfjhniddaaPNumx24
import Derived.Test.YtkpjipfjhniddaaPNumx25
import Derived.Test.YtkpjipfjhniddaaPNumx27
import Derived.Test.YtkpjipfjhniddaaPNumx4
import Derived.Test.YtkpjipfjhniddaaPNumx9
import Derived.Test.YtkpjipfjhniddaaWPu
import Derived.Test.YtkpjipfjhniddaaPuNum
import Derived.Test.YtkpjipfjhniddaaPuRead
import Derived.Test.YtkpjipfjhniddaaPuNum2
namespace Go.Proofs.Ytkpjipfjhniddaa.PuDig
open Go Go.RowKit Go.Proofs.Ytkpjipfjhniddaa.PNum Go.Proofs.YtkpjipfjhniddaaW.PrintWords Go.Proofs.YtkpjipfjhniddaaW.PrintLast Go.Proofs.YtkpjipfjhniddaaW.PrintMore Go.Proofs.YtkpjipfjhniddaaW.Pu

def ds (n : Nat) : List Int := num_Digits.dg n []
theorem dg_app (n : Nat) : ∀ acc, num_Digits.dg n acc = ds n ++ acc := by
  induction n using Nat.strongRecOn with
  | _ n ih =>
    intro acc
    by_cases h : n < 10
    · unfold ds; rw [num_Digits.dg, if_pos h, num_Digits.dg, if_pos h]; rfl
    · unfold ds
      rw [num_Digits.dg, if_neg h]
      rw [show num_Digits.dg n [] = num_Digits.dg (n / 10) [48 + ((n % 10 : Nat) : Int)] from by rw [num_Digits.dg, if_neg h]]
      rw [ih (n / 10) (by omega), ih (n / 10) (by omega)]
      simp
theorem ds_low {n : Nat} (h : n < 10) : ds n = [48 + (n : Int)] := by unfold ds; rw [num_Digits.dg, if_pos h]
theorem ds_high {n : Nat} (h : ¬ n < 10) : ds n = ds (n / 10) ++ [48 + ((n % 10 : Nat) : Int)] := by
  rw [show ds n = num_Digits.dg (n / 10) [48 + ((n % 10 : Nat) : Int)] from by unfold ds; rw [num_Digits.dg, if_neg h]]
  exact dg_app _ _
def digs (l : List Int) : Prop := ∀ x ∈ l, 48 ≤ x ∧ x ≤ 57
theorem ds_digs (n : Nat) : digs (ds n) := by
  induction n using Nat.strongRecOn with
  | _ n ih =>
    by_cases h : n < 10
    · rw [ds_low h]; intro x hx; simp at hx; omega
    · rw [ds_high h]
      intro x hx
      rcases List.mem_append.1 hx with hx | hx
      · exact ih (n / 10) (by omega) x hx
      · simp at hx; omega
theorem digs_ok {l : List Int} (h : digs l) : ok8 l := fun x hx => by have := h x hx; omega
/-- What digits say, behind a number. -/
def fold (v : Int) (l : List Int) : Int := l.foldl (fun v x => 10 * v + (x - 48)) v
theorem fold_app (v : Int) (a b : List Int) : fold v (a ++ b) = fold (fold v a) b := by simp [fold]
theorem fold_one (v x : Int) : fold v [x] = 10 * v + (x - 48) := rfl
theorem fold_bd (l : List Int) (h : digs l) : ∀ v : Int, v * 10 ^ l.length ≤ fold v l ∧ fold v l < (v + 1) * 10 ^ l.length := by
  induction l with
  | nil => intro v; simp [fold]; omega
  | cons x l ih =>
    intro v
    have hx := h x (by simp)
    have := ih (fun y hy => h y (by simp [hy])) (10 * v + (x - 48))
    have e : fold v (x :: l) = fold (10 * v + (x - 48)) l := rfl
    rw [e, List.length_cons]
    have hp : (10 : Int) ^ (l.length + 1) = 10 * 10 ^ l.length := by rw [Int.pow_succ, Int.mul_comm]
    rw [hp]
    have hq : (0 : Int) ≤ 10 ^ l.length := Int.pow_nonneg (by decide)
    generalize (10 : Int) ^ l.length = q at *
    constructor
    · refine Int.le_trans ?_ this.1
      rw [show v * (10 * q) = (10 * v) * q from by rw [← Int.mul_assoc, Int.mul_comm v 10]]
      exact Int.mul_le_mul_of_nonneg_right (by omega) hq
    · refine Int.lt_of_lt_of_le this.2 ?_
      rw [show (v + 1) * (10 * q) = (10 * (v + 1)) * q from by rw [← Int.mul_assoc, Int.mul_comm (v + 1) 10]]
      exact Int.mul_le_mul_of_nonneg_right (by omega) hq
theorem ds_val (n : Nat) : fold 0 (ds n) = n := by
  induction n using Nat.strongRecOn with
  | _ n ih =>
    by_cases h : n < 10
    · rw [ds_low h, fold_one]; omega
    · rw [ds_high h, fold_app, ih (n / 10) (by omega), fold_one]; omega
theorem ds_pos (n : Nat) : 0 < (ds n).length := by
  by_cases h : n < 10
  · rw [ds_low h]; simp
  · rw [ds_high h]; simp
theorem ds_len (k : Nat) : ∀ n, n < 10 ^ (k + 1) → (ds n).length ≤ k + 1 := by
  induction k with
  | zero => intro n h; rw [ds_low (by simpa using h)]; simp
  | succ k ih =>
    intro n h
    by_cases hn : n < 10
    · rw [ds_low hn]; simp
    · rw [ds_high hn, List.length_append]
      have := ih (n / 10) (by rw [Nat.pow_succ] at h; omega)
      simp
      omega
theorem ds_many (k : Nat) : ∀ n, 10 ^ k ≤ n → k < (ds n).length := by
  induction k with
  | zero => intro n _; exact ds_pos n
  | succ k ih =>
    intro n h
    have h10 : ¬ n < 10 := by
      have : (10 : Nat) ^ (k + 1) = 10 * 10 ^ k := by rw [Nat.pow_succ, Nat.mul_comm]
      have hp : 0 < (10 : Nat) ^ k := Nat.pow_pos (by decide)
      omega
    rw [ds_high h10, List.length_append]
    have := ih (n / 10) (by rw [Nat.pow_succ] at h; omega)
    simp
    omega
theorem ds_head (n : Nat) (h : 0 < n) : ∃ x t, ds n = x :: t ∧ 49 ≤ x ∧ x ≤ 57 := by
  induction n using Nat.strongRecOn with
  | _ n ih =>
    by_cases hn : n < 10
    · exact ⟨_, [], ds_low hn, by omega, by omega⟩
    · obtain ⟨x, t, e, hx⟩ := ih (n / 10) (by omega) (by omega)
      exact ⟨x, _, by rw [ds_high hn, e]; rfl, hx⟩
/-- A number's digits. -/
def D (a : Int) : List Int := if a < 0 then 45 :: ds a.natAbs else ds a.natAbs
theorem D_ok (a : Int) : ok8 (D a) := by
  unfold D
  split
  · exact ok8_cons (by omega) (digs_ok (ds_digs _))
  · exact digs_ok (ds_digs _)
theorem D_inj {a b : Int} (h : D a = D b) : a = b := by
  have lt45 : ∀ n t, ds n ≠ 45 :: t := fun n t e => by
    have := ds_digs n 45 (by rw [e]; simp)
    omega
  have inj : ∀ n m, ds n = ds m → n = m := fun n m e => by
    have := congrArg (fold 0) e
    rw [ds_val, ds_val] at this
    omega
  unfold D at h
  split at h <;> split at h
  · have := inj _ _ (List.cons.inj h).2
    omega
  · exact absurd h.symm (lt45 _ _)
  · exact absurd h (lt45 _ _)
  · have := inj _ _ h
    omega
theorem Digits_eq {a : Int} (h : -9223372036854775808 ≤ a ∧ a ≤ 9223372036854775807) : num_Digits.f a = some (strOfNums (D a)) := by
  unfold num_Digits.f
  rw [if_pos h]
  rfl
theorem Digits_cmp {a b : Int} : ((strOfNums (D a)).toList == (strOfNums (D b)).toList) = (a == b) := by
  rw [Bool.eq_iff_iff, beq_iff_eq, beq_iff_eq]
  refine ⟨fun h => D_inj (S_inj (D_ok a) (D_ok b) ?_), fun h => by rw [h]⟩
  rw [toList_data, toList_data] at h
  exact ByteArray.ext (Array.ext' h)

/-! ### Number -/
theorem Number_l0 (l : List Int) (h : digs l) (hl : l.length ≤ 18) (b : Bool) (d : Nat) : ∀ (i : Nat), i + d = l.length →
    Ev (fun k => num_Number.l0 k (strOfNums l) b (fold 0 (l.take i)) (l.length : Int) (i : Int)) (if b = true then -fold 0 l else fold 0 l, 0) := by
  have big : ∀ i, i ≤ l.length → 0 ≤ fold 0 (l.take i) ∧ fold 0 (l.take i) < 1000000000000000000 := by
    intro i hi
    have h1 := fold_bd (l.take i) (fun x hx => h x (List.mem_of_mem_take hx)) 0
    rw [List.length_take, Nat.min_eq_left hi] at h1
    have h2 : (10 : Int) ^ i ≤ 10 ^ 18 := by
      have := Nat.pow_le_pow_right (n := 10) (by decide) (show i ≤ 18 by omega)
      exact_mod_cast this
    simp only [Int.zero_mul, Int.zero_add, Int.one_mul] at h1
    have h3 : (10 : Int) ^ 18 = 1000000000000000000 := by decide
    omega
  induction d with
  | zero =>
    intro i hi
    refine Ev.step (fun k => by rw [num_Number.l0]) ?_
    have e : l.take i = l := List.take_of_length_le (by omega)
    refine ev_neg (by omega) ?_
    have hb := big i (by omega)
    rw [e] at hb ⊢
    cases b with
    | true => refine ev_pos rfl (ev_const ?_); rw [wrap64_id (by omega)]; rfl
    | false => exact ev_neg (by simp) (ev_const rfl)
  | succ d ih =>
    intro i hi
    have hlt : i < l.length := by omega
    have hx := h l[i] (List.getElem_mem hlt)
    have hb := big i (by omega)
    have hb2 := big (i + 1) (by omega)
    have et : l.take (i + 1) = l.take i ++ [l[i]] := by rw [List.take_succ_eq_append_getElem hlt]
    have ebt : bt (strOfNums l) (i : Int) = l[i] := by
      rw [bt_S (digs_ok h)]
      simp [List.getD_eq_getElem?_getD, List.getElem?_eq_getElem hlt]
    have ef : fold 0 (l.take (i + 1)) = 10 * fold 0 (l.take i) + (l[i] - 48) := by rw [et, fold_app, fold_one]
    refine Ev.step (fun k => by rw [num_Number.l0, ebt]) ?_
    refine ev_pos (by omega) (ev_pos (by omega) (ev_pos (by rw [S_size]; omega) (ev_neg (by omega) (ev_neg (by omega) ?_))))
    rw [show wrap64 (wrap64 (10 * fold 0 (l.take i)) + (l[i] - 48) % 256) = fold 0 (l.take (i + 1)) from ?_, wrap64_id (by omega), show ((i : Int) + 1) = ((i + 1 : Nat) : Int) from by omega]
    · exact ih (i + 1) (by omega)
    · rw [ef]
      rw [ef] at hb2
      rw [wrap64_id (x := 10 * fold 0 (l.take i)) (by omega), show (l[i] - 48) % 256 = l[i] - 48 from by omega]
      exact wrap64_id (by omega)
theorem pre_no {l : List Int} (h : digs l) : strings_CutPrefix.f (strOfNums l) (⟨#[45]⟩ : ByteArray) = some (strOfNums l, false) := by
  have hf : stringslite_HasPrefix.f (strOfNums l) (⟨#[45]⟩ : ByteArray) = some false := by
    unfold stringslite_HasPrefix.f
    have h1 : ((⟨#[45]⟩ : ByteArray).size : Int) = 1 := rfl
    rw [h1]
    split
    · rename_i hge
      (try rw [if_pos (by omega)])
      (try rw [if_pos (by omega)])
      rw [S_extract, S_toList]
      cases l with
      | nil => simp [S_size] at hge
      | cons x t =>
        have hx := h x (by simp)
        have h2 : (⟨#[45]⟩ : ByteArray).toList = [45] := by rw [toList_data]
        rw [h2]
        simp
        intro e
        have : (UInt8.ofNat x.toNat).toNat = 45 := by rw [e]; rfl
        rw [UInt8.toNat_ofNat'] at this
        omega
    · rfl
  unfold strings_CutPrefix.f stringslite_CutPrefix.f
  rw [hf]
  rfl
theorem pre_yes (l : List Int) : strings_CutPrefix.f (strOfNums (45 :: l)) (⟨#[45]⟩ : ByteArray) = some (strOfNums l, true) := by
  have h1 : ((⟨#[45]⟩ : ByteArray).size : Int) = 1 := rfl
  have hs : ((strOfNums (45 :: l)).size : Int) = l.length + 1 := by rw [S_size]; simp
  have hf : stringslite_HasPrefix.f (strOfNums (45 :: l)) (⟨#[45]⟩ : ByteArray) = some true := by
    unfold stringslite_HasPrefix.f
    rw [h1, hs, if_pos (by omega), if_pos (by omega), if_pos (by omega), S_extract, S_toList, toList_data]
    rfl
  unfold strings_CutPrefix.f stringslite_CutPrefix.f
  rw [hf]
  simp only [Option.bind_some, if_true]
  rw [h1, hs, if_pos (by omega), if_pos (by omega), S_extract]
  simp [S_size]
/-- Digits alone, behind the sign. -/
theorem Number_of (s : ByteArray) (b : Bool) (l : List Int) (h : digs l) (hp : strings_CutPrefix.f s (⟨#[45]⟩ : ByteArray) = some (strOfNums l, b)) (h0 : 0 < l.length)
    (hz : (∃ x t, l = x :: t ∧ 49 ≤ x ∧ x ≤ 57) ∨ (l = [48] ∧ b = false)) :
    Ev (fun k => num_Number.f k s) (if l.length ≤ 18 then (if b = true then -fold 0 l else fold 0 l, 0) else (0, 1)) := by
  refine Ev.congr (fun k => by rw [num_Number.f]) (ev_call hp ?_)
  refine ev_neg ?_ ?_
  · rw [S_toList]
    intro e
    rw [List.map_eq_nil_iff] at e
    rw [e] at h0
    simp at h0
  simp only [S_size]
  have hj : Ev (fun k => num_Number.j0 k (strOfNums l) b true) (0, 1) := Ev.step (fun k => by rw [num_Number.j0]) (ev_pos rfl (ev_const rfl))
  by_cases h18 : l.length ≤ 18
  · rw [if_pos h18]
    refine ev_neg (by omega) (ev_pos (by omega) ?_)
    have hgo : Ev (fun k => num_Number.j0 k (strOfNums l) b false) (if b = true then -fold 0 l else fold 0 l, 0) := by
      refine Ev.step (fun k => by rw [num_Number.j0, S_size]) (ev_neg (by simp) ?_)
      exact Number_l0 l h h18 b l.length 0 (by omega)
    rcases hz with ⟨x, t, rfl, hx⟩ | ⟨rfl, rfl⟩
    · refine ev_neg ?_ hgo
      have := bt_S (digs_ok h) 0
      simp at this
      rw [this]
      omega
    · refine ev_pos ?_ (ev_neg (by decide) hgo)
      have := bt_S (digs_ok h) 0
      simpa using this
  · rw [if_neg h18]
    exact ev_pos (by omega) hj
theorem Number_D {a : Int} : Ev (fun k => num_Number.f k (strOfNums (D a))) (if -1000000000000000000 < a ∧ a < 1000000000000000000 then (a, 0) else (0, 1)) := by
  have hlen : (ds a.natAbs).length ≤ 18 ↔ (-1000000000000000000 < a ∧ a < 1000000000000000000) := by
    constructor
    · intro h
      by_cases hb : 10 ^ 18 ≤ a.natAbs
      · have := ds_many 18 _ hb
        omega
      · omega
    · intro h
      exact ds_len 17 _ (by omega)
  have hv := ds_val a.natAbs
  have en : a < 0 → -((a.natAbs : Nat) : Int) = a := by omega
  have ep : ¬ a < 0 → ((a.natAbs : Nat) : Int) = a := by omega
  have hz : (∃ x t, ds a.natAbs = x :: t ∧ 49 ≤ x ∧ x ≤ 57) ∨ (ds a.natAbs = [48] ∧ a = 0) := by
    by_cases h0 : 0 < a.natAbs
    · exact .inl (ds_head _ h0)
    · have : a = 0 := by omega
      subst this
      exact .inr ⟨ds_low (by decide), rfl⟩
  by_cases hneg : a < 0
  · have hD : D a = 45 :: ds a.natAbs := if_pos hneg
    rw [hD]
    have := Number_of _ true (ds a.natAbs) (ds_digs _) (pre_yes _) (ds_pos _) (hz.imp id (fun h => absurd hneg (by rw [h.2]; decide)))
    simp only [hlen, if_true, hv] at this
    rw [en hneg] at this
    exact this
  · have hD : D a = ds a.natAbs := if_neg hneg
    rw [hD]
    have := Number_of _ false (ds a.natAbs) (ds_digs _) (pre_no (ds_digs _)) (ds_pos _) (hz.imp id (fun h => ⟨h.1, rfl⟩))
    simp only [hlen, hv] at this
    rw [show (if false = true then -((a.natAbs : Nat) : Int) else ((a.natAbs : Nat) : Int)) = a from by rw [if_neg (by simp)]; exact ep hneg] at this
    exact this
end Go.Proofs.Ytkpjipfjhniddaa.PuDig

namespace Go.Proofs.Ytkpjipfjhniddaa.PuNumT
open Go Go.RowKit Go.Proofs.Ytkpjipfjhniddaa.PNum Go.Proofs.Ytkpjipfjhniddaa.PuNum Go.Proofs.Ytkpjipfjhniddaa.PuRead Go.Proofs.Ytkpjipfjhniddaa.PuNum2 Go.Proofs.Ytkpjipfjhniddaa.PuDig Go.Proofs.YtkpjipfjhniddaaW.PrintWords Go.Proofs.YtkpjipfjhniddaaW.PrintLast Go.Proofs.YtkpjipfjhniddaaW.PrintMore Go.Proofs.YtkpjipfjhniddaaW.Pu
/-! ### numbers of so many bytes -/
theorem RFix_l0 (j : Nat) : ∀ (u : Nat) (S : List Int), u ≤ 18446744073709551615 → j ≤ 8 → Ev (fun k => cornucopiaref1_Fix.l0 k (u : Int) (List.replicate j 0 ++ S) ((j : Int) - 1)) (if u / 256 ^ j > 0 then (⟨#[]⟩, 1) else (strOfNums (be j u ++ S), 0)) := by
  induction j with
  | zero =>
    intro u S hu hj
    refine Ev.step (fun k => by rw [cornucopiaref1_Fix.l0]) (ev_neg (by omega) ?_)
    simp only [Nat.pow_zero, Nat.div_one]
    by_cases h : u > 0
    · rw [if_pos h]
      exact ev_pos (by omega) (ev_const rfl)
    · rw [if_neg h]
      refine ev_neg (by omega) (ev_const ?_)
      rfl
  | succ j ih =>
    intro u S hu hj
    have e0 : (((j + 1 : Nat) : Int) - 1) = (j : Int) := by omega
    have e1 : IntKind.u64.wrap (Int.tdiv (u : Int) 256) = ((u / 256 : Nat) : Int) := by rw [Int.tdiv_eq_ediv_of_nonneg (by omega), wu64_id (by omega)]; omega
    have e2 : (Int.tmod (u : Int) 256) % 256 = ((u % 256 : Nat) : Int) := by rw [Int.tmod_eq_emod_of_nonneg (by omega)]; omega
    have e3 : wrap64 ((j : Int) - 1) = (j : Int) - 1 := wrap64_id (by omega)
    have e4 : (List.replicate (j + 1) (0 : Int) ++ S).set j ((u % 256 : Nat) : Int) = List.replicate j 0 ++ (((u % 256 : Nat) : Int) :: S) := by
      rw [List.replicate_succ', List.append_assoc, List.set_append_right _ _ (by simp)]
      simp
    rw [e0]
    refine Ev.step (fun k => by rw [cornucopiaref1_Fix.l0, e1, e2, e3, Int.toNat_natCast, e4]) ?_
    refine ev_pos (by omega) (ev_pos (by omega) (ev_pos (by simp; omega) ?_))
    have := ih (u / 256) (((u % 256 : Nat) : Int) :: S) (by omega) (by omega)
    rw [Nat.div_div_eq_div_mul, Nat.mul_comm, ← Nat.pow_succ] at this
    rw [show be (j + 1) u ++ S = be j (u / 256) ++ (((u % 256 : Nat) : Int) :: S) from by rw [be, List.append_assoc]; rfl]
    exact this
theorem both_Fix (v : Nat) (hv : v ≤ 18446744073709551615) (n : Int) : ∃ r, Ev (fun k => num_Fix.f k (v : Int) n) r ∧ Ev (fun k => cornucopiaref1_Fix.f k (v : Int) n) r := by
  have hno : Ev (fun k => cornucopiaref1_Fix.j0 k (v : Int) n true) (⟨#[]⟩, 1) := Ev.step (fun k => by rw [cornucopiaref1_Fix.j0]) (ev_pos rfl (ev_const rfl))
  by_cases h1 : n < 1
  · exact ⟨_, Fix_no (.inl h1), Ev.congr (fun k => by rw [cornucopiaref1_Fix.f]) (ev_pos h1 hno)⟩
  by_cases h8 : n > 8
  · refine ⟨_, Fix_no (.inr (.inl (by omega))), Ev.congr (fun k => by rw [cornucopiaref1_Fix.f]) (ev_neg h1 ?_)⟩
    rw [decide_eq_true h8]
    exact hno
  obtain ⟨m, rfl⟩ := Int.eq_ofNat_of_zero_le (show 0 ≤ n by omega)
  have hr : Ev (fun k => cornucopiaref1_Fix.f k (v : Int) (m : Int)) (if v / 256 ^ m > 0 then (⟨#[]⟩, 1) else (strOfNums (be m v), 0)) := by
    refine Ev.congr (fun k => by rw [cornucopiaref1_Fix.f]) (ev_neg h1 ?_)
    rw [decide_eq_false h8]
    have e3 : wrap64 ((m : Int) - 1) = (m : Int) - 1 := wrap64_id (by omega)
    refine Ev.step (fun k => by rw [cornucopiaref1_Fix.j0, e3, Int.toNat_natCast]) (ev_neg (by simp) (ev_pos (by omega) (ev_pos (by omega) ?_)))
    have := RFix_l0 m v [] hv (by omega)
    simpa using this
  by_cases hlt : v < 256 ^ m
  · rw [if_neg (by rw [Nat.div_eq_of_lt hlt]; omega)] at hr
    exact ⟨_, Fix_yes (by omega) (by omega) (.inr hlt), hr⟩
  · have hp : v / 256 ^ m > 0 := Nat.div_pos (by omega) (Nat.pow_pos (by decide))
    rw [if_pos hp] at hr
    refine ⟨_, Fix_no (.inr (.inr ⟨by omega, ?_, by rw [Int.toNat_natCast]; omega⟩)), hr⟩
    by_cases h : m = 8
    · subst h
      exact absurd hlt (by omega)
    · omega
theorem RUnfix_l0 (s : ByteArray) (at_ n : Nat) (hn : n ≤ 8) (ha : at_ + n ≤ s.size) (hs : s.size ≤ 9223372036854775807) (d : Nat) : ∀ i, i + d = n →
    Ev (fun k => cornucopiaref1_Unfix.l0 k s (at_ : Int) (n : Int) ((un (((bytesOf s).drop at_).take i) : Nat) : Int) (i : Int)) (((un (((bytesOf s).drop at_).take n) : Nat) : Int), 0) := by
  have hok : ∀ i, ok8 (((bytesOf s).drop at_).take i) := fun i x hx => ok8_of s x (List.mem_of_mem_drop (List.mem_of_mem_take hx))
  have hl := bytesOf_length s
  induction d with
  | zero =>
    intro i hi
    obtain rfl : i = n := by omega
    refine Ev.step (fun k => by rw [cornucopiaref1_Unfix.l0]) ?_
    exact ev_neg (by omega) (ev_const rfl)
  | succ d ih =>
    intro i hi
    have hlt : i < ((bytesOf s).drop at_).length := by rw [List.length_drop]; omega
    have ht : ((bytesOf s).drop at_).take (i + 1) = ((bytesOf s).drop at_).take i ++ [((bytesOf s).drop at_)[i]] := by rw [List.take_add_one, List.getElem?_eq_getElem hlt]; rfl
    have hb : bt s (((at_ + i : Nat)) : Int) = ((bytesOf s).drop at_)[i] := by rw [bt_eq]; simp [List.getD_eq_getElem?_getD, List.getElem?_eq_getElem (show at_ + i < (bytesOf s).length by omega)]
    have hr := ok8_of s ((bytesOf s).drop at_)[i] (List.mem_of_mem_drop (List.getElem_mem hlt))
    have hu := un_lt i (((bytesOf s).drop at_).take i) (hok i) (by rw [List.length_take]; omega)
    have hu8 : un (((bytesOf s).drop at_).take i) < 256 ^ 7 := Nat.lt_of_lt_of_le hu (Nat.pow_le_pow_right (by decide) (by omega))
    have hw : wrap64 ((at_ : Int) + (i : Int)) = ((at_ + i : Nat) : Int) := by rw [wrap64_id (by omega)]; omega
    have hw1 : wrap64 ((i : Int) + 1) = ((i + 1 : Nat) : Int) := by rw [wrap64_id (by omega)]; omega
    have hv : IntKind.u64.wrap (IntKind.u64.wrap (((un (((bytesOf s).drop at_).take i) : Nat) : Int) * 256) + IntKind.u64.wrap ((bytesOf s).drop at_)[i]) = ((un (((bytesOf s).drop at_).take (i + 1)) : Nat) : Int) := by
      rw [ht, un_app, wu64_id (x := (((un (((bytesOf s).drop at_).take i) : Nat) : Int) * 256)) (by omega), wu64_id (x := ((bytesOf s).drop at_)[i]) (by omega), wu64_id (by omega)]
      omega
    clear hu hu8 hr
    refine Ev.step (fun k => by rw [cornucopiaref1_Unfix.l0, hw, hb, hv, hw1]) ?_
    clear hv hb
    refine ev_pos (show (i : Int) < (n : Int) by omega) (ev_pos (show (0 : Int) ≤ ((at_ + i : Nat) : Int) by omega) (ev_pos (show ((at_ + i : Nat) : Int) < (s.size : Int) by omega) ?_))
    exact ih (i + 1) (by omega)
theorem both_Unfix (s : ByteArray) (hs : s.size ≤ 3000) (at_ n : Int) (ha : -9223372036854775808 ≤ at_ ∧ at_ ≤ 9223372036854775807) : ∃ r, Ev (fun k => num_Unfix.f k s at_ n) r ∧ Ev (fun k => cornucopiaref1_Unfix.f k s at_ n) r := by
  have n1 : ∀ b, b = true → Ev (fun k => num_Unfix.j0 k s at_ n b) (0, 1) := fun b hb => by subst hb; exact Ev.step (fun k => by rw [num_Unfix.j0]) (ev_pos rfl (ev_const rfl))
  have r1 : ∀ b, b = true → Ev (fun k => cornucopiaref1_Unfix.j0 k s at_ n b) (0, 1) := fun b hb => by subst hb; exact Ev.step (fun k => by rw [cornucopiaref1_Unfix.j0]) (ev_pos rfl (ev_const rfl))
  by_cases h1 : n < 1
  · exact ⟨_, Ev.congr (fun k => by rw [num_Unfix.f]) (ev_pos h1 (n1 _ rfl)), Ev.congr (fun k => by rw [cornucopiaref1_Unfix.f]) (ev_pos h1 (r1 _ rfl))⟩
  by_cases h8 : n > 8
  · exact ⟨_, Ev.congr (fun k => by rw [num_Unfix.f]) (ev_neg h1 (ev_pos h8 (n1 _ rfl))), Ev.congr (fun k => by rw [cornucopiaref1_Unfix.f]) (ev_neg h1 (ev_pos h8 (r1 _ rfl)))⟩
  by_cases h0 : at_ < 0
  · exact ⟨_, Ev.congr (fun k => by rw [num_Unfix.f]) (ev_neg h1 (ev_neg h8 (n1 _ (decide_eq_true h0)))), Ev.congr (fun k => by rw [cornucopiaref1_Unfix.f]) (ev_neg h1 (ev_neg h8 (r1 _ (decide_eq_true h0))))⟩
  obtain ⟨m, rfl⟩ := Int.eq_ofNat_of_zero_le (show 0 ≤ n by omega)
  obtain ⟨a, rfl⟩ := Int.eq_ofNat_of_zero_le (show 0 ≤ at_ by omega)
  have t1 : Ev (fun k => cornucopiaref1_Unfix.j1 k s (a : Int) (m : Int) true) (0, 5) := Ev.step (fun k => by rw [cornucopiaref1_Unfix.j1]) (ev_pos rfl (ev_const rfl))
  by_cases hle : a + m ≤ s.size
  · refine ⟨_, Unfix_yes s a m (by omega) (by omega) hle (by omega), Ev.congr (fun k => by rw [cornucopiaref1_Unfix.f]) (ev_neg h1 (ev_neg h8 ?_))⟩
    rw [decide_eq_false h0]
    refine Ev.step (fun k => by rw [cornucopiaref1_Unfix.j0]) (ev_neg (by simp) (ev_neg (by omega) ?_))
    rw [decide_eq_false (show ¬ ((a : Int) > wrap64 ((s.size : Int) - (m : Int))) by rw [wrap64_id (by omega)]; omega)]
    refine Ev.step (fun k => by rw [cornucopiaref1_Unfix.j1]) (ev_neg (by simp) ?_)
    have := RUnfix_l0 s a m (by omega) hle (by omega) m 0 (by omega)
    rw [List.take_zero] at this
    exact this
  · refine ⟨(0, 5), Ev.congr (fun k => by rw [num_Unfix.f]) (ev_neg h1 (ev_neg h8 ?_)), Ev.congr (fun k => by rw [cornucopiaref1_Unfix.f]) (ev_neg h1 (ev_neg h8 ?_))⟩
    · rw [decide_eq_false h0]
      refine Ev.step (fun k => by rw [num_Unfix.j0]) (ev_neg (by simp) ?_)
      by_cases q : (a : Int) > (s.size : Int)
      · exact ev_pos q (ev_const rfl)
      · refine ev_neg q (ev_pos ?_ (ev_const rfl))
        rw [wrap64_id (by omega)]; omega
    · rw [decide_eq_false h0]
      refine Ev.step (fun k => by rw [cornucopiaref1_Unfix.j0]) (ev_neg (by simp) ?_)
      by_cases q : (s.size : Int) < (m : Int)
      · exact ev_pos q t1
      · refine ev_neg q ?_
        rw [decide_eq_true (show (a : Int) > wrap64 ((s.size : Int) - (m : Int)) by rw [wrap64_id (by omega)]; omega)]
        exact t1
/-! ### numbers in groups, texts -/
theorem RVar_l0 (b : Nat) : ∀ (n : Nat) (acc : List Int), n < 128 ^ (b + 1) → n ≤ 18446744073709551615 → acc.length + b + 1 < 140737488355328 → Ev (fun k => cornucopiaref1_Var.l0 k (n : Int) acc) (strOfNums (acc ++ vb n)) := by
  have low : ∀ (n : Nat) (acc : List Int), n < 128 → acc.length + 1 < 140737488355328 → Ev (fun k => cornucopiaref1_Var.l0 k (n : Int) acc) (strOfNums (acc ++ vb n)) := by
    intro n acc h ha
    rw [vb_low h]
    refine Ev.step (fun k => by rw [cornucopiaref1_Var.l0]) (ev_neg (by omega) (ev_pos (by omega) (ev_const ?_)))
    rw [show ((n : Int) % 256) = n from by omega]
  induction b with
  | zero => intro n acc h _ ha; exact low n acc (by simpa using h) (by omega)
  | succ b ih =>
    intro n acc h hn ha
    by_cases h128 : n < 128
    · exact low n acc h128 (by omega)
    · have e1 : IntKind.u64.wrap (Int.tdiv (n : Int) 128) = ((n / 128 : Nat) : Int) := by rw [Int.tdiv_eq_ediv_of_nonneg (by omega), wu64_id (by omega)]; omega
      have e2 : ((Int.tmod (n : Int) 128) + 128) % 256 = ((n % 128 + 128 : Nat) : Int) := by rw [Int.tmod_eq_emod_of_nonneg (by omega)]; omega
      rw [vb_high h128]
      refine Ev.step (fun k => by rw [cornucopiaref1_Var.l0, e1, e2]) (ev_pos (by omega) (ev_pos (by omega) ?_))
      have := ih (n / 128) (acc ++ [((n % 128 + 128 : Nat) : Int)]) (by rw [Nat.pow_succ] at h; omega) (by omega) (by simp; omega)
      rw [List.append_assoc] at this
      exact this
theorem RVar_ev (n : Nat) (hn : n ≤ 18446744073709551615) : Ev (fun k => cornucopiaref1_Var.f k (n : Int)) (strOfNums (vb n)) := by
  have := RVar_l0 9 n [] (by omega) hn (by simp)
  exact Ev.congr (fun k => by rw [cornucopiaref1_Var.f]) this
theorem RText_ev (s : ByteArray) (hs : s.size ≤ 6000) : Ev (fun k => cornucopiaref1_Text.f k s) (strOfNums (vb s.size ++ bytesOf s)) := by
  have n1 := vb_len10 (n := s.size) (by omega)
  have e1 : IntKind.u64.wrap (s.size : Int) = (s.size : Int) := wu64_id (by omega)
  refine Ev.congr (fun k => by rw [cornucopiaref1_Text.f, e1]) ?_
  refine Ev.bind (RVar_ev s.size (by omega)) ?_
  refine ev_pos ?_ (ev_const ?_)
  · rw [S_size]; omega
  · rw [← S_append, S_of]
theorem RVars_l0 (l : List Int) (hl : u64s l) (hn : l.length ≤ 300) (d : Nat) : ∀ i (acc : List Int), i + d = l.length → acc.length ≤ 10 * i → Ev (fun k => cornucopiaref1_Vars.l0 k l acc (i : Int)) (strOfNums (acc ++ vbs (l.drop i))) := by
  induction d with
  | zero =>
    intro i acc hi ha
    rw [List.drop_of_length_le (by omega)]
    refine Ev.step (fun k => by rw [cornucopiaref1_Vars.l0]) (ev_neg (by omega) (ev_const ?_))
    simp [vbs]
  | succ d ih =>
    intro i acc hi ha
    have hlt : i < l.length := by omega
    have hx := hl l[i] (List.getElem_mem hlt)
    have n1 := vb_len10 (n := l[i].toNat) (by omega)
    have hv := RVar_ev l[i].toNat (by omega)
    rw [show ((l[i].toNat : Nat) : Int) = l[i] from by omega] at hv
    refine Ev.step (fun k => by rw [cornucopiaref1_Vars.l0, rd_nat l i hlt]) (ev_pos (by omega) (ev_pos (by omega) (Ev.bind hv ?_)))
    refine ev_pos ?_ ?_
    · rw [S_size]; omega
    rw [of_S (vb_ok _), wrap64_id (by omega), show ((i : Int) + 1) = ((i + 1 : Nat) : Int) from by omega]
    have := ih (i + 1) (acc ++ vb l[i].toNat) (by omega) (by simp; omega)
    rw [List.drop_eq_getElem_cons hlt, vbs_cons, ← List.append_assoc]
    exact this
theorem RVars_ev (l : List Int) (hl : u64s l) (hn : l.length ≤ 300) : Ev (fun k => cornucopiaref1_Vars.f k l) (strOfNums (vbs l)) := by
  have := RVars_l0 l hl hn l.length 0 [] (by omega) (by simp)
  exact Ev.congr (fun k => by rw [cornucopiaref1_Vars.f]; rfl) this
/-! ### signs -/
theorem RZig_eq {v : Int} (h : -9223372036854775808 ≤ v ∧ v ≤ 9223372036854775807) : cornucopiaref1_Zig.f v = some (zig v) := by
  unfold cornucopiaref1_Zig.f zig
  by_cases hn : v < 0
  · rw [if_pos hn, if_pos hn, wrap64_id (x := v + 1) (by omega), wrap64_id (x := -(v + 1)) (by omega), wu64_id (x := -(v + 1)) (by omega), wu64_id (x := -(v + 1) * 2) (by omega), wu64_id (by omega)]
    exact congrArg some (by omega)
  · rw [if_neg hn, if_neg hn, wu64_id (x := v) (by omega), wu64_id (by omega)]
    exact congrArg some (by omega)
theorem RZag_eq {u : Int} (h : 0 ≤ u ∧ u ≤ 18446744073709551615) : cornucopiaref1_Zag.f u = some (zag u) := by
  unfold cornucopiaref1_Zag.f zag
  rw [Int.tmod_eq_emod_of_nonneg h.1, Int.tdiv_eq_ediv_of_nonneg h.1, wu64_id (x := u / 2) (by omega), wrap64_id (x := u / 2) (by omega), wrap64_id (x := -(u / 2)) (by omega), wrap64_id (x := -(u / 2) - 1) (by omega)]
  split <;> rfl
end Go.Proofs.Ytkpjipfjhniddaa.PuNumT

namespace Go.Proofs.Ytkpjipfjhniddaa.Pure
open Go Go.RowKit Go.Proofs.Ytkpjipfjhniddaa.PNum Go.Proofs.Ytkpjipfjhniddaa.PuNum Go.Proofs.Ytkpjipfjhniddaa.PuRead Go.Proofs.Ytkpjipfjhniddaa.PuNum2 Go.Proofs.Ytkpjipfjhniddaa.PuDig Go.Proofs.Ytkpjipfjhniddaa.PuNumT Go.Proofs.YtkpjipfjhniddaaW.PrintWords Go.Proofs.YtkpjipfjhniddaaW.PrintLast Go.Proofs.YtkpjipfjhniddaaW.PrintMore Go.Proofs.YtkpjipfjhniddaaW.Pu
theorem number_l0 (s : ByteArray) (hs : s.size ≤ 3000) (b : Bool) (d : Nat) : ∀ (i : Nat) (x : Int), i + d = s.size →
    ∃ r, Ev (fun k => num_Number.l0 k s b x (s.size : Int) (i : Int)) r ∧ Ev (fun k => cornucopiaref1_Number.l0 k b s x (i : Int)) r := by
  induction d with
  | zero =>
    intro i x hi
    have h : ¬ (i : Int) < (s.size : Int) := by omega
    cases b with
    | true => exact ⟨_, Ev.step (fun k => by rw [num_Number.l0]) (ev_neg h (ev_pos rfl (ev_const rfl))), Ev.step (fun k => by rw [cornucopiaref1_Number.l0]) (ev_neg h (ev_pos rfl (ev_const rfl)))⟩
    | false => exact ⟨_, Ev.step (fun k => by rw [num_Number.l0]) (ev_neg h (ev_neg (by simp) (ev_const rfl))), Ev.step (fun k => by rw [cornucopiaref1_Number.l0]) (ev_neg h (ev_neg (by simp) (ev_const rfl)))⟩
  | succ d ih =>
    intro i x hi
    have h : (i : Int) < (s.size : Int) := by omega
    have h0 : (0 : Int) ≤ (i : Int) := by omega
    by_cases c1 : bt s (i : Int) < 48
    · exact ⟨_, Ev.step (fun k => by rw [num_Number.l0]) (ev_pos h (ev_pos h0 (ev_pos h (ev_pos c1 (ev_const rfl))))), Ev.step (fun k => by rw [cornucopiaref1_Number.l0]) (ev_pos h (ev_pos h0 (ev_pos c1 (ev_const rfl))))⟩
    by_cases c2 : bt s (i : Int) > 57
    · exact ⟨_, Ev.step (fun k => by rw [num_Number.l0]) (ev_pos h (ev_pos h0 (ev_pos h (ev_neg c1 (ev_pos c2 (ev_const rfl)))))), Ev.step (fun k => by rw [cornucopiaref1_Number.l0]) (ev_pos h (ev_pos h0 (ev_neg c1 (ev_pos c2 (ev_const rfl)))))⟩
    have hw : wrap64 ((i : Int) + 1) = ((i + 1 : Nat) : Int) := by rw [wrap64_id (by omega)]; omega
    obtain ⟨r, h1, h2⟩ := ih (i + 1) (wrap64 ((wrap64 (10 * x)) + (((bt s (i : Int)) - 48) % 256))) (by omega)
    refine ⟨r, Ev.step (fun k => by rw [num_Number.l0, hw]) (ev_pos h (ev_pos h0 (ev_pos h (ev_neg c1 (ev_neg c2 h1))))), Ev.step (fun k => by rw [cornucopiaref1_Number.l0, hw, Int.mul_comm x 10]) (ev_pos h (ev_pos h0 (ev_neg c1 (ev_neg c2 h2))))⟩
theorem number_rest (s : ByteArray) (hs : s.size ≤ 3000) (b : Bool) (a : ByteArray) (hp : strings_CutPrefix.f a (⟨#[45]⟩ : ByteArray) = some (s, b)) :
    ∃ r, Ev (fun k => num_Number.f k a) r ∧ Ev (fun k => cornucopiaref1_Number.j1 k b s) r := by
  have n1 : Ev (fun k => num_Number.j0 k s b true) (0, 1) := Ev.step (fun k => by rw [num_Number.j0]) (ev_pos rfl (ev_const rfl))
  have r1 : Ev (fun k => cornucopiaref1_Number.j2 k b s true) (0, 1) := Ev.step (fun k => by rw [cornucopiaref1_Number.j2]) (ev_pos rfl (ev_const rfl))
  obtain ⟨r, l1, l2⟩ := number_l0 s hs b s.size 0 0 (by omega)
  have n2 : Ev (fun k => num_Number.j0 k s b false) r := Ev.step (fun k => by rw [num_Number.j0]; rfl) (ev_neg (show ¬ (false = true) by simp) l1)
  have r2 : Ev (fun k => cornucopiaref1_Number.j2 k b s false) r := Ev.step (fun k => by rw [cornucopiaref1_Number.j2]; rfl) (ev_neg (show ¬ (false = true) by simp) l2)
  have hsz : s.toList = [] ↔ s.size < 1 := by
    rw [toList_data, ← List.length_eq_zero_iff]
    have : s.data.toList.length = s.size := by
      show s.data.toList.length = s.data.size
      simp
    omega
  by_cases h0 : s.size < 1
  · exact ⟨_, Ev.congr (fun k => by rw [num_Number.f]) (ev_call hp (ev_pos (hsz.2 h0) n1)), Ev.step (fun k => by rw [cornucopiaref1_Number.j1]) (ev_pos (by omega) r1)⟩
  have q0 : ¬ s.toList = [] := fun k => h0 (hsz.1 k)
  by_cases h18 : (s.size : Int) > 18
  · exact ⟨_, Ev.congr (fun k => by rw [num_Number.f]) (ev_call hp (ev_neg q0 (ev_pos h18 n1))), Ev.step (fun k => by rw [cornucopiaref1_Number.j1]) (ev_neg (by omega) (ev_pos h18 r1))⟩
  have hp0 : (0 : Int) < (s.size : Int) := by omega
  by_cases c : bt s 0 = 48
  · by_cases h1 : (s.size : Int) > 1
    · exact ⟨_, Ev.congr (fun k => by rw [num_Number.f]) (ev_call hp (ev_neg q0 (ev_neg h18 (ev_pos hp0 (ev_pos c (ev_pos h1 n1)))))), Ev.step (fun k => by rw [cornucopiaref1_Number.j1]) (ev_neg (by omega) (ev_neg h18 (ev_pos hp0 (ev_pos c (ev_pos h1 r1)))))⟩
    · cases b with
      | true => exact ⟨_, Ev.congr (fun k => by rw [num_Number.f]) (ev_call hp (ev_neg q0 (ev_neg h18 (ev_pos hp0 (ev_pos c (ev_neg h1 n1)))))), Ev.step (fun k => by rw [cornucopiaref1_Number.j1]) (ev_neg (by omega) (ev_neg h18 (ev_pos hp0 (ev_pos c (ev_neg h1 r1)))))⟩
      | false => exact ⟨_, Ev.congr (fun k => by rw [num_Number.f]) (ev_call hp (ev_neg q0 (ev_neg h18 (ev_pos hp0 (ev_pos c (ev_neg h1 n2)))))), Ev.step (fun k => by rw [cornucopiaref1_Number.j1]) (ev_neg (by omega) (ev_neg h18 (ev_pos hp0 (ev_pos c (ev_neg h1 r2)))))⟩
  · exact ⟨_, Ev.congr (fun k => by rw [num_Number.f]) (ev_call hp (ev_neg q0 (ev_neg h18 (ev_pos hp0 (ev_neg c n2))))), Ev.step (fun k => by rw [cornucopiaref1_Number.j1]) (ev_neg (by omega) (ev_neg h18 (ev_pos hp0 (ev_neg c r2))))⟩
theorem both_Number (a : ByteArray) (ha : a.size ≤ 3000) : ∃ r, Ev (fun k => num_Number.f k a) r ∧ Ev (fun k => cornucopiaref1_Number.f k a) r := by
  have hok := ok8_of a
  have hS := S_of a
  have hl := bytesOf_length a
  rw [← hS]
  rw [← hS, S_size] at ha
  cases hb : bytesOf a with
  | nil =>
    have hp : strings_CutPrefix.f (strOfNums []) (⟨#[45]⟩ : ByteArray) = some (strOfNums [], false) := pre_no (fun x hx => by cases hx)
    obtain ⟨r, h1, h2⟩ := number_rest _ (by decide) _ _ hp
    exact ⟨r, h1, Ev.congr (fun k => by rw [cornucopiaref1_Number.f]) (ev_neg (by decide) (Ev.step (fun k => by rw [cornucopiaref1_Number.j0]) (ev_neg (by simp) h2)))⟩
  | cons c t =>
    rw [hb] at hok ha
    have hbt : bt (strOfNums (c :: t)) 0 = c := by have := bt_S hok 0; simpa using this
    have hsz : (0 : Int) < ((strOfNums (c :: t)).size : Int) := by rw [S_size]; simp
    by_cases hc : c = 45
    · subst hc
      obtain ⟨r, h1, h2⟩ := number_rest _ (by rw [S_size]; simp at ha; omega) _ _ (pre_yes t)
      refine ⟨r, h1, Ev.congr (fun k => by rw [cornucopiaref1_Number.f, hbt, show ((45 : Int) == 45) = true from rfl]) (ev_pos hsz (ev_pos hsz ?_))⟩
      refine Ev.step (fun k => by rw [cornucopiaref1_Number.j0]) (ev_pos rfl (ev_pos (by omega) ?_))
      rw [S_extract, S_size]
      simpa using h2
    · have hf : stringslite_HasPrefix.f (strOfNums (c :: t)) (⟨#[45]⟩ : ByteArray) = some false := by
        have h1 : ((⟨#[45]⟩ : ByteArray).size : Int) = 1 := rfl
        unfold stringslite_HasPrefix.f
        rw [h1, if_pos (by omega), if_pos (by omega), if_pos (by omega), S_extract, S_toList, toList_data]
        have hc2 := hok c List.mem_cons_self
        refine congrArg some ?_
        rw [beq_eq_false_iff_ne]
        intro k
        have k2 := congrArg (List.map UInt8.toNat) k
        simp at k2
        omega
      have hp : strings_CutPrefix.f (strOfNums (c :: t)) (⟨#[45]⟩ : ByteArray) = some (strOfNums (c :: t), false) := by
        unfold strings_CutPrefix.f stringslite_CutPrefix.f
        rw [hf]
        rfl
      obtain ⟨r, h1, h2⟩ := number_rest _ (by rw [S_size]; exact ha) _ _ hp
      refine ⟨r, h1, Ev.congr (fun k => by rw [cornucopiaref1_Number.f, hbt, show (c == 45) = false from beq_eq_false_iff_ne.mpr hc]) (ev_pos hsz (ev_pos hsz ?_))⟩
      exact Ev.step (fun k => by rw [cornucopiaref1_Number.j0]) (ev_neg (by simp) h2)
/-! ### digits -/
def Ed (n : Nat) (acc : List Int) : List Int := if n = 0 then acc else ds n ++ acc
theorem Ed_step {n : Nat} (h : n ≠ 0) (acc : List Int) : Ed n acc = Ed (n / 10) ((48 + ((n % 10 : Nat) : Int)) :: acc) := by
  unfold Ed
  rw [if_neg h]
  by_cases h10 : n < 10
  · rw [if_pos (by omega), ds_low h10, show n % 10 = n from by omega]
    rfl
  · rw [if_neg (by omega), ds_high h10, List.append_assoc]
    rfl
theorem RDigits_l0 (a : Int) (b : Nat) : ∀ (x : Int) (acc : List Int), x.natAbs < 10 ^ b → -9223372036854775808 ≤ x ∧ x ≤ 9223372036854775807 → acc.length + b < 1000 → Ev (fun k => cornucopiaref1_Digits.l0 k a acc x) (strOfNums (if a < 0 then 45 :: Ed x.natAbs acc else Ed x.natAbs acc)) := by
  have fin : ∀ acc : List Int, acc.length < 1000 → Ev (fun k => cornucopiaref1_Digits.l0 k a acc 0) (strOfNums (if a < 0 then 45 :: Ed (0 : Int).natAbs acc else Ed (0 : Int).natAbs acc)) := by
    intro acc h
    have e : Ed (0 : Int).natAbs acc = acc := rfl
    rw [e]
    refine Ev.step (fun k => by rw [cornucopiaref1_Digits.l0]) (ev_pos rfl ?_)
    by_cases ha : a < 0
    · rw [show (if a < 0 then 45 :: acc else acc) = 45 :: acc from if_pos ha]
      refine ev_pos ha ?_
      refine ev_some (x := [45]) ?_
      exact ev_pos (by simp; omega) (ev_const rfl)
    · rw [show (if a < 0 then 45 :: acc else acc) = acc from if_neg ha]
      exact ev_neg ha (ev_const rfl)
  induction b with
  | zero =>
    intro x acc h _ hl
    obtain rfl : x = 0 := by simp at h; omega
    exact fin acc (by omega)
  | succ b ih =>
    intro x acc h hx hl
    by_cases h0 : x = 0
    · subst h0
      exact fin acc (by omega)
    have hm : Int.tmod x 10 = if x < 0 then -((x.natAbs % 10 : Nat) : Int) else ((x.natAbs % 10 : Nat) : Int) := by
      rcases Int.natAbs_eq x with e | e
      · rw [if_neg (by omega), Int.tmod_eq_emod_of_nonneg (by omega)]; omega
      · rw [if_pos (by omega)]
        rw [show x = -((x.natAbs : Nat) : Int) from e, Int.neg_tmod, Int.tmod_eq_emod_of_nonneg (by omega)]
        simp
    have hd : wrap64 (Int.tdiv x 10) = if x < 0 then -((x.natAbs / 10 : Nat) : Int) else ((x.natAbs / 10 : Nat) : Int) := by
      rcases Int.natAbs_eq x with e | e
      · rw [if_neg (by omega), Int.tdiv_eq_ediv_of_nonneg (by omega), wrap64_id (by omega)]; omega
      · have : Int.tdiv x 10 = -((x.natAbs / 10 : Nat) : Int) := by
          rw [show x = -((x.natAbs : Nat) : Int) from e, Int.neg_tdiv, Int.tdiv_eq_ediv_of_nonneg (by omega)]
          simp
        rw [if_pos (by omega), this, wrap64_id (by omega)]
    have hn : (wrap64 (Int.tdiv x 10)).natAbs = x.natAbs / 10 := by rw [hd]; split <;> omega
    have hr : -9223372036854775808 ≤ wrap64 (Int.tdiv x 10) ∧ wrap64 (Int.tdiv x 10) ≤ 9223372036854775807 := by rw [hd]; split <;> omega
    have := ih (wrap64 (Int.tdiv x 10)) ((48 + ((x.natAbs % 10 : Nat) : Int)) :: acc) (by rw [hn]; rw [Nat.pow_succ] at h; omega) hr (by simp; omega)
    rw [hn, ← Ed_step (by omega)] at this
    refine Ev.step (fun k => by rw [cornucopiaref1_Digits.l0]) (ev_neg h0 ?_)
    by_cases hs : Int.tmod x 10 < 0
    · refine ev_pos hs ?_
      have e1 : (wrap64 (48 + (wrap64 (-(Int.tmod x 10))))) % 256 = 48 + ((x.natAbs % 10 : Nat) : Int) := by
        have : -(Int.tmod x 10) = ((x.natAbs % 10 : Nat) : Int) := by rw [hm] at hs ⊢; split at hs <;> split <;> omega
        rw [this, wrap64_id (x := ((x.natAbs % 10 : Nat) : Int)) (by omega), wrap64_id (by omega)]; omega
      rw [e1]
      refine ev_some (x := [48 + ((x.natAbs % 10 : Nat) : Int)]) ?_
      exact ev_pos (by simp; omega) this
    · refine ev_neg hs ?_
      have e1 : (wrap64 (48 + (Int.tmod x 10))) % 256 = 48 + ((x.natAbs % 10 : Nat) : Int) := by
        have : Int.tmod x 10 = ((x.natAbs % 10 : Nat) : Int) := by rw [hm] at hs ⊢; split at hs <;> split <;> omega
        rw [this, wrap64_id (by omega)]; omega
      rw [e1]
      refine ev_some (x := [48 + ((x.natAbs % 10 : Nat) : Int)]) ?_
      exact ev_pos (by simp; omega) this
theorem RDigits_ev {a : Int} (h : -9223372036854775808 ≤ a ∧ a ≤ 9223372036854775807) : Ev (fun k => cornucopiaref1_Digits.f k a) (strOfNums (D a)) := by
  refine Ev.congr (fun k => by rw [cornucopiaref1_Digits.f]) ?_
  by_cases h0 : a = 0
  · subst h0
    refine ev_pos rfl (ev_const ?_)
    have : D 0 = [48] := by unfold D; rw [if_neg (by omega), show (0 : Int).natAbs = 0 from rfl, ds_low (by omega)]; rfl
    rw [this]
    rfl
  · refine ev_neg h0 ?_
    have := RDigits_l0 a 20 a [] (by omega) h (by simp)
    have e : Ed a.natAbs [] = ds a.natAbs := by unfold Ed; rw [if_neg (by omega), List.append_nil]
    rw [e] at this
    exact this
/-! ### the law -/
theorem SameT_l0 (l : List ByteArray) (hl : l.length ≤ 9223372036854775806) (d : Nat) : ∀ i, i + d = l.length → Ev (fun k => cornucopiabook_SameTexts.l0 k l l (i : Int)) true := by
  induction d with
  | zero =>
    intro i hi
    refine Ev.step (fun k => by rw [cornucopiabook_SameTexts.l0]) ?_
    exact ev_neg (show ¬ (i : Int) < (l.length : Int) by omega) (ev_const rfl)
  | succ d ih =>
    intro i hi
    refine Ev.step (fun k => by rw [cornucopiabook_SameTexts.l0]) ?_
    refine ev_pos (show (i : Int) < (l.length : Int) by omega) (ev_pos (by omega) (ev_pos (show (i : Int) < (l.length : Int) by omega) (ev_pos rfl ?_)))
    rw [wrap64_id (by omega), show ((i : Int) + 1) = ((i + 1 : Nat) : Int) from by omega]
    exact ih (i + 1) (by omega)
theorem SameN_l0 (l : List Int) (hl : l.length ≤ 9223372036854775806) (d : Nat) : ∀ i, i + d = l.length → Ev (fun k => cornucopiabook_SameNums.l0 k l l (i : Int)) true := by
  induction d with
  | zero =>
    intro i hi
    refine Ev.step (fun k => by rw [cornucopiabook_SameNums.l0]) ?_
    exact ev_neg (show ¬ (i : Int) < (l.length : Int) by omega) (ev_const rfl)
  | succ d ih =>
    intro i hi
    refine Ev.step (fun k => by rw [cornucopiabook_SameNums.l0]) ?_
    refine ev_pos (show (i : Int) < (l.length : Int) by omega) (ev_pos (by omega) (ev_pos (show (i : Int) < (l.length : Int) by omega) (ev_pos rfl ?_)))
    rw [wrap64_id (by omega), show ((i : Int) + 1) = ((i + 1 : Nat) : Int) from by omega]
    exact ih (i + 1) (by omega)
theorem StaysT_ev (l : List ByteArray) (hl : l.length ≤ 300) : Ev (fun k => cornucopiabook_StaysTexts.f k l l) true := by
  refine Ev.congr (fun k => by rw [cornucopiabook_StaysTexts.f]) (ev_pos (by omega) ?_)
  refine Ev.congr (fun k => by rw [cornucopiabook_SameTexts.f]) (ev_pos rfl ?_)
  exact SameT_l0 l (by omega) l.length 0 (by omega)
theorem StaysN_ev (l : List Int) (hl : l.length ≤ 300) : Ev (fun k => cornucopiabook_StaysNums.f k l l) true := by
  refine Ev.congr (fun k => by rw [cornucopiabook_StaysNums.f]) (ev_pos (by omega) ?_)
  refine Ev.congr (fun k => by rw [cornucopiabook_SameNums.f]) (ev_pos rfl ?_)
  exact SameN_l0 l (by omega) l.length 0 (by omega)
theorem LentT_eq (l : List ByteArray) (hl : l.length ≤ 300) : cornucopiabook_LentTexts.f l = some l := by
  unfold cornucopiabook_LentTexts.f
  rw [if_pos (by simp; omega)]
  simp only [Option.bind_some, List.nil_append]
  rw [if_pos (by omega), if_pos (by omega), if_pos (by simp only [List.length_append, List.length_singleton]; omega), show ((l.length : Int) : Int).toNat = l.length from by omega, List.take_left']
  rfl
theorem LentN_eq (l : List Int) (hl : l.length ≤ 300) : cornucopiabook_LentNums.f l = some l := by
  unfold cornucopiabook_LentNums.f
  rw [if_pos (by simp; omega)]
  simp only [Option.bind_some, List.nil_append]
  rw [if_pos (by omega), if_pos (by omega), if_pos (by simp only [List.length_append, List.length_singleton]; omega), show ((l.length : Int) : Int).toNat = l.length from by omega, List.take_left']
  rfl
theorem tells_l0 (v i n : Int) (hv : 0 ≤ v ∧ v ≤ 18446744073709551615) (hi : -9223372036854775808 ≤ i ∧ i ≤ 9223372036854775807) (l : List Int) (hl : u64s l) (hln : l.length ≤ 300) (t : List ByteArray) (hs : ∀ s ∈ t, s.size ≤ 6000) (ht : t.length ≤ 100) (hroom : room t ≤ 7000)
    (r1 : ByteArray × Int) (r2 r3 : Int × Int) (d : Nat) : ∀ j, j + d = t.length → Ev (fun k => cornucopialaw1_NumTells.l0 k v i n l t r1.1 r1.2 r1.1 r1.2 r2.1 r2.2 r2.1 r2.2 r3.1 r3.2 r3.1 r3.2 l t (strOfNums (tx (t.take j))) (j : Int)) true := by
  have htl := tx_len t (by omega)
  induction d with
  | zero =>
    intro j hj
    rw [List.take_of_length_le (by omega)]
    refine Ev.step (fun k => by rw [cornucopialaw1_NumTells.l0]) ?_
    refine ev_neg (show ¬ (j : Int) < (t.length : Int) by omega) (Ev.bind alive_ev (ev_pos rfl (ev_pos rfl (ev_pos rfl (ev_pos rfl (ev_pos rfl (ev_pos rfl (ev_pos rfl ?_))))))))
    refine Ev.bind (PuNum.Var_ev hl (by omega)) (Ev.bind (RVars_ev l hl hln) (ev_pos rfl ?_))
    refine Ev.bind (PuNum2.Text_ev t (by omega)) (ev_pos rfl ?_)
    refine ev_call (Zig_eq hi) (ev_call (RZig_eq hi) (ev_pos rfl ?_))
    refine ev_call (Zag_eq hv) (ev_call (RZag_eq hv) (ev_pos rfl ?_))
    refine ev_call (Digits_eq hi) (Ev.bind (RDigits_ev hi) (ev_pos rfl ?_))
    have hb : ∃ r, num_Bool.f (decide (n > 0)) = some r ∧ cornucopiaref1_Bool.f (decide (n > 0)) = some r := by
      unfold num_Bool.f cornucopiaref1_Bool.f
      cases decide (n > 0) with
      | true => exact ⟨_, rfl, rfl⟩
      | false => exact ⟨_, rfl, rfl⟩
    obtain ⟨r, h1, h2⟩ := hb
    refine ev_call h1 (ev_call h2 (ev_pos rfl ?_))
    exact Ev.bind (StaysN_ev l hln) (ev_pos rfl (Ev.bind (StaysT_ev t (by omega)) (ev_const rfl)))
  | succ d ih =>
    intro j hj
    have hlt : j < t.length := by omega
    have hsz := hs t[j] (List.getElem_mem hlt)
    have ht2 : tx (t.take (j + 1)) = tx (t.take j) ++ (vb t[j].size ++ bytesOf t[j]) := by
      rw [List.take_add_one, List.getElem?_eq_getElem hlt]
      unfold tx
      rw [List.flatMap_append]
      simp only [Option.toList, List.flatMap_cons, List.flatMap_nil, List.append_nil]
    have hle : (tx (t.take (j + 1))).length ≤ (tx t).length := by
      have : tx t = tx (t.take (j + 1)) ++ tx (t.drop (j + 1)) := by
        unfold tx
        rw [← List.flatMap_append, List.take_append_drop]
      rw [this, List.length_append]
      omega
    have hle2 := hle
    rw [ht2, List.length_append] at hle2
    refine Ev.step (fun k => by rw [cornucopialaw1_NumTells.l0, rdOf_nat t j hlt]) ?_
    refine ev_pos (show (j : Int) < (t.length : Int) by omega) (ev_pos (by omega) (Ev.bind (RText_ev t[j] hsz) ?_))
    refine ev_pos ?_ ?_
    · rw [S_size, S_size]; omega
    rw [S_append, ← ht2, wrap64_id (by omega), show ((j : Int) + 1) = ((j + 1 : Nat) : Int) from by omega]
    exact ih (j + 1) (by omega)
theorem NumTells : cornucopialaw1_NumTells.Pure := by
  intro v i n at_ b l t hv hi hn hat hb hl hlw ht htw
  have gv := u64_wf hv
  have gi := i64_wf hi
  have ga := i64_wf hat
  have hu : u64s l := fun x hx => u64_wf (hlw x hx)
  refine Ev.rounds (Ev.congr (fun k => by rw [cornucopialaw1_NumTells.f]) ?_)
  have hskip : Ev (fun k => cornucopialaw1_NumTells.j0 k v i n at_ b l t true) true :=
    Ev.step (fun k => by rw [cornucopialaw1_NumTells.j0]) (ev_pos rfl (Ev.bind alive_ev (ev_const rfl)))
  by_cases h1 : (b.size : Int) > 3000
  · exact ev_pos h1 hskip
  refine ev_neg h1 ?_
  by_cases h2 : (l.length : Int) > 300
  · exact ev_pos h2 hskip
  refine ev_neg h2 (Ev.bind (Short_ev 100 6000 t (by omega) (by omega)) ?_)
  by_cases hsh : (t.length : Int) ≤ 100 ∧ sizes t ≤ 6000
  · rw [decide_eq_true hsh]
    have hroom := room_eq t
    have hs : ∀ s ∈ t, s.size ≤ 6000 := fun s hs => by have := sizes_mem hs; omega
    obtain ⟨m, rfl⟩ := Int.eq_ofNat_of_zero_le gv.1
    obtain ⟨r1, f1, f2⟩ := both_Fix m (by omega) n
    obtain ⟨r2, u1, u2⟩ := both_Unfix b (by omega) at_ n ga
    obtain ⟨r3, d1, d2⟩ := both_Number b (by omega)
    refine Ev.step (fun k => by rw [cornucopialaw1_NumTells.j0]) (ev_neg (by simp) ?_)
    refine Ev.bind f1 (Ev.bind f2 (Ev.bind u1 (Ev.bind u2 (Ev.bind d1 (Ev.bind d2 (ev_call (LentN_eq l (by omega)) (ev_call (LentT_eq t (by omega)) ?_)))))))
    have := tells_l0 (m : Int) i n gv gi l hu (by omega) t hs (by omega) (by omega) r1 r2 r3 t.length 0 (by omega)
    exact this
  · rw [decide_eq_false hsh]
    exact hskip
end Go.Proofs.Ytkpjipfjhniddaa.Pure
