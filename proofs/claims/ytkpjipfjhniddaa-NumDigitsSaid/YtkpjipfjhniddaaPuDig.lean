/- Digits and Number in plain numbers: a number's digits, and what is read of digits. -/
import Derived.Test.YtkpjipfjhniddaaPNumx3
import Derived.Test.YtkpjipfjhniddaaPNumx8
import Derived.Test.YtkpjipfjhniddaaPNumx9
import Derived.Test.YtkpjipfjhniddaaWPu
namespace Go.Proofs.Ytkpjipfjhniddaa.PuDig
open Go Go.RowKit Go.Proofs.Ytkpjipfjhniddaa.PNum Go.Proofs.YtkpjipfjhniddaaW.PrintWords Go.Proofs.YtkpjipfjhniddaaW.PrintLast Go.Proofs.YtkpjipfjhniddaaW.PrintMore Go.Proofs.YtkpjipfjhniddaaW.Pu

def ds (n : Nat) : List Int := num_Digits.dg n []
theorem dg_app (n : Nat) : ∀ acc, num_Digits.dg n acc = ds n ++ acc := by
  induction n using Nat.strongRecOn with
  | _ n ih =>
    intro acc
    by_cases h : n < 10
    · unfold ds; rw [num_Digits.dg, if_pos h, num_Digits.dg, if_pos h]; rfl
    · unfold ds
      rw [num_Digits.dg, if_neg h]
      rw [show num_Digits.dg n [] = num_Digits.dg (n / 10) [48 + ((n % 10 : Nat) : Int)] from by rw [num_Digits.dg, if_neg h]]
      rw [ih (n / 10) (by omega), ih (n / 10) (by omega)]
      simp
theorem ds_low {n : Nat} (h : n < 10) : ds n = [48 + (n : Int)] := by unfold ds; rw [num_Digits.dg, if_pos h]
theorem ds_high {n : Nat} (h : ¬ n < 10) : ds n = ds (n / 10) ++ [48 + ((n % 10 : Nat) : Int)] := by
  rw [show ds n = num_Digits.dg (n / 10) [48 + ((n % 10 : Nat) : Int)] from by unfold ds; rw [num_Digits.dg, if_neg h]]
  exact dg_app _ _
def digs (l : List Int) : Prop := ∀ x ∈ l, 48 ≤ x ∧ x ≤ 57
theorem ds_digs (n : Nat) : digs (ds n) := by
  induction n using Nat.strongRecOn with
  | _ n ih =>
    by_cases h : n < 10
    · rw [ds_low h]; intro x hx; simp at hx; omega
    · rw [ds_high h]
      intro x hx
      rcases List.mem_append.1 hx with hx | hx
      · exact ih (n / 10) (by omega) x hx
      · simp at hx; omega
theorem digs_ok {l : List Int} (h : digs l) : ok8 l := fun x hx => by have := h x hx; omega
/-- What digits say, behind a number. -/
def fold (v : Int) (l : List Int) : Int := l.foldl (fun v x => 10 * v + (x - 48)) v
theorem fold_app (v : Int) (a b : List Int) : fold v (a ++ b) = fold (fold v a) b := by simp [fold]
theorem fold_one (v x : Int) : fold v [x] = 10 * v + (x - 48) := rfl
theorem fold_bd (l : List Int) (h : digs l) : ∀ v : Int, v * 10 ^ l.length ≤ fold v l ∧ fold v l < (v + 1) * 10 ^ l.length := by
  induction l with
  | nil => intro v; simp [fold]; omega
  | cons x l ih =>
    intro v
    have hx := h x (by simp)
    have := ih (fun y hy => h y (by simp [hy])) (10 * v + (x - 48))
    have e : fold v (x :: l) = fold (10 * v + (x - 48)) l := rfl
    rw [e, List.length_cons]
    have hp : (10 : Int) ^ (l.length + 1) = 10 * 10 ^ l.length := by rw [Int.pow_succ, Int.mul_comm]
    rw [hp]
    have hq : (0 : Int) ≤ 10 ^ l.length := Int.pow_nonneg (by decide)
    generalize (10 : Int) ^ l.length = q at *
    constructor
    · refine Int.le_trans ?_ this.1
      rw [show v * (10 * q) = (10 * v) * q from by rw [← Int.mul_assoc, Int.mul_comm v 10]]
      exact Int.mul_le_mul_of_nonneg_right (by omega) hq
    · refine Int.lt_of_lt_of_le this.2 ?_
      rw [show (v + 1) * (10 * q) = (10 * (v + 1)) * q from by rw [← Int.mul_assoc, Int.mul_comm (v + 1) 10]]
      exact Int.mul_le_mul_of_nonneg_right (by omega) hq
theorem ds_val (n : Nat) : fold 0 (ds n) = n := by
  induction n using Nat.strongRecOn with
  | _ n ih =>
    by_cases h : n < 10
    · rw [ds_low h, fold_one]; omega
    · rw [ds_high h, fold_app, ih (n / 10) (by omega), fold_one]; omega
theorem ds_pos (n : Nat) : 0 < (ds n).length := by
  by_cases h : n < 10
  · rw [ds_low h]; simp
  · rw [ds_high h]; simp
theorem ds_len (k : Nat) : ∀ n, n < 10 ^ (k + 1) → (ds n).length ≤ k + 1 := by
  induction k with
  | zero => intro n h; rw [ds_low (by simpa using h)]; simp
  | succ k ih =>
    intro n h
    by_cases hn : n < 10
    · rw [ds_low hn]; simp
    · rw [ds_high hn, List.length_append]
      have := ih (n / 10) (by rw [Nat.pow_succ] at h; omega)
      simp
      omega
theorem ds_many (k : Nat) : ∀ n, 10 ^ k ≤ n → k < (ds n).length := by
  induction k with
  | zero => intro n _; exact ds_pos n
  | succ k ih =>
    intro n h
    have h10 : ¬ n < 10 := by
      have : (10 : Nat) ^ (k + 1) = 10 * 10 ^ k := by rw [Nat.pow_succ, Nat.mul_comm]
      have hp : 0 < (10 : Nat) ^ k := Nat.pow_pos (by decide)
      omega
    rw [ds_high h10, List.length_append]
    have := ih (n / 10) (by rw [Nat.pow_succ] at h; omega)
    simp
    omega
theorem ds_head (n : Nat) (h : 0 < n) : ∃ x t, ds n = x :: t ∧ 49 ≤ x ∧ x ≤ 57 := by
  induction n using Nat.strongRecOn with
  | _ n ih =>
    by_cases hn : n < 10
    · exact ⟨_, [], ds_low hn, by omega, by omega⟩
    · obtain ⟨x, t, e, hx⟩ := ih (n / 10) (by omega) (by omega)
      exact ⟨x, _, by rw [ds_high hn, e]; rfl, hx⟩
/-- A number's digits. -/
def D (a : Int) : List Int := if a < 0 then 45 :: ds a.natAbs else ds a.natAbs
theorem D_ok (a : Int) : ok8 (D a) := by
  unfold D
  split
  · exact ok8_cons (by omega) (digs_ok (ds_digs _))
  · exact digs_ok (ds_digs _)
theorem D_inj {a b : Int} (h : D a = D b) : a = b := by
  have lt45 : ∀ n t, ds n ≠ 45 :: t := fun n t e => by
    have := ds_digs n 45 (by rw [e]; simp)
    omega
  have inj : ∀ n m, ds n = ds m → n = m := fun n m e => by
    have := congrArg (fold 0) e
    rw [ds_val, ds_val] at this
    omega
  unfold D at h
  split at h <;> split at h
  · have := inj _ _ (List.cons.inj h).2
    omega
  · exact absurd h.symm (lt45 _ _)
  · exact absurd h (lt45 _ _)
  · have := inj _ _ h
    omega
theorem Digits_eq {a : Int} (h : -9223372036854775808 ≤ a ∧ a ≤ 9223372036854775807) : num_Digits.f a = some (strOfNums (D a)) := by
  unfold num_Digits.f
  rw [if_pos h]
  rfl
theorem Digits_cmp {a b : Int} : ((strOfNums (D a)).toList == (strOfNums (D b)).toList) = (a == b) := by
  rw [Bool.eq_iff_iff, beq_iff_eq, beq_iff_eq]
  refine ⟨fun h => D_inj (S_inj (D_ok a) (D_ok b) ?_), fun h => by rw [h]⟩
  rw [toList_data, toList_data] at h
  exact ByteArray.ext (Array.ext' h)

/-! ### Number -/
theorem Number_l0 (l : List Int) (h : digs l) (hl : l.length ≤ 18) (b : Bool) (d : Nat) : ∀ (i : Nat), i + d = l.length →
    Ev (fun k => num_Number.l0 k (strOfNums l) b (fold 0 (l.take i)) (l.length : Int) (i : Int)) (if b = true then -fold 0 l else fold 0 l, 0) := by
  have big : ∀ i, i ≤ l.length → 0 ≤ fold 0 (l.take i) ∧ fold 0 (l.take i) < 1000000000000000000 := by
    intro i hi
    have h1 := fold_bd (l.take i) (fun x hx => h x (List.mem_of_mem_take hx)) 0
    rw [List.length_take, Nat.min_eq_left hi] at h1
    have h2 : (10 : Int) ^ i ≤ 10 ^ 18 := by
      have := Nat.pow_le_pow_right (n := 10) (by decide) (show i ≤ 18 by omega)
      exact_mod_cast this
    simp only [Int.zero_mul, Int.zero_add, Int.one_mul] at h1
    have h3 : (10 : Int) ^ 18 = 1000000000000000000 := by decide
    omega
  induction d with
  | zero =>
    intro i hi
    refine Ev.step (fun k => by rw [num_Number.l0]) ?_
    have e : l.take i = l := List.take_of_length_le (by omega)
    refine ev_neg (by omega) ?_
    have hb := big i (by omega)
    rw [e] at hb ⊢
    cases b with
    | true => refine ev_pos rfl (ev_const ?_); rw [wrap64_id (by omega)]; rfl
    | false => exact ev_neg (by simp) (ev_const rfl)
  | succ d ih =>
    intro i hi
    have hlt : i < l.length := by omega
    have hx := h l[i] (List.getElem_mem hlt)
    have hb := big i (by omega)
    have hb2 := big (i + 1) (by omega)
    have et : l.take (i + 1) = l.take i ++ [l[i]] := by rw [List.take_succ_eq_append_getElem hlt]
    have ebt : bt (strOfNums l) (i : Int) = l[i] := by
      rw [bt_S (digs_ok h)]
      simp [List.getD_eq_getElem?_getD, List.getElem?_eq_getElem hlt]
    have ef : fold 0 (l.take (i + 1)) = 10 * fold 0 (l.take i) + (l[i] - 48) := by rw [et, fold_app, fold_one]
    refine Ev.step (fun k => by rw [num_Number.l0, ebt]) ?_
    refine ev_pos (by omega) (ev_pos (by omega) (ev_pos (by rw [S_size]; omega) (ev_neg (by omega) (ev_neg (by omega) ?_))))
    rw [show wrap64 (wrap64 (10 * fold 0 (l.take i)) + (l[i] - 48) % 256) = fold 0 (l.take (i + 1)) from ?_, wrap64_id (by omega), show ((i : Int) + 1) = ((i + 1 : Nat) : Int) from by omega]
    · exact ih (i + 1) (by omega)
    · rw [ef]
      rw [ef] at hb2
      rw [wrap64_id (x := 10 * fold 0 (l.take i)) (by omega), show (l[i] - 48) % 256 = l[i] - 48 from by omega]
      exact wrap64_id (by omega)
theorem pre_no {l : List Int} (h : digs l) : strings_CutPrefix.f (strOfNums l) (⟨#[45]⟩ : ByteArray) = some (strOfNums l, false) := by
  have hf : stringslite_HasPrefix.f (strOfNums l) (⟨#[45]⟩ : ByteArray) = some false := by
    unfold stringslite_HasPrefix.f
    have h1 : ((⟨#[45]⟩ : ByteArray).size : Int) = 1 := rfl
    rw [h1]
    split
    · rename_i hge
      (try rw [if_pos (by omega)])
      (try rw [if_pos (by omega)])
      rw [S_extract, S_toList]
      cases l with
      | nil => simp [S_size] at hge
      | cons x t =>
        have hx := h x (by simp)
        have h2 : (⟨#[45]⟩ : ByteArray).toList = [45] := by rw [toList_data]
        rw [h2]
        simp
        intro e
        have : (UInt8.ofNat x.toNat).toNat = 45 := by rw [e]; rfl
        rw [UInt8.toNat_ofNat'] at this
        omega
    · rfl
  unfold strings_CutPrefix.f stringslite_CutPrefix.f
  rw [hf]
  rfl
theorem pre_yes (l : List Int) : strings_CutPrefix.f (strOfNums (45 :: l)) (⟨#[45]⟩ : ByteArray) = some (strOfNums l, true) := by
  have h1 : ((⟨#[45]⟩ : ByteArray).size : Int) = 1 := rfl
  have hs : ((strOfNums (45 :: l)).size : Int) = l.length + 1 := by rw [S_size]; simp
  have hf : stringslite_HasPrefix.f (strOfNums (45 :: l)) (⟨#[45]⟩ : ByteArray) = some true := by
    unfold stringslite_HasPrefix.f
    rw [h1, hs, if_pos (by omega), if_pos (by omega), if_pos (by omega), S_extract, S_toList, toList_data]
    rfl
  unfold strings_CutPrefix.f stringslite_CutPrefix.f
  rw [hf]
  simp only [Option.bind_some, if_true]
  rw [h1, hs, if_pos (by omega), if_pos (by omega), S_extract]
  simp [S_size]
/-- Digits alone, behind the sign. -/
theorem Number_of (s : ByteArray) (b : Bool) (l : List Int) (h : digs l) (hp : strings_CutPrefix.f s (⟨#[45]⟩ : ByteArray) = some (strOfNums l, b)) (h0 : 0 < l.length)
    (hz : (∃ x t, l = x :: t ∧ 49 ≤ x ∧ x ≤ 57) ∨ (l = [48] ∧ b = false)) :
    Ev (fun k => num_Number.f k s) (if l.length ≤ 18 then (if b = true then -fold 0 l else fold 0 l, 0) else (0, 1)) := by
  refine Ev.congr (fun k => by rw [num_Number.f]) (ev_call hp ?_)
  refine ev_neg ?_ ?_
  · rw [S_toList]
    intro e
    rw [List.map_eq_nil_iff] at e
    rw [e] at h0
    simp at h0
  simp only [S_size]
  have hj : Ev (fun k => num_Number.j0 k (strOfNums l) b true) (0, 1) := Ev.step (fun k => by rw [num_Number.j0]) (ev_pos rfl (ev_const rfl))
  by_cases h18 : l.length ≤ 18
  · rw [if_pos h18]
    refine ev_neg (by omega) (ev_pos (by omega) ?_)
    have hgo : Ev (fun k => num_Number.j0 k (strOfNums l) b false) (if b = true then -fold 0 l else fold 0 l, 0) := by
      refine Ev.step (fun k => by rw [num_Number.j0, S_size]) (ev_neg (by simp) ?_)
      exact Number_l0 l h h18 b l.length 0 (by omega)
    rcases hz with ⟨x, t, rfl, hx⟩ | ⟨rfl, rfl⟩
    · refine ev_neg ?_ hgo
      have := bt_S (digs_ok h) 0
      simp at this
      rw [this]
      omega
    · refine ev_pos ?_ (ev_neg (by decide) hgo)
      have := bt_S (digs_ok h) 0
      simpa using this
  · rw [if_neg h18]
    exact ev_pos (by omega) hj
theorem Number_D {a : Int} : Ev (fun k => num_Number.f k (strOfNums (D a))) (if -1000000000000000000 < a ∧ a < 1000000000000000000 then (a, 0) else (0, 1)) := by
  have hlen : (ds a.natAbs).length ≤ 18 ↔ (-1000000000000000000 < a ∧ a < 1000000000000000000) := by
    constructor
    · intro h
      by_cases hb : 10 ^ 18 ≤ a.natAbs
      · have := ds_many 18 _ hb
        omega
      · omega
    · intro h
      exact ds_len 17 _ (by omega)
  have hv := ds_val a.natAbs
  have en : a < 0 → -((a.natAbs : Nat) : Int) = a := by omega
  have ep : ¬ a < 0 → ((a.natAbs : Nat) : Int) = a := by omega
  have hz : (∃ x t, ds a.natAbs = x :: t ∧ 49 ≤ x ∧ x ≤ 57) ∨ (ds a.natAbs = [48] ∧ a = 0) := by
    by_cases h0 : 0 < a.natAbs
    · exact .inl (ds_head _ h0)
    · have : a = 0 := by omega
      subst this
      exact .inr ⟨ds_low (by decide), rfl⟩
  by_cases hneg : a < 0
  · have hD : D a = 45 :: ds a.natAbs := if_pos hneg
    rw [hD]
    have := Number_of _ true (ds a.natAbs) (ds_digs _) (pre_yes _) (ds_pos _) (hz.imp id (fun h => absurd hneg (by rw [h.2]; decide)))
    simp only [hlen, if_true, hv] at this
    rw [en hneg] at this
    exact this
  · have hD : D a = ds a.natAbs := if_neg hneg
    rw [hD]
    have := Number_of _ false (ds a.natAbs) (ds_digs _) (pre_no (ds_digs _)) (ds_pos _) (hz.imp id (fun h => ⟨h.1, rfl⟩))
    simp only [hlen, hv] at this
    rw [show (if false = true then -((a.natAbs : Nat) : Int) else ((a.natAbs : Nat) : Int)) = a from by rw [if_neg (by simp)]; exact ep hneg] at this
    exact this
end Go.Proofs.Ytkpjipfjhniddaa.PuDig
