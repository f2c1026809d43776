/- What the printed functions of num come to, in plain numbers and lists: Var, Fix, Unfix, the reader of a number, Digits and Number, and the chapter's first call. -/
import Derived.Test.YtkpjipfjhniddaaPNumx2
import Derived.Test.YtkpjipfjhniddaaPNumx3
import Derived.Test.YtkpjipfjhniddaaPNumx4
import Derived.Test.YtkpjipfjhniddaaPNumx5
import Derived.Test.YtkpjipfjhniddaaPNumx6
import Derived.Test.YtkpjipfjhniddaaPNumx7
import Derived.Test.YtkpjipfjhniddaaWPu
namespace Go.Proofs.Ytkpjipfjhniddaa.PuNum
open Go Go.RowKit Go.Proofs.Ytkpjipfjhniddaa.PNum Go.Proofs.YtkpjipfjhniddaaW.PrintWords Go.Proofs.YtkpjipfjhniddaaW.PrintLast Go.Proofs.YtkpjipfjhniddaaW.PrintMore Go.Proofs.YtkpjipfjhniddaaW.Pu

/-! ### numbers in groups of seven bits -/
def vb (n : Nat) : List Int := if n < 128 then [(n : Int)] else ((n % 128 + 128 : Nat) : Int) :: vb (n / 128)
theorem vb_low {n : Nat} (h : n < 128) : vb n = [(n : Int)] := by rw [vb, if_pos h]
theorem vb_high {n : Nat} (h : ¬ n < 128) : vb n = ((n % 128 + 128 : Nat) : Int) :: vb (n / 128) := by rw [vb, if_neg h]
theorem vb_len (k : Nat) : ∀ n, n < 128 ^ (k + 1) → (vb n).length ≤ k + 1 := by
  induction k with
  | zero => intro n h; rw [vb_low (by simpa using h)]; simp
  | succ k ih =>
    intro n h
    by_cases hn : n < 128
    · rw [vb_low hn]; simp
    · rw [vb_high hn, List.length_cons]
      have := ih (n / 128) (by rw [Nat.pow_succ] at h; omega)
      omega
theorem vb_len10 {n : Nat} (h : n < 18446744073709551616) : (vb n).length ≤ 10 := vb_len 9 n (by omega)
theorem vb_pos (n : Nat) : 0 < (vb n).length := by rw [vb]; split <;> simp
theorem vb_ok (n : Nat) : ok8 (vb n) := by
  induction n using Nat.strongRecOn with
  | _ n ih =>
    by_cases hn : n < 128
    · rw [vb_low hn]; exact ok8_cons (by omega) ok8_nil
    · rw [vb_high hn]; exact ok8_cons (by omega) (ih _ (by omega))
theorem or128 : ∀ m : Fin 256, m.val ||| 128 = m.val % 128 + 128 := by decide +kernel
theorem or_more (n : Nat) : Go.bits .or .u8 ((n : Int) % 256) 128 = ((n % 128 + 128 : Nat) : Int) := by
  rw [show ((n : Int) % 256) = ((n % 256 : Nat) : Int) from by omega]
  have h := or_u8 (n % 256) 128 (by omega) (by decide)
  refine h.trans ?_
  have := or128 ⟨n % 256, by omega⟩
  simp only at this
  rw [this]
  congr 1
  omega
theorem Var_l1 (l6 : List Int) (x7 x8 : Int) (r : ByteArray) (n : Nat) : ∀ (x3 : List Int), n < 18446744073709551616 → x3.length + 10 < 140737488355328 →
    Ev (fun k => num_Var.l0 k (x3 ++ vb n) l6 x7 (wrap64 (x8 + 1))) r → Ev (fun k => num_Var.l1 k x3 n l6 x7 x8) r := by
  have key : ∀ (j : Nat) (n : Nat) (x3 : List Int), (vb n).length ≤ j → x3.length + j < 140737488355328 →
      Ev (fun k => num_Var.l0 k (x3 ++ vb n) l6 x7 (wrap64 (x8 + 1))) r → Ev (fun k => num_Var.l1 k x3 n l6 x7 x8) r := by
    intro j
    induction j with
    | zero => intro n x3 h; have := vb_pos n; omega
    | succ j ih =>
      intro n x3 h hl he
      refine Ev.step (fun k => by rw [num_Var.l1]) ?_
      by_cases hn : n < 128
      · refine ev_neg (by omega) (ev_pos (by omega) ?_)
        rw [vb_low hn] at he
        rw [show ((n : Int) % 256) = n from by omega]
        exact he
      · refine ev_pos (by omega) (ev_pos (by omega) ?_)
        rw [vb_high hn] at h he
        rw [or_more, show ((n : Int) / 128) = ((n / 128 : Nat) : Int) from by omega]
        exact ih (n / 128) _ (by simpa using h) (by simp; omega) (by simpa using he)
  intro x3 hn hl he
  exact key 10 n x3 (vb_len10 hn) (by omega) he
def u64s (l : List Int) : Prop := ∀ x ∈ l, 0 ≤ x ∧ x ≤ 18446744073709551615
def vbs (l : List Int) : List Int := l.flatMap fun x => vb x.toNat
theorem vbs_cons (x : Int) (l : List Int) : vbs (x :: l) = vb x.toNat ++ vbs l := rfl
theorem vbs_len {l : List Int} (h : u64s l) : (vbs l).length ≤ 10 * l.length := by
  induction l with
  | nil => simp [vbs]
  | cons x l ih =>
    rw [vbs_cons, List.length_append, List.length_cons]
    have h0 := h x (by simp)
    have h1 := vb_len10 (n := x.toNat) (by omega)
    have h2 := ih (fun y hy => h y (by simp [hy]))
    omega
theorem vbs_ok {l : List Int} : ok8 (vbs l) := by
  induction l with
  | nil => exact ok8_nil
  | cons x l ih => rw [vbs_cons]; exact ok8_append (vb_ok _) ih
theorem rd_nat (l : List Int) (i : Nat) (h : i < l.length) : rd l (i : Int) = l[i] := by
  simp [rd, List.getD_eq_getElem?_getD, List.getElem?_eq_getElem h]
theorem Var_l0 (l : List Int) (hl : u64s l) (hb : 10 * l.length < 140737488355328) (d : Nat) : ∀ (i : Nat) (x3 : List Int), i + d = l.length → x3.length ≤ 10 * i →
    Ev (fun k => num_Var.l0 k x3 l (l.length : Int) (i : Int)) (strOfNums (x3 ++ vbs (l.drop i))) := by
  induction d with
  | zero =>
    intro i x3 hi h3
    refine Ev.step (fun k => by rw [num_Var.l0]) ?_
    refine ev_neg (by omega) ?_
    rw [List.drop_of_length_le (by omega)]
    exact ev_const (by simp [vbs])
  | succ d ih =>
    intro i x3 hi h3
    have hlt : i < l.length := by omega
    have hx := hl l[i] (List.getElem_mem hlt)
    refine Ev.step (fun k => by rw [num_Var.l0]) ?_
    refine ev_pos (by omega) (ev_pos (by omega) (ev_pos (by omega) ?_))
    rw [rd_nat l i hlt]
    obtain ⟨n, hn⟩ := Int.eq_ofNat_of_zero_le hx.1
    have hn' : n < 18446744073709551616 := by omega
    have hd : vbs (l.drop i) = vb n ++ vbs (l.drop (i + 1)) := by
      rw [List.drop_eq_getElem_cons hlt, vbs_cons, hn]; rfl
    rw [hd, hn]
    refine Var_l1 l _ _ _ n x3 hn' (by omega) ?_
    rw [wrap64_id (by omega), show ((i : Int) + 1) = ((i + 1 : Nat) : Int) from by omega]
    have := ih (i + 1) (x3 ++ vb n) (by omega) (by have := vb_len10 hn'; simp; omega)
    simpa using this
theorem Var_ev {l : List Int} (hl : u64s l) (hb : 10 * l.length < 140737488355328) : Ev (fun k => num_Var.f k l) (strOfNums (vbs l)) := by
  have := Var_l0 l hl hb l.length 0 [] (by omega) (by simp)
  simpa [num_Var.f] using this
/-! ### numbers of so many bytes, the highest first -/
def be : Nat → Nat → List Int
  | 0, _ => []
  | n + 1, v => be n (v / 256) ++ [((v % 256 : Nat) : Int)]
theorem be_len : ∀ n v, (be n v).length = n
  | 0, _ => rfl
  | n + 1, v => by simp [be, be_len n]
theorem be_ok : ∀ n v, ok8 (be n v)
  | 0, _ => ok8_nil
  | n + 1, v => ok8_append (be_ok n _) (ok8_cons (by omega) ok8_nil)
theorem be_get : ∀ (n v i : Nat), i < n → (be n v)[i]? = some (((v / 256 ^ (n - 1 - i)) % 256 : Nat) : Int)
  | n + 1, v, i, h => by
    by_cases hi : i = n
    · subst hi
      rw [be, List.getElem?_append_right (by rw [be_len]; omega), be_len]
      simp
    · rw [be, List.getElem?_append_left (by rw [be_len]; omega), be_get n _ i (by omega), Nat.div_div_eq_div_mul]
      rw [show n + 1 - 1 - i = (n - 1 - i) + 1 from by omega, Nat.pow_succ, Nat.mul_comm]
theorem shr8 (v : Nat) (m : Nat) (hm : m ≤ 8) : shr .u64 (v : Int) ((8 * m : Nat) : Int) = ((v / 256 ^ m : Nat) : Int) := by
  unfold shr
  rw [show min ((8 * m : Nat) : Int).toNat IntKind.u64.bits = 8 * m from by simp [IntKind.bits]; omega]
  have e : (256 : Nat) ^ m = 2 ^ (8 * m) := by rw [Nat.pow_mul]
  rw [e]
  norm_cast
theorem Fix_l0 (v n : Nat) (hn : n ≤ 8) (d : Nat) : ∀ (i : Nat) (x6 : List Int), i + d = n → x6.length = n → x6.take i = (be n v).take i →
    Ev (fun k => num_Fix.l0 k (v : Int) (n : Int) x6 (n : Int) (i : Int)) (strOfNums (be n v), 0) := by
  induction d with
  | zero =>
    intro i x6 hi hl ht
    refine Ev.step (fun k => by rw [num_Fix.l0]) ?_
    refine ev_neg (by omega) ?_
    rw [List.take_of_length_le (by omega), List.take_of_length_le (by rw [be_len]; omega)] at ht
    exact ev_const (by rw [ht])
  | succ d ih =>
    intro i x6 hi hl ht
    have e1 : wrap64 ((n : Int) - 1) = (n : Int) - 1 := wrap64_id (by omega)
    have e2 : wrap64 ((n : Int) - 1 - (i : Int)) = ((n - 1 - i : Nat) : Int) := by rw [wrap64_id (by omega)]; omega
    have e3 : wrap64 (8 * ((n - 1 - i : Nat) : Int)) = ((8 * (n - 1 - i) : Nat) : Int) := by rw [wrap64_id (by omega)]; omega
    refine Ev.step (fun k => by rw [num_Fix.l0, e1, e2, e3]) ?_
    refine ev_pos (by omega) (ev_pos (by omega) (ev_pos (by omega) (ev_pos (by omega) ?_)))
    rw [shr8 v _ (by omega), wrap64_id (by omega), show ((i : Int) + 1) = ((i + 1 : Nat) : Int) from by omega]
    refine ih (i + 1) _ (by omega) (by simpa using hl) ?_
    apply List.ext_getElem?
    intro j
    by_cases hj : j < i + 1
    · rw [List.getElem?_take_of_lt hj, List.getElem?_take_of_lt hj]
      by_cases hji : j = i
      · subst hji
        rw [be_get n v j (by omega), Int.toNat_natCast, List.getElem?_set_self (by omega)]
        generalize v / 256 ^ (n - 1 - j) = q
        exact congrArg some (by omega)
      · have := congrArg (fun l => l[j]?) ht
        simp only [List.getElem?_take_of_lt (show j < i by omega)] at this
        rw [Int.toNat_natCast, List.getElem?_set_ne (by omega), this]
    · rw [List.getElem?_eq_none (by simp; omega), List.getElem?_eq_none (by simp; omega)]
theorem Fix_yes {v n : Nat} (h1 : 1 ≤ n) (h8 : n ≤ 8) (h : n = 8 ∨ v < 256 ^ n) : Ev (fun k => num_Fix.f k (v : Int) (n : Int)) (strOfNums (be n v), 0) := by
  have h0 : Ev (fun k => num_Fix.j0 k (v : Int) (n : Int) false) (strOfNums (be n v), 0) := by
    refine Ev.step (fun k => by rw [num_Fix.j0]) ?_
    refine ev_neg (by simp) (ev_pos (by omega) (ev_pos (by omega) (ev_some ?_)))
    rw [Int.toNat_natCast, List.length_replicate]
    exact Fix_l0 v n h8 n 0 _ (by omega) (by simp) (by simp)
  refine Ev.congr (fun k => by rw [num_Fix.f]) ?_
  refine ev_neg (by omega) (ev_neg (by omega) ?_)
  by_cases hn : n < 8
  · have e3 : wrap64 (8 * (n : Int)) = ((8 * n : Nat) : Int) := by rw [wrap64_id (by omega)]; omega
    refine ev_pos (by omega) ?_
    rw [e3]
    refine ev_pos (by omega) ?_
    rw [shr8 v n (by omega), Nat.div_eq_of_lt (by omega)]
    exact h0
  · exact ev_neg (by omega) h0
theorem Fix_no {v : Nat} {n : Int} (h : n < 1 ∨ 8 < n ∨ (1 ≤ n ∧ n < 8 ∧ 256 ^ n.toNat ≤ v)) : Ev (fun k => num_Fix.f k (v : Int) n) (⟨#[]⟩, 1) := by
  have h0 : Ev (fun k => num_Fix.j0 k (v : Int) n true) (⟨#[]⟩, 1) := by
    refine Ev.step (fun k => by rw [num_Fix.j0]) ?_
    exact ev_pos rfl (ev_const rfl)
  refine Ev.congr (fun k => by rw [num_Fix.f]) ?_
  by_cases h1 : n < 1
  · exact ev_pos h1 h0
  · refine ev_neg h1 ?_
    by_cases h8 : n > 8
    · exact ev_pos h8 h0
    · have h3 : 1 ≤ n ∧ n < 8 ∧ 256 ^ n.toNat ≤ v := by omega
      obtain ⟨m, rfl⟩ := Int.eq_ofNat_of_zero_le (show 0 ≤ n by omega)
      rw [Int.toNat_natCast] at h3
      have e3 : wrap64 (8 * (m : Int)) = ((8 * m : Nat) : Int) := by rw [wrap64_id (by omega)]; omega
      refine ev_neg h8 (ev_pos (by omega) ?_)
      rw [e3]
      refine ev_pos (by omega) ?_
      rw [shr8 v m (by omega)]
      have : v / 256 ^ m ≠ 0 := by
        have := Nat.div_pos h3.2.2 (Nat.pow_pos (by decide))
        omega
      rw [show (((v / 256 ^ m : Nat) : Int) != 0) = true from by rw [bne_iff_ne]; omega]
      exact h0
/-! ### the chapter's first call -/
theorem first_var : num_Reader_Var.f 10 (⟨#[172, 2]⟩ : ByteArray) 0 = some (300, ⟨#[]⟩, 0) := by decide +kernel
theorem first_unfix : num_Unfix.f 10 (⟨#[120, 1, 2]⟩ : ByteArray) 1 2 = some (258, 0) := by decide +kernel
theorem first_zig : num_Zig.f (-1) = some 1 := by decide +kernel
theorem first_zag : num_Zag.f 4 = some 2 := by decide +kernel
theorem first_new : num_NewReader.f (⟨#[172, 2]⟩ : ByteArray) = some (⟨#[172, 2]⟩, 0) := by decide +kernel
theorem first_end : num_Reader_End.f (⟨#[]⟩ : ByteArray) 0 = some (0, ⟨#[]⟩, 0) := by
  unfold num_Reader_End.f num_Reader_Err.f
  simp only [Option.bind_some, if_true]
  rw [if_pos (by rw [toList_data])]
theorem first_vars : vbs [0, 300] = [0, 172, 2] := by
  simp only [vbs, List.flatMap_cons, List.flatMap_nil]
  rw [vb_low (n := (0 : Int).toNat) (by decide), vb_high (n := (300 : Int).toNat) (by decide), vb_low (by decide)]
  rfl
theorem first_digits : num_Digits.f (-7) = some (strOfNums [45, 55]) := by
  unfold num_Digits.f
  rw [if_pos (by decide), if_pos (by decide), num_Digits.dg, if_pos (by decide)]
  rfl
theorem alive_ev : Ev (fun k => cornucopialaw1_alive.f k) true := by
  refine Ev.congr (fun k => by rw [cornucopialaw1_alive.f]) ?_
  refine Ev.bind (Fix_yes (v := 258) (n := 2) (by decide) (by decide) (.inr (by decide))) ?_
  refine Ev.bind (ev_at (fun k => num_Unfix.mono _ _ _ k) 10 first_unfix) ?_
  refine ev_call first_new ?_
  refine ev_pos rfl (ev_pos (by rw [S_toList]; decide) (ev_pos rfl (ev_pos rfl ?_)))
  refine Ev.bind (Var_ev (l := [0, 300]) (by intro x hx; simp at hx; omega) (by decide)) ?_
  rw [first_vars]
  refine ev_pos (by rw [S_toList]; decide) ?_
  refine ev_call first_zig (ev_pos rfl (ev_call first_zag (ev_pos rfl ?_)))
  refine Ev.bind (ev_at (fun k => num_Reader_Var.mono _ _ k) 10 first_var) (ev_pos rfl ?_)
  refine ev_call first_end (ev_pos rfl ?_)
  refine ev_call first_digits (ev_const ?_)
  rw [S_toList]
  decide
end Go.Proofs.Ytkpjipfjhniddaa.PuNum
