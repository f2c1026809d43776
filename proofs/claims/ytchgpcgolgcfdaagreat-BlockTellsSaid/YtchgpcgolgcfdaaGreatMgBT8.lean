/- Texts of this claim, put together and cut down to what is used (BT8). -/
import Derived.Deep.DeepCutAuto
import Derived.Deep.RegionHeld3
import Derived.BigRegion
import Derived.Lib.AppendStr
import Derived.Deep.QuietTactic
import Derived.BigQuiet
import Derived.WalkLawsBesides
import Derived.Test.YtchgpcgolgcfdaaGreatMgBT5
import Derived.Test.YtchgpcgolgcfdaaGreatMgBT6
import Derived.Test.YtchgpcgolgcfdaaGreatMgBT7
import Derived.Test.YtchgpcgolgcfdaaGreatMgBT1
import Derived.Test.YtchgpcgolgcfdaaGreatMgBT4
section
namespace Go.Proofs.YtchgpcgolgcfdaaGreat.PuVr
open Go Go.RowKit Go.Proofs.YtchgpcgolgcfdaaGreat.PNum Go.Proofs.YtchgpcgolgcfdaaGreat.PuVt Go.Proofs.YtchgpcgolgcfdaaGreatW.PrintWords Go.Proofs.YtchgpcgolgcfdaaGreatW.PrintLast Go.Proofs.YtchgpcgolgcfdaaGreatW.PrintMore Go.Proofs.YtchgpcgolgcfdaaGreatW.Pu
def be : Nat → Nat → List Int
 | 0, _ => []
 | n + 1, v => be n (v / 256) ++ [((v % 256 : Nat) : Int)]
theorem be_len : ∀ n v, (be n v).length = n
 | 0, _ => rfl
 | n + 1, v => by simp [be, be_len n]
theorem be_ok : ∀ n v, ok8 (be n v)
 | 0, _ => ok8_nil
 | n + 1, v => ok8_append (be_ok n _) (ok8_cons (by omega) ok8_nil)
theorem be_get : ∀ (n v i : Nat), i < n → (be n v)[i]? = some (((v / 256 ^ (n - 1 - i)) % 256 : Nat) : Int)
 | n + 1, v, i, h => by
  by_cases hi : i = n
  ·subst hi
   rw [be, List.getElem?_append_right (by rw [be_len]; omega), be_len]
   simp
  ·rw [be, List.getElem?_append_left (by rw [be_len]; omega), be_get n _ i (by omega), Nat.div_div_eq_div_mul]
   rw [show n + 1 - 1 - i = (n - 1 - i) + 1 from by omega, Nat.pow_succ, Nat.mul_comm]
theorem shr8 (v : Nat) (m : Nat) (hm : m ≤ 8) : shr .u64 (v : Int) ((8 * m : Nat) : Int) = ((v / 256 ^ m : Nat) : Int) := by
 unfold shr
 rw [show min ((8 * m : Nat) : Int).toNat IntKind.u64.bits = 8 * m from by simp [IntKind.bits]; omega]
 have e : (256 : Nat) ^ m = 2 ^ (8 * m) := by rw [Nat.pow_mul]
 rw [e]
 norm_cast
theorem Fix_l0 (v n : Nat) (hn : n ≤ 8) (d : Nat) : ∀ (i : Nat) (x6 : List Int), i + d = n → x6.length = n → x6.take i = (be n v).take i →
  Ev (fun k => num_Fix.l0 k (v : Int) (n : Int) x6 (n : Int) (i : Int)) (strOfNums (be n v), 0) := by
 induction d with
 | zero =>
  intro i x6 hi hl ht
  refine Ev.step (fun k => by rw [num_Fix.l0]) ?_
  refine ev_neg (by omega) ?_
  rw [List.take_of_length_le (by omega), List.take_of_length_le (by rw [be_len]; omega)] at ht
  exact ev_const (by rw [ht])
 | succ d ih =>
  intro i x6 hi hl ht
  have e1 : wrap64 ((n : Int) - 1) = (n : Int) - 1 := wrap64_id (by omega)
  have e2 : wrap64 ((n : Int) - 1 - (i : Int)) = ((n - 1 - i : Nat) : Int) := by rw [wrap64_id (by omega)]; omega
  have e3 : wrap64 (8 * ((n - 1 - i : Nat) : Int)) = ((8 * (n - 1 - i) : Nat) : Int) := by rw [wrap64_id (by omega)]; omega
  refine Ev.step (fun k => by rw [num_Fix.l0, e1, e2, e3]) ?_
  refine ev_pos (by omega) (ev_pos (by omega) (ev_pos (by omega) (ev_pos (by omega) ?_)))
  rw [shr8 v _ (by omega), wrap64_id (by omega), show ((i : Int) + 1) = ((i + 1 : Nat) : Int) from by omega]
  refine ih (i + 1) _ (by omega) (by simpa using hl) ?_
  apply List.ext_getElem?
  intro j
  by_cases hj : j < i + 1
  ·rw [List.getElem?_take_of_lt hj, List.getElem?_take_of_lt hj]
   by_cases hji : j = i
   ·subst hji
    rw [be_get n v j (by omega), Int.toNat_natCast, List.getElem?_set_self (by omega)]
    generalize v / 256 ^ (n - 1 - j) = q
    exact congrArg some (by omega)
   ·have := congrArg (fun l => l[j]?) ht
    simp only [List.getElem?_take_of_lt (show j < i by omega)] at this
    rw [Int.toNat_natCast, List.getElem?_set_ne (by omega), this]
  ·rw [List.getElem?_eq_none (by simp; omega), List.getElem?_eq_none (by simp; omega)]
theorem Fix_yes {v n : Nat} (h1 : 1 ≤ n) (h8 : n ≤ 8) (h : n = 8 ∨ v < 256 ^ n) : Ev (fun k => num_Fix.f k (v : Int) (n : Int)) (strOfNums (be n v), 0) := by
 have h0 : Ev (fun k => num_Fix.j0 k (v : Int) (n : Int) false) (strOfNums (be n v), 0) := by
  refine Ev.step (fun k => by rw [num_Fix.j0]) ?_
  refine ev_neg (by simp) (ev_pos (by omega) (ev_pos (by omega) (ev_some ?_)))
  rw [Int.toNat_natCast, List.length_replicate]
  exact Fix_l0 v n h8 n 0 _ (by omega) (by simp) (by simp)
 refine Ev.congr (fun k => by rw [num_Fix.f]) ?_
 refine ev_neg (by omega) (ev_neg (by omega) ?_)
 by_cases hn : n < 8
 ·have e3 : wrap64 (8 * (n : Int)) = ((8 * n : Nat) : Int) := by rw [wrap64_id (by omega)]; omega
  refine ev_pos (by omega) ?_
  rw [e3]
  refine ev_pos (by omega) ?_
  rw [shr8 v n (by omega), Nat.div_eq_of_lt (by omega)]
  exact h0
 ·exact ev_neg (by omega) h0
def un (l : List Int) : Nat := l.foldl (fun a c => a * 256 + c.toNat) 0
theorem un_app (l : List Int) (c : Int) : un (l ++ [c]) = un l * 256 + c.toNat := by simp [un]
theorem un_lt (n : Nat) : ∀ (l : List Int), ok8 l → l.length = n → un l < 256 ^ n := by
 induction n with
 | zero => intro l _ h; rw [List.eq_nil_of_length_eq_zero h]; decide
 | succ n ih =>
  intro l ho hl
  have hne : l ≠ [] := by intro h; rw [h] at hl; simp at hl
  rw [← List.dropLast_concat_getLast hne, un_app, Nat.pow_succ]
  have h1 := ih l.dropLast (fun x hx => ho x (List.dropLast_subset _ hx)) (by simp [hl])
  have h2 := ho _ (List.getLast_mem hne)
  omega
theorem un_be (n : Nat) : ∀ v, v < 256 ^ n → un (be n v) = v := by
 induction n with
 | zero => intro v h; simp at h; subst h; rfl
 | succ n ih =>
  intro v h
  rw [Nat.pow_succ] at h
  rw [be, un_app, ih (v / 256) (by omega)]
  simp only [Int.toNat_natCast]
  omega
theorem Unfix_l0 (s : ByteArray) (at_ n : Nat) (hn : n ≤ 8) (ha : at_ + n ≤ s.size) (hs : s.size ≤ 9223372036854775807) (d : Nat) : ∀ i, i + d = n →
  Ev (fun k => num_Unfix.l0 k s (at_ : Int) ((un (((bytesOf s).drop at_).take i) : Nat) : Int) (n : Int) (i : Int)) (((un (((bytesOf s).drop at_).take n) : Nat) : Int), 0) := by
 have hok : ∀ i, ok8 (((bytesOf s).drop at_).take i) := fun i x hx => ok8_of s x (List.mem_of_mem_drop (List.mem_of_mem_take hx))
 induction d with
 | zero =>
  intro i hi
  obtain rfl : i = n := by omega
  refine Ev.step (fun k => by rw [num_Unfix.l0]) ?_
  exact ev_neg (by omega) (ev_const rfl)
 | succ d ih =>
  intro i hi
  have hb : (bytesOf s).length = s.size := bytesOf_length s
  have hlt : i < ((bytesOf s).drop at_).length := by rw [List.length_drop, hb]; omega
  have hw : wrap64 ((at_ : Int) + (i : Int)) = ((at_ + i : Nat) : Int) := by rw [wrap64_id (by omega)]; omega
  have hbt : bt s ((at_ + i : Nat) : Int) = ((bytesOf s).drop at_)[i] := by
   rw [bt_eq, List.getElem_drop]
   simp [List.getD_eq_getElem?_getD, List.getElem?_eq_getElem (show at_ + i < (bytesOf s).length by omega)]
  have et : ((bytesOf s).drop at_).take (i + 1) = ((bytesOf s).drop at_).take i ++ [((bytesOf s).drop at_)[i]] := by rw [List.take_succ_eq_append_getElem hlt]
  have hc := hok (i + 1) (((bytesOf s).drop at_)[i]) (by rw [et]; simp)
  have hl1 := un_lt i _ (hok i) (by rw [List.length_take]; omega)
  have ih' := ih (i + 1) (by omega)
  rw [et, un_app] at ih'
  generalize ((bytesOf s).drop at_)[i] = c at *
  obtain ⟨c, rfl⟩ := Int.eq_ofNat_of_zero_le hc.1
  generalize un (((bytesOf s).drop at_).take i) = a at *
  have hp : (256 : Nat) ^ i ≤ 256 ^ 7 := Nat.pow_le_pow_right (by decide) (by omega)
  refine Ev.step (fun k => by rw [num_Unfix.l0, hw, hbt]) ?_
  refine ev_pos (by omega) (ev_pos (by omega) (ev_pos (by omega) ?_))
  rw [wu64_id (x := (a : Int) * 256) (by omega), wu64_id (x := (c : Int)) (by omega), wrap64_id (by omega), show ((i : Int) + 1) = ((i + 1 : Nat) : Int) from by omega]
  have e : Go.bits .or .u64 ((a : Int) * 256) (c : Int) = ((a * 256 + c : Nat) : Int) := by
   rw [show ((a : Int) * 256) = ((a * 256 : Nat) : Int) from by omega]
   refine (or_u64 (a * 256) c (by omega) (by omega)).trans ?_
   congr 1
   rw [Nat.mul_comm]
   exact (Nat.two_pow_add_eq_or_of_lt (i := 8) (by omega) a).symm
  rw [e]
  simpa using ih'
theorem Unfix_yes (s : ByteArray) (at_ n : Nat) (h1 : 1 ≤ n) (hn : n ≤ 8) (ha : at_ + n ≤ s.size) (hs : s.size ≤ 9223372036854775807) :
  Ev (fun k => num_Unfix.f k s (at_ : Int) (n : Int)) (((un (((bytesOf s).drop at_).take n) : Nat) : Int), 0) := by
 refine Ev.congr (fun k => by rw [num_Unfix.f]) (ev_neg (by omega) (ev_neg (by omega) ?_))
 rw [decide_eq_false (show ¬ ((at_ : Int) < 0) by omega)]
 refine Ev.step (fun k => by rw [num_Unfix.j0]) ?_
 refine ev_neg (by simp) (ev_neg (by omega) (ev_neg ?_ ?_))
 ·rw [wrap64_id (by omega)]; omega
 ·have := Unfix_l0 s at_ n hn ha hs n 0 (by omega)
  rw [List.take_zero] at this
  exact this
def rv : List Int → Nat → Nat → Int × List Int × Int
 | [], _, _ => (0, [], 5)
 | c :: t, i, acc => if i = 9 ∧ 1 < c then (0, [], 4) else if 128 ≤ c then rv t (i + 1) (acc + (c.toNat % 128) * 128 ^ i) else if c = 0 ∧ 0 < i then (0, [], 4) else (((acc + c.toNat * 128 ^ i : Nat) : Int), t, 0)
theorem and128 : ∀ m : Fin 256, (m.val &&& 128 = 0) ↔ m.val < 128 := by decide +kernel
theorem pow128 (i : Nat) : (128 : Nat) ^ i = 2 ^ (7 * i) := by rw [Nat.pow_mul]
theorem or_group (acc c i : Nat) (hi : i ≤ 9) (ha : acc < 128 ^ i) (hc : c < 256) (h9 : i = 9 → c ≤ 1) :
  Go.bits .or .u64 (acc : Int) (shl .u64 (IntKind.u64.wrap (Go.bits .and .u8 (c : Int) 127)) (wrap64 (7 * (i : Int)))) = ((acc + (c % 128) * 128 ^ i : Nat) : Int) := by
 have e1 : Go.bits .and .u8 (c : Int) 127 = ((c % 128 : Nat) : Int) := by
  have h := and_u8 c 127 (by omega) (by decide)
  refine h.trans ?_
  rw [show (127 : Nat) = 2 ^ 7 - 1 from rfl, Nat.and_two_pow_sub_one_eq_mod]
 have e2 : wrap64 (7 * (i : Int)) = ((7 * i : Nat) : Int) := by rw [wrap64_id (by omega)]; omega
 have hp : (128 : Nat) ^ i ≤ 2 ^ 63 := by rw [pow128]; exact Nat.pow_le_pow_right (by decide) (by omega)
 have hb : (c % 128) * 128 ^ i + 128 ^ i ≤ 2 ^ 64 := by
  by_cases h : i = 9
  ·have h1 := h9 h
   have h2 : (c % 128) * 128 ^ i ≤ 1 * 128 ^ i := Nat.mul_le_mul_right _ (by omega)
   omega
  ·have hq : (128 : Nat) ^ i ≤ 2 ^ 56 := by rw [pow128]; exact Nat.pow_le_pow_right (by decide) (by omega)
   have h2 : (c % 128) * 128 ^ i ≤ 127 * 128 ^ i := Nat.mul_le_mul_right _ (by omega)
   omega
 rw [e1, e2, wu64_id (by omega)]
 have e3 : shl .u64 ((c % 128 : Nat) : Int) ((7 * i : Nat) : Int) = (((c % 128) * 128 ^ i : Nat) : Int) := by
  unfold shl
  rw [show min ((7 * i : Nat) : Int).toNat IntKind.u64.bits = 7 * i from by simp [IntKind.bits]; omega, pow128]
  have : ((c % 128 : Nat) : Int) * 2 ^ (7 * i) = (((c % 128) * 2 ^ (7 * i) : Nat) : Int) := by push_cast; rfl
  rw [this]
  rw [pow128] at hb
  have hp2 : 0 < (2 : Nat) ^ (7 * i) := Nat.pow_pos (by decide)
  exact wu64_id ⟨by omega, by omega⟩
 rw [e3]
 have hpos : 0 < (128 : Nat) ^ i := Nat.pow_pos (by decide)
 have h := or_u64 acc ((c % 128) * 128 ^ i) (by omega) (by omega)
 refine h.trans ?_
 congr 1
 rw [Nat.or_comm, Nat.add_comm, Nat.mul_comm, pow128]
 rw [pow128] at ha
 exact (Nat.two_pow_add_eq_or_of_lt ha _).symm
theorem number_l0 (s : ByteArray) (d : Nat) : ∀ (i acc : Nat), i + d = s.size → i ≤ 9 → acc < 128 ^ i →
  Ev (fun k => num_number.l0 k s (acc : Int) (i : Int)) ((rv ((bytesOf s).drop i) i acc).1, strOfNums (rv ((bytesOf s).drop i) i acc).2.1, (rv ((bytesOf s).drop i) i acc).2.2) := by
 induction d with
 | zero =>
  intro i acc hi h9 ha
  refine Ev.step (fun k => by rw [num_number.l0]) ?_
  rw [List.drop_of_length_le (by rw [bytesOf_length]; omega)]
  exact ev_pos (by omega) (ev_const rfl)
 | succ d ih =>
  intro i acc hi h9 ha
  have hlt : i < (bytesOf s).length := by rw [bytesOf_length]; omega
  have hdrop : (bytesOf s).drop i = (bytesOf s)[i] :: (bytesOf s).drop (i + 1) := List.drop_eq_getElem_cons hlt
  have hbt : bt s (i : Int) = (bytesOf s)[i] := by rw [bt_eq]; simp [List.getD_eq_getElem?_getD, List.getElem?_eq_getElem hlt]
  have hc := ok8_of s (bytesOf s)[i] (List.getElem_mem hlt)
  rw [hdrop]
  generalize (bytesOf s)[i] = c at *
  obtain ⟨c, rfl⟩ := Int.eq_ofNat_of_zero_le hc.1
  have e2 : wrap64 (7 * (i : Int)) = ((7 * i : Nat) : Int) := by rw [wrap64_id (by omega)]; omega
  have e4 : wrap64 ((i : Int) + 1) = ((i + 1 : Nat) : Int) := by rw [wrap64_id (by omega)]; omega
  have hj : ¬ (i = 9 ∧ 1 < (c : Int)) → Ev (fun k => num_number.j1 k s (acc : Int) (i : Int) (c : Int) false) ((rv ((c : Int) :: (bytesOf s).drop (i + 1)) i acc).1, strOfNums (rv ((c : Int) :: (bytesOf s).drop (i + 1)) i acc).2.1, (rv ((c : Int) :: (bytesOf s).drop (i + 1)) i acc).2.2) := by
   intro hn
   have hor := or_group acc c i h9 ha (by omega) (by omega)
   have e5 : Go.bits .and .u8 (c : Int) 128 = ((c &&& 128 : Nat) : Int) := and_u8 c 128 (by omega) (by decide)
   have e6 := and128 ⟨c, by omega⟩
   simp only at e6
   refine Ev.step (fun k => by rw [num_number.j1, hor, e5, e4, e2]) ?_
   refine ev_neg (by simp) (ev_pos (by omega) ?_)
   rw [rv, if_neg hn]
   by_cases h128 : 128 ≤ (c : Int)
   ·rw [if_pos h128]
    have hne : ¬ ((c &&& 128 : Nat) : Int) = 0 := by
     intro h
     have := e6.1 (by omega)
     omega
    refine ev_neg hne ?_
    have hi9 : i ≠ 9 := by
     intro h
     exact hn ⟨h, by omega⟩
    have := ih (i + 1) (acc + (c % 128) * 128 ^ i) (by omega) (by omega) (by
     rw [Nat.pow_succ]
     have : (c % 128) * 128 ^ i ≤ 127 * 128 ^ i := Nat.mul_le_mul_right _ (by omega)
     omega)
    exact this
   ·rw [if_neg h128]
    have h0 : ((c &&& 128 : Nat) : Int) = 0 := by
     have := e6.2 (by omega)
     omega
    refine ev_pos h0 ?_
    have ecm : c % 128 = c := by omega
    have hrest : s.extract ((i + 1 : Nat) : Int).toNat s.size = strOfNums ((bytesOf s).drop (i + 1)) := by
     rw [Int.toNat_natCast]
     apply bytesOf_inj
     rw [bytesOf_extract, of_S (fun x hx => ok8_of s x (List.mem_of_mem_drop hx)), List.take_of_length_le (by rw [bytesOf_length]; omega)]
    by_cases hz : (c : Int) = 0
    ·refine ev_pos hz ?_
     by_cases hi0 : 0 < i
     ·rw [if_pos (show (c : Int) = 0 ∧ 0 < i from ⟨hz, hi0⟩)]
      exact ev_pos (by omega) (ev_const rfl)
     ·rw [if_neg (show ¬ ((c : Int) = 0 ∧ 0 < i) from by omega)]
      refine ev_neg (by omega) (ev_pos (by omega) (ev_pos (by omega) (ev_const ?_)))
      rw [hrest, ecm, Int.toNat_natCast]
    ·rw [if_neg (show ¬ ((c : Int) = 0 ∧ 0 < i) from by omega)]
     refine ev_neg hz (ev_pos (by omega) (ev_pos (by omega) (ev_const ?_)))
     rw [hrest, ecm, Int.toNat_natCast]
  refine Ev.step (fun k => by rw [num_number.l0, hbt]) ?_
  refine ev_neg (by omega) (ev_pos (by omega) (ev_pos (by omega) ?_))
  by_cases h9' : i = 9
  ·refine ev_pos (by omega) ?_
   by_cases h1 : 1 < (c : Int)
   ·rw [rv, if_pos ⟨h9', h1⟩]
    refine Ev.step (fun k => by rw [num_number.j1]) ?_
    exact ev_pos (decide_eq_true (by omega)) (ev_const rfl)
   ·rw [show decide ((c : Int) > 1) = false from decide_eq_false (by omega)]
    exact hj (by omega)
  ·exact ev_neg (by omega) (hj (by omega))
theorem number_ev (s : ByteArray) :
  Ev (fun k => num_number.f k s) ((rv (bytesOf s) 0 0).1, strOfNums (rv (bytesOf s) 0 0).2.1, (rv (bytesOf s) 0 0).2.2) := by
 have := number_l0 s s.size 0 0 (by omega) (by omega) (by decide)
 simpa [num_number.f] using this
theorem rv_nonneg : ∀ l i acc, 0 ≤ (rv l i acc).1
 | [], _, _ => by simp [rv]
 | c :: t, i, acc => by
  rw [rv]
  split
  ·simp
  ·split
   ·exact rv_nonneg t _ _
   ·split
    ·simp
    ·exact Int.natCast_nonneg _
theorem rv_ok : ∀ l i acc, ok8 l → ok8 (rv l i acc).2.1
 | [], _, _, _ => by simpa [rv] using ok8_nil
 | c :: t, i, acc, h => by
  have ht : ok8 t := fun x hx => h x (by simp [hx])
  rw [rv]
  split
  ·exact ok8_nil
  ·split
   ·exact rv_ok t _ _ ht
   ·split
    ·exact ok8_nil
    ·exact ht
def rVar (b : List Int) (e : Int) : Int × List Int × Int := if e = 0 then (if (rv b 0 0).2.2 = 0 then ((rv b 0 0).1, (rv b 0 0).2.1, 0) else (0, b, (rv b 0 0).2.2)) else (0, b, e)
theorem rVar_ok {b : List Int} {e : Int} (h : ok8 b) : ok8 (rVar b e).2.1 := by
 unfold rVar
 split
 ·split
  ·exact rv_ok _ _ _ h
  ·exact h
 ·exact h
theorem rVar_nonneg (b : List Int) (e : Int) : 0 ≤ (rVar b e).1 := by
 unfold rVar
 split
 ·split
  ·exact rv_nonneg _ _ _
  ·simp
 ·simp
theorem off_eq (s : ByteArray) (e : Int) : num_Reader_off.f s e = some ((e != 0), s, e) := rfl
theorem Var_ev {b : List Int} (hb : ok8 b) (e : Int) : Ev (fun k => num_Reader_Var.f k (strOfNums b) e) ((rVar b e).1, strOfNums (rVar b e).2.1, (rVar b e).2.2) := by
 refine Ev.congr (fun k => by rw [num_Reader_Var.f]) (ev_call (off_eq _ _) ?_)
 unfold rVar
 by_cases he : e = 0
 ·subst he
  refine ev_neg (show ¬ ((0 : Int) != 0) = true from by decide) ?_
  have hn := number_ev (strOfNums b)
  rw [of_S hb] at hn
  refine Ev.bind hn ?_
  by_cases h : (rv b 0 0).2.2 = 0
  ·refine ev_pos h (ev_const ?_)
   rw [if_pos rfl, if_pos h]
  ·refine ev_neg h (ev_const ?_)
   rw [if_pos rfl, if_neg h]
 ·refine ev_pos (show (e != 0) = true from by rw [bne_iff_ne]; exact he) (ev_const ?_)
  rw [if_neg he]
def rCount (b : List Int) (e most : Int) : Int × List Int × Int := if (rVar b e).2.2 = 0 then (if most < 0 ∨ most < (rVar b e).1 then (0, (rVar b e).2.1, 2) else ((rVar b e).1, (rVar b e).2.1, 0)) else (0, (rVar b e).2.1, (rVar b e).2.2)
theorem rCount_ok {b : List Int} {e most : Int} (h : ok8 b) : ok8 (rCount b e most).2.1 := by
 unfold rCount
 split
 ·split <;> exact rVar_ok h
 ·exact rVar_ok h
theorem rCount_range (b : List Int) (e most : Int) (hm : most ≤ 9223372036854775807) : 0 ≤ (rCount b e most).1 ∧ (rCount b e most).1 ≤ 9223372036854775807 := by
 have := rVar_nonneg b e
 unfold rCount
 split
 ·split
  ·simp
  ·simp only; omega
 ·simp
theorem Count_ev {b : List Int} (hb : ok8 b) (e most : Int) (hm : -9223372036854775808 ≤ most ∧ most ≤ 9223372036854775807) : Ev (fun k => num_Reader_Count.f k (strOfNums b) e most) ((rCount b e most).1, strOfNums (rCount b e most).2.1, (rCount b e most).2.2) := by
 refine Ev.congr (fun k => by rw [num_Reader_Count.f]) (Ev.bind (Var_ev hb e) (ev_call (off_eq _ _) ?_))
 have hnn := rVar_nonneg b e
 unfold rCount
 by_cases h : (rVar b e).2.2 = 0
 ·rw [if_pos h]
  refine ev_neg (by simp [h]) ?_
  by_cases h0 : most < 0
  ·rw [if_pos (Or.inl h0)]
   exact ev_pos h0 (ev_const rfl)
  ·refine ev_neg h0 ?_
   rw [wu64_id (by omega)]
   by_cases h1 : most < (rVar b e).1
   ·rw [if_pos (Or.inr h1)]
    exact ev_pos h1 (ev_const rfl)
   ·rw [if_neg (show ¬ (most < 0 ∨ most < (rVar b e).1) from by omega)]
    refine ev_neg h1 (ev_const ?_)
    rw [wrap64_id (by omega), h]
 ·rw [if_neg h]
  exact ev_pos (by rw [bne_iff_ne]; exact h) (ev_const rfl)
def rTake (b : List Int) (e n : Int) : List Int × List Int × Int := if e = 0 then (if (b.length : Int) < n then ([], b, 5) else (b.take n.toNat, b.drop n.toNat, 0)) else ([], b, e)
theorem rTake_ok {b : List Int} {e n : Int} (h : ok8 b) : ok8 (rTake b e n).2.1 ∧ ok8 (rTake b e n).1 := by
 unfold rTake
 split
 ·split
  ·exact ⟨h, ok8_nil⟩
  ·exact ⟨fun x hx => h x (List.mem_of_mem_drop hx), fun x hx => h x (List.mem_of_mem_take hx)⟩
 ·exact ⟨h, ok8_nil⟩
theorem take_eq {b : List Int} (e n : Int) (hn : 0 ≤ n) : num_Reader_take.f (strOfNums b) e n = some (strOfNums (rTake b e n).1, strOfNums (rTake b e n).2.1, (rTake b e n).2.2) := by
 unfold num_Reader_take.f rTake
 rw [off_eq]
 simp only [Option.bind_some, S_size]
 by_cases he : e = 0
 ·subst he
  rw [if_neg (show ¬ ((0 : Int) != 0) = true from by decide), if_pos rfl]
  by_cases h : n > (b.length : Int)
  ·rw [if_pos h, if_pos h]; rfl
  ·rw [if_neg h, if_neg h, if_pos hn, if_pos (by omega), S_extract, S_extract]
   simp
 ·rw [if_pos (show (e != 0) = true from by rw [bne_iff_ne]; exact he), if_neg he]; rfl
def rText (b : List Int) (e most : Int) : List Int × List Int × Int := rTake (rCount b e most).2.1 (rCount b e most).2.2 (rCount b e most).1
theorem rText_ok {b : List Int} {e n : Int} (h : ok8 b) : ok8 (rText b e n).2.1 ∧ ok8 (rText b e n).1 := rTake_ok (rCount_ok h)
theorem Text_ev {b : List Int} (hb : ok8 b) (e most : Int) (hm : -9223372036854775808 ≤ most ∧ most ≤ 9223372036854775807) : Ev (fun k => num_Reader_Text.f k (strOfNums b) e most) (strOfNums (rText b e most).1, strOfNums (rText b e most).2.1, (rText b e most).2.2) := by
 refine Ev.congr (fun k => by rw [num_Reader_Text.f]) (Ev.bind (Count_ev hb e most hm) ?_)
 exact ev_call (take_eq _ _ (rCount_range b e most hm.2).1) (ev_const rfl)
theorem Err_eq (s : ByteArray) (e : Int) : num_Reader_Err.f s e = some (e, s, e) := rfl
theorem Left_eq (s : ByteArray) (e : Int) : num_Reader_Left.f s e = some ((s.size : Int), s, e) := rfl
theorem New_eq (s : ByteArray) (h : s.size ≤ 281474976710656) : num_NewReader.f s = some (s, 0) := by
 unfold num_NewReader.f strings_Clone.f stringslite_Clone.f
 rw [if_pos h]
 rfl
theorem rv_vb (rest : List Int) (n : Nat) : ∀ (i acc : Nat), acc + n * 128 ^ i < 18446744073709551616 → i ≤ 9 → (0 < i → 0 < n) → rv (vb n ++ rest) i acc = (((acc + n * 128 ^ i : Nat) : Int), rest, 0) := by
 induction n using Nat.strongRecOn with
 | _ n ih =>
  intro i acc hb hi h0
  have h9 : i = 9 → n ≤ 1 := by
   intro h
   subst h
   have : (128 : Nat) ^ 9 = 9223372036854775808 := by decide
   rw [this] at hb
   omega
  by_cases hn : n < 128
  ·rw [vb_low hn]
   simp only [List.cons_append, List.nil_append, rv]
   rw [if_neg (show ¬ (i = 9 ∧ 1 < (n : Int)) from by omega), if_neg (by omega), if_neg (show ¬ ((n : Int) = 0 ∧ 0 < i) from by omega), Int.toNat_natCast]
  ·rw [vb_high hn]
   simp only [List.cons_append, rv]
   rw [if_neg (show ¬ (i = 9 ∧ 1 < ((n % 128 + 128 : Nat) : Int)) from by omega), if_pos (by omega), Int.toNat_natCast, show (n % 128 + 128) % 128 = n % 128 from by omega]
   have e : acc + n % 128 * 128 ^ i + n / 128 * 128 ^ (i + 1) = acc + n * 128 ^ i := by
    rw [Nat.pow_succ, Nat.mul_comm (128 ^ i) 128, ← Nat.mul_assoc, Nat.add_assoc, ← Nat.add_mul]
    congr 2
    omega
   rw [ih (n / 128) (by omega) (i + 1) _ (by rw [e]; exact hb) (by omega) (by omega), e]
theorem rVar_vb {n : Nat} (h : n < 18446744073709551616) (rest : List Int) : rVar (vb n ++ rest) 0 = ((n : Int), rest, 0) := by
 have := rv_vb rest n 0 0 (by simpa using h) (by omega) (by omega)
 unfold rVar
 rw [this]
 simp
theorem rText_tx {s : ByteArray} {most : Int} (h : (s.size : Int) ≤ most) (hm : most ≤ 9223372036854775807) (rest : List Int) : rText ((vb s.size ++ bytesOf s) ++ rest) 0 most = (bytesOf s, rest, 0) := by
 unfold rText rCount
 rw [List.append_assoc, rVar_vb (by omega)]
 simp only
 rw [if_pos trivial, if_neg (by omega)]
 unfold rTake
 have hl : (bytesOf s).length = s.size := bytesOf_length s
 simp only
 rw [if_pos trivial, if_neg (by simp [hl]; omega), Int.toNat_natCast, List.take_left' hl, List.drop_left' hl]
end Go.Proofs.YtchgpcgolgcfdaaGreat.PuVr
end
section
namespace Go.Proofs.YtchgpcgolgcfdaaGreat.PuBk
open Go Go.RowKit Go.Proofs.YtchgpcgolgcfdaaGreat.PNum Go.Proofs.YtchgpcgolgcfdaaGreat.PuVt Go.Proofs.YtchgpcgolgcfdaaGreat.PuVr Go.Proofs.YtchgpcgolgcfdaaGreatW.PrintWords Go.Proofs.YtchgpcgolgcfdaaGreatW.PrintLast Go.Proofs.YtchgpcgolgcfdaaGreatW.PrintMore Go.Proofs.YtchgpcgolgcfdaaGreatW.Pu Go.Proofs.YtchgpcgolgcfdaaGreat.Bl2
def sh : List Int → List Int → Nat
 | a :: x, b :: y => if a = b then sh x y + 1 else 0
 | _, _ => 0
theorem sh_nl (y : List Int) : sh [] y = 0 := by cases y <;> rfl
theorem sh_nil (x : List Int) : sh x [] = 0 := by cases x <;> rfl
theorem sh_eq {a b : Int} (h : a = b) (x y : List Int) : sh (a :: x) (b :: y) = sh x y + 1 := by rw [sh, if_pos h]
theorem sh_ne {a b : Int} (h : a ≠ b) (x y : List Int) : sh (a :: x) (b :: y) = 0 := by rw [sh, if_neg h]
theorem sh_le (x : List Int) : ∀ y, sh x y ≤ x.length ∧ sh x y ≤ y.length := by
 induction x with
 | nil => intro y; rw [sh_nl]; exact ⟨Nat.zero_le _, Nat.zero_le _⟩
 | cons a x ih =>
  intro y
  cases y with
  | nil => rw [sh_nil]; exact ⟨Nat.zero_le _, Nat.zero_le _⟩
  | cons b y =>
   by_cases h : a = b
   ·rw [sh_eq h, List.length_cons, List.length_cons]
    have := ih y
    omega
   ·rw [sh_ne h]; exact ⟨Nat.zero_le _, Nat.zero_le _⟩
theorem sh_take (x : List Int) : ∀ y, x.take (sh x y) = y.take (sh x y) := by
 induction x with
 | nil => intro y; rw [sh_nl, List.take_zero, List.take_zero]
 | cons a x ih =>
  intro y
  cases y with
  | nil => rw [sh_nil, List.take_zero, List.take_zero]
  | cons b y =>
   by_cases h : a = b
   ·rw [sh_eq h, List.take_succ_cons, List.take_succ_cons, h, ih y]
   ·rw [sh_ne h, List.take_zero, List.take_zero]
theorem Shared_l0 (a b : ByteArray) (ha : a.size ≤ 9223372036854775806) (d : Nat) : ∀ i, i + d = a.size → i ≤ b.size →
  Ev (fun k => block_Shared.l0 k a b (i : Int)) (((i + sh ((bytesOf a).drop i) ((bytesOf b).drop i) : Nat)) : Int) := by
 have la : (bytesOf a).length = a.size := bytesOf_length a
 have lb : (bytesOf b).length = b.size := bytesOf_length b
 induction d with
 | zero =>
  intro i hi hb
  have h1 : (bytesOf a).drop i = [] := List.drop_eq_nil_of_le (by omega)
  rw [h1, sh_nl, Nat.add_zero]
  exact Ev.step (fun k => by rw [block_Shared.l0]) (ev_neg (by omega) (ev_const rfl))
 | succ d ih =>
  intro i hi hb
  by_cases hbi : i < b.size
  ·have hw : wrap64 ((i : Int) + 1) = ((i + 1 : Nat) : Int) := by rw [wrap64_id (by omega)]; omega
   have c1 : (i : Int) < (a.size : Int) := by omega
   have c2 : (i : Int) < (b.size : Int) := by omega
   have c3 : (0 : Int) ≤ (i : Int) := by omega
   have h := ih (i + 1) (by omega) (by omega)
   have ea : (bytesOf a).drop i = (bytesOf a)[i]'(by omega) :: (bytesOf a).drop (i + 1) := List.drop_eq_getElem_cons (by omega)
   have eb : (bytesOf b).drop i = (bytesOf b)[i]'(by omega) :: (bytesOf b).drop (i + 1) := List.drop_eq_getElem_cons (by omega)
   have ba : bt a (i : Int) = (bytesOf a)[i]'(by omega) := by rw [bt_eq]; simp [la, show i < a.size by omega]
   have bb : bt b (i : Int) = (bytesOf b)[i]'(by omega) := by rw [bt_eq]; simp [lb, hbi]
   refine Ev.step (fun k => by rw [block_Shared.l0, hw]) (ev_pos c1 (ev_pos c2 (ev_pos c3 ?_)))
   rw [ea, eb]
   by_cases hq : (bytesOf a)[i]'(by omega) = (bytesOf b)[i]'(by omega)
   ·refine ev_pos (by rw [ba, bb, hq]) ?_
    rw [sh_eq hq, show i + (sh ((bytesOf a).drop (i + 1)) ((bytesOf b).drop (i + 1)) + 1) = i + 1 + sh ((bytesOf a).drop (i + 1)) ((bytesOf b).drop (i + 1)) from by rw [Nat.add_comm (sh _ _) 1, Nat.add_assoc]]
    exact h
   ·refine ev_neg (by rw [ba, bb]; exact hq) (ev_const ?_)
    rw [sh_ne hq, Nat.add_zero]
  ·have h1 : (bytesOf b).drop i = [] := List.drop_eq_nil_of_le (by omega)
   rw [h1, sh_nil]
   exact Ev.step (fun k => by rw [block_Shared.l0]) (ev_pos (by omega) (ev_neg (by omega) (ev_const (by rw [Nat.add_zero]))))
theorem Shared_ev (a b : ByteArray) (ha : a.size ≤ 9223372036854775806) : Ev (fun k => block_Shared.f k a b) ((sh (bytesOf a) (bytesOf b) : Nat) : Int) := by
 have h := Shared_l0 a b ha a.size 0 (Nat.zero_add _) (Nat.zero_le _)
 rw [List.drop_zero, List.drop_zero, Nat.zero_add] at h
 exact h
theorem four_ev (n : Nat) (h : n < 4294967296) : Ev (fun k => block_four.f k (n : Int)) (strOfNums (be 4 n)) := by
 unfold block_four.f
 have hm : ((n : Int)) % 4294967296 = (n : Int) := Int.emod_eq_of_lt (by omega) (by omega)
 rw [hm]
 exact Ev.bind (Fix_yes (v := n) (n := 4) (by omega) (by omega) (Or.inr (by omega))) (ev_const rfl)
def pc (e : E) (n : Nat) : List Int := vb n ++ ((vb (e.f0.size - n) ++ (bytesOf e.f0).drop n) ++ ((vb e.f1.toNat ++ vb e.f2.toNat) ++ (vb e.f3.size ++ bytesOf e.f3)))
structure Ok (e : E) : Prop where
 key : e.f0.size ≤ 300
 seq : 0 ≤ e.f1 ∧ e.f1 ≤ 18446744073709551615
 kind : e.f2 = 1 ∨ e.f2 = 2
 val : e.f3.size ≤ 60000
theorem pc_len {e : E} (h : Ok e) {n : Nat} (hn : n ≤ e.f0.size) : (pc e n).length ≤ 60400 := by
 have h1 := vb_len10 (n := n) (by have := h.key; omega)
 have h2 := vb_len10 (n := e.f0.size - n) (by have := h.key; omega)
 have h3 := vb_len10 (n := e.f1.toNat) (by have := h.seq; omega)
 have h4 := vb_len10 (n := e.f2.toNat) (by rcases h.kind with h | h <;> rw [h] <;> decide)
 have h5 := vb_len10 (n := e.f3.size) (by have := h.val; omega)
 have h6 := h.key
 have h7 := h.val
 have h8 : (bytesOf e.f0).length = e.f0.size := bytesOf_length _
 have h9 : (bytesOf e.f3).length = e.f3.size := bytesOf_length _
 unfold pc
 simp only [List.length_append, List.length_drop]
 omega
theorem pc_ok (e : E) (n : Nat) : ok8 (pc e n) := ok8_append (vb_ok _) (ok8_append (ok8_append (vb_ok _) (fun x hx => ok8_of e.f0 x (List.mem_of_mem_drop hx))) (ok8_append (ok8_append (vb_ok _) (vb_ok _)) (ok8_append (vb_ok _) (ok8_of _))))
theorem piece_ev {e : E} (h : Ok e) {n : Nat} (hn : n ≤ e.f0.size) : Ev (fun k => piece k e (n : Int)) (strOfNums (pc e n)) := by
 have hk := h.key
 have hs := h.seq
 have hv := h.val
 have h2 : 0 ≤ e.f2 ∧ e.f2 ≤ 2 := by rcases h.kind with q | q <;> rw [q] <;> decide
 have hw : IntKind.u64.wrap e.f2 = e.f2 := wu64_id (by omega)
 have hx : (e.f0.extract (n : Int).toNat e.f0.size).size = e.f0.size - n := by simp
 have hb : bytesOf (e.f0.extract (n : Int).toNat e.f0.size) = (bytesOf e.f0).drop n := by
  rw [bytesOf_extract, List.take_of_length_le (by rw [bytesOf_length]; omega)]
  rfl
 have h8 : (bytesOf e.f0).length = e.f0.size := bytesOf_length _
 have h9 : (bytesOf e.f3).length = e.f3.size := bytesOf_length _
 have v1 := Go.Proofs.YtchgpcgolgcfdaaGreat.PuVt.Var_ev (l := [(n : Int)]) (by intro x hx; simp at hx; omega) (by simp)
 have v2 := Go.Proofs.YtchgpcgolgcfdaaGreat.PuVt.Text_ev [e.f0.extract (n : Int).toNat e.f0.size] (by simp [room]; omega)
 have v3 := Go.Proofs.YtchgpcgolgcfdaaGreat.PuVt.Var_ev (l := [e.f1, e.f2]) (by intro x hx; simp at hx; rcases hx with rfl | rfl <;> omega) (by simp)
 have v4 := Go.Proofs.YtchgpcgolgcfdaaGreat.PuVt.Text_ev [e.f3] (by simp [room]; omega)
 have w1 : vbs [(n : Int)] = vb n := by simp [vbs]
 have w2 : tx [e.f0.extract (n : Int).toNat e.f0.size] = vb (e.f0.size - n) ++ (bytesOf e.f0).drop n := by simp only [tx, List.flatMap_cons, List.flatMap_nil, List.append_nil]; rw [hx, hb]
 have w3 : vbs [e.f1, e.f2] = vb e.f1.toNat ++ vb e.f2.toNat := by simp [vbs]
 have w4 : tx [e.f3] = vb e.f3.size ++ bytesOf e.f3 := by simp [tx]
 rw [w1] at v1
 rw [w2] at v2
 rw [w3] at v3
 rw [w4] at v4
 have hl := pc_len h hn
 unfold piece
 rw [hw]
 refine Ev.bind v1 (Ev.bind v2 (Ev.bind v3 (Ev.bind v4 (ev_pos ?_ (ev_const ?_)))))
 ·simp only [S_size]
  unfold pc at hl
  simp only [List.length_append] at hl ⊢
  unfold lim
  omega
 ·rw [S_append, S_append, S_append]
  unfold pc
  simp only [List.append_assoc]
def hd (i : Nat) (p : ByteArray) (e : E) : Nat := if i % 4 = 0 then 0 else sh (bytesOf p) (bytesOf e.f0)
def layB : Nat → ByteArray → List E → List Int
 | _, _, [] => []
 | i, p, e :: l => pc e (hd i p e) ++ layB (i + 1) e.f0 l
theorem hd_le (i : Nat) (p : ByteArray) (e : E) : hd i p e ≤ p.size ∧ hd i p e ≤ e.f0.size := by
 have := sh_le (bytesOf p) (bytesOf e.f0)
 rw [bytesOf_length, bytesOf_length] at this
 unfold hd
 split <;> omega
theorem hd_take (i : Nat) (p : ByteArray) (e : E) : (bytesOf p).take (hd i p e) = (bytesOf e.f0).take (hd i p e) := by
 unfold hd
 split
 ·rw [List.take_zero, List.take_zero]
 ·exact sh_take _ _
theorem layB_ok : ∀ (l : List E) i p, ok8 (layB i p l)
 | [], _, _ => ok8_nil
 | e :: l, i, p => ok8_append (pc_ok e _) (layB_ok l (i + 1) e.f0)
theorem layB_len : ∀ (l : List E) i p, (∀ e ∈ l, Ok e) → (layB i p l).length ≤ l.length * 60400
 | [], _, _, _ => by simp [layB]
 | e :: l, i, p, h => by
  have h1 := pc_len (h e List.mem_cons_self) (hd_le i p e).2
  have h2 := layB_len l (i + 1) e.f0 (fun x hx => h x (List.mem_cons_of_mem _ hx))
  rw [layB, List.length_append, List.length_cons]
  omega
theorem at_nat (l : List E) (i : Nat) (h : i < l.length) : rdE l (i : Int) = l[i] := by
 simp [rdE, rd_T32, h]
theorem app_nil (b : ByteArray) : b ++ strOfNums [] = b := by
 have h := S_append (bytesOf b) []
 rw [List.append_nil, S_of] at h
 exact h
theorem app_S (b : ByteArray) (x y : List Int) : (b ++ strOfNums x) ++ strOfNums y = b ++ strOfNums (x ++ y) := by
 have h1 := S_append (bytesOf b) x
 have h2 := S_append (bytesOf b ++ x) y
 have h3 := S_append (bytesOf b) (x ++ y)
 rw [S_of] at h1 h3
 rw [h1, h3, h2, List.append_assoc]
theorem ahead_ev (l : List E) (hl : ∀ e ∈ l, Ok e) (i : Nat) (hi : i < l.length) (h400 : l.length ≤ 10000) (p b r : ByteArray) (hp : 0 < i → p = (rdE l ((i : Int) - 1)).f0) (hps : p.size ≤ 300) (hb : b.size ≤ i * 60400) (hr : r.size = 4 * ((i + 3) / 4)) :
  ∃ r' : ByteArray, r'.size = 4 * ((i + 1 + 3) / 4) ∧ Ev (fun k => Go.Proofs.YtchgpcgolgcfdaaGreat.Bl2.ahead k l i b r) (((hd i p l[i] : Nat) : Int), r') := by
 have he := at_nat l i hi
 by_cases h4 : i % 4 = 0
 ·have hx : (strOfNums (be 4 b.size)).size = 4 := by rw [S_size, be_len]
  refine ⟨r ++ strOfNums (be 4 b.size), ?_, ?_⟩
  ·rw [ByteArray.size_append, hx, hr]
   omega
  ·unfold Go.Proofs.YtchgpcgolgcfdaaGreat.Bl2.ahead hd
   simp only [if_pos h4]
   refine Ev.bind (four_ev b.size (by omega)) (ev_pos ?_ (ev_const rfl))
   rw [hx, hr]
   unfold lim
   omega
 ·refine ⟨r, by omega, ?_⟩
  have hpe := hp (by omega)
  have hsh := hd_le i p l[i]
  have hd1 : hd i p l[i] = sh (bytesOf p) (bytesOf l[i].f0) := by unfold hd; rw [if_neg h4]
  unfold Go.Proofs.YtchgpcgolgcfdaaGreat.Bl2.ahead
  simp only [if_neg h4]
  rw [he, ← hpe, hd1]
  rw [hd1] at hsh
  refine Ev.bind (Shared_ev p l[i].f0 (by omega)) (ev_pos ⟨⟨by omega, by omega⟩, ?_⟩ (ev_const rfl))
  unfold lim
  omega
theorem go_ev (l : List E) (hl : ∀ e ∈ l, Ok e) (h400 : l.length ≤ 10000) (n : Nat) : ∀ i p b r, i + n = l.length → (0 < i → p = (rdE l ((i : Int) - 1)).f0) → p.size ≤ 300 → b.size ≤ i * 60400 → r.size = 4 * ((i + 3) / 4) →
  ∃ r' : ByteArray, r'.size = 4 * ((l.length + 3) / 4) ∧ Ev (fun k => go k l n i b r) (b ++ strOfNums (layB i p (l.drop i)), r') := by
 induction n with
 | zero =>
  intro i p b r hi hp hps hb hr
  obtain rfl : i = l.length := by omega
  refine ⟨r, hr, ?_⟩
  rw [List.drop_length, layB, app_nil]
  exact ev_const rfl
 | succ n ih =>
  intro i p b r hi hp hps hb hr
  have hlt : i < l.length := by omega
  have he := at_nat l i hlt
  have hok := hl _ (List.getElem_mem hlt)
  obtain ⟨r1, hr1, ha⟩ := ahead_ev l hl i hlt h400 p b r hp hps hb hr
  have hd2 := hd_le i p l[i]
  have hpl := pc_len hok hd2.2
  have hps2 : (strOfNums (pc l[i] (hd i p l[i]))).size = (pc l[i] (hd i p l[i])).length := S_size _
  obtain ⟨r2, hr2, hg⟩ := ih (i + 1) l[i].f0 (b ++ strOfNums (pc l[i] (hd i p l[i]))) r1 (by omega) (fun _ => by rw [show (((i + 1 : Nat) : Int) - 1) = (i : Int) by omega, he]) hok.key (by rw [ByteArray.size_append, hps2]; omega) hr1
  refine ⟨r2, hr2, ?_⟩
  rw [List.drop_eq_getElem_cons hlt, layB, ← app_S]
  show Ev (fun k => (Go.Proofs.YtchgpcgolgcfdaaGreat.Bl2.ahead k l i b r).bind fun x => (piece k (rdE l (i : Int)) x.1).bind fun p => if b.size + p.size ≤ lim then go k l n (i + 1) (b ++ p) x.2 else none) _
  rw [he]
  refine Ev.bind ha (Ev.bind (piece_ev hok hd2.2) (ev_pos ?_ hg))
  rw [hps2]
  unfold lim
  omega
theorem rCount_vb {n : Nat} {m : Int} (h : (n : Int) ≤ m) (hm : m ≤ 9223372036854775807) (rest : List Int) : rCount (vb n ++ rest) 0 m = ((n : Int), rest, 0) := by
 unfold rCount
 rw [rVar_vb (by omega)]
 simp only
 rw [if_pos trivial, if_neg (by omega)]
theorem vers_ev (l : List E) : ∀ i p acc, (∀ e ∈ l, Ok e) → p.size ≤ 300 → acc.length + l.length ≤ 10000 → Ev (fun k => block_versions.l0 k acc p (strOfNums (layB i p l)) 0) (acc ++ l, true) := by
 induction l with
 | nil =>
  intro i p acc _ _ _
  rw [layB, List.append_nil]
  refine Ev.step (fun k => by rw [block_versions.l0, Left_eq, Option.bind_some]) (ev_neg ?_ (ev_const rfl))
  rw [S_size]
  simp
 | cons e l ih =>
  intro i p acc hok hp hlen
  have ho := hok e List.mem_cons_self
  obtain ⟨hn1, hn2⟩ := hd_le i p e
  have htk := hd_take i p e
  have hrest := layB_ok l (i + 1) e.f0
  rw [layB]
  generalize hd i p e = n at *
  generalize hX : layB (i + 1) e.f0 l = X at *
  have hk := ho.key
  have hs := ho.seq
  have hv := ho.val
  rw [List.length_cons] at hlen
  have h2 : 0 ≤ e.f2 ∧ e.f2 ≤ 2 := by rcases ho.kind with q | q <;> rw [q] <;> decide
  have o4 : ok8 ((vb e.f3.size ++ bytesOf e.f3) ++ X) := ok8_append (ok8_append (vb_ok _) (ok8_of _)) hrest
  have o3 : ok8 (vb e.f2.toNat ++ ((vb e.f3.size ++ bytesOf e.f3) ++ X)) := ok8_append (vb_ok _) o4
  have o2 : ok8 (vb e.f1.toNat ++ (vb e.f2.toNat ++ ((vb e.f3.size ++ bytesOf e.f3) ++ X))) := ok8_append (vb_ok _) o3
  have od : ok8 (vb (e.f0.size - n) ++ (bytesOf e.f0).drop n) := ok8_append (vb_ok _) (fun x hx => ok8_of e.f0 x (List.mem_of_mem_drop hx))
  have o1 := ok8_append od o2
  have o0 := ok8_append (vb_ok n) o1
  have hall : pc e n ++ X = vb n ++ ((vb (e.f0.size - n) ++ (bytesOf e.f0).drop n) ++ (vb e.f1.toNat ++ (vb e.f2.toNat ++ ((vb e.f3.size ++ bytesOf e.f3) ++ X)))) := by
   unfold pc
   simp only [List.append_assoc]
  rw [hall]
  have hb : bytesOf (e.f0.extract n e.f0.size) = (bytesOf e.f0).drop n := by
   rw [bytesOf_extract, List.take_of_length_le (by rw [bytesOf_length]; omega)]
  have hbs : (e.f0.extract n e.f0.size).size = e.f0.size - n := by simp
  have c1 := Count_ev o0 0 (p.size : Int) (by omega)
  rw [rCount_vb (by omega) (by omega)] at c1
  have c2 := Go.Proofs.YtchgpcgolgcfdaaGreat.PuVr.Text_ev o1 0 300 (by omega)
  have t2 := rText_tx (s := e.f0.extract n e.f0.size) (most := 300) (by omega) (by omega) (vb e.f1.toNat ++ (vb e.f2.toNat ++ ((vb e.f3.size ++ bytesOf e.f3) ++ X)))
  rw [hbs, hb] at t2
  rw [t2] at c2
  have c3 := Go.Proofs.YtchgpcgolgcfdaaGreat.PuVr.Var_ev o2 0
  rw [rVar_vb (by omega)] at c3
  have c4 := Go.Proofs.YtchgpcgolgcfdaaGreat.PuVr.Var_ev o3 0
  rw [rVar_vb (by omega)] at c4
  have c5 := Go.Proofs.YtchgpcgolgcfdaaGreat.PuVr.Text_ev o4 0 60000 (by omega)
  rw [rText_tx (by omega) (by omega)] at c5
  have z1 : ((e.f1.toNat : Nat) : Int) = e.f1 := Int.toNat_of_nonneg hs.1
  have z2 : ((e.f2.toNat : Nat) : Int) = e.f2 := Int.toNat_of_nonneg h2.1
  rw [z1] at c3
  rw [z2] at c4
  rw [S_of] at c5
  have hkey : p.extract 0 n ++ strOfNums ((bytesOf e.f0).drop n) = e.f0 := by
   have q : p.extract 0 n = strOfNums ((bytesOf e.f0).take n) := by
    rw [← htk, ← S_of (p.extract 0 n), bytesOf_extract, List.drop_zero]
   rw [q, S_append, List.take_append_drop, S_of]
  have hgo := ih (i + 1) e.f0 (acc ++ [e]) (fun x hx => hok x (List.mem_cons_of_mem _ hx)) hk (by simp; omega)
  rw [hX, List.append_assoc, List.singleton_append] at hgo
  have hj : ∀ y, Ev (fun k => block_versions.j1 k acc p (n : Int) (strOfNums ((bytesOf e.f0).drop n)) (strOfNums ((vb e.f3.size ++ bytesOf e.f3) ++ X)) 0 y e.f1 (wrap64 e.f2) ⟨#[]⟩) (acc ++ e :: l, true) := by
   intro y
   have hcl : strings_Clone.f e.f3 = some e.f3 := by
    unfold strings_Clone.f stringslite_Clone.f
    rw [if_pos (by omega)]
    rfl
   have hq1 : (p.extract 0 n).size ≤ p.size := by rw [ByteArray.size_extract]; omega
   have hq2 : (strOfNums ((bytesOf e.f0).drop n)).size ≤ e.f0.size := by rw [S_size, List.length_drop, bytesOf_length]; omega
   have hq : (p.extract 0 ((n : Int)).toNat).size + (strOfNums ((bytesOf e.f0).drop n)).size ≤ 9223372036854775807 := by rw [Int.toNat_natCast]; omega
   have hw : wrap64 e.f2 = e.f2 := wrap64_id (by omega)
   have g1 : (0 : Int) ≤ (n : Int) := by omega
   have g2 : (n : Int) ≤ (p.size : Int) := by omega
   have g3 : acc.length < 2932031007402 := by omega
   have c6 : Ev (fun k => num_Reader_Text.f k (strOfNums ((vb e.f3.size ++ bytesOf e.f3) ++ X)) 0 60000) (e.f3, strOfNums X, 0) := c5
   have hend : Ev (fun k => if 0 ≤ (n : Int) then (if (n : Int) ≤ (p.size : Int) then (if (p.extract 0 ((n : Int)).toNat).size + (strOfNums ((bytesOf e.f0).drop n)).size ≤ 9223372036854775807 then (if acc.length < 2932031007402 then block_versions.l0 k (acc ++ [(⟨p.extract 0 ((n : Int)).toNat ++ strOfNums ((bytesOf e.f0).drop n), e.f1, wrap64 e.f2, e.f3⟩ : E)]) (p.extract 0 ((n : Int)).toNat ++ strOfNums ((bytesOf e.f0).drop n)) (strOfNums X) 0 else none) else none) else none) else none) (acc ++ e :: l, true) := by
    refine ev_pos g1 (ev_pos g2 (ev_pos hq (ev_pos g3 ?_)))
    rw [Int.toNat_natCast, hkey, hw]
    exact hgo
   refine Ev.step (fun k => by rw [block_versions.j1]) (Ev.bind c6 (ev_call hcl (ev_call (Err_eq _ _) (ev_pos rfl ?_))))
   exact hend
  refine Ev.step (fun k => by rw [block_versions.l0, Left_eq, Option.bind_some]) (ev_pos ?_ (Ev.bind c1 (Ev.bind c2 (Ev.bind c3 (Ev.bind c4 (ev_pos h2.2 (hj _)))))))
  rw [S_size, List.length_append]
  have := vb_pos n
  omega
end Go.Proofs.YtchgpcgolgcfdaaGreat.PuBk
end
section
namespace Go.Proofs.YtchgpcgolgcfdaaGreat.PuCrc
open Go Go.RowKit Go.Proofs.YtchgpcgolgcfdaaGreat.PNum Go.Proofs.YtchgpcgolgcfdaaGreatW.PrintWords Go.Proofs.YtchgpcgolgcfdaaGreatW.PrintLast Go.Proofs.YtchgpcgolgcfdaaGreatW.PrintMore Go.Proofs.YtchgpcgolgcfdaaGreatW.Pu
def Tot (f : Nat → Option Int) : Prop := ∃ r, (0 ≤ r ∧ r < 4294967296) ∧ Ev f r
theorem u32_range (x : Int) : 0 ≤ IntKind.u32.wrap x ∧ IntKind.u32.wrap x < 4294967296 := by
 simp [IntKind.wrap, IntKind.bits, IntKind.signed]
 omega
theorem xor_range (x y : Int) : 0 ≤ Go.bits .xor .u32 x y ∧ Go.bits .xor .u32 x y < 4294967296 := u32_range _
theorem l2_tot (s : ByteArray) (L : List ByteArray) (n j m i : Int) (h : ∀ x, Tot (fun k => sum_Crc.l1 k x s L n j m (wrap64 (i + 1)))) (d : Nat) : ∀ (c : Nat) x, c + d = 8 → Tot (fun k => sum_Crc.l2 k x s L n j m i (c : Int)) := by
 induction d with
 | zero =>
  intro c x hc
  obtain ⟨r, hr, he⟩ := h x
  exact ⟨r, hr, Ev.step (fun k => by rw [sum_Crc.l2]) (ev_neg (by omega) he)⟩
 | succ d ih =>
  intro c x hc
  have hw : wrap64 ((c : Int) + 1) = ((c + 1 : Nat) : Int) := by rw [wrap64_id (by omega)]; omega
  by_cases hb : Go.bits .and .u32 x 1 = 1
  ·obtain ⟨r, hr, he⟩ := ih (c + 1) (Go.bits .xor .u32 (x / 2) 2197175160) (by omega)
   exact ⟨r, hr, Ev.step (fun k => by rw [sum_Crc.l2, hw]) (ev_pos (by omega) (ev_pos hb he))⟩
  ·obtain ⟨r, hr, he⟩ := ih (c + 1) (x / 2) (by omega)
   exact ⟨r, hr, Ev.step (fun k => by rw [sum_Crc.l2, hw]) (ev_pos (by omega) (ev_neg hb he))⟩
theorem l1_tot (s : ByteArray) (hs : s.size ≤ 9223372036854775806) (L : List ByteArray) (n j : Int) (h : ∀ x, Tot (fun k => sum_Crc.l0 k x L n (wrap64 (j + 1)))) (d : Nat) : ∀ (i : Nat) x, i + d = s.size → Tot (fun k => sum_Crc.l1 k x s L n j (s.size : Int) (i : Int)) := by
 induction d with
 | zero =>
  intro i x hi
  obtain ⟨r, hr, he⟩ := h x
  exact ⟨r, hr, Ev.step (fun k => by rw [sum_Crc.l1]) (ev_neg (by omega) he)⟩
 | succ d ih =>
  intro i x hi
  have hw : wrap64 ((i : Int) + 1) = ((i + 1 : Nat) : Int) := by rw [wrap64_id (by omega)]; omega
  obtain ⟨r, hr, he⟩ := l2_tot s L n j (s.size : Int) (i : Int) (fun x => by rw [hw]; exact ih (i + 1) x (by omega)) 8 0 (Go.bits .xor .u32 x ((bt s (i : Int)) % 4294967296)) rfl
  have he2 : Ev (fun k => sum_Crc.l2 k (Go.bits .xor .u32 x ((bt s (i : Int)) % 4294967296)) s L n j (s.size : Int) (i : Int) 0) r := he
  exact ⟨r, hr, Ev.step (fun k => by rw [sum_Crc.l1]) (ev_pos (by omega) (ev_pos (by omega) (ev_pos (by omega) he2)))⟩
theorem Crc_ev (s : ByteArray) (hs : s.size ≤ 9223372036854775806) : Tot (fun k => sum_Crc.f k [s]) := by
 have h0 : ∀ x, Tot (fun k => sum_Crc.l0 k x [s] (([s] : List ByteArray).length : Int) (wrap64 (0 + 1))) := fun x =>
  ⟨Go.bits .xor .u32 4294967295 x, xor_range _ _, Ev.step (fun k => by rw [sum_Crc.l0]) (ev_neg (by rw [wrap64_id (by omega)]; simp) (ev_const rfl))⟩
 obtain ⟨r, hr, he⟩ := l1_tot s hs [s] (([s] : List ByteArray).length : Int) 0 h0 s.size 0 4294967295 (Nat.zero_add _)
 refine ⟨r, hr, ?_⟩
 unfold sum_Crc.f
 have hr0 : rdOf ByteArray.empty [s] 0 = s := rfl
 have he2 : Ev (fun k => sum_Crc.l1 k 4294967295 s [s] (([s] : List ByteArray).length : Int) 0 (s.size : Int) 0) r := he
 exact Ev.step (fun k => by rw [sum_Crc.l0, hr0]) (ev_pos (by simp) (ev_pos (by omega) (ev_pos (by simp) he2)))
end Go.Proofs.YtchgpcgolgcfdaaGreat.PuCrc
end
section
namespace Go.Proofs.YtchgpcgolgcfdaaGreat.PNum
open Go.RowKit Go.Proofs.YtchgpcgolgcfdaaGreatW.PrintWords Go.Proofs.YtchgpcgolgcfdaaGreatW.PrintLast Go.Proofs.YtchgpcgolgcfdaaGreatW.PrintMore
attribute [local go_sem] max2_int min2_int max_two min_two max_three min_three max_four min_four
set_option linter.unusedVariables false
set_option linter.unusedSimpArgs false
set_option maxRecDepth 100000
set_option maxHeartbeats 16000000
def cornucopiabook_Room.l0 : Nat → Int → List Int → Int → Option (Int)
 | 0, _, _, _ => none
 | k + 1, x0, x1, x5 => if x5 < (x1.length : Int) then (if x0 < 0 then (some (-1)) else (if 0 ≤ x5 then (if (rd x1 x5) > x0 then (some (-1)) else (cornucopiabook_Room.l0 k (wrap64 (x0 - (rd x1 x5))) x1 (wrap64 (x5 + 1)))) else (none))) else (some x0)
def cornucopiabook_Room.f (k : Nat) (a0 : Int) (l1 : List Int) : Option (Int) := cornucopiabook_Room.l0 k a0 l1 0
theorem cornucopiabook_Room.calls (k : Nat) (a0 : Int) (A1 : Option Addr) (c1 : Nat) (l1 : List Int) (r : Int) (w : World) (hr1 : Kd.C (Kd.int .i64) w A1 l1.length l1) (hc1 : l1.length ≤ c1) (h : cornucopiabook_Room.f k a0 l1 = some r) :
  Calls Tryz.prog 96 #[.int .i64 a0, .slice A1 l1.length c1] w fun e w' => e = .returned (.int .i64 r) ∧ Drawn0 w w' := by
 have HR1 := a_k hr1
 have HC1 := a_k hc1
 clear hr1 hc1
 have H : (cornucopiabook_Room.l0 k a0 l1 0) = some r := h
 clear h
 have H' := a_k H
 clear H
 go_enter Tryz.func96, Tryz.ntmps96
 go_wp2
 go_loopg [0, 5] k (fun kq v0 v5 w' => ∃ (x0_1 : Int) (x5_1 : Int), v0 = .int .i64 x0_1 ∧ v5 = .int .i64 x5_1 ∧ Aside0 (cornucopiabook_Room.l0 kq x0_1 l1 x5_1 = some r) ∧ Aside0 (kq ≤ k) ∧ Drawn0 w w')
 case atStart => exact ⟨(a0), (0), (by first | rfl | (simp; done) | (simp [*]; done)), (by first | rfl | (simp; done) | (simp [*]; done)), H', ⟨Nat.le_refl _⟩, by repeat (first | exact Drawn0.refl _ | apply Drawn0.step)⟩
 case round =>
  clear H'
  try clear c1
  try clear p2
  obtain ⟨x0_1, x5_1, rfl, rfl, HA, HK1, ⟨m1, rfl⟩⟩ := hrel
  cases gk with
  | zero => exact absurd HA.out (by simp [cornucopiabook_Room.l0])
  | succ k1 =>
   have H := HA.out
   clear HA
   simp only [cornucopiabook_Room.l0] at H
   by_cases c3 : x5_1 < (l1.length : Int)
   ·rw [if_pos c3] at H
    have c3b0 : decide (x5_1 < (l1.length : Int)) = true := decide_eq_true c3
    clear c3
    by_cases c4 : x0_1 < 0
    ·rw [if_pos c4] at H
     have c4b0 : decide (x0_1 < 0) = true := decide_eq_true c4
     clear c4
     obtain rfl := Option.some.inj H
     go_wp2
     go_ret
     exact ⟨by first | rfl | (simp; done) | (simp [*]; done), by repeat (first | exact Drawn0.refl _ | apply Drawn0.step)⟩
    ·rw [if_neg c4] at H
     have c4b0 : decide (x0_1 < 0) = false := decide_eq_false c4
     clear c4
     by_cases c5 : 0 ≤ x5_1
     ·rw [if_pos c5] at H
      have c5b0 : decide (0 ≤ x5_1) = true := decide_eq_true c5
      clear c5
      by_cases c6 : (rd l1 x5_1) > x0_1
      ·rw [if_pos c6] at H
       have c6b0 : decide (x0_1 < (rd l1 x5_1)) = true := decide_eq_true c6
       clear c6
       obtain rfl := Option.some.inj H
       have p101 : 0 ≤ (x5_1 : Int) := of_decide_eq_true (by assumption)
       have q101 : x5_1 < (l1.length : Int) := of_decide_eq_true (by assumption)
       obtain ⟨ad101, e101, hx101_0⟩ := Kd.at_int HR1.out x5_1 p101 q101
       cases e101
       replace p101 := eq_true p101
       replace q101 := eq_true q101
       go_wp2
       go_ret
       exact ⟨by first | rfl | (simp; done) | (simp [*]; done), by repeat (first | exact Drawn0.refl _ | apply Drawn0.step)⟩
      ·rw [if_neg c6] at H
       have c6b0 : decide (x0_1 < (rd l1 x5_1)) = false := decide_eq_false c6
       clear c6
       have H' := a_k H
       clear H
       have p101 : 0 ≤ (x5_1 : Int) := of_decide_eq_true (by assumption)
       have q101 : x5_1 < (l1.length : Int) := of_decide_eq_true (by assumption)
       obtain ⟨ad101, e101, hx101_0⟩ := Kd.at_int HR1.out x5_1 p101 q101
       cases e101
       replace p101 := eq_true p101
       replace q101 := eq_true q101
       have p102 : 0 ≤ (x5_1 : Int) := of_decide_eq_true (by assumption)
       have q102 : x5_1 < (l1.length : Int) := of_decide_eq_true (by assumption)
       obtain ⟨ad102, e102, hx102_0⟩ := Kd.at_int HR1.out x5_1 p102 q102
       obtain rfl : ad101 = ad102 := (by injection e102)
       replace p102 := eq_true p102
       replace q102 := eq_true q102
       go_wp2
       go_roundg k1
       case measure => have := HK1.out; omega
       case rel => exact ⟨(wrap64 (x0_1 - (rd l1 x5_1))), (wrap64 (x5_1 + 1)), (by first | rfl | (simp; done) | (simp [*]; done)), (by first | rfl | (simp; done) | (simp [*]; done)), H', ⟨by have := HK1.out; omega⟩, by repeat (first | exact Drawn0.refl _ | apply Drawn0.step)⟩
     ·rw [if_neg c5] at H
      exact absurd H (by simp)
   ·rw [if_neg c3] at H
    have c3b0 : decide (x5_1 < (l1.length : Int)) = false := decide_eq_false c3
    clear c3
    obtain rfl := Option.some.inj H
    go_wp2
    go_ret
    exact ⟨by first | rfl | (simp; done) | (simp [*]; done), by repeat (first | exact Drawn0.refl _ | apply Drawn0.step)⟩
end Go.Proofs.YtchgpcgolgcfdaaGreat.PNum
end
section
namespace Go.Proofs.YtchgpcgolgcfdaaGreat.PuIkC
open Go Go.RowKit Go.Proofs.YtchgpcgolgcfdaaGreat.PNum Go.Proofs.YtchgpcgolgcfdaaGreatW.PrintWords Go.Proofs.YtchgpcgolgcfdaaGreatW.PrintLast Go.Proofs.YtchgpcgolgcfdaaGreatW.PrintMore Go.Proofs.YtchgpcgolgcfdaaGreatW.Pu
theorem rd_nat (l : List Int) (i : Nat) (h : i < l.length) : rd l (i : Int) = l[i] := by
 simp [rd, h]
theorem cl_range : ∀ a b : List UInt8, Lib.compareBytes a b = -1 ∨ Lib.compareBytes a b = 0 ∨ Lib.compareBytes a b = 1
 | [], [] => .inr (.inl rfl)
 | [], _ :: _ => .inl rfl
 | _ :: _, [] => .inr (.inr rfl)
 | a :: xs, b :: ys => by
  rw [Lib.compareBytes]
  split
  ·exact .inl rfl
  ·split
   ·exact .inr (.inr rfl)
   ·exact cl_range xs ys
theorem cl_neg : ∀ a b : List UInt8, Lib.compareBytes a b = -Lib.compareBytes b a
 | [], [] => rfl
 | [], _ :: _ => rfl
 | _ :: _, [] => rfl
 | a :: xs, b :: ys => by
  rw [Lib.compareBytes, Lib.compareBytes, cl_neg xs ys]
  by_cases h : a < b
  ·rw [if_pos h, if_neg (fun k => UInt8.lt_asymm h k), if_pos h]
  ·by_cases k : b < a
   ·rw [if_neg h, if_pos k, if_pos k]; rfl
   ·rw [if_neg h, if_neg k, if_neg k, if_neg h]
theorem cl_zero : ∀ a b : List UInt8, Lib.compareBytes a b = 0 ↔ a = b
 | [], [] => by simp [Lib.compareBytes]
 | [], _ :: _ => by simp [Lib.compareBytes]
 | _ :: _, [] => by simp [Lib.compareBytes]
 | a :: xs, b :: ys => by
  rw [Lib.compareBytes]
  by_cases h : a < b
  ·rw [if_pos h]
   simp only [List.cons.injEq]
   exact ⟨fun k => by omega, fun k => absurd (k.1 ▸ h) (UInt8.lt_irrefl _)⟩
  ·by_cases k : b < a
   ·rw [if_neg h, if_pos k]
    simp only [List.cons.injEq]
    exact ⟨fun k => by omega, fun q => absurd (q.1 ▸ k) (UInt8.lt_irrefl _)⟩
   ·rw [if_neg h, if_neg k, cl_zero xs ys, List.cons.injEq]
    have : a = b := UInt8.le_antisymm (UInt8.not_lt.1 k) (UInt8.not_lt.1 h)
    simp [this]
theorem cl_trans : ∀ a b c : List UInt8, Lib.compareBytes a b = -1 → Lib.compareBytes b c = -1 → Lib.compareBytes a c = -1
 | [], _, [] => fun h k => by
  rename_i b
  cases b with
  | nil => cases h
  | cons => cases k
 | [], _, _ :: _ => fun _ _ => rfl
 | _ :: _, [], _ => fun h _ => by cases h
 | _ :: _, _ :: _, [] => fun _ h => by cases h
 | a :: xs, b :: ys, c :: zs => by
  intro h k
  rw [Lib.compareBytes] at h k ⊢
  by_cases h1 : a < b
  ·by_cases k1 : b < c
   ·rw [if_pos (UInt8.lt_trans h1 k1)]
   ·rw [if_neg k1] at k
    by_cases k2 : c < b
    ·rw [if_pos k2] at k; cases k
    ·have : b = c := UInt8.le_antisymm (UInt8.not_lt.1 k2) (UInt8.not_lt.1 k1)
     rw [if_pos (this ▸ h1)]
  ·rw [if_neg h1] at h
   by_cases h2 : b < a
   ·rw [if_pos h2] at h; cases h
   ·rw [if_neg h2] at h
    have hab : a = b := UInt8.le_antisymm (UInt8.not_lt.1 h2) (UInt8.not_lt.1 h1)
    subst hab
    by_cases k1 : a < c
    ·rw [if_pos k1]
    ·rw [if_neg k1] at k ⊢
     by_cases k2 : c < a
     ·rw [if_pos k2] at k; cases k
     ·rw [if_neg k2] at k ⊢
      exact cl_trans xs ys zs h k
def cb (a b : ByteArray) : Int := Lib.compareBytes a.data.toList b.data.toList
theorem ba_ext {a b : ByteArray} : a.data.toList = b.data.toList ↔ a = b := by
 refine ⟨fun h => ?_, fun h => by rw [h]⟩
 cases a; cases b
 simp only [ByteArray.mk.injEq]
 exact Array.toList_inj.1 h
theorem tl_ext {a b : ByteArray} : a.toList = b.toList ↔ a = b := by rw [toList_data, toList_data, ba_ext]
theorem tl_beq (a b : ByteArray) : (a.toList == b.toList) = decide (a = b) := by
 by_cases h : a = b
 ·subst h; simp
 ·rw [decide_eq_false h, beq_eq_false_iff_ne]
  exact fun k => h (tl_ext.1 k)
def cs (x y : Int) : Int := if x < y then -1 else if x > y then 1 else 0
def ce (a b : S32) : Int := if cb a.f0 b.f0 = 0 then cs b.f1 a.f1 else cb a.f0 b.f0
theorem cs_range (x y : Int) : cs x y = -1 ∨ cs x y = 0 ∨ cs x y = 1 := by
 unfold cs
 split
 ·exact .inl rfl
 ·split
  ·exact .inr (.inr rfl)
  ·exact .inr (.inl rfl)
theorem cmp_u64 (x y : Int) : cmp_Compare_uint64.f x y = some (cs x y) := by
 simp only [cmp_Compare_uint64.f, cmp_isNaN_uint64.f, Option.bind_some, bne_self_eq_false]
 rw [if_neg (by simp), if_neg (by simp)]
 unfold cs
 split
 ·rfl
 ·split <;> rfl
theorem Or_ev (x y : Int) : Ev (fun k => cmp_Or_int.f k [x, y]) (if x = 0 then y else x) := by
 refine Ev.congr (fun k => by rw [cmp_Or_int.f]) (Ev.step (fun k => by rw [cmp_Or_int.l0]) ?_)
 refine ev_pos (show (0 : Int) < (([x, y] : List Int).length : Int) by simp) (ev_pos (by omega) (ev_pos (show (0 : Int) < (([x, y] : List Int).length : Int) by simp) ?_))
 rw [show rd [x, y] 0 = x from rfl]
 by_cases h : x = 0
 ·rw [if_pos h]
  refine ev_pos h ?_
  rw [show wrap64 (0 + 1) = 1 from wrap64_id (by omega)]
  refine Ev.step (fun k => by rw [cmp_Or_int.l0]) ?_
  refine ev_pos (show (1 : Int) < (([x, y] : List Int).length : Int) by simp) (ev_pos (by omega) (ev_pos (show (1 : Int) < (([x, y] : List Int).length : Int) by simp) ?_))
  rw [show rd [x, y] 1 = y from rfl]
  by_cases k : y = 0
  ·refine ev_pos k ?_
   rw [show wrap64 (1 + 1) = 2 from wrap64_id (by omega)]
   refine Ev.step (fun k => by rw [cmp_Or_int.l0]) (ev_neg (show ¬ (2 : Int) < (([x, y] : List Int).length : Int) by simp) (ev_const ?_))
   rw [k]
  ·exact ev_neg k (ev_const rfl)
 ·rw [if_neg h]
  exact ev_neg h (ev_const rfl)
theorem Compare_ev (a b : S32) : Ev (fun k => ikey_Compare.f k a.f0 a.f1 a.f2 a.f3 b.f0 b.f1 b.f2 b.f3) (ce a b) := by
 refine Ev.congr (fun k => by rw [ikey_Compare.f]) (ev_call (show strings_Compare.f a.f0 b.f0 = some (cb a.f0 b.f0) from rfl) (ev_call (cmp_u64 b.f1 a.f1) (Ev.bind (Or_ev _ _) (ev_const rfl))))
theorem ce_range (a b : S32) : ce a b = -1 ∨ ce a b = 0 ∨ ce a b = 1 := by
 unfold ce
 split
 ·exact cs_range _ _
 ·exact cl_range _ _
theorem cb_neg (a b : ByteArray) : cb a b = - cb b a := cl_neg _ _
theorem cb_zero (a b : ByteArray) : cb a b = 0 ↔ a = b := (cl_zero _ _).trans ba_ext
theorem ce_trans {a b c : S32} (h : ce a b = -1) (k : ce b c = -1) : ce a c = -1 := by
 unfold ce at *
 by_cases h0 : cb a.f0 b.f0 = 0
 ·rw [if_pos h0] at h
  have e := (cb_zero _ _).1 h0
  rw [e]
  by_cases k0 : cb b.f0 c.f0 = 0
  ·rw [if_pos k0] at k ⊢
   unfold cs at *
   rw [if_pos]
   split at h
   ·split at k
    ·omega
    ·split at k <;> cases k
   ·split at h <;> cases h
  ·rw [if_neg k0] at k ⊢
   exact k
 ·rw [if_neg h0] at h
  by_cases k0 : cb b.f0 c.f0 = 0
  ·have e := (cb_zero _ _).1 k0
   rw [← e, if_neg h0]
   exact h
  ·rw [if_neg k0] at k
   have : cb a.f0 c.f0 = -1 := cl_trans _ _ _ h k
   rw [if_neg (by omega)]
   exact this
def valid (a0 : ByteArray) (a2 : Int) (a3 : ByteArray) : Bool := decide ((a0.size : Int) ≤ 300 ∧ (a3.size : Int) ≤ 60000 ∧ if a2 = 2 then a3 = ⟨#[]⟩ else a2 = 1)
theorem nil_toList : (⟨#[]⟩ : ByteArray).toList = [] := by rw [toList_data]
theorem Valid_ev (a0 : ByteArray) (a1 a2 : Int) (a3 : ByteArray) : Ev (fun k => ikey_Valid.f k a0 a1 a2 a3) (valid a0 a2 a3) := by
 refine Ev.congr (fun k => by rw [ikey_Valid.f]) ?_
 have hn : ∀ {b : Bool}, valid a0 a2 a3 = false → b = true → Ev (fun k => ikey_Valid.j0 k b a0 a1 a2 a3) (valid a0 a2 a3) := by
  intro b h hb
  subst hb
  exact Ev.step (fun k => by rw [ikey_Valid.j0]) (ev_pos rfl (ev_const (by rw [h])))
 by_cases h : (a0.size : Int) > 300
 ·refine ev_pos h (hn ?_ rfl)
  unfold valid
  exact decide_eq_false (fun k => by omega)
 ·refine ev_neg h ?_
  by_cases k : (a3.size : Int) > 60000
  ·refine hn ?_ (decide_eq_true k)
   unfold valid
   exact decide_eq_false (fun q => by omega)
  ·rw [decide_eq_false k]
   refine Ev.step (fun k => by rw [ikey_Valid.j0]) (ev_neg (by simp) ?_)
   unfold valid
   by_cases q : a2 = 2
   ·refine ev_pos q (ev_const ?_)
    have hb := tl_beq a3 ⟨#[]⟩
    rw [nil_toList] at hb
    rw [hb]
    refine congrArg some (decide_eq_decide.2 ?_)
    rw [if_pos q]
    exact ⟨fun x => ⟨by omega, by omega, x⟩, fun x => x.2.2⟩
   ·refine ev_neg q (ev_const ?_)
    refine congrArg some ((decide_eq_decide (p := a2 = 1)).2 ?_)
    rw [if_neg q]
    exact ⟨fun x => ⟨by omega, by omega, x⟩, fun x => x.2.2⟩
theorem Room_ev (r a b : Int) (hr : -1 ≤ r ∧ r ≤ 20000) (ha : 0 ≤ a ∧ a ≤ 9223372036854775807) (hb : 0 ≤ b ∧ b ≤ 9223372036854775807) : ∃ q, Ev (fun k => cornucopiabook_Room.f k r [a, b]) q ∧ -1 ≤ q ∧ q ≤ 20000 := by
 have fin : ∀ q, (h : Ev (fun k => cornucopiabook_Room.l0 k r [a, b] 0) q) → Ev (fun k => cornucopiabook_Room.f k r [a, b]) q := fun q h => Ev.congr (fun k => by rw [cornucopiabook_Room.f]) h
 have l2 : (([a, b] : List Int).length : Int) = 2 := rfl
 by_cases h0 : r < 0
 ·exact ⟨-1, fin _ (Ev.step (fun k => by rw [cornucopiabook_Room.l0, l2]) (ev_pos (by omega) (ev_pos h0 (ev_const rfl)))), by omega, by omega⟩
 by_cases h1 : a > r
 ·exact ⟨-1, fin _ (Ev.step (fun k => by rw [cornucopiabook_Room.l0, l2, show rd [a, b] 0 = a from rfl]) (ev_pos (by omega) (ev_neg h0 (ev_pos (by omega) (ev_pos h1 (ev_const rfl)))))), by omega, by omega⟩
 have s1 : wrap64 (r - a) = r - a := wrap64_id (by omega)
 have s2 : wrap64 ((0 : Int) + 1) = 1 := wrap64_id (by omega)
 have s3 : wrap64 ((1 : Int) + 1) = 2 := wrap64_id (by omega)
 have f1 : ∀ q, (h : Ev (fun k => cornucopiabook_Room.l0 k (r - a) [a, b] 1) q) → Ev (fun k => cornucopiabook_Room.f k r [a, b]) q := fun q h =>
  fin _ (Ev.step (fun k => by rw [cornucopiabook_Room.l0, l2, show rd [a, b] 0 = a from rfl, s1, s2]) (ev_pos (by omega) (ev_neg h0 (ev_pos (by omega) (ev_neg h1 h)))))
 by_cases h2 : b > r - a
 ·exact ⟨-1, f1 _ (Ev.step (fun k => by rw [cornucopiabook_Room.l0, l2, show rd [a, b] 1 = b from rfl]) (ev_pos (by omega) (ev_neg (by omega) (ev_pos (by omega) (ev_pos h2 (ev_const rfl)))))), by omega, by omega⟩
 ·have s4 : wrap64 (r - a - b) = r - a - b := wrap64_id (by omega)
  exact ⟨r - a - b, f1 _ (Ev.step (fun k => by rw [cornucopiabook_Room.l0, l2, show rd [a, b] 1 = b from rfl, s3, s4]) (ev_pos (by omega) (ev_neg (by omega) (ev_pos (by omega) (ev_neg h2 (Ev.step (fun k => by rw [cornucopiabook_Room.l0, l2]) (ev_neg (by omega) (ev_const rfl)))))))), by omega, by omega⟩
end Go.Proofs.YtchgpcgolgcfdaaGreat.PuIkC
end
section
namespace Go.Proofs.YtchgpcgolgcfdaaGreat.PuBk
open Go Go.RowKit Go.Proofs.YtchgpcgolgcfdaaGreat.PNum Go.Proofs.YtchgpcgolgcfdaaGreat.PuVt Go.Proofs.YtchgpcgolgcfdaaGreat.PuVr Go.Proofs.YtchgpcgolgcfdaaGreat.PuCrc Go.Proofs.YtchgpcgolgcfdaaGreatW.PrintWords Go.Proofs.YtchgpcgolgcfdaaGreatW.PrintLast Go.Proofs.YtchgpcgolgcfdaaGreatW.PrintMore Go.Proofs.YtchgpcgolgcfdaaGreatW.Pu Go.Proofs.YtchgpcgolgcfdaaGreat.Bl2
theorem Clone_eq (s : ByteArray) (h : s.size ≤ 281474976710656) : strings_Clone.f s = some s := by
 unfold strings_Clone.f stringslite_Clone.f
 rw [if_pos h]
 rfl
theorem Seal_ev (s : ByteArray) (hs : s.size ≤ 140737488355328) : ∃ t : ByteArray, t.size = 4 ∧ Ev (fun k => sum_Seal.f k s) (s ++ t) ∧ Ev (fun k => sum_Open.f k (s ++ t)) (s, 0) := by
 obtain ⟨c, hc, he⟩ := Crc_ev s (by omega)
 obtain ⟨v, rfl⟩ : ∃ v : Nat, c = (v : Int) := ⟨c.toNat, by omega⟩
 have hv : v < 256 ^ 4 := by omega
 have h4 : (be 4 v).length = 4 := be_len 4 v
 have ht : (strOfNums (be 4 v)).size = 4 := by rw [S_size, h4]
 have hF := Fix_yes (v := v) (n := 4) (by omega) (by omega) (Or.inr hv)
 have hw : IntKind.u64.wrap (v : Int) = (v : Int) := wu64_id (by omega)
 refine ⟨strOfNums (be 4 v), ht, ?_, ?_⟩
 ·unfold sum_Seal.f sum_four.f
  refine Ev.bind he ?_
  simp only [hw]
  refine Ev.bind (Ev.bind hF (ev_const rfl)) (ev_pos ?_ (ev_const rfl))
  show s.size + (strOfNums (be 4 v)).size ≤ _
  omega
 ·have hsz : (s ++ strOfNums (be 4 v)).size = s.size + 4 := by rw [ByteArray.size_append, ht]
  have hw4 : wrap64 (((s ++ strOfNums (be 4 v)).size : Int) - 4) = (s.size : Int) := by rw [hsz, wrap64_id (by omega)]; omega
  have hU := Unfix_yes (s ++ strOfNums (be 4 v)) s.size 4 (by omega) (by omega) (by omega) (by omega)
  have hb : bytesOf (s ++ strOfNums (be 4 v)) = bytesOf s ++ be 4 v := by rw [bytesOf_append, of_S (be_ok 4 v)]
  have hl : (bytesOf s).length = s.size := bytesOf_length s
  rw [hb, List.drop_left' hl, List.take_of_length_le (by omega), un_be 4 v hv] at hU
  have hex : (s ++ strOfNums (be 4 v)).extract 0 s.size = s := by
   rw [← S_of ((s ++ strOfNums (be 4 v)).extract 0 s.size), bytesOf_extract, hb, List.take_left' hl, List.drop_zero, S_of]
  unfold sum_Open.f sum_get.f
  rw [hw4]
  simp only [Int.toNat_natCast, hex]
  refine ev_neg (by omega) (Ev.bind (Ev.bind hU (ev_const rfl)) (ev_pos (by omega) (ev_pos (by rw [hsz]; omega) (Ev.bind he (ev_pos ?_ (ev_call (Clone_eq s (by omega)) (ev_const rfl)))))))
  show ((v : Nat) : Int) % 4294967296 = (v : Int)
  omega
theorem nil_app (x : ByteArray) : (⟨#[]⟩ : ByteArray) ++ x = x := by
 have h := S_append [] (bytesOf x)
 rw [List.nil_append, S_of] at h
 exact h
theorem versions_ev (l : List E) (hl : ∀ e ∈ l, Ok e) (h400 : l.length ≤ 10000) : Ev (fun k => block_versions.f k (strOfNums (layB 0 ⟨#[]⟩ l))) (l, true) := by
 have hlen := layB_len l 0 ⟨#[]⟩ hl
 have hn := New_eq (strOfNums (layB 0 ⟨#[]⟩ l)) (by rw [S_size]; omega)
 have hv := vers_ev l 0 ⟨#[]⟩ [] hl (by decide) (by simpa using h400)
 unfold block_versions.f
 exact ev_call hn hv
theorem aw1 {D n : Nat} (h : D = n + 4) (hs : D ≤ 1000000000000) : wrap64 ((D : Int) - 4) = (n : Int) := by rw [wrap64_id (by omega)]; omega
theorem aw2 {n : Nat} (hs : n ≤ 1000000000000) : wrap64 (Int.tdiv (n : Int) 4) = ((n / 4 : Nat) : Int) := by
 have h1 : Int.tdiv (n : Int) 4 = ((n / 4 : Nat) : Int) := by rw [Int.tdiv_eq_ediv_of_nonneg (by omega)]; rfl
 rw [h1, wrap64_id (by omega)]
theorem aw5 {m : Nat} (hs : m ≤ 1000000000000) : wrap64 ((m : Int) * 4) = ((4 * m : Nat) : Int) := by rw [wrap64_id (by omega)]; omega
theorem aw6 {n b m : Nat} (h : n = b + 4 * m) (hs : n ≤ 1000000000000) : wrap64 ((n : Int) - ((4 * m : Nat) : Int)) = (b : Int) := by rw [wrap64_id (by omega)]; omega
theorem Put_ev (l : List E) (hl : ∀ e ∈ l, Ok e) (h400 : l.length ≤ 10000) (hR : Ev (fun k => block_Right.f k l) true) : ∃ s : ByteArray, 8 ≤ s.size ∧ Ev (fun k => block_Put.f k l) (s, 0) ∧ Ev (fun k => block_Get.f k s) (l, 0) := by
 have hlen := layB_len l 0 ⟨#[]⟩ hl
 obtain ⟨r, hr, hg⟩ := go_ev l hl h400 l.length 0 ⟨#[]⟩ ⟨#[]⟩ ⟨#[]⟩ (Nat.zero_add _) (fun h => absurd h (by omega)) (by decide) (by decide) rfl
 rw [List.drop_zero, nil_app] at hg
 obtain ⟨m, hm⟩ : ∃ m, m = (l.length + 3) / 4 := ⟨_, rfl⟩
 rw [← hm] at hr
 have hz := four_ev m (by omega)
 have hzs : (strOfNums (be 4 m)).size = 4 := by rw [S_size, be_len]
 have hB : (strOfNums (layB 0 ⟨#[]⟩ l)).size = (layB 0 ⟨#[]⟩ l).length := S_size _
 generalize hBB : layB 0 ⟨#[]⟩ l = B at *
 have hD : ((strOfNums B ++ r) ++ strOfNums (be 4 m)).size = B.length + r.size + 4 := by rw [ByteArray.size_append, ByteArray.size_append, hB, hzs]
 obtain ⟨t, ht, hS, hO⟩ := Seal_ev ((strOfNums B ++ r) ++ strOfNums (be 4 m)) (by rw [hD]; omega)
 have hP : Ev (fun k => block_Put.f k l) ((((strOfNums B ++ r) ++ strOfNums (be 4 m)) ++ t), 0) := by
  show Ev (fun k => putF k l) _
  unfold putF
  refine Ev.bind hR (ev_pos rfl (ev_pos (by unfold lim; omega) ?_))
  rw [← hm]
  refine Ev.bind hg (Ev.bind hz (ev_pos ?_ ?_))
  ·show (strOfNums B).size + r.size + (strOfNums (be 4 m)).size ≤ lim
   rw [hB, hzs]
   unfold lim
   omega
  ·exact Ev.bind hS (ev_const rfl)
 refine ⟨_, ?_, hP, ?_⟩
 ·rw [ByteArray.size_append, ht, hD]
  omega
 ·have hex : ((strOfNums B ++ r) ++ strOfNums (be 4 m)).extract 0 B.length = strOfNums B := by
   have hb : bytesOf ((strOfNums B ++ r) ++ strOfNums (be 4 m)) = B ++ (bytesOf r ++ be 4 m) := by
    rw [bytesOf_append, bytesOf_append, of_S (be_ok 4 m), of_S (by rw [← hBB]; exact layB_ok _ _ _), List.append_assoc]
   rw [← S_of (((strOfNums B ++ r) ++ strOfNums (be 4 m)).extract 0 B.length), bytesOf_extract, hb, List.take_left' rfl, List.drop_zero]
  have hU := Unfix_yes ((strOfNums B ++ r) ++ strOfNums (be 4 m)) (B.length + r.size) 4 (by omega) (by omega) (by omega) (by omega)
  have hbD : bytesOf ((strOfNums B ++ r) ++ strOfNums (be 4 m)) = (bytesOf (strOfNums B ++ r)) ++ be 4 m := by rw [bytesOf_append, of_S (be_ok 4 m)]
  have hlD : (bytesOf (strOfNums B ++ r)).length = B.length + r.size := by rw [bytesOf_length, ByteArray.size_append, hB]
  rw [hbD, List.drop_left' hlD, List.take_of_length_le (by rw [be_len]; omega), un_be 4 m (by omega)] at hU
  have hV := versions_ev l hl h400
  rw [hBB] at hV
  generalize hDD : (strOfNums B ++ r) ++ strOfNums (be 4 m) = D at *
  have q1 : D.size ≤ 1000000000000 := by omega
  have q2 : B.length + r.size ≤ 1000000000000 := by omega
  have q3 : m ≤ 1000000000000 := by omega
  have q4 : B.length + r.size = B.length + 4 * m := by omega
  have q5 : 0 ≤ (((B.length + r.size) / 4 : Nat) : Int) ∧ (((B.length + r.size) / 4 : Nat) : Int) ≤ 18446744073709551615 := by omega
  have q6 : -9223372036854775808 ≤ (m : Int) ∧ (m : Int) ≤ 9223372036854775807 := by omega
  have n1 : ¬ (((B.length + r.size : Nat) : Int) < 0) := by omega
  have n2 : ¬ ((m : Int) > (((B.length + r.size) / 4 : Nat) : Int)) := by omega
  have n3 : (0 : Int) ≤ (B.length : Int) := by omega
  have n4 : (B.length : Int) ≤ (D.size : Int) := by omega
  have w1 := aw1 hD q1
  have w2 := aw2 q2
  have w3 := wu64_id q5
  have w4 := wrap64_id q6
  have w5 := aw5 q3
  have w6 := aw6 q4 q2
  unfold block_Get.f
  refine Ev.bind hO (ev_pos rfl ?_)
  dsimp only
  rw [w1, w2, w3]
  refine ev_neg n1 (Ev.bind hU ?_)
  dsimp only
  rw [w4, w5, w6, Int.toNat_natCast, hex]
  refine ev_neg n2 (ev_pos n3 (ev_pos n4 (Ev.bind hV (Ev.bind hP (ev_pos rfl (ev_pos rfl (ev_pos rfl (ev_const rfl))))))))
end Go.Proofs.YtchgpcgolgcfdaaGreat.PuBk
end
section
namespace Go.Proofs.YtchgpcgolgcfdaaGreat.PuCrc
open Go Go.RowKit Go.Proofs.YtchgpcgolgcfdaaGreat.PNum Go.Proofs.YtchgpcgolgcfdaaGreatW.PrintWords Go.Proofs.YtchgpcgolgcfdaaGreatW.PrintLast Go.Proofs.YtchgpcgolgcfdaaGreatW.PrintMore Go.Proofs.YtchgpcgolgcfdaaGreatW.Pu
def poly : Nat := 2197175160
def bit (x : Nat) : Nat := if x % 2 = 1 then (x / 2) ^^^ poly else x / 2
theorem bit_lt {x : Nat} (h : x < 4294967296) : bit x < 4294967296 := by
 unfold bit
 split
 ·exact Nat.xor_lt_two_pow (n := 32) (by omega) (by decide)
 ·omega
def bitN : Nat → Nat → Nat
 | 0, x => x
 | n + 1, x => bitN n (bit x)
theorem bitN_lt : ∀ n {x : Nat}, x < 4294967296 → bitN n x < 4294967296
 | 0, _, h => h
 | n + 1, _, h => bitN_lt n (bit_lt h)
def stepB (x c : Nat) : Nat := bitN 8 (x ^^^ c)
def crcN : Nat → List Int → Nat
 | x, [] => x
 | x, c :: l => crcN (stepB x c.toNat) l
theorem stepB_lt {x c : Nat} (hx : x < 4294967296) (hc : c < 256) : stepB x c < 4294967296 := bitN_lt 8 (Nat.xor_lt_two_pow (n := 32) (by omega) (by omega))
theorem crcN_lt : ∀ (l : List Int) {x : Nat}, ok8 l → x < 4294967296 → crcN x l < 4294967296
 | [], _, _, h => h
 | c :: l, x, ho, h => by
  have hc := ho c List.mem_cons_self
  exact crcN_lt l (fun y hy => ho y (List.mem_cons_of_mem _ hy)) (stepB_lt h (by omega))
def crc (l : List Int) : Nat := 4294967295 ^^^ crcN 4294967295 l
theorem crc_lt {l : List Int} (h : ok8 l) : crc l < 4294967296 := Nat.xor_lt_two_pow (n := 32) (by decide) (crcN_lt l h (by decide))
theorem ku32 : ∀ n : Int, 0 ≤ n → n < 2 ^ 32 → IntKind.u32.wrap n = n := fun n h0 h1 => by simp [IntKind.wrap, IntKind.bits, IntKind.signed]; omega
theorem and_u32 (a b : Nat) (ha : a < 2 ^ 32) (hb : b < 2 ^ 32) : bits .and .u32 a b = ((a &&& b : Nat) : Int) := (bits_nat .u32 32 (by decide) ku32 a b ha hb).1
theorem xor_u32 (a b : Nat) (ha : a < 2 ^ 32) (hb : b < 2 ^ 32) : bits .xor .u32 a b = ((a ^^^ b : Nat) : Int) := by
 have ha' : a % 2 ^ IntKind.u32.bits = a := Nat.mod_eq_of_lt ha
 have hb' : b % 2 ^ IntKind.u32.bits = b := Nat.mod_eq_of_lt hb
 simp only [bits, BitVec.ofInt_natCast, BitVec.toNat_xor, BitVec.toNat_ofNat, ha', hb']
 exact ku32 _ (Int.natCast_nonneg _) (by have := Nat.xor_lt_two_pow ha hb; exact_mod_cast this)
theorem l2_ev (s : ByteArray) (L : List ByteArray) (n j m i r : Int) (d : Nat) : ∀ (c x : Nat), c + d = 8 → x < 4294967296 → Ev (fun k => sum_Crc.l1 k ((bitN d x : Nat) : Int) s L n j m (wrap64 (i + 1))) r → Ev (fun k => sum_Crc.l2 k (x : Int) s L n j m i (c : Int)) r := by
 induction d with
 | zero =>
  intro c x hc _ he
  have he2 : Ev (fun k => sum_Crc.l1 k (x : Int) s L n j m (wrap64 (i + 1))) r := he
  have hc8 : ¬ ((c : Int) < 8) := by omega
  exact Ev.step (fun k => by rw [sum_Crc.l2]) (ev_neg hc8 he2)
 | succ d ih =>
  intro c x hc hx he
  have hw : wrap64 ((c : Int) + 1) = ((c + 1 : Nat) : Int) := by rw [wrap64_id (by omega)]; omega
  have hand : Go.bits .and .u32 (x : Int) 1 = ((x % 2 : Nat) : Int) := by
   have := and_u32 x 1 hx (by decide)
   rw [Nat.and_one_is_mod] at this
   exact this
  have hh : ((x : Int) / 2) = ((x / 2 : Nat) : Int) := by omega
  have hxo : Go.bits .xor .u32 ((x / 2 : Nat) : Int) 2197175160 = (((x / 2) ^^^ poly : Nat) : Int) := xor_u32 (x / 2) poly (by omega) (by decide)
  have hgo := ih (c + 1) (bit x) (by omega) (bit_lt hx) he
  have hc8 : (c : Int) < 8 := by omega
  rw [← hw] at hgo
  by_cases hb : x % 2 = 1
  ·have hb1 : ((x % 2 : Nat) : Int) = 1 := by omega
   have hbt : bit x = (x / 2) ^^^ poly := if_pos hb
   rw [hbt] at hgo
   refine Ev.step (fun k => by rw [sum_Crc.l2]) (ev_pos hc8 ?_)
   rw [hand, hh, hxo]
   exact ev_pos hb1 hgo
  ·have hb1 : ¬ ((x % 2 : Nat) : Int) = 1 := by omega
   have hbt : bit x = x / 2 := if_neg hb
   rw [hbt] at hgo
   refine Ev.step (fun k => by rw [sum_Crc.l2]) (ev_pos hc8 ?_)
   rw [hand, hh, hxo]
   exact ev_neg hb1 hgo
theorem l1_ev (s : ByteArray) (hs : s.size ≤ 9223372036854775806) (L : List ByteArray) (n j r : Int) (d : Nat) : ∀ (i x : Nat), i + d = s.size → x < 4294967296 → Ev (fun k => sum_Crc.l0 k ((crcN x ((bytesOf s).drop i) : Nat) : Int) L n (wrap64 (j + 1))) r → Ev (fun k => sum_Crc.l1 k (x : Int) s L n j (s.size : Int) (i : Int)) r := by
 induction d with
 | zero =>
  intro i x hi _ he
  have hd : (bytesOf s).drop i = [] := List.drop_of_length_le (by rw [bytesOf_length]; omega)
  rw [hd] at he
  replace he : Ev (fun k => sum_Crc.l0 k (x : Int) L n (wrap64 (j + 1))) r := he
  exact Ev.step (fun k => by rw [sum_Crc.l1]) (ev_neg (by omega) he)
 | succ d ih =>
  intro i x hi hx he
  have hw : wrap64 ((i : Int) + 1) = ((i + 1 : Nat) : Int) := by rw [wrap64_id (by omega)]; omega
  have hlt : i < (bytesOf s).length := by rw [bytesOf_length]; omega
  have hb : bt s (i : Int) = (bytesOf s)[i] := by rw [bt_eq]; simp [hlt]
  have hr := ok8_of s _ (List.getElem_mem hlt)
  rw [List.drop_eq_getElem_cons hlt] at he
  generalize (bytesOf s)[i] = c at *
  obtain ⟨c, rfl⟩ : ∃ m : Nat, c = (m : Int) := ⟨c.toNat, by omega⟩
  replace he : Ev (fun k => sum_Crc.l0 k ((crcN (stepB x c) ((bytesOf s).drop (i + 1)) : Nat) : Int) L n (wrap64 (j + 1))) r := he
  have hc : c < 256 := by omega
  have hm : ((c : Int)) % 4294967296 = (c : Int) := by omega
  have hxo := xor_u32 x c hx (by omega)
  have hgo := ih (i + 1) (stepB x c) (by omega) (stepB_lt hx hc) he
  rw [stepB, ← hw] at hgo
  have h2 := l2_ev s L n j (s.size : Int) (i : Int) r 8 0 (x ^^^ c) rfl (Nat.xor_lt_two_pow (n := 32) hx (by omega)) hgo
  refine Ev.step (fun k => by rw [sum_Crc.l1]) (ev_pos (by omega) (ev_pos (by omega) (ev_pos (by omega) ?_)))
  rw [hb, hm, hxo]
  exact h2
theorem Crc_eq (s : ByteArray) (hs : s.size ≤ 9223372036854775806) : Ev (fun k => sum_Crc.f k [s]) ((crc (bytesOf s) : Nat) : Int) := by
 have hl := crcN_lt (bytesOf s) (ok8_of s) (x := 4294967295) (by decide)
 have hxo := xor_u32 4294967295 (crcN 4294967295 (bytesOf s)) (by decide) hl
 have h0 : Ev (fun k => sum_Crc.l0 k ((crcN 4294967295 (bytesOf s) : Nat) : Int) [s] (([s] : List ByteArray).length : Int) (wrap64 (0 + 1))) ((crc (bytesOf s) : Nat) : Int) :=
  Ev.step (fun k => by rw [sum_Crc.l0]) (ev_neg (by rw [wrap64_id (by omega)]; simp) (ev_const (by rw [crc, ← hxo]; rfl)))
 have h1 := l1_ev s hs [s] (([s] : List ByteArray).length : Int) 0 _ s.size 0 4294967295 (Nat.zero_add _) (by decide) (by rw [List.drop_zero]; exact h0)
 have h2 : Ev (fun k => sum_Crc.l1 k 4294967295 s [s] (([s] : List ByteArray).length : Int) 0 (s.size : Int) 0) ((crc (bytesOf s) : Nat) : Int) := h1
 unfold sum_Crc.f
 have hr0 : rdOf ByteArray.empty [s] 0 = s := rfl
 exact Ev.step (fun k => by rw [sum_Crc.l0, hr0]) (ev_pos (by simp) (ev_pos (by omega) (ev_pos (by simp) h2)))
end Go.Proofs.YtchgpcgolgcfdaaGreat.PuCrc
end
section
namespace Go.Proofs.YtchgpcgolgcfdaaGreat.PuXr
open Go Go.RowKit Go.Proofs.YtchgpcgolgcfdaaGreat.PNum Go.Proofs.YtchgpcgolgcfdaaGreat.PuVt Go.Proofs.YtchgpcgolgcfdaaGreat.PuVr Go.Proofs.YtchgpcgolgcfdaaGreatW.PrintWords Go.Proofs.YtchgpcgolgcfdaaGreatW.PrintLast Go.Proofs.YtchgpcgolgcfdaaGreatW.PrintMore Go.Proofs.YtchgpcgolgcfdaaGreatW.Pu
theorem RFix_l0 (j : Nat) : ∀ (u : Nat) (S : List Int), u ≤ 18446744073709551615 → j ≤ 8 → Ev (fun k => cornucopiaref1_Fix.l0 k (u : Int) (List.replicate j 0 ++ S) ((j : Int) - 1)) (if u / 256 ^ j > 0 then (⟨#[]⟩, 1) else (strOfNums (be j u ++ S), 0)) := by
 induction j with
 | zero =>
  intro u S hu hj
  refine Ev.step (fun k => by rw [cornucopiaref1_Fix.l0]) (ev_neg (by omega) ?_)
  simp only [Nat.pow_zero, Nat.div_one]
  by_cases h : u > 0
  ·rw [if_pos h]
   exact ev_pos (by omega) (ev_const rfl)
  ·rw [if_neg h]
   refine ev_neg (by omega) (ev_const ?_)
   rfl
 | succ j ih =>
  intro u S hu hj
  have e0 : (((j + 1 : Nat) : Int) - 1) = (j : Int) := by omega
  have e1 : IntKind.u64.wrap (Int.tdiv (u : Int) 256) = ((u / 256 : Nat) : Int) := by rw [Int.tdiv_eq_ediv_of_nonneg (by omega), wu64_id (by omega)]; omega
  have e2 : (Int.tmod (u : Int) 256) % 256 = ((u % 256 : Nat) : Int) := by rw [Int.tmod_eq_emod_of_nonneg (by omega)]; omega
  have e3 : wrap64 ((j : Int) - 1) = (j : Int) - 1 := wrap64_id (by omega)
  have e4 : (List.replicate (j + 1) (0 : Int) ++ S).set j ((u % 256 : Nat) : Int) = List.replicate j 0 ++ (((u % 256 : Nat) : Int) :: S) := by
   rw [List.replicate_succ', List.append_assoc, List.set_append_right _ _ (by simp)]
   simp
  rw [e0]
  refine Ev.step (fun k => by rw [cornucopiaref1_Fix.l0, e1, e2, e3, Int.toNat_natCast, e4]) ?_
  refine ev_pos (by omega) (ev_pos (by omega) (ev_pos (by simp; omega) ?_))
  have := ih (u / 256) (((u % 256 : Nat) : Int) :: S) (by omega) (by omega)
  rw [Nat.div_div_eq_div_mul, Nat.mul_comm, ← Nat.pow_succ] at this
  rw [show be (j + 1) u ++ S = be j (u / 256) ++ (((u % 256 : Nat) : Int) :: S) from by rw [be, List.append_assoc]; rfl]
  exact this
theorem RUnfix_l0 (s : ByteArray) (at_ n : Nat) (hn : n ≤ 8) (ha : at_ + n ≤ s.size) (hs : s.size ≤ 9223372036854775807) (d : Nat) : ∀ i, i + d = n →
  Ev (fun k => cornucopiaref1_Unfix.l0 k s (at_ : Int) (n : Int) ((un (((bytesOf s).drop at_).take i) : Nat) : Int) (i : Int)) (((un (((bytesOf s).drop at_).take n) : Nat) : Int), 0) := by
 have hok : ∀ i, ok8 (((bytesOf s).drop at_).take i) := fun i x hx => ok8_of s x (List.mem_of_mem_drop (List.mem_of_mem_take hx))
 have hl := bytesOf_length s
 induction d with
 | zero =>
  intro i hi
  obtain rfl : i = n := by omega
  refine Ev.step (fun k => by rw [cornucopiaref1_Unfix.l0]) ?_
  exact ev_neg (by omega) (ev_const rfl)
 | succ d ih =>
  intro i hi
  have hlt : i < ((bytesOf s).drop at_).length := by rw [List.length_drop]; omega
  have ht : ((bytesOf s).drop at_).take (i + 1) = ((bytesOf s).drop at_).take i ++ [((bytesOf s).drop at_)[i]] := by rw [List.take_add_one, List.getElem?_eq_getElem hlt]; rfl
  have hb : bt s (((at_ + i : Nat)) : Int) = ((bytesOf s).drop at_)[i] := by rw [bt_eq]; simp [List.getD_eq_getElem?_getD, List.getElem?_eq_getElem (show at_ + i < (bytesOf s).length by omega)]
  have hr := ok8_of s ((bytesOf s).drop at_)[i] (List.mem_of_mem_drop (List.getElem_mem hlt))
  have hu := un_lt i (((bytesOf s).drop at_).take i) (hok i) (by rw [List.length_take]; omega)
  have hu8 : un (((bytesOf s).drop at_).take i) < 256 ^ 7 := Nat.lt_of_lt_of_le hu (Nat.pow_le_pow_right (by decide) (by omega))
  have hw : wrap64 ((at_ : Int) + (i : Int)) = ((at_ + i : Nat) : Int) := by rw [wrap64_id (by omega)]; omega
  have hw1 : wrap64 ((i : Int) + 1) = ((i + 1 : Nat) : Int) := by rw [wrap64_id (by omega)]; omega
  have hv : IntKind.u64.wrap (IntKind.u64.wrap (((un (((bytesOf s).drop at_).take i) : Nat) : Int) * 256) + IntKind.u64.wrap ((bytesOf s).drop at_)[i]) = ((un (((bytesOf s).drop at_).take (i + 1)) : Nat) : Int) := by
   rw [ht, un_app, wu64_id (x := (((un (((bytesOf s).drop at_).take i) : Nat) : Int) * 256)) (by omega), wu64_id (x := ((bytesOf s).drop at_)[i]) (by omega), wu64_id (by omega)]
   omega
  clear hu hu8 hr
  refine Ev.step (fun k => by rw [cornucopiaref1_Unfix.l0, hw, hb, hv, hw1]) ?_
  clear hv hb
  refine ev_pos (show (i : Int) < (n : Int) by omega) (ev_pos (show (0 : Int) ≤ ((at_ + i : Nat) : Int) by omega) (ev_pos (show ((at_ + i : Nat) : Int) < (s.size : Int) by omega) ?_))
  exact ih (i + 1) (by omega)
theorem XFail_eq (s : ByteArray) (e x : Int) : cornucopiaref1_Reader_Fail.f s e x = some (s, if e = 0 then x else e) := by
 unfold cornucopiaref1_Reader_Fail.f
 by_cases he : e = 0
 ·rw [if_pos he, if_pos he]
 ·rw [if_neg he, if_neg he]
def rest (l : List Int) (s : ByteArray) (i acc : Nat) : ByteArray := if (rv l i acc).2.2 = 0 then strOfNums (rv l i acc).2.1 else s
theorem add_group (acc c i : Nat) (hi : i ≤ 9) (ha : acc < 128 ^ i) (hc : c < 256) (h9 : i = 9 → c ≤ 1) :
  IntKind.u64.wrap ((acc : Int) + (IntKind.u64.wrap ((IntKind.u64.wrap (Int.tmod (c : Int) 128)) * ((128 ^ i : Nat) : Int)))) = ((acc + (c % 128) * 128 ^ i : Nat) : Int) := by
 have hp : (128 : Nat) ^ i ≤ 2 ^ 63 := by rw [pow128]; exact Nat.pow_le_pow_right (by decide) (by omega)
 have hb : (c % 128) * 128 ^ i + 128 ^ i ≤ 2 ^ 64 := by
  by_cases h : i = 9
  ·have h1 := h9 h
   have h2 : (c % 128) * 128 ^ i ≤ 1 * 128 ^ i := Nat.mul_le_mul_right _ (by omega)
   omega
  ·have hq : (128 : Nat) ^ i ≤ 2 ^ 56 := by rw [pow128]; exact Nat.pow_le_pow_right (by decide) (by omega)
   have h2 : (c % 128) * 128 ^ i ≤ 127 * 128 ^ i := Nat.mul_le_mul_right _ (by omega)
   omega
 rw [Int.tmod_eq_emod_of_nonneg (by omega), show ((c : Int) % 128) = ((c % 128 : Nat) : Int) from by omega, wu64_id (x := ((c % 128 : Nat) : Int)) (by omega)]
 have e : ((c % 128 : Nat) : Int) * ((128 ^ i : Nat) : Int) = (((c % 128) * 128 ^ i : Nat) : Int) := by push_cast; rfl
 rw [e]
 generalize (c % 128) * 128 ^ i = x at *
 generalize 128 ^ i = y at *
 rw [wu64_id (x := (x : Int)) (by omega), wu64_id (by omega)]
 omega
theorem XVar_l0 (s : ByteArray) (d : Nat) : ∀ (i acc : Nat), i + d = s.size → i ≤ 9 → acc < 128 ^ i →
  Ev (fun k => cornucopiaref1_Reader_Var.l0 k (acc : Int) ((128 ^ i : Nat) : Int) (i : Int) s 0) ((rv ((bytesOf s).drop i) i acc).1, rest ((bytesOf s).drop i) s i acc, (rv ((bytesOf s).drop i) i acc).2.2) := by
 induction d with
 | zero =>
  intro i acc hi h9 ha
  refine Ev.step (fun k => by rw [cornucopiaref1_Reader_Var.l0]) ?_
  unfold rest
  rw [List.drop_of_length_le (by rw [bytesOf_length]; omega)]
  exact ev_pos (by omega) (ev_call (XFail_eq _ _ _) (ev_const rfl))
 | succ d ih =>
  intro i acc hi h9 ha
  have hlt : i < (bytesOf s).length := by rw [bytesOf_length]; omega
  have hdrop : (bytesOf s).drop i = (bytesOf s)[i] :: (bytesOf s).drop (i + 1) := List.drop_eq_getElem_cons hlt
  have hbt : bt s (i : Int) = (bytesOf s)[i] := by rw [bt_eq]; simp [List.getD_eq_getElem?_getD, List.getElem?_eq_getElem hlt]
  have hc := ok8_of s (bytesOf s)[i] (List.getElem_mem hlt)
  rw [hdrop]
  generalize (bytesOf s)[i] = c at *
  obtain ⟨c, rfl⟩ := Int.eq_ofNat_of_zero_le hc.1
  have e4 : wrap64 ((i : Int) + 1) = ((i + 1 : Nat) : Int) := by rw [wrap64_id (by omega)]; omega
  have hj : ¬ (i = 9 ∧ 1 < (c : Int)) → Ev (fun k => cornucopiaref1_Reader_Var.j1 k (acc : Int) ((128 ^ i : Nat) : Int) (i : Int) (c : Int) false s 0) ((rv ((c : Int) :: (bytesOf s).drop (i + 1)) i acc).1, rest ((c : Int) :: (bytesOf s).drop (i + 1)) s i acc, (rv ((c : Int) :: (bytesOf s).drop (i + 1)) i acc).2.2) := by
   intro hn
   have hor := add_group acc c i h9 ha (by omega) (by omega)
   refine Ev.step (fun k => by rw [cornucopiaref1_Reader_Var.j1, hor, e4]) ?_
   refine ev_neg (by simp) ?_
   unfold rest
   rw [rv, if_neg hn]
   by_cases h128 : 128 ≤ (c : Int)
   ·rw [if_pos h128]
    refine ev_pos (show (c : Int) ≥ 128 by omega) ?_
    have hi9 : i ≠ 9 := by
     intro h
     exact hn ⟨h, by omega⟩
    have hq : (128 : Nat) ^ (i + 1) ≤ 2 ^ 63 := by rw [pow128]; exact Nat.pow_le_pow_right (by decide) (by omega)
    have e6 : IntKind.u64.wrap (((128 ^ i : Nat) : Int) * 128) = ((128 ^ (i + 1) : Nat) : Int) := by
     rw [Nat.pow_succ] at hq ⊢
     rw [wu64_id (by omega)]
     omega
    rw [e6]
    have := ih (i + 1) (acc + (c % 128) * 128 ^ i) (by omega) (by omega) (by
     rw [Nat.pow_succ]
     have : (c % 128) * 128 ^ i ≤ 127 * 128 ^ i := Nat.mul_le_mul_right _ (by omega)
     omega)
    exact this
   ·rw [if_neg h128]
    refine ev_neg (show ¬ (c : Int) ≥ 128 by omega) ?_
    have ecm : c % 128 = c := by omega
    have hrest : s.extract ((i + 1 : Nat) : Int).toNat s.size = strOfNums ((bytesOf s).drop (i + 1)) := by
     rw [Int.toNat_natCast]
     apply bytesOf_inj
     rw [bytesOf_extract, of_S (fun x hx => ok8_of s x (List.mem_of_mem_drop hx)), List.take_of_length_le (by rw [bytesOf_length]; omega)]
    by_cases hi0 : (i : Int) > 0
    ·refine ev_pos hi0 ?_
     by_cases hz : (c : Int) = 0
     ·rw [if_pos (show (c : Int) = 0 ∧ 0 < i from ⟨hz, by omega⟩)]
      exact ev_pos hz (ev_call (XFail_eq _ _ _) (ev_const rfl))
     ·rw [if_neg (show ¬ ((c : Int) = 0 ∧ 0 < i) from by omega)]
      refine ev_neg hz (ev_pos (by omega) (ev_pos (by omega) (ev_const ?_)))
      rw [hrest, ecm, Int.toNat_natCast]
      rfl
    ·rw [if_neg (show ¬ ((c : Int) = 0 ∧ 0 < i) from by omega)]
     refine ev_neg hi0 (ev_pos (by omega) (ev_pos (by omega) (ev_const ?_)))
     rw [hrest, ecm, Int.toNat_natCast]
     rfl
  refine Ev.step (fun k => by rw [cornucopiaref1_Reader_Var.l0, hbt]) ?_
  refine ev_neg (by omega) (ev_pos (by omega) (ev_pos (by omega) ?_))
  by_cases h9' : i = 9
  ·refine ev_pos (by omega) ?_
   by_cases h1 : 1 < (c : Int)
   ·unfold rest
    rw [rv, if_pos ⟨h9', h1⟩]
    refine Ev.step (fun k => by rw [cornucopiaref1_Reader_Var.j1]) ?_
    exact ev_pos (decide_eq_true (by omega)) (ev_call (XFail_eq _ _ _) (ev_const rfl))
   ·rw [show decide ((c : Int) > 1) = false from decide_eq_false (by omega)]
    exact hj (by omega)
  ·exact ev_neg (by omega) (hj (by omega))
theorem rv_zero : ∀ l i acc, (rv l i acc).2.2 ≠ 0 → (rv l i acc).1 = 0
 | [], _, _, _ => by simp [rv]
 | c :: t, i, acc, h => by
  rw [rv] at h ⊢
  split
  ·rfl
  ·rename_i h1
   rw [if_neg h1] at h
   split
   ·rename_i h2
    rw [if_pos h2] at h
    exact rv_zero t _ _ h
   ·rename_i h2
    rw [if_neg h2] at h
    split
    ·rfl
    ·rename_i h3
     rw [if_neg h3] at h
     exact absurd rfl h
theorem XVar_ev {b : List Int} (hb : ok8 b) (e : Int) : Ev (fun k => cornucopiaref1_Reader_Var.f k (strOfNums b) e) ((rVar b e).1, strOfNums (rVar b e).2.1, (rVar b e).2.2) := by
 refine Ev.congr (fun k => by rw [cornucopiaref1_Reader_Var.f]) ?_
 unfold rVar
 by_cases he : e = 0
 ·subst he
  refine ev_pos rfl ?_
  have hn := XVar_l0 (strOfNums b) (strOfNums b).size 0 0 (by omega) (by omega) (by decide)
  rw [of_S hb, List.drop_zero, rest] at hn
  rw [if_pos rfl]
  by_cases h : (rv b 0 0).2.2 = 0
  ·rw [if_pos h] at hn ⊢
   rw [h] at hn
   exact hn
  ·rw [if_neg h] at hn ⊢
   rw [rv_zero _ _ _ h] at hn
   exact hn
 ·rw [if_neg he]
  exact ev_neg he (ev_const rfl)
theorem rv_len : ∀ l i acc, (rv l i acc).2.1.length ≤ l.length
 | [], _, _ => by simp [rv]
 | c :: t, i, acc => by
  rw [rv]
  split
  ·simp
  ·split
   ·have := rv_len t (i + 1) (acc + (c.toNat % 128) * 128 ^ i)
    simp
    omega
   ·split <;> simp
theorem rVar_len (b : List Int) (e : Int) : (rVar b e).2.1.length ≤ b.length := by
 unfold rVar
 split
 ·split
  ·exact rv_len _ _ _
  ·exact Nat.le_refl _
 ·exact Nat.le_refl _
theorem rCount_len (b : List Int) (e m : Int) : (rCount b e m).2.1.length ≤ b.length := by
 unfold rCount
 have := rVar_len b e
 split
 ·split <;> exact this
 ·exact this
theorem rTake_len (b : List Int) (e m : Int) : (rTake b e m).2.1.length ≤ b.length := by
 unfold rTake
 split
 ·split <;> simp
 ·exact Nat.le_refl _
theorem rText_len (b : List Int) (e m : Int) : (rText b e m).2.1.length ≤ b.length := Nat.le_trans (rTake_len _ _ _) (rCount_len _ _ _)
theorem rv_top : ∀ l i acc, ok8 l → i ≤ 9 → acc < 128 ^ i → (rv l i acc).1 ≤ 18446744073709551615
 | [], _, _, _, _, _ => by simp [rv]
 | c :: t, i, acc, hk, hi, ha => by
  have hc := hk c (by simp)
  have ht : ok8 t := fun x hx => hk x (by simp [hx])
  rw [rv]
  split
  ·simp
  ·rename_i h1
   split
   ·rename_i h2
    refine rv_top t _ _ ht (by omega) ?_
    rw [Nat.pow_succ]
    have : (c.toNat % 128) * 128 ^ i ≤ 127 * 128 ^ i := Nat.mul_le_mul_right _ (by omega)
    omega
   ·split
    ·simp
    ·have hp : (128 : Nat) ^ i ≤ 2 ^ 63 := by rw [pow128]; exact Nat.pow_le_pow_right (by decide) (by omega)
     have hb : c.toNat * 128 ^ i + 128 ^ i ≤ 2 ^ 64 := by
      by_cases h : i = 9
      ·have h2 : c.toNat * 128 ^ i ≤ 1 * 128 ^ i := Nat.mul_le_mul_right _ (by omega)
       omega
      ·have hq : (128 : Nat) ^ i ≤ 2 ^ 56 := by rw [pow128]; exact Nat.pow_le_pow_right (by decide) (by omega)
       have h2 : c.toNat * 128 ^ i ≤ 127 * 128 ^ i := Nat.mul_le_mul_right _ (by omega)
       omega
     simp only
     omega
theorem rVar_top {b : List Int} (hb : ok8 b) (e : Int) : (rVar b e).1 ≤ 18446744073709551615 := by
 unfold rVar
 split
 ·split
  ·exact rv_top _ _ _ hb (by omega) (by decide)
  ·simp
 ·simp
theorem XCount_ev {b : List Int} (hb : ok8 b) (e most : Int) (hm : -9223372036854775808 ≤ most ∧ most ≤ 9223372036854775807) : Ev (fun k => cornucopiaref1_Reader_Count.f k (strOfNums b) e most) ((rCount b e most).1, strOfNums (rCount b e most).2.1, (rCount b e most).2.2) := by
 refine Ev.congr (fun k => by rw [cornucopiaref1_Reader_Count.f]) (Ev.bind (XVar_ev hb e) ?_)
 have hnn := rVar_nonneg b e
 unfold rCount
 by_cases h : (rVar b e).2.2 = 0
 ·refine ev_pos h ?_
  rw [if_pos h, h]
  by_cases h0 : most < 0
  ·rw [if_pos (Or.inl h0)]
   exact ev_pos h0 (ev_call (XFail_eq _ _ _) (ev_const rfl))
  ·refine ev_neg h0 ?_
   rw [wu64_id (by omega)]
   by_cases h1 : most < (rVar b e).1
   ·rw [if_pos (Or.inr h1)]
    exact ev_pos h1 (ev_call (XFail_eq _ _ _) (ev_const rfl))
   ·rw [if_neg (show ¬ (most < 0 ∨ most < (rVar b e).1) from by omega)]
    refine ev_neg h1 (ev_const ?_)
    rw [wrap64_id (by omega)]
 ·refine ev_neg h ?_
  rw [if_neg h]
  exact ev_const rfl
theorem bytes_eq {b : List Int} (e n : Int) (hn : 0 ≤ n ∨ e ≠ 0) : cornucopiaref1_Reader_bytes.f (strOfNums b) e n = some (strOfNums (rTake b e n).1, strOfNums (rTake b e n).2.1, (rTake b e n).2.2) := by
 unfold cornucopiaref1_Reader_bytes.f rTake
 by_cases he : e = 0
 ·subst he
  rw [if_pos rfl, if_pos rfl, S_size]
  have hn : 0 ≤ n := hn.resolve_right (fun h => h rfl)
  by_cases h : (b.length : Int) < n
  ·rw [if_pos h, if_pos h, XFail_eq]; rfl
  ·rw [if_neg h, if_neg h, if_pos hn, if_pos (by omega), S_extract, S_extract]
   simp
 ·rw [if_neg he, if_neg he]; rfl
theorem XText_ev {b : List Int} (hb : ok8 b) (e most : Int) (hm : -9223372036854775808 ≤ most ∧ most ≤ 9223372036854775807) : Ev (fun k => cornucopiaref1_Reader_Text.f k (strOfNums b) e most) (strOfNums (rText b e most).1, strOfNums (rText b e most).2.1, (rText b e most).2.2) := by
 refine Ev.congr (fun k => by rw [cornucopiaref1_Reader_Text.f]) (Ev.bind (XCount_ev hb e most hm) ?_)
 exact ev_call (bytes_eq _ _ (.inl (rCount_range b e most hm.2).1)) (ev_const rfl)
end Go.Proofs.YtchgpcgolgcfdaaGreat.PuXr
end
section
namespace Go.Proofs.YtchgpcgolgcfdaaGreat.PuRP
open Go Go.RowKit Go.Proofs.YtchgpcgolgcfdaaGreat.PNum Go.Proofs.YtchgpcgolgcfdaaGreat.PuVt Go.Proofs.YtchgpcgolgcfdaaGreat.PuIkC Go.Proofs.YtchgpcgolgcfdaaGreatW.PrintWords Go.Proofs.YtchgpcgolgcfdaaGreatW.PrintLast Go.Proofs.YtchgpcgolgcfdaaGreatW.PrintMore Go.Proofs.YtchgpcgolgcfdaaGreatW.Pu
theorem refValid_eq (a0 : ByteArray) (a1 a2 : Int) (a3 : ByteArray) : cornucopiaref5_Valid.f a0 a1 a2 a3 = some (valid a0 a2 a3) := by
 unfold cornucopiaref5_Valid.f valid
 by_cases h1 : (a0.size : Int) ≤ 300
 ·by_cases h2 : (a3.size : Int) ≤ 60000
  ·by_cases h3 : a2 = 1
   ·simp [h1, h2, h3]
   ·by_cases h4 : a2 = 2
    ·have : (a3.toList == ([] : List UInt8)) = decide (a3 = ⟨#[]⟩) := by
      have := tl_beq a3 ⟨#[]⟩
      rw [nil_toList] at this
      exact this
     simp [h1, h2, h4, this]
    ·simp [h1, h2, h3, h4]
  ·simp [h1, h2]
 ·simp [h1]
theorem RVar_l0 (b : Nat) : ∀ (n : Nat) (acc : List Int), n < 128 ^ (b + 1) → n ≤ 18446744073709551615 → acc.length + b + 1 < 140737488355328 → Ev (fun k => cornucopiaref1_Var.l0 k (n : Int) acc) (strOfNums (acc ++ vb n)) := by
 have low : ∀ (n : Nat) (acc : List Int), n < 128 → acc.length + 1 < 140737488355328 → Ev (fun k => cornucopiaref1_Var.l0 k (n : Int) acc) (strOfNums (acc ++ vb n)) := by
  intro n acc h ha
  rw [vb_low h]
  refine Ev.step (fun k => by rw [cornucopiaref1_Var.l0]) (ev_neg (by omega) (ev_pos (by omega) (ev_const ?_)))
  rw [show ((n : Int) % 256) = n from by omega]
 induction b with
 | zero => intro n acc h _ ha; exact low n acc (by simpa using h) (by omega)
 | succ b ih =>
  intro n acc h hn ha
  by_cases h128 : n < 128
  ·exact low n acc h128 (by omega)
  ·have e1 : IntKind.u64.wrap (Int.tdiv (n : Int) 128) = ((n / 128 : Nat) : Int) := by rw [Int.tdiv_eq_ediv_of_nonneg (by omega), wu64_id (by omega)]; omega
   have e2 : ((Int.tmod (n : Int) 128) + 128) % 256 = ((n % 128 + 128 : Nat) : Int) := by rw [Int.tmod_eq_emod_of_nonneg (by omega)]; omega
   rw [vb_high h128]
   refine Ev.step (fun k => by rw [cornucopiaref1_Var.l0, e1, e2]) (ev_pos (by omega) (ev_pos (by omega) ?_))
   have := ih (n / 128) (acc ++ [((n % 128 + 128 : Nat) : Int)]) (by rw [Nat.pow_succ] at h; omega) (by omega) (by simp; omega)
   rw [List.append_assoc] at this
   exact this
theorem RVar_ev (n : Nat) (hn : n ≤ 18446744073709551615) : Ev (fun k => cornucopiaref1_Var.f k (n : Int)) (strOfNums (vb n)) := by
 have := RVar_l0 9 n [] (by omega) hn (by simp)
 exact Ev.congr (fun k => by rw [cornucopiaref1_Var.f]) this
theorem RText_ev (s : ByteArray) (hs : s.size ≤ 100000) : Ev (fun k => cornucopiaref1_Text.f k s) (strOfNums (vb s.size ++ bytesOf s)) := by
 have n1 := vb_len10 (n := s.size) (by omega)
 have e1 : IntKind.u64.wrap (s.size : Int) = (s.size : Int) := wu64_id (by omega)
 refine Ev.congr (fun k => by rw [cornucopiaref1_Text.f, e1]) ?_
 refine Ev.bind (RVar_ev s.size (by omega)) ?_
 refine ev_pos ?_ (ev_const ?_)
 ·rw [S_size]; omega
 ·rw [← S_append, S_of]
theorem RVars_l0 (l : List Int) (hl : u64s l) (hn : l.length ≤ 300) (d : Nat) : ∀ i (acc : List Int), i + d = l.length → acc.length ≤ 10 * i → Ev (fun k => cornucopiaref1_Vars.l0 k l acc (i : Int)) (strOfNums (acc ++ vbs (l.drop i))) := by
 induction d with
 | zero =>
  intro i acc hi ha
  rw [List.drop_of_length_le (by omega)]
  refine Ev.step (fun k => by rw [cornucopiaref1_Vars.l0]) (ev_neg (by omega) (ev_const ?_))
  simp [vbs]
 | succ d ih =>
  intro i acc hi ha
  have hlt : i < l.length := by omega
  have hx := hl l[i] (List.getElem_mem hlt)
  have n1 := vb_len10 (n := l[i].toNat) (by omega)
  have hv := RVar_ev l[i].toNat (by omega)
  rw [show ((l[i].toNat : Nat) : Int) = l[i] from by omega] at hv
  refine Ev.step (fun k => by rw [cornucopiaref1_Vars.l0, Go.Proofs.YtchgpcgolgcfdaaGreat.PuVt.rd_nat l i hlt]) (ev_pos (by omega) (ev_pos (by omega) (Ev.bind hv ?_)))
  refine ev_pos ?_ ?_
  ·rw [S_size]; omega
  rw [of_S (vb_ok _), wrap64_id (by omega), show ((i : Int) + 1) = ((i + 1 : Nat) : Int) from by omega]
  have := ih (i + 1) (acc ++ vb l[i].toNat) (by omega) (by simp; omega)
  rw [List.drop_eq_getElem_cons hlt, vbs_cons, ← List.append_assoc]
  exact this
theorem RVars_ev (l : List Int) (hl : u64s l) (hn : l.length ≤ 300) : Ev (fun k => cornucopiaref1_Vars.f k l) (strOfNums (vbs l)) := by
 have := RVars_l0 l hl hn l.length 0 [] (by omega) (by simp)
 exact Ev.congr (fun k => by rw [cornucopiaref1_Vars.f]; rfl) this
end Go.Proofs.YtchgpcgolgcfdaaGreat.PuRP
end
section
namespace Go.Proofs.YtchgpcgolgcfdaaGreat.PuLess
open Go Go.RowKit Go.Proofs.YtchgpcgolgcfdaaGreat.PNum Go.Proofs.YtchgpcgolgcfdaaGreat.PuIkC Go.Proofs.YtchgpcgolgcfdaaGreatW.PrintWords Go.Proofs.YtchgpcgolgcfdaaGreatW.PrintLast Go.Proofs.YtchgpcgolgcfdaaGreatW.PrintMore Go.Proofs.YtchgpcgolgcfdaaGreatW.Pu
abbrev E := S32
theorem bt_at (s : ByteArray) (i : Nat) (h : i < s.data.toList.length) : bt s (i : Int) = (s.data.toList[i].toNat : Int) := by
 have h' : i < s.data.size := by simpa using h
 rw [bt_eq]
 simp only [bytesOf, List.getD_eq_getElem?_getD, List.getElem?_map, Array.getElem?_toList, Array.getElem_toList]
 rw [Array.getElem?_eq_getElem h']
 rfl
theorem size_data (s : ByteArray) : s.data.toList.length = s.size := by
 show s.data.toList.length = s.data.size
 simp
theorem Less_l0 (a b : ByteArray) (_ha : a.size ≤ 140737488351232) (hb : b.size ≤ 140737488351232) (d : Nat) : ∀ i, i + d = a.size → i ≤ b.size →
  Ev (fun k => cornucopiaref1_Less.l0 k a b (i : Int)) (decide (Lib.compareBytes (a.data.toList.drop i) (b.data.toList.drop i) = -1)) := by
 have la := size_data a
 have lb := size_data b
 induction d with
 | zero =>
  intro i hi hib
  refine Ev.step (fun k => by rw [cornucopiaref1_Less.l0]) (ev_neg (by omega) ?_)
  refine Ev.step (fun k => by rw [cornucopiaref1_Less.j1]) (ev_neg (by simp) (ev_const ?_))
  rw [show a.data.toList.drop i = [] from List.drop_of_length_le (by omega)]
  refine congrArg some (decide_eq_decide.2 ?_)
  cases h : b.data.toList.drop i with
  | nil =>
   have := congrArg List.length h
   rw [List.length_drop] at this
   simp only [List.length_nil] at this
   rw [Lib.compareBytes]
   omega
  | cons y ys =>
   have := congrArg List.length h
   rw [List.length_drop] at this
   simp only [List.length_cons] at this
   rw [Lib.compareBytes]
   omega
 | succ d ih =>
  intro i hi hib
  have ia : i < a.data.toList.length := by omega
  refine Ev.step (fun k => by rw [cornucopiaref1_Less.l0]) (ev_pos (by omega) ?_)
  have da : a.data.toList.drop i = a.data.toList[i] :: a.data.toList.drop (i + 1) := List.drop_eq_getElem_cons ia
  by_cases h : i < b.size
  ·have ib : i < b.data.toList.length := by omega
   have db : b.data.toList.drop i = b.data.toList[i] :: b.data.toList.drop (i + 1) := List.drop_eq_getElem_cons ib
   rw [decide_eq_true (show (i : Int) < (b.size : Int) by omega), da, db, Lib.compareBytes]
   refine Ev.step (fun k => by rw [cornucopiaref1_Less.j1, bt_at a i ia, bt_at b i ib]) (ev_pos rfl (ev_pos (by omega) (ev_pos (by omega) (ev_pos (by omega) ?_))))
   by_cases e : a.data.toList[i] = b.data.toList[i]
   ·refine ev_pos (by rw [e]) ?_
    rw [e, if_neg (UInt8.lt_irrefl _), if_neg (UInt8.lt_irrefl _), wrap64_id (by omega), show ((i : Int) + 1) = ((i + 1 : Nat) : Int) from by omega]
    exact ih (i + 1) (by omega) (by omega)
   ·have hne : a.data.toList[i].toNat ≠ b.data.toList[i].toNat := fun k => e (UInt8.toNat_inj.1 k)
    refine ev_neg (by omega) (ev_const ?_)
    refine congrArg some (decide_eq_decide.2 ?_)
    by_cases k : a.data.toList[i] < b.data.toList[i]
    ·rw [if_pos k]
     have := UInt8.lt_iff_toNat_lt.1 k
     omega
    ·have k2 : b.data.toList[i] < a.data.toList[i] := UInt8.lt_iff_toNat_lt.2 (by have := mt UInt8.lt_iff_toNat_lt.2 k; omega)
     rw [if_neg k, if_pos k2]
     have := UInt8.lt_iff_toNat_lt.1 k2
     omega
  ·rw [decide_eq_false (show ¬ (i : Int) < (b.size : Int) by omega), da, show b.data.toList.drop i = [] from List.drop_of_length_le (by omega), Lib.compareBytes]
   refine Ev.step (fun k => by rw [cornucopiaref1_Less.j1]) (ev_neg (by simp) (ev_const ?_))
   refine congrArg some (decide_eq_decide.2 ?_)
   omega
theorem Less_ev (a b : ByteArray) (ha : a.size ≤ 140737488351232) (hb : b.size ≤ 140737488351232) : Ev (fun k => cornucopiaref1_Less.f k a b) (decide (cb a b = -1)) := by
 have := Less_l0 a b ha hb a.size 0 (by omega) (by omega)
 rw [List.drop_zero, List.drop_zero] at this
 exact Ev.congr (fun k => by rw [cornucopiaref1_Less.f]; rfl) this
theorem RefCompare_ev (a b : E) (ha : a.f0.size ≤ 140737488351232) (hb : b.f0.size ≤ 140737488351232) : Ev (fun k => cornucopiaref5_Compare.f k a.f0 a.f1 a.f2 a.f3 b.f0 b.f1 b.f2 b.f3) (ce a b) := by
 refine Ev.congr (fun k => by rw [cornucopiaref5_Compare.f]) (Ev.bind (Less_ev _ _ ha hb) ?_)
 have r : cb a.f0 b.f0 = -1 ∨ cb a.f0 b.f0 = 0 ∨ cb a.f0 b.f0 = 1 := cl_range _ _
 have n := cb_neg a.f0 b.f0
 unfold ce
 by_cases h : cb a.f0 b.f0 = -1
 ·rw [if_neg (show ¬ cb a.f0 b.f0 = 0 by omega), decide_eq_true h, h]
  exact ev_pos rfl (ev_const rfl)
 ·rw [decide_eq_false h]
  refine ev_neg (by simp) (Ev.bind (Less_ev _ _ hb ha) ?_)
  by_cases k : cb b.f0 a.f0 = -1
  ·rw [if_neg (show ¬ cb a.f0 b.f0 = 0 by omega), decide_eq_true k, show cb a.f0 b.f0 = 1 by omega]
   exact ev_pos rfl (ev_const rfl)
  ·rw [if_pos (show cb a.f0 b.f0 = 0 by omega), decide_eq_false k]
   refine ev_neg (by simp) ?_
   unfold cs
   by_cases q : a.f1 > b.f1
   ·refine ev_pos q (ev_const ?_)
    rw [if_pos q]
   ·refine ev_neg q ?_
    rw [if_neg q]
    by_cases q2 : a.f1 < b.f1
    ·refine ev_pos q2 (ev_const ?_)
     rw [if_pos q2]
    ·refine ev_neg q2 (ev_const ?_)
     rw [if_neg q2]
end Go.Proofs.YtchgpcgolgcfdaaGreat.PuLess
end
section
namespace Go.Proofs.YtchgpcgolgcfdaaGreat.PuBq
open Go Go.RowKit Go.Proofs.YtchgpcgolgcfdaaGreat.PNum Go.Proofs.YtchgpcgolgcfdaaGreat.PuVt Go.Proofs.YtchgpcgolgcfdaaGreat.PuVr Go.Proofs.YtchgpcgolgcfdaaGreat.PuCrc Go.Proofs.YtchgpcgolgcfdaaGreat.PuXr Go.Proofs.YtchgpcgolgcfdaaGreat.PuBk Go.Proofs.YtchgpcgolgcfdaaGreatW.PrintWords Go.Proofs.YtchgpcgolgcfdaaGreatW.PrintLast Go.Proofs.YtchgpcgolgcfdaaGreatW.PrintMore Go.Proofs.YtchgpcgolgcfdaaGreatW.Pu Go.Proofs.YtchgpcgolgcfdaaGreat.Bl2
theorem rl1_ev (s : ByteArray) (i r : Int) (d : Nat) : ∀ (c x : Nat), c + d = 8 → x < 4294967296 → Ev (fun k => cornucopiaref1_Crc.l0 k s ((bitN d x : Nat) : Int) (wrap64 (i + 1))) r → Ev (fun k => cornucopiaref1_Crc.l1 k s (x : Int) i (c : Int)) r := by
 induction d with
 | zero =>
  intro c x hc _ he
  have he2 : Ev (fun k => cornucopiaref1_Crc.l0 k s (x : Int) (wrap64 (i + 1))) r := he
  have hc8 : ¬ ((c : Int) < 8) := by omega
  exact Ev.step (fun k => by rw [cornucopiaref1_Crc.l1]) (ev_neg hc8 he2)
 | succ d ih =>
  intro c x hc hx he
  have hw : wrap64 ((c : Int) + 1) = ((c + 1 : Nat) : Int) := by rw [wrap64_id (by omega)]; omega
  have hm : Int.tmod (x : Int) 2 = ((x % 2 : Nat) : Int) := by rw [Int.tmod_eq_emod_of_nonneg (by omega)]; omega
  have hh : Int.tdiv (x : Int) 2 % 4294967296 = ((x / 2 : Nat) : Int) := by rw [Int.tdiv_eq_ediv_of_nonneg (by omega)]; omega
  have hxo : Go.bits .xor .u32 ((x / 2 : Nat) : Int) 2197175160 = (((x / 2) ^^^ poly : Nat) : Int) := xor_u32 (x / 2) poly (by omega) (by decide)
  have hgo := ih (c + 1) (bit x) (by omega) (bit_lt hx) he
  have hc8 : (c : Int) < 8 := by omega
  rw [← hw] at hgo
  by_cases hb : x % 2 = 1
  ·have hb1 : ((x % 2 : Nat) : Int) = 1 := by omega
   have hbt : bit x = (x / 2) ^^^ poly := if_pos hb
   rw [hbt] at hgo
   refine Ev.step (fun k => by rw [cornucopiaref1_Crc.l1]) (ev_pos hc8 ?_)
   rw [hm, hh, hxo]
   exact ev_pos hb1 hgo
  ·have hb1 : ¬ ((x % 2 : Nat) : Int) = 1 := by omega
   have hbt : bit x = x / 2 := if_neg hb
   rw [hbt] at hgo
   refine Ev.step (fun k => by rw [cornucopiaref1_Crc.l1]) (ev_pos hc8 ?_)
   rw [hm, hh, hxo]
   exact ev_neg hb1 hgo
theorem rl0_ev (s : ByteArray) (hs : s.size ≤ 9223372036854775806) (r : Int) (d : Nat) : ∀ (i x : Nat), i + d = s.size → x < 4294967296 → r = ((crcN x ((bytesOf s).drop i) ^^^ 4294967295 : Nat) : Int) → Ev (fun k => cornucopiaref1_Crc.l0 k s (x : Int) (i : Int)) r := by
 induction d with
 | zero =>
  intro i x hi hx hr
  have hd : (bytesOf s).drop i = [] := List.drop_of_length_le (by rw [bytesOf_length]; omega)
  rw [hd] at hr
  have hxo := xor_u32 x 4294967295 hx (by decide)
  have hr2 : r = ((x ^^^ 4294967295 : Nat) : Int) := hr
  exact Ev.step (fun k => by rw [cornucopiaref1_Crc.l0]) (ev_neg (by omega) (ev_const (by rw [hr2, ← hxo]; rfl)))
 | succ d ih =>
  intro i x hi hx hr
  have hw : wrap64 ((i : Int) + 1) = ((i + 1 : Nat) : Int) := by rw [wrap64_id (by omega)]; omega
  have hlt : i < (bytesOf s).length := by rw [bytesOf_length]; omega
  have hb : bt s (i : Int) = (bytesOf s)[i] := by rw [bt_eq]; simp [hlt]
  have hr8 := ok8_of s _ (List.getElem_mem hlt)
  rw [List.drop_eq_getElem_cons hlt] at hr
  generalize (bytesOf s)[i] = c at *
  obtain ⟨c, rfl⟩ : ∃ m : Nat, c = (m : Int) := ⟨c.toNat, by omega⟩
  have hr2 : r = ((crcN (stepB x c) ((bytesOf s).drop (i + 1)) ^^^ 4294967295 : Nat) : Int) := hr
  have hc : c < 256 := by omega
  have hm : ((c : Int)) % 4294967296 = (c : Int) := by omega
  have hxo := xor_u32 x c hx (by omega)
  have hgo := ih (i + 1) (stepB x c) (by omega) (stepB_lt hx hc) hr2
  rw [stepB, ← hw] at hgo
  have h2 := rl1_ev s (i : Int) r 8 0 (x ^^^ c) rfl (Nat.xor_lt_two_pow (n := 32) hx (by omega)) hgo
  refine Ev.step (fun k => by rw [cornucopiaref1_Crc.l0]) (ev_pos (by omega) (ev_pos (by omega) ?_))
  rw [hb, hm, hxo]
  exact h2
theorem RCrc_eq (s : ByteArray) (hs : s.size ≤ 9223372036854775806) : Ev (fun k => cornucopiaref1_Crc.f k s) ((crc (bytesOf s) : Nat) : Int) := by
 have h := rl0_ev s hs _ s.size 0 4294967295 (Nat.zero_add _) (by decide) rfl
 rw [List.drop_zero, Nat.xor_comm] at h
 exact h
theorem RFix_yes {v n : Nat} (h1 : 1 ≤ n) (h8 : n ≤ 8) (hv : v ≤ 18446744073709551615) (hlt : v < 256 ^ n) : Ev (fun k => cornucopiaref1_Fix.f k (v : Int) (n : Int)) (strOfNums (be n v), 0) := by
 have hr : Ev (fun k => cornucopiaref1_Fix.f k (v : Int) (n : Int)) (if v / 256 ^ n > 0 then (⟨#[]⟩, 1) else (strOfNums (be n v), 0)) := by
  refine Ev.congr (fun k => by rw [cornucopiaref1_Fix.f]) (ev_neg (by omega) ?_)
  rw [decide_eq_false (show ¬ ((n : Int) > 8) by omega)]
  have e3 : wrap64 ((n : Int) - 1) = (n : Int) - 1 := wrap64_id (by omega)
  refine Ev.step (fun k => by rw [cornucopiaref1_Fix.j0, e3, Int.toNat_natCast]) (ev_neg (by simp) (ev_pos (by omega) (ev_pos (by omega) ?_)))
  have := RFix_l0 n v [] hv (by omega)
  simpa using this
 rw [if_neg (by rw [Nat.div_eq_of_lt hlt]; omega)] at hr
 exact hr
theorem RSeal_eq (s : ByteArray) (hs : s.size ≤ 140737488355328) : Ev (fun k => cornucopiaref1_Seal.f k s) (s ++ strOfNums (be 4 (crc (bytesOf s)))) := by
 have he := RCrc_eq s (by omega)
 have hv : crc (bytesOf s) < 256 ^ 4 := crc_lt (ok8_of s)
 generalize crc (bytesOf s) = v at *
 have ht : (strOfNums (be 4 v)).size = 4 := by rw [S_size, be_len]
 have hF := RFix_yes (v := v) (n := 4) (by omega) (by omega) (by omega) hv
 have hw : IntKind.u64.wrap (v : Int) = (v : Int) := wu64_id (by omega)
 unfold cornucopiaref1_Seal.f cornucopiaref1_fix.f
 refine Ev.bind he ?_
 rw [hw]
 refine Ev.bind (Ev.bind hF (ev_const rfl)) (ev_pos ?_ (ev_const rfl))
 show s.size + (strOfNums (be 4 v)).size ≤ _
 omega
theorem Seal_eq (s : ByteArray) (hs : s.size ≤ 140737488355328) : Ev (fun k => sum_Seal.f k s) (s ++ strOfNums (be 4 (crc (bytesOf s)))) := by
 have he := Crc_eq s (by omega)
 have hv : crc (bytesOf s) < 256 ^ 4 := crc_lt (ok8_of s)
 generalize crc (bytesOf s) = v at *
 have ht : (strOfNums (be 4 v)).size = 4 := by rw [S_size, be_len]
 have hF := Fix_yes (v := v) (n := 4) (by omega) (by omega) (Or.inr hv)
 have hw : IntKind.u64.wrap (v : Int) = (v : Int) := wu64_id (by omega)
 unfold sum_Seal.f sum_four.f
 refine Ev.bind he ?_
 simp only [hw]
 refine Ev.bind (Ev.bind hF (ev_const rfl)) (ev_pos ?_ (ev_const rfl))
 show s.size + (strOfNums (be 4 v)).size ≤ _
 omega
def opn (b : ByteArray) : ByteArray × Int := if b.size < 4 then (⟨#[]⟩, 5) else if un ((bytesOf b).drop (b.size - 4)) = crc ((bytesOf b).take (b.size - 4)) then (b.extract 0 (b.size - 4), 0) else (⟨#[]⟩, 6)
theorem Open_ev (b : ByteArray) (hs : b.size ≤ 140737488355328) : Ev (fun k => sum_Open.f k b) (opn b) := by
 unfold opn
 by_cases h4 : b.size < 4
 ·rw [if_pos h4]
  unfold sum_Open.f
  have hw : wrap64 ((b.size : Int) - 4) = (b.size : Int) - 4 := wrap64_id (by omega)
  rw [hw]
  exact ev_pos (by omega) (ev_const rfl)
 ·rw [if_neg h4]
  obtain ⟨n, hn⟩ : ∃ n, b.size = n + 4 := ⟨b.size - 4, by omega⟩
  rw [show b.size - 4 = n by omega]
  have hw4 : wrap64 ((b.size : Int) - 4) = (n : Int) := by rw [wrap64_id (by omega)]; omega
  have hU := Unfix_yes b n 4 (by omega) (by omega) (by omega) (by omega)
  have hl : ((bytesOf b).drop n).length = 4 := by rw [List.length_drop, bytesOf_length]; omega
  rw [List.take_of_length_le (by omega)] at hU
  have hv : un ((bytesOf b).drop n) < 256 ^ 4 := un_lt 4 _ (fun x hx => ok8_of b x (List.mem_of_mem_drop hx)) hl
  have hxs : (b.extract 0 n).size = n := by rw [ByteArray.size_extract]; omega
  have hC := Crc_eq (b.extract 0 n) (by omega)
  have hbx : bytesOf (b.extract 0 n) = (bytesOf b).take n := by rw [bytesOf_extract, List.drop_zero]
  rw [hbx] at hC
  have hm : (((un ((bytesOf b).drop n) : Nat) : Int)) % 4294967296 = ((un ((bytesOf b).drop n) : Nat) : Int) := by omega
  unfold sum_Open.f sum_get.f
  rw [hw4]
  simp only [Int.toNat_natCast]
  refine ev_neg (by omega) (Ev.bind (Ev.bind hU (ev_const rfl)) (ev_pos (by omega) (ev_pos (by omega) (Ev.bind hC ?_))))
  show Ev (fun k => if ((un ((bytesOf b).drop n) : Nat) : Int) % 4294967296 = ((crc ((bytesOf b).take n) : Nat) : Int) then _ else _) _
  rw [hm]
  by_cases he : un ((bytesOf b).drop n) = crc ((bytesOf b).take n)
  ·rw [if_pos he]
   exact ev_pos (by omega) (ev_call (Clone_eq _ (by omega)) (ev_const rfl))
  ·rw [if_neg he]
   exact ev_neg (by omega) (ev_const rfl)
theorem un_inj4 {x y : List Int} (ox : ok8 x) (oy : ok8 y) (hx : x.length = 4) (hy : y.length = 4) (h : un x = un y) : x = y := by
 obtain ⟨a, b, c, d, rfl⟩ : ∃ a b c d, x = [a, b, c, d] := by
  match x, hx with
  | [a, b, c, d], _ => exact ⟨a, b, c, d, rfl⟩
 obtain ⟨a', b', c', d', rfl⟩ : ∃ a b c d, y = [a, b, c, d] := by
  match y, hy with
  | [a, b, c, d], _ => exact ⟨a, b, c, d, rfl⟩
 have h1 := ox a (by simp)
 have h2 := ox b (by simp)
 have h3 := ox c (by simp)
 have h4 := ox d (by simp)
 have h5 := oy a' (by simp)
 have h6 := oy b' (by simp)
 have h7 := oy c' (by simp)
 have h8 := oy d' (by simp)
 simp [un] at h
 have : a = a' ∧ b = b' ∧ c = c' ∧ d = d' := by omega
 rw [this.1, this.2.1, this.2.2.1, this.2.2.2]
theorem ROpen_ev (b : ByteArray) (hs : b.size ≤ 140737488355328) : Ev (fun k => cornucopiaref1_Open.f k b) (opn b) := by
 unfold opn cornucopiaref1_Open.f
 by_cases h4 : b.size < 4
 ·rw [if_pos h4]
  exact ev_pos (by omega) (ev_const rfl)
 ·rw [if_neg h4]
  obtain ⟨n, hn⟩ : ∃ n, b.size = n + 4 := ⟨b.size - 4, by omega⟩
  rw [show b.size - 4 = n by omega]
  have hw4 : wrap64 ((b.size : Int) - 4) = (n : Int) := by rw [wrap64_id (by omega)]; omega
  rw [hw4, Int.toNat_natCast]
  have hxs : (b.extract 0 n).size = n := by rw [ByteArray.size_extract]; omega
  have hS := RSeal_eq (b.extract 0 n) (by omega)
  have hbx : bytesOf (b.extract 0 n) = (bytesOf b).take n := by rw [bytesOf_extract, List.drop_zero]
  rw [hbx] at hS
  refine ev_neg (by omega) (ev_pos (by omega) (ev_pos (by omega) (Ev.bind hS ?_)))
  have hv : crc ((bytesOf b).take n) < 256 ^ 4 := crc_lt (fun x hx => ok8_of b x (List.mem_of_mem_take hx))
  have hl : ((bytesOf b).drop n).length = 4 := by rw [List.length_drop, bytesOf_length]; omega
  have hiff : (b.extract 0 n ++ strOfNums (be 4 (crc ((bytesOf b).take n)))).toList = b.toList ↔ un ((bytesOf b).drop n) = crc ((bytesOf b).take n) := by
   rw [PuIkC.tl_ext]
   constructor
   ·intro h
    have h2 : bytesOf b = (bytesOf b).take n ++ be 4 (crc ((bytesOf b).take n)) := by
     conv => lhs; rw [← h, bytesOf_append, hbx, of_S (be_ok 4 _)]
    have h3 : (bytesOf b).drop n = be 4 (crc ((bytesOf b).take n)) := by
     conv => lhs; rw [h2]
     exact List.drop_left' (by rw [List.length_take, bytesOf_length]; omega)
    rw [h3, un_be 4 _ hv]
   ·intro h
    have h2 : be 4 (crc ((bytesOf b).take n)) = (bytesOf b).drop n := un_inj4 (be_ok 4 _) (fun x hx => ok8_of b x (List.mem_of_mem_drop hx)) (be_len 4 _) hl (by rw [un_be 4 _ hv, h])
    apply bytesOf_inj
    rw [bytesOf_append, hbx, of_S (be_ok 4 _), h2, List.take_append_drop]
  by_cases he : un ((bytesOf b).drop n) = crc ((bytesOf b).take n)
  ·rw [if_pos he]
   exact ev_pos (hiff.2 he) (ev_const rfl)
  ·rw [if_neg he]
   exact ev_neg (fun h => he (hiff.1 h)) (ev_const rfl)
theorem RUnfix_at (s : ByteArray) (at_ n : Nat) (h1 : 1 ≤ n) (hn : n ≤ 8) (ha : at_ + n ≤ s.size) (hs : s.size ≤ 9223372036854775807) :
  Ev (fun k => cornucopiaref1_Unfix.f k s (at_ : Int) (n : Int)) (((un (((bytesOf s).drop at_).take n) : Nat) : Int), 0) := by
 refine Ev.congr (fun k => by rw [cornucopiaref1_Unfix.f]) (ev_neg (by omega) (ev_neg (by omega) ?_))
 rw [decide_eq_false (show ¬ ((at_ : Int) < 0) by omega)]
 refine Ev.step (fun k => by rw [cornucopiaref1_Unfix.j0]) (ev_neg (by simp) (ev_neg (by omega) ?_))
 rw [decide_eq_false (show ¬ ((at_ : Int) > wrap64 ((s.size : Int) - (n : Int))) by rw [wrap64_id (by omega)]; omega)]
 refine Ev.step (fun k => by rw [cornucopiaref1_Unfix.j1]) (ev_neg (by simp) ?_)
 have := RUnfix_l0 s at_ n hn ha hs n 0 (by omega)
 rw [List.take_zero] at this
 exact this
theorem RUnfix_neg (s : ByteArray) (at_ n : Int) (h1 : 1 ≤ n) (h8 : n ≤ 8) (ha : at_ < 0) : Ev (fun k => cornucopiaref1_Unfix.f k s at_ n) (0, 1) := by
 refine Ev.congr (fun k => by rw [cornucopiaref1_Unfix.f]) (ev_neg (by omega) (ev_neg (by omega) ?_))
 rw [decide_eq_true (show at_ < 0 from ha)]
 exact Ev.step (fun k => by rw [cornucopiaref1_Unfix.j0]) (ev_pos rfl (ev_const rfl))
theorem RShared_l0 (a b : ByteArray) (ha : a.size ≤ 9223372036854775806) (d : Nat) : ∀ i, i + d = a.size → i ≤ b.size →
  Ev (fun k => cornucopiaref5_Shared.l0 k a b (i : Int)) (((i + sh ((bytesOf a).drop i) ((bytesOf b).drop i) : Nat)) : Int) := by
 have la : (bytesOf a).length = a.size := bytesOf_length a
 have lb : (bytesOf b).length = b.size := bytesOf_length b
 induction d with
 | zero =>
  intro i hi hb
  have h1 : (bytesOf a).drop i = [] := List.drop_eq_nil_of_le (by omega)
  rw [h1, sh_nl, Nat.add_zero]
  exact Ev.step (fun k => by rw [cornucopiaref5_Shared.l0]) (ev_neg (by omega) (ev_const rfl))
 | succ d ih =>
  intro i hi hb
  by_cases hbi : i < b.size
  ·have hw : wrap64 ((i : Int) + 1) = ((i + 1 : Nat) : Int) := by rw [wrap64_id (by omega)]; omega
   have c1 : (i : Int) < (a.size : Int) := by omega
   have c2 : (i : Int) < (b.size : Int) := by omega
   have c3 : (0 : Int) ≤ (i : Int) := by omega
   have h := ih (i + 1) (by omega) (by omega)
   have ea : (bytesOf a).drop i = (bytesOf a)[i]'(by omega) :: (bytesOf a).drop (i + 1) := List.drop_eq_getElem_cons (by omega)
   have eb : (bytesOf b).drop i = (bytesOf b)[i]'(by omega) :: (bytesOf b).drop (i + 1) := List.drop_eq_getElem_cons (by omega)
   have ba : bt a (i : Int) = (bytesOf a)[i]'(by omega) := by rw [bt_eq]; simp [la, show i < a.size by omega]
   have bb : bt b (i : Int) = (bytesOf b)[i]'(by omega) := by rw [bt_eq]; simp [lb, hbi]
   refine Ev.step (fun k => by rw [cornucopiaref5_Shared.l0, hw]) (ev_pos c1 (ev_pos c2 (ev_pos c3 ?_)))
   rw [ea, eb]
   by_cases hq : (bytesOf a)[i]'(by omega) = (bytesOf b)[i]'(by omega)
   ·refine ev_pos (by rw [ba, bb, hq]) ?_
    rw [sh_eq hq, show i + (sh ((bytesOf a).drop (i + 1)) ((bytesOf b).drop (i + 1)) + 1) = i + 1 + sh ((bytesOf a).drop (i + 1)) ((bytesOf b).drop (i + 1)) from by rw [Nat.add_comm (sh _ _) 1, Nat.add_assoc]]
    exact h
   ·refine ev_neg (by rw [ba, bb]; exact hq) (ev_const ?_)
    rw [sh_ne hq, Nat.add_zero]
  ·have h1 : (bytesOf b).drop i = [] := List.drop_eq_nil_of_le (by omega)
   rw [h1, sh_nil]
   exact Ev.step (fun k => by rw [cornucopiaref5_Shared.l0]) (ev_pos (by omega) (ev_neg (by omega) (ev_const (by rw [Nat.add_zero]))))
theorem RShared_ev (a b : ByteArray) (ha : a.size ≤ 9223372036854775806) : Ev (fun k => cornucopiaref5_Shared.f k a b) ((sh (bytesOf a) (bytesOf b) : Nat) : Int) := by
 have h := RShared_l0 a b ha a.size 0 (Nat.zero_add _) (Nat.zero_le _)
 rw [List.drop_zero, List.drop_zero, Nat.zero_add] at h
 exact h
def RG (l : List E) (i : Nat) : Prop := ∀ j (h : j < l.length), i ≤ j → PuIkC.valid l[j].f0 l[j].f2 l[j].f3 = true ∧ (∀ h0 : 0 < j, PuIkC.ce (l[j - 1]'(by omega)) l[j] = -1)
theorem RG_end (l : List E) : RG l l.length := fun j h hj => by omega
theorem RG_step {l : List E} {i : Nat} (hi : i < l.length) : RG l i ↔ (PuIkC.valid l[i].f0 l[i].f2 l[i].f3 = true ∧ (∀ h0 : 0 < i, PuIkC.ce (l[i - 1]'(by omega)) l[i] = -1)) ∧ RG l (i + 1) := by
 constructor
 ·intro h
  exact ⟨h i hi (Nat.le_refl _), fun j hj hij => h j hj (by omega)⟩
 ·rintro ⟨h1, h2⟩ j hj hij
  by_cases e : i = j
  ·subst e; exact h1
  ·exact h2 j hj (by omega)
theorem Right_g (l : List E) (hlen : l.length ≤ 9223372036854775806) (d : Nat) : ∀ i, i + d = l.length → ∃ b : Bool, Ev (fun k => block_Right.l0 k l l (l.length : Int) (i : Int)) b ∧ (b = true ↔ RG l i) := by
 induction d with
 | zero =>
  intro i hi
  obtain rfl : i = l.length := by omega
  exact ⟨true, Ev.step (fun k => by rw [block_Right.l0]) (ev_neg (by omega) (ev_const rfl)), ⟨fun _ => RG_end l, fun _ => rfl⟩⟩
 | succ d ih =>
  intro i hi
  have hlt : i < l.length := by omega
  have he : rd_T32 l (i : Int) = l[i] := at_nat l i hlt
  have c1 : (i : Int) < (l.length : Int) := by omega
  have c2 : (0 : Int) ≤ (i : Int) := by omega
  have hw : wrap64 ((i : Int) + 1) = ((i + 1 : Nat) : Int) := by rw [wrap64_id (by omega)]; omega
  have hV := PuIkC.Valid_ev l[i].f0 l[i].f1 l[i].f2 l[i].f3
  obtain ⟨b, hb, hbt⟩ := ih (i + 1) (by omega)
  have hst := RG_step hlt
  cases hv : PuIkC.valid l[i].f0 l[i].f2 l[i].f3 with
  | false =>
   rw [hv] at hV
   refine ⟨false, ?_, ⟨fun h => (by cases h), fun h => (by have := (hst.1 h).1.1; rw [hv] at this; cases this)⟩⟩
   refine Ev.step (fun k => by rw [block_Right.l0, he]) (ev_pos c1 (ev_pos c2 (ev_pos c1 ?_)))
   exact Ev.bind hV (ev_neg Bool.false_ne_true (ev_const rfl))
  | true =>
   rw [hv] at hV
   by_cases h0 : i = 0
   ·subst h0
    have c0 : ¬ (((0 : Nat) : Int) > 0) := by omega
    refine ⟨b, ?_, ⟨fun h => hst.2 ⟨⟨hv, fun h0 => absurd h0 (by omega)⟩, hbt.1 h⟩, fun h => hbt.2 (hst.1 h).2⟩⟩
    refine Ev.step (fun k => by rw [block_Right.l0, he, hw]) (ev_pos c1 (ev_pos c2 (ev_pos c1 ?_)))
    exact Ev.bind hV (ev_pos rfl (ev_neg c0 hb))
   ·have hw1 : wrap64 ((i : Int) - 1) = ((i - 1 : Nat) : Int) := by rw [wrap64_id (by omega)]; omega
    have he1 : rd_T32 l ((i - 1 : Nat) : Int) = l[i - 1]'(by omega) := at_nat l (i - 1) (by omega)
    have c3 : (i : Int) > 0 := by omega
    have c4 : (0 : Int) ≤ ((i - 1 : Nat) : Int) := by omega
    have c5 : ((i - 1 : Nat) : Int) < (l.length : Int) := by omega
    have hC := PuIkC.Compare_ev (l[i - 1]'(by omega)) l[i]
    by_cases hce : PuIkC.ce (l[i - 1]'(by omega)) l[i] ≥ 0
    ·refine ⟨false, ?_, ⟨fun h => (by cases h), fun h => (by have h9 := (hst.1 h).1.2 (by omega); omega)⟩⟩
     refine Ev.step (fun k => by rw [block_Right.l0, he, hw1, he1]) (ev_pos c1 (ev_pos c2 (ev_pos c1 ?_)))
     refine Ev.bind hV (ev_pos rfl (ev_pos c3 (ev_pos c4 (ev_pos c5 ?_))))
     exact Ev.bind hC (ev_pos hce (ev_const rfl))
    ·have hm : PuIkC.ce (l[i - 1]'(by omega)) l[i] = -1 := by
      rcases PuIkC.ce_range (l[i - 1]'(by omega)) l[i] with q | q | q
      ·exact q
      ·exact absurd (by rw [q]; decide) hce
      ·exact absurd (by rw [q]; decide) hce
     refine ⟨b, ?_, ⟨fun h => hst.2 ⟨⟨hv, fun _ => hm⟩, hbt.1 h⟩, fun h => hbt.2 (hst.1 h).2⟩⟩
     refine Ev.step (fun k => by rw [block_Right.l0, he, hw1, he1, hw]) (ev_pos c1 (ev_pos c2 (ev_pos c1 ?_)))
     refine Ev.bind hV (ev_pos rfl (ev_pos c3 (ev_pos c4 (ev_pos c5 ?_))))
     exact Ev.bind hC (ev_neg hce hb)
theorem ordered_g (l : List E) (hlen : l.length ≤ 9223372036854775806) (hs : ∀ e ∈ l, e.f0.size ≤ 140737488351232) (d : Nat) : ∀ i, i + d = l.length → ∃ b : Bool, Ev (fun k => cornucopiaref5_ordered.l0 k l (i : Int)) b ∧ (b = true ↔ RG l i) := by
 induction d with
 | zero =>
  intro i hi
  obtain rfl : i = l.length := by omega
  exact ⟨true, Ev.step (fun k => by rw [cornucopiaref5_ordered.l0]) (ev_neg (by omega) (ev_const rfl)), ⟨fun _ => RG_end l, fun _ => rfl⟩⟩
 | succ d ih =>
  intro i hi
  have hlt : i < l.length := by omega
  have he : rd_T32 l (i : Int) = l[i] := at_nat l i hlt
  have c1 : (i : Int) < (l.length : Int) := by omega
  have c2 : (0 : Int) ≤ (i : Int) := by omega
  have hw : wrap64 ((i : Int) + 1) = ((i + 1 : Nat) : Int) := by rw [wrap64_id (by omega)]; omega
  have hV := PuRP.refValid_eq l[i].f0 l[i].f1 l[i].f2 l[i].f3
  obtain ⟨b, hb, hbt⟩ := ih (i + 1) (by omega)
  have hst := RG_step hlt
  cases hv : PuIkC.valid l[i].f0 l[i].f2 l[i].f3 with
  | false =>
   rw [hv] at hV
   refine ⟨false, ?_, ⟨fun h => (by cases h), fun h => (by have := (hst.1 h).1.1; rw [hv] at this; cases this)⟩⟩
   refine Ev.step (fun k => by rw [cornucopiaref5_ordered.l0, he]) (ev_pos c1 (ev_pos c2 ?_))
   exact ev_call hV (ev_neg Bool.false_ne_true (ev_const rfl))
  | true =>
   rw [hv] at hV
   by_cases h0 : i = 0
   ·subst h0
    have c0 : ¬ (((0 : Nat) : Int) > 0) := by omega
    refine ⟨b, ?_, ⟨fun h => hst.2 ⟨⟨hv, fun h0 => absurd h0 (by omega)⟩, hbt.1 h⟩, fun h => hbt.2 (hst.1 h).2⟩⟩
    refine Ev.step (fun k => by rw [cornucopiaref5_ordered.l0, he, hw]) (ev_pos c1 (ev_pos c2 ?_))
    exact ev_call hV (ev_pos rfl (ev_neg c0 hb))
   ·have hw1 : wrap64 ((i : Int) - 1) = ((i - 1 : Nat) : Int) := by rw [wrap64_id (by omega)]; omega
    have he1 : rd_T32 l ((i - 1 : Nat) : Int) = l[i - 1]'(by omega) := at_nat l (i - 1) (by omega)
    have c3 : (i : Int) > 0 := by omega
    have c4 : (0 : Int) ≤ ((i - 1 : Nat) : Int) := by omega
    have c5 : ((i - 1 : Nat) : Int) < (l.length : Int) := by omega
    have hC := PuLess.RefCompare_ev (l[i - 1]'(by omega)) l[i] (hs _ (List.getElem_mem _)) (hs _ (List.getElem_mem _))
    by_cases hce : PuIkC.ce (l[i - 1]'(by omega)) l[i] ≥ 0
    ·refine ⟨false, ?_, ⟨fun h => (by cases h), fun h => (by have h9 := (hst.1 h).1.2 (by omega); omega)⟩⟩
     refine Ev.step (fun k => by rw [cornucopiaref5_ordered.l0, he, hw1, he1]) (ev_pos c1 (ev_pos c2 ?_))
     refine ev_call hV (ev_pos rfl (ev_pos c3 (ev_pos c4 (ev_pos c5 ?_))))
     exact Ev.bind hC (ev_pos hce (ev_const rfl))
    ·have hm : PuIkC.ce (l[i - 1]'(by omega)) l[i] = -1 := by
      rcases PuIkC.ce_range (l[i - 1]'(by omega)) l[i] with q | q | q
      ·exact q
      ·exact absurd (by rw [q]; decide) hce
      ·exact absurd (by rw [q]; decide) hce
     refine ⟨b, ?_, ⟨fun h => hst.2 ⟨⟨hv, fun _ => hm⟩, hbt.1 h⟩, fun h => hbt.2 (hst.1 h).2⟩⟩
     refine Ev.step (fun k => by rw [cornucopiaref5_ordered.l0, he, hw1, he1, hw]) (ev_pos c1 (ev_pos c2 ?_))
     refine ev_call hV (ev_pos rfl (ev_pos c3 (ev_pos c4 (ev_pos c5 ?_))))
     exact Ev.bind hC (ev_neg hce hb)
open Classical in
noncomputable def rightB (l : List E) : Bool := decide (RG l 0)
theorem of_iff {b : Bool} {p : Prop} [Decidable p] (h : b = true ↔ p) : b = decide p := by
 cases b with
 | true => exact (decide_eq_true (h.1 rfl)).symm
 | false => exact (decide_eq_false (fun hp => by cases h.2 hp)).symm
theorem Right_is (l : List E) (hlen : l.length ≤ 9223372036854775806) : Ev (fun k => block_Right.f k l) (rightB l) := by
 obtain ⟨b, hb, hi⟩ := Right_g l hlen l.length 0 (Nat.zero_add _)
 rw [show rightB l = b from (by unfold rightB; exact (@of_iff _ _ (Classical.propDecidable _) hi).symm)]
 exact hb
theorem ordered_is (l : List E) (hlen : l.length ≤ 9223372036854775806) (hs : ∀ e ∈ l, e.f0.size ≤ 140737488351232) : Ev (fun k => cornucopiaref5_ordered.f k l) (rightB l) := by
 obtain ⟨b, hb, hi⟩ := ordered_g l hlen hs l.length 0 (Nat.zero_add _)
 rw [show rightB l = b from (by unfold rightB; exact (@of_iff _ _ (Classical.propDecidable _) hi).symm)]
 exact hb
theorem ev_uniq {α : Type} {f : Nat → Option α} {a b : α} (h : Ev f a) (k : Ev f b) : a = b := by
 obtain ⟨k1, q1⟩ := h
 obtain ⟨k2, q2⟩ := k
 exact Option.some.inj ((q1 (k1 + k2) (by omega)).symm.trans (q2 (k1 + k2) (by omega)))
def rst : Nat → Nat → ByteArray → List E → List Int
 | _, _, _, [] => []
 | i, off, p, e :: l => (if i % 4 = 0 then be 4 off else []) ++ rst (i + 1) (off + (pc e (hd i p e)).length) e.f0 l
theorem rst_ok : ∀ (l : List E) i o p, ok8 (rst i o p l)
 | [], _, _, _ => ok8_nil
 | e :: l, i, o, p => by
  rw [rst]
  refine ok8_append ?_ (rst_ok l _ _ _)
  split
  ·exact be_ok 4 _
  ·exact ok8_nil
theorem rst_len : ∀ (l : List E) i o p, (rst i o p l).length = 4 * ((i + l.length + 3) / 4) - 4 * ((i + 3) / 4)
 | [], i, _, _ => by simp [rst]
 | e :: l, i, o, p => by
  rw [rst, List.length_append, rst_len l, List.length_cons]
  split
  ·rw [be_len]; omega
  ·rw [List.length_nil]; omega
theorem ahead_ex (l : List E) (i : Nat) (hi : i < l.length) (h400 : l.length ≤ 10000) (p b r : ByteArray) (hp : 0 < i → p = (rdE l ((i : Int) - 1)).f0) (hps : p.size ≤ 300) (hb : b.size ≤ i * 60400) (hr : r.size ≤ 4 * i) :
  Ev (fun k => Go.Proofs.YtchgpcgolgcfdaaGreat.Bl2.ahead k l i b r) (((hd i p l[i] : Nat) : Int), r ++ strOfNums (if i % 4 = 0 then be 4 b.size else [])) := by
 have he := at_nat l i hi
 by_cases h4 : i % 4 = 0
 ·have hx : (strOfNums (be 4 b.size)).size = 4 := by rw [S_size, be_len]
  unfold Go.Proofs.YtchgpcgolgcfdaaGreat.Bl2.ahead hd
  simp only [if_pos h4]
  refine Ev.bind (four_ev b.size (by omega)) (ev_pos ?_ (ev_const rfl))
  rw [hx]
  unfold lim
  omega
 ·have hpe := hp (by omega)
  have hsh := hd_le i p l[i]
  have hd1 : hd i p l[i] = sh (bytesOf p) (bytesOf l[i].f0) := by unfold hd; rw [if_neg h4]
  unfold Go.Proofs.YtchgpcgolgcfdaaGreat.Bl2.ahead
  simp only [if_neg h4]
  rw [he, ← hpe, hd1, app_nil]
  rw [hd1] at hsh
  refine Ev.bind (Shared_ev p l[i].f0 (by omega)) (ev_pos ⟨⟨by omega, by omega⟩, ?_⟩ (ev_const rfl))
  unfold lim
  omega
theorem go_ex (l : List E) (hl : ∀ e ∈ l, Ok e) (h400 : l.length ≤ 10000) (n : Nat) : ∀ i p b r, i + n = l.length → (0 < i → p = (rdE l ((i : Int) - 1)).f0) → p.size ≤ 300 → b.size ≤ i * 60400 → r.size ≤ 4 * i →
  Ev (fun k => go k l n i b r) (b ++ strOfNums (layB i p (l.drop i)), r ++ strOfNums (rst i b.size p (l.drop i))) := by
 induction n with
 | zero =>
  intro i p b r hi hp hps hb hr
  obtain rfl : i = l.length := by omega
  rw [List.drop_length, layB, rst, app_nil, app_nil]
  exact ev_const rfl
 | succ n ih =>
  intro i p b r hi hp hps hb hr
  have hlt : i < l.length := by omega
  have he := at_nat l i hlt
  have hok := hl _ (List.getElem_mem hlt)
  have ha := ahead_ex l i hlt h400 p b r hp hps hb hr
  have hd2 := hd_le i p l[i]
  have hpl := pc_len hok hd2.2
  have hps2 : (strOfNums (pc l[i] (hd i p l[i]))).size = (pc l[i] (hd i p l[i])).length := S_size _
  have hrs : (strOfNums (if i % 4 = 0 then be 4 b.size else [])).size ≤ 4 := by
   rw [S_size]
   split
   ·rw [be_len]; omega
   ·simp
  have hg := ih (i + 1) l[i].f0 (b ++ strOfNums (pc l[i] (hd i p l[i]))) (r ++ strOfNums (if i % 4 = 0 then be 4 b.size else [])) (by omega) (fun _ => by rw [show (((i + 1 : Nat) : Int) - 1) = (i : Int) by omega, he]) hok.key (by rw [ByteArray.size_append, hps2]; omega) (by rw [ByteArray.size_append]; omega)
  rw [ByteArray.size_append, hps2, app_S, app_S] at hg
  rw [List.drop_eq_getElem_cons hlt, layB, rst]
  show Ev (fun k => (Go.Proofs.YtchgpcgolgcfdaaGreat.Bl2.ahead k l i b r).bind fun x => (piece k (rdE l (i : Int)) x.1).bind fun p => if b.size + p.size ≤ lim then go k l n (i + 1) (b ++ p) x.2 else none) _
  rw [he]
  refine Ev.bind ha (Ev.bind (piece_ev hok hd2.2) (ev_pos ?_ hg))
  rw [hps2]
  unfold lim
  omega
def blk (l : List E) : List Int := layB 0 ⟨#[]⟩ l ++ (rst 0 0 ⟨#[]⟩ l ++ be 4 ((l.length + 3) / 4))
theorem blk_ok (l : List E) : ok8 (blk l) := ok8_append (layB_ok _ _ _) (ok8_append (rst_ok _ _ _ _) (be_ok 4 _))
noncomputable def putB (l : List E) : ByteArray × Int := if rightB l = true then (strOfNums (blk l ++ be 4 (crc (blk l))), 0) else (⟨#[]⟩, 1)
def u64s_ (l : List E) : Prop := ∀ e ∈ l, 0 ≤ e.f1 ∧ e.f1 ≤ 18446744073709551615
theorem RG_of {l : List E} (h : rightB l = true) : RG l 0 := by
 unfold rightB at h
 exact @of_decide_eq_true _ (Classical.propDecidable _) h
theorem right_ok {l : List E} (h : rightB l = true) (hu : u64s_ l) : ∀ e ∈ l, Ok e := by
 intro e he
 obtain ⟨j, hj, rfl⟩ := List.getElem_of_mem he
 have hv := (RG_of h j hj (Nat.zero_le _)).1
 have hw := hu _ (List.getElem_mem hj)
 unfold PuIkC.valid at hv
 rw [decide_eq_true_eq] at hv
 obtain ⟨v1, v2, v3⟩ := hv
 refine ⟨by omega, hw, ?_, by omega⟩
 by_cases h2 : l[j].f2 = 2
 ·exact Or.inr h2
 ·rw [if_neg h2] at v3
  exact Or.inl v3
theorem Put_is (l : List E) (h4 : l.length ≤ 10000) (hu : u64s_ l) : Ev (fun k => block_Put.f k l) (putB l) := by
 have hR := Right_is l (by omega)
 unfold putB
 cases hr : rightB l with
 | false =>
  rw [hr] at hR
  rw [if_neg Bool.false_ne_true]
  show Ev (fun k => putF k l) _
  unfold putF
  exact Ev.bind hR (ev_neg Bool.false_ne_true (ev_const rfl))
 | true =>
  rw [hr] at hR
  rw [if_pos rfl]
  have hl := right_ok hr hu
  have hlen := layB_len l 0 ⟨#[]⟩ hl
  have hg := go_ex l hl h4 l.length 0 ⟨#[]⟩ ⟨#[]⟩ ⟨#[]⟩ (Nat.zero_add _) (fun h => absurd h (by omega)) (by decide) (by decide) (by decide)
  rw [List.drop_zero, nil_app, nil_app] at hg
  replace hg : Ev (fun k => go k l l.length 0 ⟨#[]⟩ ⟨#[]⟩) (strOfNums (layB 0 ⟨#[]⟩ l), strOfNums (rst 0 0 ⟨#[]⟩ l)) := hg
  have hrl := rst_len l 0 0 ⟨#[]⟩
  have hz := four_ev ((l.length + 3) / 4) (by omega)
  have hS := Seal_eq (strOfNums (blk l)) (by rw [S_size]; unfold blk; rw [List.length_append, List.length_append, be_len]; omega)
  rw [of_S (blk_ok l), S_append] at hS
  show Ev (fun k => putF k l) _
  unfold putF
  refine Ev.bind hR (ev_pos rfl (ev_pos (by unfold lim; omega) (Ev.bind hg (Ev.bind hz (ev_pos ?_ ?_)))))
  ·show (strOfNums (layB 0 ⟨#[]⟩ l)).size + (strOfNums (rst 0 0 ⟨#[]⟩ l)).size + (strOfNums (be 4 ((l.length + 3) / 4))).size ≤ lim
   rw [S_size, S_size, S_size, be_len]
   unfold lim
   omega
  ·dsimp only
   rw [S_append, S_append, List.append_assoc]
   exact Ev.bind hS (ev_const rfl)
theorem Get_put {l : List E} (h4 : l.length ≤ 10000) (hu : u64s_ l) (hr : rightB l = true) : Ev (fun k => block_Get.f k (putB l).1) (l, 0) := by
 have hR := Right_is l (by omega)
 rw [hr] at hR
 obtain ⟨s, _, hP, hG⟩ := Put_ev l (right_ok hr hu) h4 hR
 have := ev_uniq hP (Put_is l h4 hu)
 rw [← this]
 exact hG
theorem putB_right {l : List E} {b : ByteArray} (h : putB l = (b, 0)) : rightB l = true := by
 unfold putB at h
 cases hr : rightB l with
 | true => rfl
 | false =>
  rw [hr, if_neg Bool.false_ne_true] at h
  have := congrArg Prod.snd h
  simp at this
theorem rv_short : ∀ l i acc, (rv l i acc).2.2 = 0 → (rv l i acc).2.1.length < l.length
 | [], _, _, h => by simp [rv] at h
 | c :: t, i, acc, h => by
  rw [rv] at h ⊢
  split
  ·rename_i q; rw [if_pos q] at h; simp at h
  ·rename_i q
   rw [if_neg q] at h
   split
   ·rename_i q2
    rw [if_pos q2] at h
    have := rv_short t _ _ h
    rw [List.length_cons]
    omega
   ·rename_i q2
    rw [if_neg q2] at h
    split
    ·rename_i q3; rw [if_pos q3] at h; simp at h
    ·simp
theorem rVar_0 {b : List Int} {e : Int} (h : (rVar b e).2.2 = 0) : e = 0 := by
 unfold rVar at h
 by_cases he : e = 0
 ·exact he
 ·rw [if_neg he] at h; exact h
theorem rVar_short {b : List Int} {e : Int} (h : (rVar b e).2.2 = 0) : (rVar b e).2.1.length < b.length := by
 have he := rVar_0 h
 unfold rVar at h ⊢
 rw [if_pos he] at h ⊢
 by_cases h2 : (rv b 0 0).2.2 = 0
 ·rw [if_pos h2]
  exact rv_short b 0 0 h2
 ·rw [if_neg h2] at h
  exact absurd h h2
theorem rCount_0 {b : List Int} {e m : Int} (h : (rCount b e m).2.2 = 0) : (rVar b e).2.2 = 0 ∧ (rCount b e m).1 ≤ m ∧ (rCount b e m).2.1 = (rVar b e).2.1 := by
 unfold rCount at h ⊢
 by_cases h1 : (rVar b e).2.2 = 0
 ·rw [if_pos h1] at h ⊢
  by_cases h2 : m < 0 ∨ m < (rVar b e).1
  ·rw [if_pos h2] at h
   simp at h
  ·rw [if_neg h2]
   exact ⟨h1, by show (rVar b e).1 ≤ m; omega, rfl⟩
 ·rw [if_neg h1] at h
  exact absurd h h1
theorem rTake_0 {b : List Int} {e n : Int} (h : (rTake b e n).2.2 = 0) : e = 0 := by
 unfold rTake at h
 by_cases he : e = 0
 ·exact he
 ·rw [if_neg he] at h; exact h
theorem rText_0 {b : List Int} {e m : Int} (h : (rText b e m).2.2 = 0) : (rCount b e m).2.2 = 0 := rTake_0 h
theorem rText_size (b : List Int) (e m : Int) (hm : 0 ≤ m) : ((rText b e m).1.length : Int) ≤ m := by
 unfold rText
 by_cases h : (rCount b e m).2.2 = 0
 ·have h1 := (rCount_0 h).2.1
  unfold rTake
  rw [if_pos h]
  by_cases h2 : ((rCount b e m).2.1.length : Int) < (rCount b e m).1
  ·rw [if_pos h2]; simpa using hm
  ·rw [if_neg h2]
   simp only [List.length_take]
   omega
 ·unfold rTake
  rw [if_neg h]
  simpa using hm
def vE (last : ByteArray) (bs : List Int) : E × List Int × Int :=
 let c := rCount bs 0 (last.size : Int)
 let t := rText c.2.1 c.2.2 300
 let s := rVar t.2.1 t.2.2
 let q := rVar s.2.1 s.2.2
 let v := rText q.2.1 q.2.2 60000
 (⟨last.extract 0 c.1.toNat ++ strOfNums t.1, s.1, if q.1 ≤ 2 then q.1 else 0, strOfNums v.1⟩, v.2.1, v.2.2)
theorem vE_short {last : ByteArray} {bs : List Int} (h : (vE last bs).2.2 = 0) : (vE last bs).2.1.length < bs.length := by
 have h1 := rCount_0 (rText_0 h)
 have h2 := rVar_0 h1.1
 have h3 := rVar_0 h2
 have h4 := rCount_0 (rText_0 (rVar_0 h3))
 have h5 := rVar_0 h4.1
 have h6 := rCount_0 h5
 have h7 := rVar_short h6.1
 have l1 : (vE last bs).2.1.length ≤ _ := rText_len _ _ _
 have l2 := rVar_len (rVar (rText (rCount bs 0 (last.size : Int)).2.1 (rCount bs 0 (last.size : Int)).2.2 300).2.1 (rText (rCount bs 0 (last.size : Int)).2.1 (rCount bs 0 (last.size : Int)).2.2 300).2.2).2.1 (rVar (rText (rCount bs 0 (last.size : Int)).2.1 (rCount bs 0 (last.size : Int)).2.2 300).2.1 (rText (rCount bs 0 (last.size : Int)).2.1 (rCount bs 0 (last.size : Int)).2.2 300).2.2).2.2
 have l3 := rVar_len (rText (rCount bs 0 (last.size : Int)).2.1 (rCount bs 0 (last.size : Int)).2.2 300).2.1 (rText (rCount bs 0 (last.size : Int)).2.1 (rCount bs 0 (last.size : Int)).2.2 300).2.2
 have l4 := rText_len (rCount bs 0 (last.size : Int)).2.1 (rCount bs 0 (last.size : Int)).2.2 300
 have l5 : (rCount bs 0 (last.size : Int)).2.1.length = (rVar bs 0).2.1.length := by rw [h6.2.2]
 omega
def Fit (l : List E) : Prop := ∀ e ∈ l, (0 ≤ e.f1 ∧ e.f1 ≤ 18446744073709551615) ∧ e.f0.size ≤ 100000000000 ∧ e.f3.size ≤ 60000
theorem vers_tot (m : Nat) : ∀ (bs : List Int) (acc : List E) (last : ByteArray), bs.length ≤ m → ok8 bs → last.size + 300 * bs.length ≤ 100000000000 → acc.length + bs.length ≤ 1000000000 → Fit acc →
  ∃ l ok, Ev (fun k => block_versions.l0 k acc last (strOfNums bs) 0) (l, ok) ∧ Fit l ∧ l.length ≤ acc.length + bs.length := by
 induction m with
 | zero =>
  intro bs acc last hm hok hls hal hf
  obtain rfl : bs = [] := List.eq_nil_of_length_eq_zero (by omega)
  refine ⟨acc, true, ?_, hf, by omega⟩
  exact Ev.step (fun k => by rw [block_versions.l0, Left_eq, Option.bind_some]) (ev_neg (by rw [S_size]; simp) (ev_const rfl))
 | succ m ih =>
  intro bs acc last hm hok hls hal hf
  by_cases hb : bs = []
  ·subst hb
   refine ⟨acc, true, ?_, hf, by omega⟩
   exact Ev.step (fun k => by rw [block_versions.l0, Left_eq, Option.bind_some]) (ev_neg (by rw [S_size]; simp) (ev_const rfl))
  have hpos : 0 < bs.length := List.length_pos_iff.2 hb
  have hshort := vE_short (last := last) (bs := bs)
  have hvk : (vE last bs).1.f1 = (rVar (rText (rCount bs 0 (last.size : Int)).2.1 (rCount bs 0 (last.size : Int)).2.2 300).2.1 (rText (rCount bs 0 (last.size : Int)).2.1 (rCount bs 0 (last.size : Int)).2.2 300).2.2).1 := rfl
  have c1 := Count_ev hok 0 (last.size : Int) (by omega)
  have r1 := rCount_range bs 0 (last.size : Int) (by omega)
  have n1 : (rCount bs 0 (last.size : Int)).2.2 = 0 → (rCount bs 0 (last.size : Int)).1 ≤ (last.size : Int) := fun h => (rCount_0 h).2.1
  have o1 := rCount_ok (e := 0) (most := (last.size : Int)) hok
  have e0 : (vE last bs).2.2 = 0 → (rCount bs 0 (last.size : Int)).2.2 = 0 := fun h => rVar_0 (rCount_0 (rText_0 (rVar_0 (rVar_0 (rVar_0 (rCount_0 (rText_0 h)).1))))).1
  have hE := vE.eq_1 last bs
  (try simp only at hE)
  generalize rCount bs 0 (last.size : Int) = c at *
  have c2 := Go.Proofs.YtchgpcgolgcfdaaGreat.PuVr.Text_ev o1 c.2.2 300 (by omega)
  have o2 := (rText_ok (e := c.2.2) (n := 300) o1).1
  have z2 := rText_size c.2.1 c.2.2 300 (by omega)
  generalize rText c.2.1 c.2.2 300 = t at *
  have c3 := Go.Proofs.YtchgpcgolgcfdaaGreat.PuVr.Var_ev o2 t.2.2
  have o3 := rVar_ok (e := t.2.2) o2
  have z3 := rVar_top o2 t.2.2
  have y3 := rVar_nonneg t.2.1 t.2.2
  generalize rVar t.2.1 t.2.2 = s at *
  have c4 := Go.Proofs.YtchgpcgolgcfdaaGreat.PuVr.Var_ev o3 s.2.2
  have o4 := rVar_ok (e := s.2.2) o3
  have y4 := rVar_nonneg s.2.1 s.2.2
  generalize rVar s.2.1 s.2.2 = q at *
  have c5 := Go.Proofs.YtchgpcgolgcfdaaGreat.PuVr.Text_ev o4 q.2.2 60000 (by omega)
  have o5 := (rText_ok (e := q.2.2) (n := 60000) o4).1
  have z5 := rText_size q.2.1 q.2.2 60000 (by omega)
  generalize rText q.2.1 q.2.2 60000 = v at *
  have hv22 : (vE last bs).2.2 = v.2.2 := by rw [hE]
  have hv21 : (vE last bs).2.1 = v.2.1 := by rw [hE]
  rw [hv22] at hshort e0
  rw [hv21] at hshort
  have hcl : strings_Clone.f (strOfNums v.1) = some (strOfNums v.1) := Clone_eq _ (by rw [S_size]; omega)
  have hex : (last.extract 0 c.1.toNat).size ≤ last.size := by rw [ByteArray.size_extract]; omega
  have hts : (strOfNums t.1).size ≤ 300 := by rw [S_size]; omega
  have hj : ∀ kind : Int, ∃ l ok, Ev (fun k => block_versions.j1 k acc last c.1 (strOfNums t.1) (strOfNums q.2.1) q.2.2 ⟨#[]⟩ s.1 kind ⟨#[]⟩) (l, ok) ∧ Fit l ∧ l.length ≤ acc.length + bs.length := by
   intro kind
   by_cases he : v.2.2 = 0
   ·have hn := n1 (e0 he)
    have hsz : (last.extract 0 c.1.toNat ++ strOfNums t.1).size ≤ last.size + 300 := by rw [ByteArray.size_append]; omega
    have hs2 := hshort he
    obtain ⟨l, ok, hl, hf2, hn2⟩ := ih v.2.1 (acc ++ [⟨last.extract 0 c.1.toNat ++ strOfNums t.1, s.1, kind, strOfNums v.1⟩]) (last.extract 0 c.1.toNat ++ strOfNums t.1) (by omega) o5 (by omega) (by simp; omega) (by
     intro e he2
     rcases List.mem_append.1 he2 with h | h
     ·exact hf e h
     ·rw [List.mem_singleton.1 h]
      exact ⟨⟨y3, z3⟩, by show (last.extract 0 c.1.toNat ++ strOfNums t.1).size ≤ _; omega, by show (strOfNums v.1).size ≤ _; rw [S_size]; omega⟩)
    have hl2 : Ev (fun k => block_versions.l0 k (acc ++ [⟨last.extract 0 c.1.toNat ++ strOfNums t.1, s.1, kind, strOfNums v.1⟩]) (last.extract 0 c.1.toNat ++ strOfNums t.1) (strOfNums v.2.1) v.2.2) (l, ok) := by rw [he]; exact hl
    have g1 : (last.extract 0 c.1.toNat).size + (strOfNums t.1).size ≤ 9223372036854775807 := by omega
    have g2 : acc.length < 2932031007402 := by omega
    refine ⟨l, ok, Ev.step (fun k => by rw [block_versions.j1]) (Ev.bind c5 (ev_call hcl (ev_call (Err_eq _ _) (ev_pos he (ev_pos r1.1 (ev_pos hn (ev_pos g1 (ev_pos g2 hl2)))))))), hf2, ?_⟩
    ·simp at hn2; omega
   ·exact ⟨[], false, Ev.step (fun k => by rw [block_versions.j1]) (Ev.bind c5 (ev_call hcl (ev_call (Err_eq _ _) (ev_neg he (ev_const rfl))))), (fun e h => by simp at h), by simp⟩
  by_cases hk2 : q.1 ≤ 2
  ·obtain ⟨l, ok, hl, h2⟩ := hj (wrap64 q.1)
   exact ⟨l, ok, Ev.step (fun k => by rw [block_versions.l0, Left_eq, Option.bind_some]) (ev_pos (by rw [S_size]; omega) (Ev.bind c1 (Ev.bind c2 (Ev.bind c3 (Ev.bind c4 (ev_pos hk2 hl)))))), h2⟩
  ·obtain ⟨l, ok, hl, h2⟩ := hj 0
   exact ⟨l, ok, Ev.step (fun k => by rw [block_versions.l0, Left_eq, Option.bind_some]) (ev_pos (by rw [S_size]; omega) (Ev.bind c1 (Ev.bind c2 (Ev.bind c3 (Ev.bind c4 (ev_neg hk2 hl)))))), h2⟩
def glE (last : ByteArray) (bs : List Int) : E × List Int × Int × Int :=
 (⟨last.extract 0 (rCount bs 0 300).1.toNat ++ strOfNums (rText (rCount bs 0 300).2.1 (rCount bs 0 300).2.2 300).1,
  (rVar (rText (rCount bs 0 300).2.1 (rCount bs 0 300).2.2 300).2.1 (rText (rCount bs 0 300).2.1 (rCount bs 0 300).2.2 300).2.2).1,
  (let q := rVar (rVar (rText (rCount bs 0 300).2.1 (rCount bs 0 300).2.2 300).2.1 (rText (rCount bs 0 300).2.1 (rCount bs 0 300).2.2 300).2.2).2.1 (rVar (rText (rCount bs 0 300).2.1 (rCount bs 0 300).2.2 300).2.1 (rText (rCount bs 0 300).2.1 (rCount bs 0 300).2.2 300).2.2).2.2
   if q.1 = 1 ∨ q.1 = 2 then q.1 else 0),
  strOfNums (let q := rVar (rVar (rText (rCount bs 0 300).2.1 (rCount bs 0 300).2.2 300).2.1 (rText (rCount bs 0 300).2.1 (rCount bs 0 300).2.2 300).2.2).2.1 (rVar (rText (rCount bs 0 300).2.1 (rCount bs 0 300).2.2 300).2.1 (rText (rCount bs 0 300).2.1 (rCount bs 0 300).2.2 300).2.2).2.2
   (rText q.2.1 q.2.2 60000).1)⟩,
  (let q := rVar (rVar (rText (rCount bs 0 300).2.1 (rCount bs 0 300).2.2 300).2.1 (rText (rCount bs 0 300).2.1 (rCount bs 0 300).2.2 300).2.2).2.1 (rVar (rText (rCount bs 0 300).2.1 (rCount bs 0 300).2.2 300).2.1 (rText (rCount bs 0 300).2.1 (rCount bs 0 300).2.2 300).2.2).2.2
  (rText q.2.1 q.2.2 60000).2.1),
  (let q := rVar (rVar (rText (rCount bs 0 300).2.1 (rCount bs 0 300).2.2 300).2.1 (rText (rCount bs 0 300).2.1 (rCount bs 0 300).2.2 300).2.2).2.1 (rVar (rText (rCount bs 0 300).2.1 (rCount bs 0 300).2.2 300).2.1 (rText (rCount bs 0 300).2.1 (rCount bs 0 300).2.2 300).2.2).2.2
  (rText q.2.1 q.2.2 60000).2.2),
  (rCount bs 0 300).1)
theorem glE_is {last : ByteArray} {bs : List Int} {c : Int × List Int × Int} {t v : List Int × List Int × Int} {s q : Int × List Int × Int} (hc : rCount bs 0 300 = c) (ht : rText c.2.1 c.2.2 300 = t) (hs : rVar t.2.1 t.2.2 = s) (hq : rVar s.2.1 s.2.2 = q) (hv : rText q.2.1 q.2.2 60000 = v) :
  glE last bs = (⟨last.extract 0 c.1.toNat ++ strOfNums t.1, s.1, if q.1 = 1 ∨ q.1 = 2 then q.1 else 0, strOfNums v.1⟩, v.2.1, v.2.2, c.1) := by
 subst hc ht hs hq hv
 rfl
def gl : Nat → List E → ByteArray → List Int → Option (List E)
 | 0, _, _, _ => none
 | n + 1, acc, last, bs => if bs = [] then some acc else if (last.size : Int) < (glE last bs).2.2.2 then none else if (glE last bs).2.2.1 = 0 then gl n (acc ++ [(glE last bs).1]) (glE last bs).1.f0 (glE last bs).2.1 else none
theorem glE_lay {e : E} (ho : Ok e) {p : ByteArray} {n : Nat} (hn1 : n ≤ p.size) (hn2 : n ≤ e.f0.size) (htk : (bytesOf p).take n = (bytesOf e.f0).take n) (X : List Int) : glE p (pc e n ++ X) = (e, X, 0, (n : Int)) := by
 have hk := ho.key
 have hs := ho.seq
 have hv := ho.val
 have h2 : 0 ≤ e.f2 ∧ e.f2 ≤ 2 := by rcases ho.kind with q | q <;> rw [q] <;> decide
 have hall : pc e n ++ X = vb n ++ ((vb (e.f0.size - n) ++ (bytesOf e.f0).drop n) ++ (vb e.f1.toNat ++ (vb e.f2.toNat ++ ((vb e.f3.size ++ bytesOf e.f3) ++ X)))) := by
  unfold pc
  simp only [List.append_assoc]
 have hb : bytesOf (e.f0.extract n e.f0.size) = (bytesOf e.f0).drop n := by
  rw [bytesOf_extract, List.take_of_length_le (by rw [bytesOf_length]; omega)]
 have hbs : (e.f0.extract n e.f0.size).size = e.f0.size - n := by simp
 have c1 := rCount_vb (n := n) (m := 300) (by omega) (by omega) ((vb (e.f0.size - n) ++ (bytesOf e.f0).drop n) ++ (vb e.f1.toNat ++ (vb e.f2.toNat ++ ((vb e.f3.size ++ bytesOf e.f3) ++ X))))
 have t2 := rText_tx (s := e.f0.extract n e.f0.size) (most := 300) (by omega) (by omega) (vb e.f1.toNat ++ (vb e.f2.toNat ++ ((vb e.f3.size ++ bytesOf e.f3) ++ X)))
 rw [hbs, hb] at t2
 have v3 := rVar_vb (n := e.f1.toNat) (by omega) (vb e.f2.toNat ++ ((vb e.f3.size ++ bytesOf e.f3) ++ X))
 have v4 := rVar_vb (n := e.f2.toNat) (by omega) ((vb e.f3.size ++ bytesOf e.f3) ++ X)
 have t5 := rText_tx (s := e.f3) (most := 60000) (by omega) (by omega) X
 have z1 : ((e.f1.toNat : Nat) : Int) = e.f1 := Int.toNat_of_nonneg hs.1
 have z2 : ((e.f2.toNat : Nat) : Int) = e.f2 := Int.toNat_of_nonneg h2.1
 rw [z1] at v3
 rw [z2] at v4
 have hkey : p.extract 0 n ++ strOfNums ((bytesOf e.f0).drop n) = e.f0 := by
  have q : p.extract 0 n = strOfNums ((bytesOf e.f0).take n) := by
   rw [← htk, ← S_of (p.extract 0 n), bytesOf_extract, List.drop_zero]
  rw [q, S_append, List.take_append_drop, S_of]
 rw [hall]
 rw [glE_is c1 t2 v3 v4 t5]
 simp only [Int.toNat_natCast, hkey, S_of]
 have hkd : (e.f2 = 1 ∨ e.f2 = 2) := ho.kind
 rw [if_pos hkd]
theorem pc_pos (e : E) (n : Nat) : 0 < (pc e n).length := by
 have := vb_pos n
 unfold pc
 simp only [List.length_append]
 omega
theorem gl_lay : ∀ (l : List E) (n i : Nat) (p : ByteArray) (acc : List E), (layB i p l).length < n → (∀ e ∈ l, Ok e) → gl n acc p (layB i p l) = some (acc ++ l)
 | [], 0, _, _, _, h, _ => by omega
 | [], n + 1, i, p, acc, h, _ => by rw [layB, gl, if_pos rfl, List.append_nil]
 | e :: l, 0, _, _, _, h, _ => by omega
 | e :: l, n + 1, i, p, acc, h, hok => by
  have ho := hok e List.mem_cons_self
  obtain ⟨hn1, hn2⟩ := hd_le i p e
  have hg := glE_lay ho hn1 hn2 (hd_take i p e) (layB (i + 1) e.f0 l)
  have hp := pc_pos e (hd i p e)
  rw [layB, List.length_append] at h
  have hne : ¬ (pc e (hd i p e) ++ layB (i + 1) e.f0 l = []) := by
   intro q
   have := congrArg List.length q
   rw [List.length_append, List.length_nil] at this
   omega
  rw [layB, gl, hg, if_neg hne, if_neg (by simp only; omega), if_pos rfl]
  simp only
  rw [gl_lay l n (i + 1) e.f0 (acc ++ [e]) (by omega) (fun x hx => hok x (List.mem_cons_of_mem _ hx)), List.append_assoc, List.singleton_append]
theorem glE_fit {last : ByteArray} {bs : List Int} (hok : ok8 bs) (hl : last.size + 300 ≤ 100000000000) : ((0 ≤ (glE last bs).1.f1 ∧ (glE last bs).1.f1 ≤ 18446744073709551615) ∧ (glE last bs).1.f0.size ≤ last.size + 300 ∧ (glE last bs).1.f3.size ≤ 60000) ∧ ok8 (glE last bs).2.1 ∧ ((glE last bs).2.2.1 = 0 → (glE last bs).2.1.length < bs.length) ∧ 0 ≤ (glE last bs).2.2.2 ∧ (glE last bs).2.2.2 ≤ 300 := by
 obtain ⟨c, hc⟩ : ∃ c, rCount bs 0 300 = c := ⟨_, rfl⟩
 obtain ⟨t, ht⟩ : ∃ t, rText c.2.1 c.2.2 300 = t := ⟨_, rfl⟩
 obtain ⟨s, hs⟩ : ∃ s, rVar t.2.1 t.2.2 = s := ⟨_, rfl⟩
 obtain ⟨q, hq⟩ : ∃ q, rVar s.2.1 s.2.2 = q := ⟨_, rfl⟩
 obtain ⟨v, hv⟩ : ∃ v, rText q.2.1 q.2.2 60000 = v := ⟨_, rfl⟩
 rw [glE_is hc ht hs hq hv]
 have o1 := rCount_ok (e := 0) (most := 300) hok
 rw [hc] at o1
 have o2 := (rText_ok (e := c.2.2) (n := 300) o1).1
 have z2 := rText_size c.2.1 c.2.2 300 (by omega)
 rw [ht] at o2 z2
 have o3 := rVar_ok (e := t.2.2) o2
 have z3 := rVar_top o2 t.2.2
 have y3 := rVar_nonneg t.2.1 t.2.2
 rw [hs] at o3 z3 y3
 have o4 := rVar_ok (e := s.2.2) o3
 rw [hq] at o4
 have o5 := (rText_ok (e := q.2.2) (n := 60000) o4).1
 have z5 := rText_size q.2.1 q.2.2 60000 (by omega)
 rw [hv] at o5 z5
 have r1 := rCount_range bs 0 300 (by omega)
 have hc3 : c.1 ≤ 300 := by
  rw [← hc]
  unfold rCount
  split
  ·split
   ·simp
   ·rename_i h; show (rVar bs 0).1 ≤ 300; omega
  ·simp
 rw [hc] at r1
 refine ⟨⟨⟨y3, z3⟩, ?_, ?_⟩, o5, ?_, r1.1, hc3⟩
 ·simp only [ByteArray.size_append, S_size, ByteArray.size_extract]
  omega
 ·simp only [S_size]
  omega
 ·intro h
  simp only at h
  rw [← hv] at h
  have h1 := rCount_0 (rText_0 h)
  have h2 := rVar_0 h1.1
  rw [← hq] at h2
  have h3 := rVar_0 h2
  rw [← hs] at h3
  have h4 := rVar_0 h3
  rw [← ht] at h4
  have h5 := rCount_0 (rText_0 h4)
  have h6 := rVar_0 h5.1
  rw [← hc] at h6
  have h7 := rCount_0 h6
  have h8 := rVar_short h7.1
  have l1 := rText_len q.2.1 q.2.2 60000
  have l2 := rVar_len s.2.1 s.2.2
  have l3 := rVar_len t.2.1 t.2.2
  have l4 := rText_len c.2.1 c.2.2 300
  rw [hv] at l1
  rw [hq] at l2
  rw [hs] at l3
  rw [ht] at l4
  have l5 : c.2.1.length = (rVar bs 0).2.1.length := by rw [← hc, h7.2.2]
  simp only
  omega
theorem gl_fit : ∀ (n : Nat) (acc : List E) (last : ByteArray) (bs : List Int) (l : List E), gl n acc last bs = some l → ok8 bs → last.size + 300 * bs.length ≤ 100000000000 → Fit acc → Fit l ∧ l.length ≤ acc.length + bs.length
 | 0, _, _, _, _, h, _, _, _ => by simp [gl] at h
 | n + 1, acc, last, bs, l, h, hok, hls, hf => by
  rw [gl] at h
  by_cases hb : bs = []
  ·rw [if_pos hb] at h
   obtain rfl := Option.some.inj h
   exact ⟨hf, by omega⟩
  rw [if_neg hb] at h
  have hpos : 0 < bs.length := List.length_pos_iff.2 hb
  by_cases h1 : (last.size : Int) < (glE last bs).2.2.2
  ·rw [if_pos h1] at h; cases h
  rw [if_neg h1] at h
  by_cases h2 : (glE last bs).2.2.1 = 0
  ·rw [if_pos h2] at h
   obtain ⟨g1, g2, g3, _⟩ := glE_fit (last := last) hok (by omega)
   have g4 := g3 h2
   obtain ⟨r1, r2⟩ := gl_fit n _ _ _ l h g2 (by omega) (by
    intro e he
    rcases List.mem_append.1 he with q | q
    ·exact hf e q
    ·rw [List.mem_singleton.1 q]
     exact ⟨g1.1, by omega, g1.2.2⟩)
   rw [List.length_append, List.length_singleton] at r2
   exact ⟨r1, by omega⟩
  ·rw [if_neg h2] at h; cases h
def gR (s : ByteArray) : Option (List E) := if s.size < 4 then none else if (s.size - 4) / 4 < un ((bytesOf s).drop (s.size - 4)) then none else gl (s.size + 1) [] ⟨#[]⟩ ((bytesOf s).take (s.size - 4 - 4 * un ((bytesOf s).drop (s.size - 4))))
theorem gR_fit {s : ByteArray} {l : List E} (h : gR s = some l) (hs : s.size ≤ 10000) : Fit l ∧ l.length ≤ 10000 := by
 unfold gR at h
 by_cases h1 : s.size < 4
 ·rw [if_pos h1] at h; cases h
 rw [if_neg h1] at h
 by_cases h2 : (s.size - 4) / 4 < un ((bytesOf s).drop (s.size - 4))
 ·rw [if_pos h2] at h; cases h
 rw [if_neg h2] at h
 have hl : ((bytesOf s).take (s.size - 4 - 4 * un ((bytesOf s).drop (s.size - 4)))).length ≤ 10000 := by rw [List.length_take, bytesOf_length]; omega
 obtain ⟨r1, r2⟩ := gl_fit _ _ _ _ l h (fun x hx => ok8_of s x (List.mem_of_mem_take hx)) (by show 0 + _ ≤ _; omega) (fun e he => by simp at he)
 exact ⟨r1, by simp at r2; rw [bytesOf_length] at r2; omega⟩
theorem opn_put {l : List E} (hr : rightB l = true) : opn (putB l).1 = (strOfNums (blk l), 0) := by
 have hp : (putB l).1 = strOfNums (blk l ++ be 4 (crc (blk l))) := by unfold putB; rw [if_pos hr]
 have hsz : (strOfNums (blk l ++ be 4 (crc (blk l)))).size = (blk l).length + 4 := by rw [S_size, List.length_append, be_len]
 have hb : bytesOf (strOfNums (blk l ++ be 4 (crc (blk l)))) = blk l ++ be 4 (crc (blk l)) := of_S (ok8_append (blk_ok l) (be_ok 4 _))
 rw [hp]
 unfold opn
 rw [hsz, show (blk l).length + 4 - 4 = (blk l).length by omega, if_neg (by omega), hb, List.drop_left' rfl, List.take_left' rfl, un_be 4 _ (crc_lt (blk_ok l)), if_pos rfl]
 congr 1
 rw [S_extract, List.take_left' rfl, List.drop_zero]
theorem gR_put {l : List E} (h4 : l.length ≤ 10000) (hok : ∀ e ∈ l, Ok e) : gR (strOfNums (blk l)) = some l := by
 have hrl := rst_len l 0 0 ⟨#[]⟩
 have hsz : (strOfNums (blk l)).size = (layB 0 ⟨#[]⟩ l).length + 4 * ((l.length + 3) / 4) + 4 := by
  rw [S_size]
  unfold blk
  rw [List.length_append, List.length_append, be_len]
  omega
 have hb : bytesOf (strOfNums (blk l)) = layB 0 ⟨#[]⟩ l ++ (rst 0 0 ⟨#[]⟩ l ++ be 4 ((l.length + 3) / 4)) := of_S (blk_ok l)
 have hb2 : bytesOf (strOfNums (blk l)) = (layB 0 ⟨#[]⟩ l ++ rst 0 0 ⟨#[]⟩ l) ++ be 4 ((l.length + 3) / 4) := by rw [hb, List.append_assoc]
 have hd : (bytesOf (strOfNums (blk l))).drop ((layB 0 ⟨#[]⟩ l).length + 4 * ((l.length + 3) / 4)) = be 4 ((l.length + 3) / 4) := by
  rw [hb2]
  exact List.drop_left' (by rw [List.length_append]; omega)
 have ht : (bytesOf (strOfNums (blk l))).take (layB 0 ⟨#[]⟩ l).length = layB 0 ⟨#[]⟩ l := by
  rw [hb]
  exact List.take_left' rfl
 unfold gR
 rw [if_neg (by omega), hsz, show (layB 0 ⟨#[]⟩ l).length + 4 * ((l.length + 3) / 4) + 4 - 4 = (layB 0 ⟨#[]⟩ l).length + 4 * ((l.length + 3) / 4) by omega, hd, un_be 4 _ (by omega)]
 rw [if_neg (by omega), show (layB 0 ⟨#[]⟩ l).length + 4 * ((l.length + 3) / 4) - 4 * ((l.length + 3) / 4) = (layB 0 ⟨#[]⟩ l).length by omega, ht]
 have := gl_lay l ((layB 0 ⟨#[]⟩ l).length + 4 * ((l.length + 3) / 4) + 4 + 1) 0 ⟨#[]⟩ [] (by omega) hok
 rw [List.nil_append] at this
 exact this
open Classical in
noncomputable def gB (b : ByteArray) : List E × Int := if (opn b).2 = 0 then (match gR (opn b).1 with | none => ([], 4) | some l => if putB l = (b, 0) then (l, 0) else ([], 4)) else ([], (opn b).2)
theorem gB_no {b : ByteArray} (h0 : (opn b).2 = 0) (h : gR (opn b).1 = none) : gB b = ([], 4) := by
 unfold gB
 rw [if_pos h0, h]
theorem gB_some {b : ByteArray} {l : List E} (h0 : (opn b).2 = 0) (h : gR (opn b).1 = some l) (hp : putB l = (b, 0)) : gB b = (l, 0) := by
 unfold gB
 rw [if_pos h0, h]
 simp only
 rw [if_pos hp]
theorem gB_other {b : ByteArray} {l : List E} (h0 : (opn b).2 = 0) (h : gR (opn b).1 = some l) (hp : ¬ putB l = (b, 0)) : gB b = ([], 4) := by
 unfold gB
 rw [if_pos h0, h]
 simp only
 rw [if_neg hp]
theorem Fit.u64 {l : List E} (h : Fit l) : u64s_ l := fun e he => (h e he).1
theorem opn_size {b : ByteArray} : (opn b).1.size ≤ b.size := by
 unfold opn
 split
 ·exact Nat.zero_le _
 ·split
  ·show (b.extract 0 (b.size - 4)).size ≤ _; rw [ByteArray.size_extract]; omega
  ·exact Nat.zero_le _
theorem Get_is (b : ByteArray) (hb : b.size ≤ 10000) : Ev (fun k => block_Get.f k b) (gB b) := by
 have hO := Open_ev b (by omega)
 by_cases h0 : (opn b).2 = 0
 case neg =>
  have hg : gB b = ([], (opn b).2) := by unfold gB; rw [if_neg h0]
  rw [hg]
  unfold block_Get.f
  exact Ev.bind hO (ev_neg h0 (ev_const rfl))
 have hs := opn_size (b := b)
 have hgB : ∀ l, gR (opn b).1 = some l → putB l = (b, 0) → Ev (fun k => block_Get.f k b) (l, 0) := fun l hl hp => by
  obtain ⟨f1, f2⟩ := gR_fit hl (by omega)
  have := Get_put f2 f1.u64 (putB_right hp)
  rw [hp] at this
  exact this
 have hno : Ev (fun k => block_Get.f k b) ([], 4) → Ev (fun k => block_Get.f k b) (gB b) := fun h => by
  cases hg : gR (opn b).1 with
  | none => rw [gB_no h0 hg]; exact h
  | some l =>
   by_cases hp : putB l = (b, 0)
   ·have := ev_uniq h (hgB l hg hp)
    simp at this
   ·rw [gB_other h0 hg hp]; exact h
 obtain ⟨s, hs2⟩ : ∃ s, (opn b).1 = s := ⟨_, rfl⟩
 have hop : opn b = (s, 0) := by rw [← hs2, ← h0]
 rw [hs2] at hs
 rw [hop] at hO
 by_cases h4 : s.size < 4
 ·refine hno ?_
  have hw : wrap64 ((s.size : Int) - 4) = (s.size : Int) - 4 := wrap64_id (by omega)
  unfold block_Get.f
  refine Ev.bind hO (ev_pos rfl ?_)
  dsimp only
  rw [hw]
  exact ev_pos (by omega) (ev_const rfl)
 obtain ⟨n, hn⟩ : ∃ n, s.size = n + 4 := ⟨s.size - 4, by omega⟩
 have hU := Unfix_yes s n 4 (by omega) (by omega) (by omega) (by omega)
 have hl : ((bytesOf s).drop n).length = 4 := by rw [List.length_drop, bytesOf_length]; omega
 rw [List.take_of_length_le (by omega)] at hU
 have hv : un ((bytesOf s).drop n) < 256 ^ 4 := un_lt 4 _ (fun x hx => ok8_of s x (List.mem_of_mem_drop hx)) hl
 obtain ⟨m, hm⟩ : ∃ m, un ((bytesOf s).drop n) = m := ⟨_, rfl⟩
 rw [hm] at hU hv
 have e1 : ¬ ((n : Int) < 0) := by omega
 have q1 : s.size ≤ 1000000000000 := by omega
 have q2 : n ≤ 1000000000000 := by omega
 have q3 : 0 ≤ (((n / 4 : Nat) : Int)) ∧ (((n / 4 : Nat) : Int)) ≤ 18446744073709551615 := by omega
 have q4 : -9223372036854775808 ≤ (m : Int) ∧ (m : Int) ≤ 9223372036854775807 := by omega
 by_cases hmn : n / 4 < m
 ·refine hno ?_
  have e2 : (m : Int) > ((n / 4 : Nat) : Int) := by omega
  have hw1 := aw1 hn q1
  have hw2 := aw2 q2
  have hw3 := wu64_id q3
  unfold block_Get.f
  refine Ev.bind hO (ev_pos rfl ?_)
  dsimp only
  rw [hw1, hw2, hw3]
  refine ev_neg e1 (Ev.bind hU ?_)
  dsimp only
  exact ev_pos e2 (ev_const rfl)
 have e2 : ¬ ((m : Int) > ((n / 4 : Nat) : Int)) := by omega
 have q5 : m ≤ 1000000000000 := by omega
 have q6 : n = (n - 4 * m) + 4 * m := by omega
 have hbx : bytesOf (s.extract 0 (n - 4 * m)) = (bytesOf s).take (n - 4 * m) := by rw [bytesOf_extract, List.drop_zero]
 have hxs : (s.extract 0 (n - 4 * m)).size = n - 4 * m := by rw [ByteArray.size_extract]; omega
 have hxl : (bytesOf (s.extract 0 (n - 4 * m))).length ≤ n - 4 * m := by rw [bytesOf_length]; omega
 obtain ⟨lv, ok, hV, hf, hlen⟩ := vers_tot (n - 4 * m) (bytesOf (s.extract 0 (n - 4 * m))) [] ⟨#[]⟩ hxl (ok8_of _) (by show 0 + _ ≤ _; omega) (by simp; omega) (fun e he => by simp at he)
 rw [S_of] at hV
 rw [List.length_nil] at hlen
 have hVf : Ev (fun k => block_versions.f k (s.extract 0 (n - 4 * m))) (lv, ok) := by
  have hx9 : (s.extract 0 (n - 4 * m)).size ≤ 281474976710656 := by omega
  unfold block_versions.f
  exact ev_call (New_eq _ hx9) hV
 have hlv : lv.length ≤ 10000 := by omega
 have hP := Put_is lv hlv hf.u64
 have e3 : (0 : Int) ≤ ((n - 4 * m : Nat) : Int) := by omega
 have e4 : ((n - 4 * m : Nat) : Int) ≤ (s.size : Int) := by omega
 have hw1 := aw1 hn q1
 have hw2 := aw2 q2
 have hw3 := wu64_id q3
 have hw4 : wrap64 (m : Int) = (m : Int) := wrap64_id q4
 have hw5 := aw5 q5
 have hw6 := aw6 q6 q2
 have main : ∀ R, Ev (fun _ : Nat => (if ok = true then (if (putB lv).2 = 0 then (if (putB lv).1.toList = b.toList then (some (lv, (0 : Int))) else (some (([] : List E), 4))) else (some (([] : List E), 4))) else (some (([] : List E), 4)))) R → Ev (fun k => block_Get.f k b) R := by
  intro R hR
  unfold block_Get.f
  refine Ev.bind hO (ev_pos rfl ?_)
  dsimp only
  rw [hw1, hw2, hw3]
  refine ev_neg e1 (Ev.bind hU ?_)
  dsimp only
  rw [hw4, hw5, hw6, Int.toNat_natCast]
  exact ev_neg e2 (ev_pos e3 (ev_pos e4 (Ev.bind hVf (Ev.bind hP hR))))
 cases ok with
 | false => exact hno (main _ (ev_neg Bool.false_ne_true (ev_const rfl)))
 | true =>
  by_cases hp2 : (putB lv).2 = 0
  ·by_cases hp1 : (putB lv).1.toList = b.toList
   ·have hpe : putB lv = (b, 0) := by
     have : (putB lv).1 = b := PuIkC.tl_ext.1 hp1
     rw [← this, ← hp2]
    have hr := putB_right hpe
    have hopn := opn_put hr
    rw [hpe, hop] at hopn
    have hs3 : s = strOfNums (blk lv) := congrArg Prod.fst hopn
    have hgr := gR_put hlv (right_ok hr hf.u64)
    rw [← hs3, ← hs2] at hgr
    rw [gB_some h0 hgr hpe]
    exact main _ (ev_pos rfl (ev_pos hp2 (ev_pos hp1 (ev_const rfl))))
   ·exact hno (main _ (ev_pos rfl (ev_pos hp2 (ev_neg hp1 (ev_const rfl)))))
  ·exact hno (main _ (ev_pos rfl (ev_neg hp2 (ev_const rfl))))
end Go.Proofs.YtchgpcgolgcfdaaGreat.PuBq
end
section
namespace Go.Proofs.YtchgpcgolgcfdaaGreat.Pb
open Go Go.RowKit Go.Proofs.YtchgpcgolgcfdaaGreat.PNum Go.Proofs.YtchgpcgolgcfdaaGreat.BkW Go.Proofs.YtchgpcgolgcfdaaGreatW.PrintWords Go.Proofs.YtchgpcgolgcfdaaGreatW.PrintLast Go.Proofs.YtchgpcgolgcfdaaGreatW.PrintMore
set_option linter.unusedVariables false
set_option linter.unusedSimpArgs false
set_option maxRecDepth 100000
set_option maxHeartbeats 16000000
theorem cornucopiaref5_ordered_w {x n : Int} (h0 : 0 ≤ x) (h1 : x < n) (h2 : n ≤ 9223372036854775807) : wrap64 (x + 1) = x + 1 ∧ wrap64 (x - 1) = x - 1 := by
 unfold wrap64; omega
theorem cornucopiaref5_ordered_c {k1 : Nat} {l0 : List S32} {x : Int} {r : Bool} (hl : (l0.length : Int) ≤ 9223372036854775807) (h0 : 0 ≤ x) (h1 : x < (l0.length : Int)) (h : cornucopiaref5_ordered.l0 (k1 + 1) l0 x = some r) :
  ∃ t q : Bool, cornucopiaref5_Valid.f (rd_T32 l0 x).f0 (rd_T32 l0 x).f1 (rd_T32 l0 x).f2 (rd_T32 l0 x).f3 = some t ∧ (q = true → r = false) ∧ (q = false → cornucopiaref5_ordered.l0 k1 l0 (x + 1) = some r) ∧
   ((t = false ∧ q = true) ∨ (t = true ∧ x = 0 ∧ q = false) ∨ (t = true ∧ 0 < x ∧ ∃ d, cornucopiaref5_Compare.f k1 (rd_T32 l0 (x - 1)).f0 (rd_T32 l0 (x - 1)).f1 (rd_T32 l0 (x - 1)).f2 (rd_T32 l0 (x - 1)).f3 (rd_T32 l0 x).f0 (rd_T32 l0 x).f1 (rd_T32 l0 x).f2 (rd_T32 l0 x).f3 = some d ∧ decide (0 ≤ d) = q)) := by
 simp only [cornucopiaref5_ordered.l0] at h
 rw [if_pos h1, if_pos h0] at h
 obtain ⟨t, ht, h⟩ := Option.bind_eq_some_iff.1 h
 rw [(cornucopiaref5_ordered_w h0 h1 hl).1, (cornucopiaref5_ordered_w h0 h1 hl).2] at h
 cases t with
 | false => exact ⟨false, true, ht, fun _ => (Option.some.inj h).symm, fun h9 => (by cases h9), .inl ⟨rfl, rfl⟩⟩
 | true =>
  rw [if_pos rfl] at h
  by_cases hx : x = 0
  ·subst hx
   rw [if_neg (by decide)] at h
   exact ⟨true, false, ht, fun h9 => (by cases h9), fun _ => h, .inr (.inl ⟨rfl, rfl, rfl⟩)⟩
  ·rw [if_pos (show x > 0 by omega), if_pos (show 0 ≤ x - 1 by omega), if_pos (show x - 1 < (l0.length : Int) by omega)] at h
   obtain ⟨d, hd, h⟩ := Option.bind_eq_some_iff.1 h
   by_cases hq : d ≥ 0
   ·rw [if_pos hq] at h
    exact ⟨true, true, ht, fun _ => (Option.some.inj h).symm, fun h9 => (by cases h9), .inr (.inr ⟨rfl, by omega, d, hd, decide_eq_true hq⟩)⟩
   ·rw [if_neg hq] at h
    exact ⟨true, false, ht, fun h9 => (by cases h9), fun _ => h, .inr (.inr ⟨rfl, by omega, d, hd, decide_eq_false hq⟩)⟩
theorem cornucopiaref5_ordered_w.calls (k : Nat) (A0 : Option Addr) (c0 : Nat) (l0 : List S32) (r : Bool) (w : World) (hr0 : Kd.C k32 w A0 l0.length l0) (hc0 : l0.length ≤ c0) (h : cornucopiaref5_ordered.f k l0 = some r) :
  Calls Tryz.prog 190 #[.slice A0 l0.length c0] w fun e w' => e = .returned (.bool r) ∧ Below w.heap.size w w' := by
 have hu32 := Tryz.underlying32
 have hlen : l0.length ≤ 9223372036854775807 := hr0.2.1
 have HL := a_k hlen
 have HR0 := a_k hr0
 have HC0 := a_k hc0
 have HB := a_k (Below.refl w.heap.size w)
 have H' : Aside0 (cornucopiaref5_ordered.l0 k l0 0 = some r) := ⟨h⟩
 clear hr0 hc0 h hlen
 go_enter Tryz.func190, Tryz.ntmps190
 go_wp2
 go_loopg [3] k (fun kq v w' => ∃ x : Int, v = .int .i64 x ∧ Aside0 (0 ≤ x) ∧ Aside0 (cornucopiaref5_ordered.l0 kq l0 x = some r) ∧ Aside0 (kq ≤ k) ∧ Aside0 (Below w.heap.size w w'))
 case atStart => exact ⟨0, rfl, ⟨by decide⟩, H', ⟨Nat.le_refl _⟩, ⟨by repeat (first | exact HB.out | apply b_a | apply b_n | apply b_d)⟩⟩
 case round =>
  clear H' HB
  obtain ⟨x, rfl, HX0, HA, HK1, HB⟩ := hrel
  cases gk with
  | zero => exact absurd HA.out (by simp [cornucopiaref5_ordered.l0])
  | succ k1 =>
   by_cases c2 : x < (l0.length : Int)
   ·have c2b0 : decide (x < (l0.length : Int)) = true := decide_eq_true c2
    obtain ⟨t, q, hV, hq1, hq2, hcs⟩ := cornucopiaref5_ordered_c (by have := HL.out; omega) HX0.out c2 HA.out
    have HV := a_k hV
    have HQ1 := a_k hq1
    have HQ2 := a_k hq2
    have HX1 := a_k c2
    have HCS := a_k hcs
    clear hV hq1 hq2 hcs HA
    obtain ⟨ad, ead, hx0, hx1, hx2, hx3⟩ := at_T32 HR0.out x HX0.out c2
    cases ead
    have p : (0 ≤ x) = True := eq_true HX0.out
    have q_ : (x < (l0.length : Int)) = True := eq_true c2
    clear c2
    have HY : Aside0 (∀ V, Below w.heap.size w V → V.cell? (ad.add ((x).toNat * 4)) = some (.string (rd_T32 l0 x).f0) ∧ V.cell? ⟨(ad.add ((x).toNat * 4)).block, (ad.add ((x).toNat * 4)).off + 1, none⟩ = some (.int .u64 (rd_T32 l0 x).f1) ∧ V.cell? ⟨(ad.add ((x).toNat * 4)).block, (ad.add ((x).toNat * 4)).off + 2, none⟩ = some (.int .i64 (rd_T32 l0 x).f2) ∧ V.cell? ⟨(ad.add ((x).toNat * 4)).block, (ad.add ((x).toNat * 4)).off + 3, none⟩ = some (.string (rd_T32 l0 x).f3)) := ⟨fun V hV => ⟨c_b hV hx0, c_b hV hx1, c_b hV hx2, c_b hV hx3⟩⟩
    clear hx0 hx1 hx2 hx3
    have HB0 := HB
    have HZ := HY
    go_wp2_with (fail)
    go_cut [32] (fun v wc => v = .bool q ∧ Aside0 (Below w.heap.size w wc))
    case first =>
     as_aux_lemma =>
     rcases HCS.out with ⟨rfl, rfl⟩ | ⟨rfl, hx0, rfl⟩ | ⟨rfl, h0, d, hd, hq⟩
     ·have HS : Aside0 (∀ V, Below w.heap.size w V → V.cell? (ad.add ((x).toNat * 4)) = some (.string (rd_T32 l0 x).f0) ∧ V.cell? ⟨(ad.add ((x).toNat * 4)).block, (ad.add ((x).toNat * 4)).off + 1, none⟩ = some (.int .u64 (rd_T32 l0 x).f1) ∧ V.cell? ⟨(ad.add ((x).toNat * 4)).block, (ad.add ((x).toNat * 4)).off + 2, none⟩ = some (.int .i64 (rd_T32 l0 x).f2) ∧ V.cell? ⟨(ad.add ((x).toNat * 4)).block, (ad.add ((x).toNat * 4)).off + 3, none⟩ = some (.string (rd_T32 l0 x).f3)) := HZ
      refine start_ (n := 23) (S := fun w' => w'.cell? (ad.add ((x).toNat * 4)) = some (.string (rd_T32 l0 x).f0) ∧ w'.cell? ⟨(ad.add ((x).toNat * 4)).block, (ad.add ((x).toNat * 4)).off + 1, none⟩ = some (.int .u64 (rd_T32 l0 x).f1) ∧ w'.cell? ⟨(ad.add ((x).toNat * 4)).block, (ad.add ((x).toNat * 4)).off + 2, none⟩ = some (.int .i64 (rd_T32 l0 x).f2) ∧ w'.cell? ⟨(ad.add ((x).toNat * 4)).block, (ad.add ((x).toNat * 4)).off + 3, none⟩ = some (.string (rd_T32 l0 x).f3)) (ds := []) #[Z,Z,Z,Z,Z,Z,Z,Z,Z,Z,Z,Z,Z,Z,Z,Z,Z,Z,Z,Z,Z,Z,Z] (by kernel_rfl) rfl rfl (HS.out _ (by repeat (first | exact HB.out | apply b_a | apply b_n | apply b_d))) (fun hHeld => ?_); refine with_tabW cornucopiaref5_ordered.tab4 cornucopiaref5_ordered.bits4 (fun HT_ HW_ => ?_)
      refine pure_ (i := 0) (N := some 10) (v := ?_) (a' := ?_) #[J,Z,Z,Z,Z,Z,Z,Z,Z,Z,Z,Z,Z,Z,Z,Z,Z,Z,Z,Z,Z,Z,Z] rfl rfl (any_of HT_.out (by kernel_rfl)) (fun _ _ _ h => h) (Or.inl ⟨by rfl, ?_⟩) ?_ ?_
      rotate_left
      ·intro w'
       go_simp
       with_reducible rfl
      rotate_left
      ·simp only [Act.put, l_s, l_0, l_1, i64_w, i32_w]
       rfl
      refine pure_ (i := 1) (N := some 11) (v := ?_) (a' := ?_) #[J,J,Z,Z,Z,Z,Z,Z,Z,Z,Z,Z,Z,Z,Z,Z,Z,Z,Z,Z,Z,Z,Z] rfl rfl (any_of HT_.out (by kernel_rfl)) (fun _ _ _ h => h) (Or.inl ⟨by rfl, ?_⟩) ?_ ?_
      rotate_left
      ·intro w'
       go_simp
       with_reducible rfl
      rotate_left
      ·simp only [Act.put, l_s, l_0, l_1, i64_w, i32_w]
       rfl
      refine pure_ (i := 2) (N := some 12) (v := ?_) (a' := ?_) #[J,J,J,Z,Z,Z,Z,Z,Z,Z,Z,Z,Z,Z,Z,Z,Z,Z,Z,Z,Z,Z,Z] rfl rfl (any_of HT_.out (by kernel_rfl)) (fun _ _ _ h => h) (Or.inl ⟨by rfl, ?_⟩) ?_ ?_
      rotate_left
      ·intro w'
       go_simp
       with_reducible rfl
      rotate_left
      ·simp only [Act.put, l_s, l_0, l_1, i64_w, i32_w]
       rfl
      refine take_ (i := 3) (N := some 13) (v := ?_) (a' := ?_) #[J,J,J,J,Z,Z,Z,Z,Z,Z,Z,Z,Z,Z,Z,Z,Z,Z,Z,Z,Z,Z,Z] rfl rfl (take_ofW HT_.out HW_.out (by kernel_rfl)) (fun _ _ _ h => h) (Or.inl ⟨by rfl, ?_⟩) hHeld ?_ ?_
      rotate_left
      ·rintro w' ⟨s0, s1, s2, s3⟩
       go_simp
       with_reducible rfl
      rotate_left
      ·simp only [Act.put, l_s, l_0, l_1, i64_w, i32_w]
       rfl
      refine one_ (i := 4) (N := some 14) #[J,J,J,J,J,Z,Z,Z,Z,Z,Z,Z,Z,Z,Z,Z,Z,Z,Z,Z,Z,Z,Z] rfl rfl (one_of HT_.out (by kernel_rfl)) (by decide) (fun K hK => ?_)
      refine goes_ Tryz.func14 (by kernel_rfl) rfl #[.agg #[.string (rd_T32 l0 x).f0, .int .u64 (rd_T32 l0 x).f1, .int .i64 (rd_T32 l0 x).f2, .string (rd_T32 l0 x).f3]] (by rfl) rfl rfl (by (try simp only [m_a, m_c, m_n]); first | done | rfl) ?_
      with_reducible refine (cornucopiaref5_Valid.calls (rd_T32 l0 x).f0 (rd_T32 l0 x).f1 (rd_T32 l0 x).f2 (rd_T32 l0 x).f3 false _ HV.out).mono ?_
      rintro e wv ⟨rfl, hb⟩
      refine ⟨_, rfl, ?_⟩
      have n0_ := a_k (below_step (by repeat (first | exact HB.out | apply b_a | apply b_n | apply b_d)) hb)
      clear HB hb
      have HB := n0_
      clear n0_
      refine hK.out _ _ (HS.out _ HB.out) (fun hHeld => ?_)
      clear hK K
      refine norm_ (a' := ?_) ?_ ?_
      rotate_left
      ·show Act.put _ (some 14) _ = _
       simp only [Act.put, l_s, l_0, l_1, i64_w, i32_w]
       rfl
      refine pure_ (i := 5) (N := some 15) (v := ?_) (a' := ?_) #[J,J,J,J,J,J,Z,Z,Z,Z,Z,Z,Z,Z,Z,Z,Z,Z,Z,Z,Z,Z,Z] rfl rfl (any_of HT_.out (by kernel_rfl)) (fun _ _ _ h => h) (Or.inl ⟨by rfl, ?_⟩) ?_ ?_
      rotate_left
      ·intro w'
       go_simp
       with_reducible rfl
      rotate_left
      ·simp only [Act.put, l_s, l_0, l_1, i64_w, i32_w]
       rfl
      refine pure_ (i := 6) (N := some 16) (v := ?_) (a' := ?_) #[J,J,J,J,J,J,J,Z,Z,Z,Z,Z,Z,Z,Z,Z,Z,Z,Z,Z,Z,Z,Z] rfl rfl (any_of HT_.out (by kernel_rfl)) (fun _ _ _ h => h) (Or.inl ⟨by rfl, ?_⟩) ?_ ?_
      rotate_left
      ·intro w'
       go_simp
       with_reducible rfl
      rotate_left
      ·simp only [Act.put, l_s, l_0, l_1, i64_w, i32_w]
       rfl
      refine pure_ (i := 7) (N := some 17) (v := undef) (a' := ?_) #[J,J,J,J,J,J,J,J,Z,Z,Z,Z,Z,Z,Z,Z,Z,Z,Z,Z,Z,Z,Z] rfl rfl (any_of HT_.out (by kernel_rfl)) (fun _ _ _ h => h) (Or.inr ⟨by rfl, rfl⟩) ?_ ?_
      rotate_left
      ·simp only [Act.put, l_s, l_0, l_1, i64_w, i32_w]
       rfl
      refine pure_ (i := 8) (N := some 18) (v := undef) (a' := ?_) #[J,J,J,J,J,J,J,J,J,Z,Z,Z,Z,Z,Z,Z,Z,Z,Z,Z,Z,Z,Z] rfl rfl (any_of HT_.out (by kernel_rfl)) (fun _ _ _ h => h) (Or.inr ⟨by rfl, rfl⟩) ?_ ?_
      rotate_left
      ·simp only [Act.put, l_s, l_0, l_1, i64_w, i32_w]
       rfl
      refine pure_ (i := 9) (N := some 19) (v := undef) (a' := ?_) #[J,J,J,J,J,J,J,J,J,J,Z,Z,Z,Z,Z,Z,Z,Z,Z,Z,Z,Z,Z] rfl rfl (any_of HT_.out (by kernel_rfl)) (fun _ _ _ h => h) (Or.inr ⟨by rfl, rfl⟩) ?_ ?_
      rotate_left
      ·simp only [Act.put, l_s, l_0, l_1, i64_w, i32_w]
       rfl
      refine pure_ (i := 10) (N := some 20) (v := undef) (a' := ?_) #[J,J,J,J,J,J,J,J,J,J,J,Z,Z,Z,Z,Z,Z,Z,Z,Z,Z,Z,Z] rfl rfl (any_of HT_.out (by kernel_rfl)) (fun _ _ _ h => h) (Or.inr ⟨by rfl, rfl⟩) ?_ ?_
      rotate_left
      ·simp only [Act.put, l_s, l_0, l_1, i64_w, i32_w]
       rfl
      refine pure_ (i := 11) (N := some 21) (v := undef) (a' := ?_) #[J,J,J,J,J,J,J,J,J,J,J,J,Z,Z,Z,Z,Z,Z,Z,Z,Z,Z,Z] rfl rfl (any_of HT_.out (by kernel_rfl)) (fun _ _ _ h => h) (Or.inr ⟨by rfl, rfl⟩) ?_ ?_
      rotate_left
      ·simp only [Act.put, l_s, l_0, l_1, i64_w, i32_w]
       rfl
      refine pure_ (i := 12) (N := some 22) (v := undef) (a' := ?_) #[J,J,J,J,J,J,J,J,J,J,J,J,J,Z,Z,Z,Z,Z,Z,Z,Z,Z,Z] rfl rfl (any_of HT_.out (by kernel_rfl)) (fun _ _ _ h => h) (Or.inr ⟨by rfl, rfl⟩) ?_ ?_
      rotate_left
      ·simp only [Act.put, l_s, l_0, l_1, i64_w, i32_w]
       rfl
      refine pure_ (i := 13) (N := some 23) (v := undef) (a' := ?_) #[J,J,J,J,J,J,J,J,J,J,J,J,J,J,Z,Z,Z,Z,Z,Z,Z,Z,Z] rfl rfl (any_of HT_.out (by kernel_rfl)) (fun _ _ _ h => h) (Or.inr ⟨by rfl, rfl⟩) ?_ ?_
      rotate_left
      ·simp only [Act.put, l_s, l_0, l_1, i64_w, i32_w]
       rfl
      refine pure_ (i := 14) (N := some 24) (v := undef) (a' := ?_) #[J,J,J,J,J,J,J,J,J,J,J,J,J,J,J,Z,Z,Z,Z,Z,Z,Z,Z] rfl rfl (any_of HT_.out (by kernel_rfl)) (fun _ _ _ h => h) (Or.inr ⟨by rfl, rfl⟩) ?_ ?_
      rotate_left
      ·simp only [Act.put, l_s, l_0, l_1, i64_w, i32_w]
       rfl
      refine pure_ (i := 15) (N := some 25) (v := undef) (a' := ?_) #[J,J,J,J,J,J,J,J,J,J,J,J,J,J,J,J,Z,Z,Z,Z,Z,Z,Z] rfl rfl (any_of HT_.out (by kernel_rfl)) (fun _ _ _ h => h) (Or.inr ⟨by rfl, rfl⟩) ?_ ?_
      rotate_left
      ·simp only [Act.put, l_s, l_0, l_1, i64_w, i32_w]
       rfl
      refine pure_ (i := 16) (N := some 26) (v := undef) (a' := ?_) #[J,J,J,J,J,J,J,J,J,J,J,J,J,J,J,J,J,Z,Z,Z,Z,Z,Z] rfl rfl (any_of HT_.out (by kernel_rfl)) (fun _ _ _ h => h) (Or.inr ⟨by rfl, rfl⟩) ?_ ?_
      rotate_left
      ·simp only [Act.put, l_s, l_0, l_1, i64_w, i32_w]
       rfl
      refine pure_ (i := 17) (N := some 27) (v := undef) (a' := ?_) #[J,J,J,J,J,J,J,J,J,J,J,J,J,J,J,J,J,J,Z,Z,Z,Z,Z] rfl rfl (any_of HT_.out (by kernel_rfl)) (fun _ _ _ h => h) (Or.inr ⟨by rfl, rfl⟩) ?_ ?_
      rotate_left
      ·simp only [Act.put, l_s, l_0, l_1, i64_w, i32_w]
       rfl
      refine pure_ (i := 18) (N := some 28) (v := undef) (a' := ?_) #[J,J,J,J,J,J,J,J,J,J,J,J,J,J,J,J,J,J,J,Z,Z,Z,Z] rfl rfl (any_of HT_.out (by kernel_rfl)) (fun _ _ _ h => h) (Or.inr ⟨by rfl, rfl⟩) ?_ ?_
      rotate_left
      ·simp only [Act.put, l_s, l_0, l_1, i64_w, i32_w]
       rfl
      refine pure_ (i := 19) (N := some 29) (v := undef) (a' := ?_) #[J,J,J,J,J,J,J,J,J,J,J,J,J,J,J,J,J,J,J,J,Z,Z,Z] rfl rfl (any_of HT_.out (by kernel_rfl)) (fun _ _ _ h => h) (Or.inr ⟨by rfl, rfl⟩) ?_ ?_
      rotate_left
      ·simp only [Act.put, l_s, l_0, l_1, i64_w, i32_w]
       rfl
      refine pure_ (i := 20) (N := some 30) (v := undef) (a' := ?_) #[J,J,J,J,J,J,J,J,J,J,J,J,J,J,J,J,J,J,J,J,J,Z,Z] rfl rfl (any_of HT_.out (by kernel_rfl)) (fun _ _ _ h => h) (Or.inr ⟨by rfl, rfl⟩) ?_ ?_
      rotate_left
      ·simp only [Act.put, l_s, l_0, l_1, i64_w, i32_w]
       rfl
      refine pure_ (i := 21) (N := some 31) (v := undef) (a' := ?_) #[J,J,J,J,J,J,J,J,J,J,J,J,J,J,J,J,J,J,J,J,J,J,Z] rfl rfl (any_of HT_.out (by kernel_rfl)) (fun _ _ _ h => h) (Or.inr ⟨by rfl, rfl⟩) ?_ ?_
      rotate_left
      ·simp only [Act.put, l_s, l_0, l_1, i64_w, i32_w]
       rfl
      refine pure_ (i := 22) (N := some 32) (v := ?_) (a' := ?_) #[J,J,J,J,J,J,J,J,J,J,J,J,J,J,J,J,J,J,J,J,J,J,J] rfl rfl (any_of HT_.out (by kernel_rfl)) (fun _ _ _ h => h) (Or.inl ⟨by rfl, ?_⟩) ?_ ?_
      rotate_left
      ·intro w'
       go_simp
       with_reducible rfl
      rotate_left
      ·simp only [Act.put, l_s, l_0, l_1, i64_w, i32_w]
       rfl
      refine done_ (done_of HT_.out (by kernel_rfl)) ?_
      go_wp2_with (fail)
      go_meet
      case rel => exact ⟨rfl, HB⟩
     ·have HS : Aside0 (∀ V, Below w.heap.size w V → V.cell? (ad.add ((x).toNat * 4)) = some (.string (rd_T32 l0 x).f0) ∧ V.cell? ⟨(ad.add ((x).toNat * 4)).block, (ad.add ((x).toNat * 4)).off + 1, none⟩ = some (.int .u64 (rd_T32 l0 x).f1) ∧ V.cell? ⟨(ad.add ((x).toNat * 4)).block, (ad.add ((x).toNat * 4)).off + 2, none⟩ = some (.int .i64 (rd_T32 l0 x).f2) ∧ V.cell? ⟨(ad.add ((x).toNat * 4)).block, (ad.add ((x).toNat * 4)).off + 3, none⟩ = some (.string (rd_T32 l0 x).f3)) := HZ
      have cx : decide (0 < x) = false := decide_eq_false (by omega)
      clear hx0
      refine start_ (n := 23) (S := fun w' => w'.cell? (ad.add ((x).toNat * 4)) = some (.string (rd_T32 l0 x).f0) ∧ w'.cell? ⟨(ad.add ((x).toNat * 4)).block, (ad.add ((x).toNat * 4)).off + 1, none⟩ = some (.int .u64 (rd_T32 l0 x).f1) ∧ w'.cell? ⟨(ad.add ((x).toNat * 4)).block, (ad.add ((x).toNat * 4)).off + 2, none⟩ = some (.int .i64 (rd_T32 l0 x).f2) ∧ w'.cell? ⟨(ad.add ((x).toNat * 4)).block, (ad.add ((x).toNat * 4)).off + 3, none⟩ = some (.string (rd_T32 l0 x).f3)) (ds := []) #[Z,Z,Z,Z,Z,Z,Z,Z,Z,Z,Z,Z,Z,Z,Z,Z,Z,Z,Z,Z,Z,Z,Z] (by kernel_rfl) rfl rfl (HS.out _ (by repeat (first | exact HB.out | apply b_a | apply b_n | apply b_d))) (fun hHeld => ?_); refine with_tabW cornucopiaref5_ordered.tab4 cornucopiaref5_ordered.bits4 (fun HT_ HW_ => ?_)
      refine pure_ (i := 0) (N := some 10) (v := ?_) (a' := ?_) #[J,Z,Z,Z,Z,Z,Z,Z,Z,Z,Z,Z,Z,Z,Z,Z,Z,Z,Z,Z,Z,Z,Z] rfl rfl (any_of HT_.out (by kernel_rfl)) (fun _ _ _ h => h) (Or.inl ⟨by rfl, ?_⟩) ?_ ?_
      rotate_left
      ·intro w'
       go_simp
       with_reducible rfl
      rotate_left
      ·simp only [Act.put, l_s, l_0, l_1, i64_w, i32_w]
       rfl
      refine pure_ (i := 1) (N := some 11) (v := ?_) (a' := ?_) #[J,J,Z,Z,Z,Z,Z,Z,Z,Z,Z,Z,Z,Z,Z,Z,Z,Z,Z,Z,Z,Z,Z] rfl rfl (any_of HT_.out (by kernel_rfl)) (fun _ _ _ h => h) (Or.inl ⟨by rfl, ?_⟩) ?_ ?_
      rotate_left
      ·intro w'
       go_simp
       with_reducible rfl
      rotate_left
      ·simp only [Act.put, l_s, l_0, l_1, i64_w, i32_w]
       rfl
      refine pure_ (i := 2) (N := some 12) (v := ?_) (a' := ?_) #[J,J,J,Z,Z,Z,Z,Z,Z,Z,Z,Z,Z,Z,Z,Z,Z,Z,Z,Z,Z,Z,Z] rfl rfl (any_of HT_.out (by kernel_rfl)) (fun _ _ _ h => h) (Or.inl ⟨by rfl, ?_⟩) ?_ ?_
      rotate_left
      ·intro w'
       go_simp
       with_reducible rfl
      rotate_left
      ·simp only [Act.put, l_s, l_0, l_1, i64_w, i32_w]
       rfl
      refine take_ (i := 3) (N := some 13) (v := ?_) (a' := ?_) #[J,J,J,J,Z,Z,Z,Z,Z,Z,Z,Z,Z,Z,Z,Z,Z,Z,Z,Z,Z,Z,Z] rfl rfl (take_ofW HT_.out HW_.out (by kernel_rfl)) (fun _ _ _ h => h) (Or.inl ⟨by rfl, ?_⟩) hHeld ?_ ?_
      rotate_left
      ·rintro w' ⟨s0, s1, s2, s3⟩
       go_simp
       with_reducible rfl
      rotate_left
      ·simp only [Act.put, l_s, l_0, l_1, i64_w, i32_w]
       rfl
      refine one_ (i := 4) (N := some 14) #[J,J,J,J,J,Z,Z,Z,Z,Z,Z,Z,Z,Z,Z,Z,Z,Z,Z,Z,Z,Z,Z] rfl rfl (one_of HT_.out (by kernel_rfl)) (by decide) (fun K hK => ?_)
      refine goes_ Tryz.func14 (by kernel_rfl) rfl #[.agg #[.string (rd_T32 l0 x).f0, .int .u64 (rd_T32 l0 x).f1, .int .i64 (rd_T32 l0 x).f2, .string (rd_T32 l0 x).f3]] (by rfl) rfl rfl (by (try simp only [m_a, m_c, m_n]); first | done | rfl) ?_
      with_reducible refine (cornucopiaref5_Valid.calls (rd_T32 l0 x).f0 (rd_T32 l0 x).f1 (rd_T32 l0 x).f2 (rd_T32 l0 x).f3 true _ HV.out).mono ?_
      rintro e wv ⟨rfl, hb⟩
      refine ⟨_, rfl, ?_⟩
      have n0_ := a_k (below_step (by repeat (first | exact HB.out | apply b_a | apply b_n | apply b_d)) hb)
      clear HB hb
      have HB := n0_
      clear n0_
      refine hK.out _ _ (HS.out _ HB.out) (fun hHeld => ?_)
      clear hK K
      refine norm_ (a' := ?_) ?_ ?_
      rotate_left
      ·show Act.put _ (some 14) _ = _
       simp only [Act.put, l_s, l_0, l_1, i64_w, i32_w]
       rfl
      refine pure_ (i := 5) (N := some 15) (v := ?_) (a' := ?_) #[J,J,J,J,J,J,Z,Z,Z,Z,Z,Z,Z,Z,Z,Z,Z,Z,Z,Z,Z,Z,Z] rfl rfl (any_of HT_.out (by kernel_rfl)) (fun _ _ _ h => h) (Or.inl ⟨by rfl, ?_⟩) ?_ ?_
      rotate_left
      ·intro w'
       go_simp
       with_reducible rfl
      rotate_left
      ·simp only [Act.put, l_s, l_0, l_1, i64_w, i32_w]
       rfl
      refine pure_ (i := 6) (N := some 16) (v := ?_) (a' := ?_) #[J,J,J,J,J,J,J,Z,Z,Z,Z,Z,Z,Z,Z,Z,Z,Z,Z,Z,Z,Z,Z] rfl rfl (any_of HT_.out (by kernel_rfl)) (fun _ _ _ h => h) (Or.inl ⟨by rfl, ?_⟩) ?_ ?_
      rotate_left
      ·intro w'
       go_simp
       with_reducible rfl
      rotate_left
      ·simp only [Act.put, l_s, l_0, l_1, i64_w, i32_w]
       rfl
      refine pure_ (i := 7) (N := some 17) (v := ?_) (a' := ?_) #[J,J,J,J,J,J,J,J,Z,Z,Z,Z,Z,Z,Z,Z,Z,Z,Z,Z,Z,Z,Z] rfl rfl (any_of HT_.out (by kernel_rfl)) (fun _ _ _ h => h) (Or.inl ⟨by rfl, ?_⟩) ?_ ?_
      rotate_left
      ·intro w'
       go_simp
       with_reducible rfl
      rotate_left
      ·simp only [Act.put, l_s, l_0, l_1, i64_w, i32_w]
       rfl
      refine pure_ (i := 8) (N := some 18) (v := ?_) (a' := ?_) #[J,J,J,J,J,J,J,J,J,Z,Z,Z,Z,Z,Z,Z,Z,Z,Z,Z,Z,Z,Z] rfl rfl (any_of HT_.out (by kernel_rfl)) (fun _ _ _ h => h) (Or.inl ⟨by rfl, ?_⟩) ?_ ?_
      rotate_left
      ·intro w'
       go_simp
       with_reducible rfl
      rotate_left
      ·simp only [Act.put, l_s, l_0, l_1, i64_w, i32_w]
       rfl
      refine pure_ (i := 9) (N := some 19) (v := ?_) (a' := ?_) #[J,J,J,J,J,J,J,J,J,J,Z,Z,Z,Z,Z,Z,Z,Z,Z,Z,Z,Z,Z] rfl rfl (any_of HT_.out (by kernel_rfl)) (fun _ _ _ h => h) (Or.inl ⟨by rfl, ?_⟩) ?_ ?_
      rotate_left
      ·intro w'
       go_simp
       with_reducible rfl
      rotate_left
      ·simp only [Act.put, l_s, l_0, l_1, i64_w, i32_w]
       rfl
      refine pure_ (i := 10) (N := some 20) (v := undef) (a' := ?_) #[J,J,J,J,J,J,J,J,J,J,J,Z,Z,Z,Z,Z,Z,Z,Z,Z,Z,Z,Z] rfl rfl (any_of HT_.out (by kernel_rfl)) (fun _ _ _ h => h) (Or.inr ⟨by rfl, rfl⟩) ?_ ?_
      rotate_left
      ·simp only [Act.put, l_s, l_0, l_1, i64_w, i32_w]
       rfl
      refine pure_ (i := 11) (N := some 21) (v := undef) (a' := ?_) #[J,J,J,J,J,J,J,J,J,J,J,J,Z,Z,Z,Z,Z,Z,Z,Z,Z,Z,Z] rfl rfl (any_of HT_.out (by kernel_rfl)) (fun _ _ _ h => h) (Or.inr ⟨by rfl, rfl⟩) ?_ ?_
      rotate_left
      ·simp only [Act.put, l_s, l_0, l_1, i64_w, i32_w]
       rfl
      refine pure_ (i := 12) (N := some 22) (v := undef) (a' := ?_) #[J,J,J,J,J,J,J,J,J,J,J,J,J,Z,Z,Z,Z,Z,Z,Z,Z,Z,Z] rfl rfl (any_of HT_.out (by kernel_rfl)) (fun _ _ _ h => h) (Or.inr ⟨by rfl, rfl⟩) ?_ ?_
      rotate_left
      ·simp only [Act.put, l_s, l_0, l_1, i64_w, i32_w]
       rfl
      refine pure_ (i := 13) (N := some 23) (v := undef) (a' := ?_) #[J,J,J,J,J,J,J,J,J,J,J,J,J,J,Z,Z,Z,Z,Z,Z,Z,Z,Z] rfl rfl (any_of HT_.out (by kernel_rfl)) (fun _ _ _ h => h) (Or.inr ⟨by rfl, rfl⟩) ?_ ?_
      rotate_left
      ·simp only [Act.put, l_s, l_0, l_1, i64_w, i32_w]
       rfl
      refine pure_ (i := 14) (N := some 24) (v := undef) (a' := ?_) #[J,J,J,J,J,J,J,J,J,J,J,J,J,J,J,Z,Z,Z,Z,Z,Z,Z,Z] rfl rfl (any_of HT_.out (by kernel_rfl)) (fun _ _ _ h => h) (Or.inr ⟨by rfl, rfl⟩) ?_ ?_
      rotate_left
      ·simp only [Act.put, l_s, l_0, l_1, i64_w, i32_w]
       rfl
      refine pure_ (i := 15) (N := some 25) (v := undef) (a' := ?_) #[J,J,J,J,J,J,J,J,J,J,J,J,J,J,J,J,Z,Z,Z,Z,Z,Z,Z] rfl rfl (any_of HT_.out (by kernel_rfl)) (fun _ _ _ h => h) (Or.inr ⟨by rfl, rfl⟩) ?_ ?_
      rotate_left
      ·simp only [Act.put, l_s, l_0, l_1, i64_w, i32_w]
       rfl
      refine pure_ (i := 16) (N := some 26) (v := undef) (a' := ?_) #[J,J,J,J,J,J,J,J,J,J,J,J,J,J,J,J,J,Z,Z,Z,Z,Z,Z] rfl rfl (any_of HT_.out (by kernel_rfl)) (fun _ _ _ h => h) (Or.inr ⟨by rfl, rfl⟩) ?_ ?_
      rotate_left
      ·simp only [Act.put, l_s, l_0, l_1, i64_w, i32_w]
       rfl
      refine pure_ (i := 17) (N := some 27) (v := undef) (a' := ?_) #[J,J,J,J,J,J,J,J,J,J,J,J,J,J,J,J,J,J,Z,Z,Z,Z,Z] rfl rfl (any_of HT_.out (by kernel_rfl)) (fun _ _ _ h => h) (Or.inr ⟨by rfl, rfl⟩) ?_ ?_
      rotate_left
      ·simp only [Act.put, l_s, l_0, l_1, i64_w, i32_w]
       rfl
      refine pure_ (i := 18) (N := some 28) (v := undef) (a' := ?_) #[J,J,J,J,J,J,J,J,J,J,J,J,J,J,J,J,J,J,J,Z,Z,Z,Z] rfl rfl (any_of HT_.out (by kernel_rfl)) (fun _ _ _ h => h) (Or.inr ⟨by rfl, rfl⟩) ?_ ?_
      rotate_left
      ·simp only [Act.put, l_s, l_0, l_1, i64_w, i32_w]
       rfl
      refine pure_ (i := 19) (N := some 29) (v := undef) (a' := ?_) #[J,J,J,J,J,J,J,J,J,J,J,J,J,J,J,J,J,J,J,J,Z,Z,Z] rfl rfl (any_of HT_.out (by kernel_rfl)) (fun _ _ _ h => h) (Or.inr ⟨by rfl, rfl⟩) ?_ ?_
      rotate_left
      ·simp only [Act.put, l_s, l_0, l_1, i64_w, i32_w]
       rfl
      refine pure_ (i := 20) (N := some 30) (v := undef) (a' := ?_) #[J,J,J,J,J,J,J,J,J,J,J,J,J,J,J,J,J,J,J,J,J,Z,Z] rfl rfl (any_of HT_.out (by kernel_rfl)) (fun _ _ _ h => h) (Or.inr ⟨by rfl, rfl⟩) ?_ ?_
      rotate_left
      ·simp only [Act.put, l_s, l_0, l_1, i64_w, i32_w]
       rfl
      refine pure_ (i := 21) (N := some 31) (v := ?_) (a' := ?_) #[J,J,J,J,J,J,J,J,J,J,J,J,J,J,J,J,J,J,J,J,J,J,Z] rfl rfl (any_of HT_.out (by kernel_rfl)) (fun _ _ _ h => h) (Or.inl ⟨by rfl, ?_⟩) ?_ ?_
      rotate_left
      ·intro w'
       go_simp
       with_reducible rfl
      rotate_left
      ·simp only [Act.put, l_s, l_0, l_1, i64_w, i32_w]
       rfl
      refine pure_ (i := 22) (N := some 32) (v := ?_) (a' := ?_) #[J,J,J,J,J,J,J,J,J,J,J,J,J,J,J,J,J,J,J,J,J,J,J] rfl rfl (any_of HT_.out (by kernel_rfl)) (fun _ _ _ h => h) (Or.inl ⟨by rfl, ?_⟩) ?_ ?_
      rotate_left
      ·intro w'
       go_simp
       with_reducible rfl
      rotate_left
      ·simp only [Act.put, l_s, l_0, l_1, i64_w, i32_w]
       rfl
      refine done_ (done_of HT_.out (by kernel_rfl)) ?_
      go_wp2_with (fail)
      go_meet
      case rel => exact ⟨rfl, HB⟩
     ·have cx : decide (0 < x) = true := decide_eq_true h0
      have HD := a_k hd
      obtain ⟨y, hy⟩ : ∃ y, x - 1 = y := ⟨_, rfl⟩
      have cw : IntKind.i64.wrap (x - 1) = y := by rw [← hy]; exact (i64_w _).trans (cornucopiaref5_ordered_w HX0.out HX1.out (by have := HL.out; omega)).2
      have hd2 : cornucopiaref5_Compare.f k1 (rd_T32 l0 y).f0 (rd_T32 l0 y).f1 (rd_T32 l0 y).f2 (rd_T32 l0 y).f3 (rd_T32 l0 x).f0 (rd_T32 l0 x).f1 (rd_T32 l0 x).f2 (rd_T32 l0 x).f3 = some d := by rw [← hy]; exact HD.out
      clear HD hd
      have HD := a_k hd2
      clear hd2 HCS
      have y0 : 0 ≤ y := by omega
      have y1 : y < (l0.length : Int) := by have := HX1.out; omega
      obtain ⟨ad2, ead2, hy0, hy1, hy2, hy3⟩ := at_T32 HR0.out y y0 y1
      obtain rfl : ad = ad2 := (by injection ead2)
      have c5 : (0 ≤ y) = True := eq_true y0
      have c6 : (y < (l0.length : Int)) = True := eq_true y1
      clear y0 y1 hy h0
      have HS : Aside0 (∀ V, Below w.heap.size w V → V.cell? (ad.add ((x).toNat * 4)) = some (.string (rd_T32 l0 x).f0) ∧ V.cell? ⟨(ad.add ((x).toNat * 4)).block, (ad.add ((x).toNat * 4)).off + 1, none⟩ = some (.int .u64 (rd_T32 l0 x).f1) ∧ V.cell? ⟨(ad.add ((x).toNat * 4)).block, (ad.add ((x).toNat * 4)).off + 2, none⟩ = some (.int .i64 (rd_T32 l0 x).f2) ∧ V.cell? ⟨(ad.add ((x).toNat * 4)).block, (ad.add ((x).toNat * 4)).off + 3, none⟩ = some (.string (rd_T32 l0 x).f3) ∧ V.cell? (ad.add ((y).toNat * 4)) = some (.string (rd_T32 l0 y).f0) ∧ V.cell? ⟨(ad.add ((y).toNat * 4)).block, (ad.add ((y).toNat * 4)).off + 1, none⟩ = some (.int .u64 (rd_T32 l0 y).f1) ∧ V.cell? ⟨(ad.add ((y).toNat * 4)).block, (ad.add ((y).toNat * 4)).off + 2, none⟩ = some (.int .i64 (rd_T32 l0 y).f2) ∧ V.cell? ⟨(ad.add ((y).toNat * 4)).block, (ad.add ((y).toNat * 4)).off + 3, none⟩ = some (.string (rd_T32 l0 y).f3)) := ⟨fun V hV => by
       obtain ⟨e0, e1, e2, e3⟩ := HZ.out V hV
       have hW := hV
       exact ⟨e0, e1, e2, e3, c_b hW hy0, c_b hW hy1, c_b hW hy2, c_b hW hy3⟩⟩
      clear hy0 hy1 hy2 hy3
      go_region_held3 (fun V => V.cell? (ad.add ((x).toNat * 4)) = some (.string (rd_T32 l0 x).f0) ∧ V.cell? ⟨(ad.add ((x).toNat * 4)).block, (ad.add ((x).toNat * 4)).off + 1, none⟩ = some (.int .u64 (rd_T32 l0 x).f1) ∧ V.cell? ⟨(ad.add ((x).toNat * 4)).block, (ad.add ((x).toNat * 4)).off + 2, none⟩ = some (.int .i64 (rd_T32 l0 x).f2) ∧ V.cell? ⟨(ad.add ((x).toNat * 4)).block, (ad.add ((x).toNat * 4)).off + 3, none⟩ = some (.string (rd_T32 l0 x).f3) ∧ V.cell? (ad.add ((y).toNat * 4)) = some (.string (rd_T32 l0 y).f0) ∧ V.cell? ⟨(ad.add ((y).toNat * 4)).block, (ad.add ((y).toNat * 4)).off + 1, none⟩ = some (.int .u64 (rd_T32 l0 y).f1) ∧ V.cell? ⟨(ad.add ((y).toNat * 4)).block, (ad.add ((y).toNat * 4)).off + 2, none⟩ = some (.int .i64 (rd_T32 l0 y).f2) ∧ V.cell? ⟨(ad.add ((y).toNat * 4)).block, (ad.add ((y).toNat * 4)).off + 3, none⟩ = some (.string (rd_T32 l0 y).f3)) (exact HS.out _ (by repeat (first | exact HB.out | apply b_a | apply b_n | apply b_d))) (first | (go_at_call 14; refine (cornucopiaref5_Valid.calls _ _ _ _ _ _ HV.out).mono ?_; rintro e wv ⟨rfl, hb⟩; have n0_ := a_k (below_step (by repeat (first | exact HB.out | apply b_a | apply b_n | apply b_d)) hb); clear HB hb; have HB := n0_; clear n0_) | (go_at_call 48; refine (cornucopiaref5_Compare.calls k1 _ _ _ _ _ _ _ _ d _ HD.out).mono ?_; rintro e wd ⟨rfl, hb⟩; have n0_ := a_k (below_step (by repeat (first | exact HB.out | apply b_a | apply b_n | apply b_d)) hb); clear HB hb; have HB := n0_; clear n0_))
      go_wp2_with (fail)
      go_meet
      case rel => exact ⟨rfl, HB⟩
    case rest =>
    clear HB HB0 HZ
    obtain ⟨rfl, HB⟩ := hcut
    cases q with
    | true =>
     obtain rfl := HQ1.out rfl
     go_wp2_with (fail)
     go_ret
     exact ⟨rfl, HB.out⟩
    | false =>
     have H' := a_k (HQ2.out rfl)
     have hW := (cornucopiaref5_ordered_w HX0.out HX1.out (by have := HL.out; omega)).1
     have cw : IntKind.i64.wrap (x + 1) = x + 1 := (i64_w _).trans hW
     clear hW
     go_wp2_with (fail)
     go_roundg k1
     case measure => have := HK1.out; omega
     case rel => exact ⟨x + 1, by first | rfl | (simp [*]; done), ⟨by have := HX0.out; omega⟩, H', ⟨by have := HK1.out; omega⟩, ⟨by repeat (first | exact HB.out | apply b_a | apply b_n | apply b_d)⟩⟩
   ·have c2b0 : decide (x < (l0.length : Int)) = false := decide_eq_false c2
    have hA := HA.out
    simp only [cornucopiaref5_ordered.l0] at hA
    rw [if_neg c2] at hA
    obtain rfl := Option.some.inj hA
    clear hA HA
    go_wp2
    go_ret
    exact ⟨rfl, (by repeat (first | exact HB.out | apply b_a | apply b_n | apply b_d))⟩
end Go.Proofs.YtchgpcgolgcfdaaGreat.Pb
end
section
namespace Go.Proofs.YtchgpcgolgcfdaaGreat.Pb
open Go Go.RowKit Go.Proofs.YtchgpcgolgcfdaaGreat.PNum Go.Proofs.YtchgpcgolgcfdaaGreat.PuVt Go.Proofs.YtchgpcgolgcfdaaGreat.PuVr Go.Proofs.YtchgpcgolgcfdaaGreat.PuCrc Go.Proofs.YtchgpcgolgcfdaaGreat.PuBk Go.Proofs.YtchgpcgolgcfdaaGreat.PuBq Go.Proofs.YtchgpcgolgcfdaaGreatW.PrintWords Go.Proofs.YtchgpcgolgcfdaaGreatW.PrintLast Go.Proofs.YtchgpcgolgcfdaaGreatW.PrintMore Go.Proofs.YtchgpcgolgcfdaaGreatW.Pu
set_option linter.unusedVariables false
set_option linter.unusedSimpArgs false
abbrev E := S32
structure Rs (l : List E) (i : Nat) (p : ByteArray) (xs tl : List Int) : Prop where
 e1 : xs ++ layB i p (l.drop i) = layB 0 ⟨#[]⟩ l
 e2 : tl ++ rst i xs.length p (l.drop i) = rst 0 0 ⟨#[]⟩ l
 pp : 0 < i → ∃ h : i - 1 < l.length, p = l[i - 1].f0
 ps : p.size ≤ 300
 xl : xs.length ≤ i * 60400
 tn : tl.length ≤ 4 * i
theorem Rs.start (l : List E) : Rs l 0 ⟨#[]⟩ [] [] := ⟨rfl, rfl, fun h => absurd h (by omega), by decide, by simp, by simp⟩
theorem Rs.step {l : List E} {i : Nat} {p : ByteArray} {xs tl : List Int} (h : Rs l i p xs tl) (hi : i < l.length) (hok : Ok l[i]) : Rs l (i + 1) l[i].f0 (xs ++ pc l[i] (hd i p l[i])) (tl ++ if i % 4 = 0 then be 4 xs.length else []) := by
 obtain ⟨h1, h2, h3, h4, h5, h6⟩ := h
 rw [List.drop_eq_getElem_cons hi, layB] at h1
 rw [List.drop_eq_getElem_cons hi, rst] at h2
 have hp := pc_len hok (hd_le i p l[i]).2
 refine ⟨by rw [List.append_assoc]; exact h1, by rw [List.append_assoc, List.length_append]; exact h2, fun _ => ⟨by omega, rfl⟩, hok.key, by rw [List.length_append]; omega, ?_⟩
 rw [List.length_append]
 split
 ·rw [be_len]; omega
 ·rw [List.length_nil]; omega
theorem Rs.fin {l : List E} {p : ByteArray} {xs tl : List Int} (h : Rs l l.length p xs tl) : xs = layB 0 ⟨#[]⟩ l ∧ tl = rst 0 0 ⟨#[]⟩ l := by
 have h1 := h.e1
 have h2 := h.e2
 rw [List.drop_length, layB, List.append_nil] at h1
 rw [List.drop_length, rst, List.append_nil] at h2
 exact ⟨h1, h2⟩
theorem rvar_y (w : World) (n : Nat) (h : n ≤ 18446744073709551615) (y : ByteArray) (hy : y = strOfNums (vb n)) : Calls Tryz.prog 192 #[.int .u64 (n : Int)] w fun e w' => e = .returned (.string y) ∧ Below w.heap.size w w' := by
 subst hy
 obtain ⟨k, hk⟩ := Ev.rounds (PuRP.RVar_ev n h)
 exact cornucopiaref1_Var.calls k _ _ w hk
theorem rtext_y (w : World) (s : ByteArray) (h : s.size ≤ 100000) (y : ByteArray) (hy : y = strOfNums (vb s.size ++ bytesOf s)) : Calls Tryz.prog 166 #[.string s] w fun e w' => e = .returned (.string y) ∧ Below w.heap.size w w' := by
 subst hy
 obtain ⟨k, hk⟩ := Ev.rounds (PuRP.RText_ev s h)
 exact cornucopiaref1_Text.calls k _ _ w hk
theorem rvars_y {w : World} {A : Option Addr} {c : Nat} {x y : Int} (hC : Kd.C (Kd.int .u64) w A 2 [x, y]) (hc : 2 ≤ c) (hx : 0 ≤ x ∧ x ≤ 18446744073709551615) (hy : 0 ≤ y ∧ y ≤ 18446744073709551615) (z : ByteArray) (hz : z = strOfNums (vb x.toNat ++ vb y.toNat)) : Calls Tryz.prog 167 #[.slice A 2 c] w fun e w' => e = .returned (.string z) ∧ Below w.heap.size w w' := by
 subst hz
 obtain ⟨k, hk⟩ := Ev.rounds (PuRP.RVars_ev [x, y] (by intro z hz; simp at hz; rcases hz with rfl | rfl <;> omega) (by simp))
 have e : vbs [x, y] = vb x.toNat ++ vb y.toNat := by simp [vbs]
 rw [e] at hk
 exact cornucopiaref1_Vars.calls k A c [x, y] _ w hC hc hk
theorem bytes_pc (e : E) (m : Nat) (hm : m ≤ e.f0.size) (kr : ByteArray) (hkr : e.f0.extract (m : Int).toNat e.f0.size = kr) (y1 y2 y3 y4 : ByteArray) (h1 : y1 = strOfNums (vb m)) (h2 : y2 = strOfNums (vb kr.size ++ bytesOf kr)) (h3 : y3 = strOfNums (vb e.f1.toNat ++ vb e.f2.toNat)) (h4 : y4 = strOfNums (vb e.f3.size ++ bytesOf e.f3)) :
  bytesOf (((y1 ++ y2) ++ y3) ++ y4) = pc e m := by
 have hx : kr.size = e.f0.size - m := by rw [← hkr, ByteArray.size_extract, Int.toNat_natCast]; omega
 have hb : bytesOf kr = (bytesOf e.f0).drop m := by
  rw [← hkr, bytesOf_extract, List.take_of_length_le (by rw [bytesOf_length]; omega), Int.toNat_natCast]
 rw [h1, h2, h3, h4, hx, hb, S_append, S_append, S_append, of_S]
 ·unfold pc
  simp only [List.append_assoc]
 ·have := pc_ok e m
  unfold pc at this
  simpa only [List.append_assoc] using this
theorem rfix_c (w : World) (n : Nat) (h : n < 4294967296) : Calls Tryz.prog 191 #[.int .u64 (n : Int), .int .i64 4] w fun e w' => e = .returned (.tuple #[.string (strOfNums (be 4 n)), .int .i64 0]) ∧ Below w.heap.size w w' := by
 obtain ⟨k, hk⟩ := Ev.rounds (RFix_yes (v := n) (n := 4) (by omega) (by omega) (by omega) (by omega))
 exact cornucopiaref1_Fix.calls k _ _ _ _ w hk
theorem rfix_y (w : World) (n : Nat) (h : n < 4294967296) (y : ByteArray) (hy : y = strOfNums (be 4 n)) : Calls Tryz.prog 191 #[.int .u64 (n : Int), .int .i64 4] w fun e w' => e = .returned (.tuple #[.string y, .int .i64 0]) ∧ Below w.heap.size w w' := by
 subst hy
 exact rfix_c w n h
theorem rseal_c (w : World) (x : List Int) (hx : ok8 x) (hl : x.length ≤ 140737488355328) : Calls Tryz.prog 74 #[.string (strOfNums x)] w fun e w' => e = .returned (.string (strOfNums (x ++ be 4 (crc x)))) ∧ Below w.heap.size w w' := by
 have h := RSeal_eq (strOfNums x) (by rw [S_size]; exact hl)
 rw [of_S hx, S_append] at h
 obtain ⟨k, hk⟩ := Ev.rounds h
 exact cornucopiaref1_Seal.calls k _ _ w hk
theorem rseal_y (w : World) (s : ByteArray) (x : List Int) (hs : s = strOfNums x) (hx : ok8 x) (hl : x.length ≤ 140737488355328) : Calls Tryz.prog 74 #[.string s] w fun e w' => e = .returned (.string (strOfNums (x ++ be 4 (crc x)))) ∧ Below w.heap.size w w' := by
 subst hs
 exact rseal_c w x hx hl
theorem blk_len {l : List E} (hok : ∀ e ∈ l, Ok e) (h4 : l.length ≤ 10000) : (blk l).length ≤ 140737488355328 := by
 have h1 := layB_len l 0 ⟨#[]⟩ hok
 have h2 := rst_len l 0 0 ⟨#[]⟩
 unfold blk
 rw [List.length_append, List.length_append, be_len]
 omega
theorem ordered_c {w : World} {A : Option Addr} {c : Nat} {l : List E} (hr : Kd.C k32 w A l.length l) (hc : l.length ≤ c) (h4 : l.length ≤ 10000) (hs : ∀ e ∈ l, e.f0.size ≤ 140737488351232) (b : Bool) (hb : rightB l = b) :
  Calls Tryz.prog 190 #[.slice A l.length c] w fun e w' => e = .returned (.bool b) ∧ Below w.heap.size w w' := by
 subst hb
 obtain ⟨k, hk⟩ := Ev.rounds (ordered_is l (by omega) hs)
 exact cornucopiaref5_ordered_w.calls k A c l _ w hr hc hk
theorem shared_q (V : World) (n : Nat) (a b : ByteArray) (m : Int) (ha : a.size ≤ 9223372036854775806) (hm : m = ((sh (bytesOf a) (bytesOf b) : Nat) : Int)) : Calls Tryz.prog 81 #[.string a, .string b] (V.drewN n) fun e w'' => e = .returned (.int .i64 m) ∧ ∃ q, w'' = V.drewN q := by
 subst hm
 obtain ⟨k, hk⟩ := Ev.rounds (RShared_ev a b ha)
 exact Calls.quiet_of ((cornucopiaref5_Shared.calls k a b _ _ hk).mono (fun e w' hh => ⟨hh.1, by obtain ⟨_, nd, h2⟩ := hh; exact ⟨nd, h2⟩⟩))
theorem appstr_step {P : Program} {ops : Array Oper} {o : Oper} {a : Act} {W : World} {Kc : Act → World → Prop} {Q : Exit → Act → World → Prop} (base : Nat) (hw : Region.wanted o (yielded ops a.tmps) = true) (s x : Operand) (t u e : TypeId)
  (ho : o.op = .call { callee := .builtin .append, args := #[s, x], argTypes := #[t, u] })
  (ht : P.underlying t = some (.slice e)) (hu : P.underlying u = some .string) (hinfo : (P.info? e).map (fun i => (i.zero, i.size, i.bytes)) = some (some (.int .u8 0), 1, 1))
  (v : Value) (xs : List Int) (y : ByteArray) (hs : a.eval s = v) (hx : a.eval x = .string y)
  (HO : (Kd.int .u8).R e W base (fun _ => True) v xs) (hbase : base ≤ W.heap.size) (hl : xs.length + y.size ≤ 140737488355328)
  (h : ∀ v1 w1, (Kd.int .u8).R e w1 base (fun _ => True) v1 (xs ++ bytesOf y) → Below base W w1 → Kc (a.put o.dst v1) w1) :
  if Region.wanted o (yielded ops a.tmps) = true then Oper.wp P o a W Kc Q else Kc (a.put o.dst undef) W := by
 obtain ⟨i0, hi, hzz⟩ := Option.map_eq_some_iff.1 hinfo
 simp only [Prod.mk.injEq] at hzz
 obtain ⟨hz0, hz1, hz2⟩ := hzz
 have HO2 := Kd.own_of_R HO
 obtain ⟨v1, w1, hrun, hown, hg, _⟩ := Lib.run_append_own_string (P := P) (w := W) base t u o.type e i0 ht hu hi hz0 hz1 hz2 v xs.length (nums .u8 xs) HO2 y (by simp only [maxLen]; omega) hl hbase
 have hl2 : (xs ++ bytesOf y).length = xs.length + y.size := by rw [List.length_append, bytesOf_length]
 have hc : nums .u8 (xs ++ bytesOf y) = nums .u8 xs ++ Lib.strCells y := by
  rw [nums_append]
  congr 1
  simp [nums, bytesOf, Lib.strCells]
 have hown2 : w1.ownsRow base e 1 v1 (xs ++ bytesOf y).length (nums .u8 (xs ++ bytesOf y)) := by rw [hl2, hc]; exact hown
 have h1 : (Kd.int .u8).R e w1 base (fun _ => True) v1 (xs ++ bytesOf y) := Kd.R_of_own (h1 := fun _ => rfl) (ok := fun _ => True) hown2 (fun _ _ => trivial)
 have h2 : Below base W w1 := (Below.refl base W).grown hg hbase (own_base HO2)
 rw [if_pos hw]
 unfold Oper.wp execOp
 simp only [ho, resolve, invoke, builtin, Sem.run_bind, Sem.run_pure, Result.andThen_ok, List.map_toArray, List.map_cons, List.map_nil, hs, hx, hrun]
 exact h v1 w1 h1 h2
end Go.Proofs.YtchgpcgolgcfdaaGreat.Pb
end
