/- The document's own reader in plain lists of bytes: each of its methods comes to what that of num comes to. -/
import Derived.Test.YtkpjipfjhniddaaPNumx12
import Derived.Test.YtkpjipfjhniddaaPNumx13
import Derived.Test.YtkpjipfjhniddaaPNumx14
import Derived.Test.YtkpjipfjhniddaaPNumx15
import Derived.Test.YtkpjipfjhniddaaPNumx16
import Derived.Test.YtkpjipfjhniddaaPNumx17
import Derived.Test.YtkpjipfjhniddaaPNumx18
import Derived.Test.YtkpjipfjhniddaaPuNum
import Derived.Test.YtkpjipfjhniddaaPuRead
import Derived.Test.YtkpjipfjhniddaaPuNum2
namespace Go.Proofs.Ytkpjipfjhniddaa.PuReads
open Go Go.RowKit Go.Proofs.Ytkpjipfjhniddaa.PNum Go.Proofs.Ytkpjipfjhniddaa.PuNum Go.Proofs.Ytkpjipfjhniddaa.PuRead Go.Proofs.Ytkpjipfjhniddaa.PuNum2 Go.Proofs.YtkpjipfjhniddaaW.PrintWords Go.Proofs.YtkpjipfjhniddaaW.PrintLast Go.Proofs.YtkpjipfjhniddaaW.PrintMore Go.Proofs.YtkpjipfjhniddaaW.Pu
theorem RUnfix_l0 (s : ByteArray) (at_ n : Nat) (hn : n ≤ 8) (ha : at_ + n ≤ s.size) (hs : s.size ≤ 9223372036854775807) (d : Nat) : ∀ i, i + d = n →
    Ev (fun k => cornucopiaref1_Unfix.l0 k s (at_ : Int) (n : Int) ((un (((bytesOf s).drop at_).take i) : Nat) : Int) (i : Int)) (((un (((bytesOf s).drop at_).take n) : Nat) : Int), 0) := by
  have hok : ∀ i, ok8 (((bytesOf s).drop at_).take i) := fun i x hx => ok8_of s x (List.mem_of_mem_drop (List.mem_of_mem_take hx))
  have hl := bytesOf_length s
  induction d with
  | zero =>
    intro i hi
    obtain rfl : i = n := by omega
    refine Ev.step (fun k => by rw [cornucopiaref1_Unfix.l0]) ?_
    exact ev_neg (by omega) (ev_const rfl)
  | succ d ih =>
    intro i hi
    have hlt : i < ((bytesOf s).drop at_).length := by rw [List.length_drop]; omega
    have ht : ((bytesOf s).drop at_).take (i + 1) = ((bytesOf s).drop at_).take i ++ [((bytesOf s).drop at_)[i]] := by rw [List.take_add_one, List.getElem?_eq_getElem hlt]; rfl
    have hb : bt s (((at_ + i : Nat)) : Int) = ((bytesOf s).drop at_)[i] := by rw [bt_eq]; simp [List.getD_eq_getElem?_getD, List.getElem?_eq_getElem (show at_ + i < (bytesOf s).length by omega)]
    have hr := ok8_of s ((bytesOf s).drop at_)[i] (List.mem_of_mem_drop (List.getElem_mem hlt))
    have hu := un_lt i (((bytesOf s).drop at_).take i) (hok i) (by rw [List.length_take]; omega)
    have hu8 : un (((bytesOf s).drop at_).take i) < 256 ^ 7 := Nat.lt_of_lt_of_le hu (Nat.pow_le_pow_right (by decide) (by omega))
    have hw : wrap64 ((at_ : Int) + (i : Int)) = ((at_ + i : Nat) : Int) := by rw [wrap64_id (by omega)]; omega
    have hw1 : wrap64 ((i : Int) + 1) = ((i + 1 : Nat) : Int) := by rw [wrap64_id (by omega)]; omega
    have hv : IntKind.u64.wrap (IntKind.u64.wrap (((un (((bytesOf s).drop at_).take i) : Nat) : Int) * 256) + IntKind.u64.wrap ((bytesOf s).drop at_)[i]) = ((un (((bytesOf s).drop at_).take (i + 1)) : Nat) : Int) := by
      rw [ht, un_app, wu64_id (x := (((un (((bytesOf s).drop at_).take i) : Nat) : Int) * 256)) (by omega), wu64_id (x := ((bytesOf s).drop at_)[i]) (by omega), wu64_id (by omega)]
      omega
    clear hu hu8 hr
    refine Ev.step (fun k => by rw [cornucopiaref1_Unfix.l0, hw, hb, hv, hw1]) ?_
    clear hv hb
    refine ev_pos (show (i : Int) < (n : Int) by omega) (ev_pos (show (0 : Int) ≤ ((at_ + i : Nat) : Int) by omega) (ev_pos (show ((at_ + i : Nat) : Int) < (s.size : Int) by omega) ?_))
    exact ih (i + 1) (by omega)
theorem RZag_eq {u : Int} (h : 0 ≤ u ∧ u ≤ 18446744073709551615) : cornucopiaref1_Zag.f u = some (zag u) := by
  unfold cornucopiaref1_Zag.f zag
  rw [Int.tmod_eq_emod_of_nonneg h.1, Int.tdiv_eq_ediv_of_nonneg h.1, wu64_id (x := u / 2) (by omega), wrap64_id (x := u / 2) (by omega), wrap64_id (x := -(u / 2)) (by omega), wrap64_id (x := -(u / 2) - 1) (by omega)]
  split <;> rfl
theorem XFail_eq (s : ByteArray) (e x : Int) : cornucopiaref1_Reader_Fail.f s e x = some (s, if e = 0 then x else e) := by
  unfold cornucopiaref1_Reader_Fail.f
  by_cases he : e = 0
  · rw [if_pos he, if_pos he]
  · rw [if_neg he, if_neg he]
/-- What is left of a number's bytes. -/
def rest (l : List Int) (s : ByteArray) (i acc : Nat) : ByteArray := if (rv l i acc).2.2 = 0 then strOfNums (rv l i acc).2.1 else s
theorem add_group (acc c i : Nat) (hi : i ≤ 9) (ha : acc < 128 ^ i) (hc : c < 256) (h9 : i = 9 → c ≤ 1) :
    IntKind.u64.wrap ((acc : Int) + (IntKind.u64.wrap ((IntKind.u64.wrap (Int.tmod (c : Int) 128)) * ((128 ^ i : Nat) : Int)))) = ((acc + (c % 128) * 128 ^ i : Nat) : Int) := by
  have hp : (128 : Nat) ^ i ≤ 2 ^ 63 := by rw [pow128]; exact Nat.pow_le_pow_right (by decide) (by omega)
  have hb : (c % 128) * 128 ^ i + 128 ^ i ≤ 2 ^ 64 := by
    by_cases h : i = 9
    · have h1 := h9 h
      have h2 : (c % 128) * 128 ^ i ≤ 1 * 128 ^ i := Nat.mul_le_mul_right _ (by omega)
      omega
    · have hq : (128 : Nat) ^ i ≤ 2 ^ 56 := by rw [pow128]; exact Nat.pow_le_pow_right (by decide) (by omega)
      have h2 : (c % 128) * 128 ^ i ≤ 127 * 128 ^ i := Nat.mul_le_mul_right _ (by omega)
      omega
  rw [Int.tmod_eq_emod_of_nonneg (by omega), show ((c : Int) % 128) = ((c % 128 : Nat) : Int) from by omega, wu64_id (x := ((c % 128 : Nat) : Int)) (by omega)]
  have e : ((c % 128 : Nat) : Int) * ((128 ^ i : Nat) : Int) = (((c % 128) * 128 ^ i : Nat) : Int) := by push_cast; rfl
  rw [e]
  generalize (c % 128) * 128 ^ i = x at *
  generalize 128 ^ i = y at *
  rw [wu64_id (x := (x : Int)) (by omega), wu64_id (by omega)]
  omega
theorem XVar_l0 (s : ByteArray) (d : Nat) : ∀ (i acc : Nat), i + d = s.size → i ≤ 9 → acc < 128 ^ i →
    Ev (fun k => cornucopiaref1_Reader_Var.l0 k (acc : Int) ((128 ^ i : Nat) : Int) (i : Int) s 0) ((rv ((bytesOf s).drop i) i acc).1, rest ((bytesOf s).drop i) s i acc, (rv ((bytesOf s).drop i) i acc).2.2) := by
  induction d with
  | zero =>
    intro i acc hi h9 ha
    refine Ev.step (fun k => by rw [cornucopiaref1_Reader_Var.l0]) ?_
    unfold rest
    rw [List.drop_of_length_le (by rw [bytesOf_length]; omega)]
    exact ev_pos (by omega) (ev_call (XFail_eq _ _ _) (ev_const rfl))
  | succ d ih =>
    intro i acc hi h9 ha
    have hlt : i < (bytesOf s).length := by rw [bytesOf_length]; omega
    have hdrop : (bytesOf s).drop i = (bytesOf s)[i] :: (bytesOf s).drop (i + 1) := List.drop_eq_getElem_cons hlt
    have hbt : bt s (i : Int) = (bytesOf s)[i] := by rw [bt_eq]; simp [List.getD_eq_getElem?_getD, List.getElem?_eq_getElem hlt]
    have hc := ok8_of s (bytesOf s)[i] (List.getElem_mem hlt)
    rw [hdrop]
    generalize (bytesOf s)[i] = c at *
    obtain ⟨c, rfl⟩ := Int.eq_ofNat_of_zero_le hc.1
    have e4 : wrap64 ((i : Int) + 1) = ((i + 1 : Nat) : Int) := by rw [wrap64_id (by omega)]; omega
    have hj : ¬ (i = 9 ∧ 1 < (c : Int)) → Ev (fun k => cornucopiaref1_Reader_Var.j1 k (acc : Int) ((128 ^ i : Nat) : Int) (i : Int) (c : Int) false s 0) ((rv ((c : Int) :: (bytesOf s).drop (i + 1)) i acc).1, rest ((c : Int) :: (bytesOf s).drop (i + 1)) s i acc, (rv ((c : Int) :: (bytesOf s).drop (i + 1)) i acc).2.2) := by
      intro hn
      have hor := add_group acc c i h9 ha (by omega) (by omega)
      refine Ev.step (fun k => by rw [cornucopiaref1_Reader_Var.j1, hor, e4]) ?_
      refine ev_neg (by simp) ?_
      unfold rest
      rw [rv, if_neg hn]
      by_cases h128 : 128 ≤ (c : Int)
      · rw [if_pos h128]
        refine ev_pos (show (c : Int) ≥ 128 by omega) ?_
        have hi9 : i ≠ 9 := by
          intro h
          exact hn ⟨h, by omega⟩
        have hq : (128 : Nat) ^ (i + 1) ≤ 2 ^ 63 := by rw [pow128]; exact Nat.pow_le_pow_right (by decide) (by omega)
        have e6 : IntKind.u64.wrap (((128 ^ i : Nat) : Int) * 128) = ((128 ^ (i + 1) : Nat) : Int) := by
          rw [Nat.pow_succ] at hq ⊢
          rw [wu64_id (by omega)]
          omega
        rw [e6]
        have := ih (i + 1) (acc + (c % 128) * 128 ^ i) (by omega) (by omega) (by
          rw [Nat.pow_succ]
          have : (c % 128) * 128 ^ i ≤ 127 * 128 ^ i := Nat.mul_le_mul_right _ (by omega)
          omega)
        exact this
      · rw [if_neg h128]
        refine ev_neg (show ¬ (c : Int) ≥ 128 by omega) ?_
        have ecm : c % 128 = c := by omega
        have hrest : s.extract ((i + 1 : Nat) : Int).toNat s.size = strOfNums ((bytesOf s).drop (i + 1)) := by
          rw [Int.toNat_natCast]
          apply bytesOf_inj
          rw [bytesOf_extract, of_S (fun x hx => ok8_of s x (List.mem_of_mem_drop hx)), List.take_of_length_le (by rw [bytesOf_length]; omega)]
        by_cases hi0 : (i : Int) > 0
        · refine ev_pos hi0 ?_
          by_cases hz : (c : Int) = 0
          · rw [if_pos (show (c : Int) = 0 ∧ 0 < i from ⟨hz, by omega⟩)]
            exact ev_pos hz (ev_call (XFail_eq _ _ _) (ev_const rfl))
          · rw [if_neg (show ¬ ((c : Int) = 0 ∧ 0 < i) from by omega)]
            refine ev_neg hz (ev_pos (by omega) (ev_pos (by omega) (ev_const ?_)))
            rw [hrest, ecm, Int.toNat_natCast]
            rfl
        · rw [if_neg (show ¬ ((c : Int) = 0 ∧ 0 < i) from by omega)]
          refine ev_neg hi0 (ev_pos (by omega) (ev_pos (by omega) (ev_const ?_)))
          rw [hrest, ecm, Int.toNat_natCast]
          rfl
    refine Ev.step (fun k => by rw [cornucopiaref1_Reader_Var.l0, hbt]) ?_
    refine ev_neg (by omega) (ev_pos (by omega) (ev_pos (by omega) ?_))
    by_cases h9' : i = 9
    · refine ev_pos (by omega) ?_
      by_cases h1 : 1 < (c : Int)
      · unfold rest
        rw [rv, if_pos ⟨h9', h1⟩]
        refine Ev.step (fun k => by rw [cornucopiaref1_Reader_Var.j1]) ?_
        exact ev_pos (decide_eq_true (by omega)) (ev_call (XFail_eq _ _ _) (ev_const rfl))
      · rw [show decide ((c : Int) > 1) = false from decide_eq_false (by omega)]
        exact hj (by omega)
    · exact ev_neg (by omega) (hj (by omega))
theorem rv_zero : ∀ l i acc, (rv l i acc).2.2 ≠ 0 → (rv l i acc).1 = 0
  | [], _, _, _ => by simp [rv]
  | c :: t, i, acc, h => by
    rw [rv] at h ⊢
    split
    · rfl
    · rename_i h1
      rw [if_neg h1] at h
      split
      · rename_i h2
        rw [if_pos h2] at h
        exact rv_zero t _ _ h
      · rename_i h2
        rw [if_neg h2] at h
        split
        · rfl
        · rename_i h3
          rw [if_neg h3] at h
          exact absurd rfl h
theorem XVar_ev {b : List Int} (hb : ok8 b) (e : Int) : Ev (fun k => cornucopiaref1_Reader_Var.f k (strOfNums b) e) ((rVar b e).1, strOfNums (rVar b e).2.1, (rVar b e).2.2) := by
  refine Ev.congr (fun k => by rw [cornucopiaref1_Reader_Var.f]) ?_
  unfold rVar
  by_cases he : e = 0
  · subst he
    refine ev_pos rfl ?_
    have hn := XVar_l0 (strOfNums b) (strOfNums b).size 0 0 (by omega) (by omega) (by decide)
    rw [of_S hb, List.drop_zero, rest] at hn
    rw [if_pos rfl]
    by_cases h : (rv b 0 0).2.2 = 0
    · rw [if_pos h] at hn ⊢
      rw [h] at hn
      exact hn
    · rw [if_neg h] at hn ⊢
      rw [rv_zero _ _ _ h] at hn
      exact hn
  · rw [if_neg he]
    exact ev_neg he (ev_const rfl)
theorem rv_len : ∀ l i acc, (rv l i acc).2.1.length ≤ l.length
  | [], _, _ => by simp [rv]
  | c :: t, i, acc => by
    rw [rv]
    split
    · simp
    · split
      · have := rv_len t (i + 1) (acc + (c.toNat % 128) * 128 ^ i)
        simp
        omega
      · split <;> simp
theorem rVar_len (b : List Int) (e : Int) : (rVar b e).2.1.length ≤ b.length := by
  unfold rVar
  split
  · split
    · exact rv_len _ _ _
    · exact Nat.le_refl _
  · exact Nat.le_refl _
theorem rCount_len (b : List Int) (e m : Int) : (rCount b e m).2.1.length ≤ b.length := by
  unfold rCount
  have := rVar_len b e
  split
  · split <;> exact this
  · exact this
theorem rTake_len (b : List Int) (e m : Int) : (rTake b e m).2.1.length ≤ b.length := by
  unfold rTake
  split
  · split <;> simp
  · exact Nat.le_refl _
theorem rText_len (b : List Int) (e m : Int) : (rText b e m).2.1.length ≤ b.length := Nat.le_trans (rTake_len _ _ _) (rCount_len _ _ _)
theorem rBool_len (b : List Int) (e : Int) : (rBool b e).2.1.length ≤ b.length := by
  unfold rBool
  split
  · split
    · exact Nat.le_refl _
    · split <;> simp
  · exact Nat.le_refl _
/-! ### the value's bound -/
theorem rv_top : ∀ l i acc, ok8 l → i ≤ 9 → acc < 128 ^ i → (rv l i acc).1 ≤ 18446744073709551615
  | [], _, _, _, _, _ => by simp [rv]
  | c :: t, i, acc, hk, hi, ha => by
    have hc := hk c (by simp)
    have ht : ok8 t := fun x hx => hk x (by simp [hx])
    rw [rv]
    split
    · simp
    · rename_i h1
      split
      · rename_i h2
        refine rv_top t _ _ ht (by omega) ?_
        rw [Nat.pow_succ]
        have : (c.toNat % 128) * 128 ^ i ≤ 127 * 128 ^ i := Nat.mul_le_mul_right _ (by omega)
        omega
      · split
        · simp
        · have hp : (128 : Nat) ^ i ≤ 2 ^ 63 := by rw [pow128]; exact Nat.pow_le_pow_right (by decide) (by omega)
          have hb : c.toNat * 128 ^ i + 128 ^ i ≤ 2 ^ 64 := by
            by_cases h : i = 9
            · have h2 : c.toNat * 128 ^ i ≤ 1 * 128 ^ i := Nat.mul_le_mul_right _ (by omega)
              omega
            · have hq : (128 : Nat) ^ i ≤ 2 ^ 56 := by rw [pow128]; exact Nat.pow_le_pow_right (by decide) (by omega)
              have h2 : c.toNat * 128 ^ i ≤ 127 * 128 ^ i := Nat.mul_le_mul_right _ (by omega)
              omega
          simp only
          omega
theorem rVar_top {b : List Int} (hb : ok8 b) (e : Int) : (rVar b e).1 ≤ 18446744073709551615 := by
  unfold rVar
  split
  · split
    · exact rv_top _ _ _ hb (by omega) (by decide)
    · simp
  · simp
/-! ### the other methods -/
theorem Int_ev {b : List Int} (hb : ok8 b) (e : Int) : Ev (fun k => num_Reader_Int.f k (strOfNums b) e) (zag (rVar b e).1, strOfNums (rVar b e).2.1, (rVar b e).2.2) := by
  refine Ev.congr (fun k => by rw [num_Reader_Int.f]) (Ev.bind (Var_ev hb e) ?_)
  exact ev_call (Zag_eq ⟨rVar_nonneg b e, rVar_top hb e⟩) (ev_const rfl)
theorem XInt_ev {b : List Int} (hb : ok8 b) (e : Int) : Ev (fun k => cornucopiaref1_Reader_Int.f k (strOfNums b) e) (zag (rVar b e).1, strOfNums (rVar b e).2.1, (rVar b e).2.2) := by
  refine Ev.congr (fun k => by rw [cornucopiaref1_Reader_Int.f]) (Ev.bind (XVar_ev hb e) ?_)
  exact ev_call (RZag_eq ⟨rVar_nonneg b e, rVar_top hb e⟩) (ev_const rfl)
theorem XCount_ev {b : List Int} (hb : ok8 b) (e most : Int) (hm : -9223372036854775808 ≤ most ∧ most ≤ 9223372036854775807) : Ev (fun k => cornucopiaref1_Reader_Count.f k (strOfNums b) e most) ((rCount b e most).1, strOfNums (rCount b e most).2.1, (rCount b e most).2.2) := by
  refine Ev.congr (fun k => by rw [cornucopiaref1_Reader_Count.f]) (Ev.bind (XVar_ev hb e) ?_)
  have hnn := rVar_nonneg b e
  unfold rCount
  by_cases h : (rVar b e).2.2 = 0
  · refine ev_pos h ?_
    rw [if_pos h, h]
    by_cases h0 : most < 0
    · rw [if_pos (Or.inl h0)]
      exact ev_pos h0 (ev_call (XFail_eq _ _ _) (ev_const rfl))
    · refine ev_neg h0 ?_
      rw [wu64_id (by omega)]
      by_cases h1 : most < (rVar b e).1
      · rw [if_pos (Or.inr h1)]
        exact ev_pos h1 (ev_call (XFail_eq _ _ _) (ev_const rfl))
      · rw [if_neg (show ¬ (most < 0 ∨ most < (rVar b e).1) from by omega)]
        refine ev_neg h1 (ev_const ?_)
        rw [wrap64_id (by omega)]
  · refine ev_neg h ?_
    rw [if_neg h]
    exact ev_const rfl
theorem bytes_eq {b : List Int} (e n : Int) (hn : 0 ≤ n ∨ e ≠ 0) : cornucopiaref1_Reader_bytes.f (strOfNums b) e n = some (strOfNums (rTake b e n).1, strOfNums (rTake b e n).2.1, (rTake b e n).2.2) := by
  unfold cornucopiaref1_Reader_bytes.f rTake
  by_cases he : e = 0
  · subst he
    rw [if_pos rfl, if_pos rfl, S_size]
    have hn : 0 ≤ n := hn.resolve_right (fun h => h rfl)
    by_cases h : (b.length : Int) < n
    · rw [if_pos h, if_pos h, XFail_eq]; rfl
    · rw [if_neg h, if_neg h, if_pos hn, if_pos (by omega), S_extract, S_extract]
      simp
  · rw [if_neg he, if_neg he]; rfl
theorem XText_ev {b : List Int} (hb : ok8 b) (e most : Int) (hm : -9223372036854775808 ≤ most ∧ most ≤ 9223372036854775807) : Ev (fun k => cornucopiaref1_Reader_Text.f k (strOfNums b) e most) (strOfNums (rText b e most).1, strOfNums (rText b e most).2.1, (rText b e most).2.2) := by
  refine Ev.congr (fun k => by rw [cornucopiaref1_Reader_Text.f]) (Ev.bind (XCount_ev hb e most hm) ?_)
  exact ev_call (bytes_eq _ _ (.inl (rCount_range b e most hm.2).1)) (ev_const rfl)
/-- A number of so many bytes: the value, what is left, the error. -/
def rFix (b : List Int) (e n : Int) : Int × List Int × Int := if e = 0 then (if n < 1 ∨ 8 < n then (0, b, 1) else if (b.length : Int) < n then (0, b, 5) else (((un (b.take n.toNat) : Nat) : Int), b.drop n.toNat, 0)) else (0, b, e)
theorem rFix_ok {b : List Int} {e n : Int} (h : ok8 b) : ok8 (rFix b e n).2.1 := by
  unfold rFix
  split
  · split
    · exact h
    · split
      · exact h
      · exact fun x hx => h x (List.mem_of_mem_drop hx)
  · exact h
theorem rFix_len (b : List Int) (e n : Int) : (rFix b e n).2.1.length ≤ b.length := by
  unfold rFix
  split
  · split
    · exact Nat.le_refl _
    · split <;> simp
  · exact Nat.le_refl _
theorem Fix_ev {b : List Int} (hb : ok8 b) (hl : b.length ≤ 281474976710656) (e n : Int) : Ev (fun k => num_Reader_Fix.f k (strOfNums b) e n) ((rFix b e n).1, strOfNums (rFix b e n).2.1, (rFix b e n).2.2) := by
  refine Ev.congr (fun k => by rw [num_Reader_Fix.f]) (ev_call (off_eq _ _) ?_)
  unfold rFix
  by_cases he : e = 0
  · subst he
    refine ev_neg (show ¬ ((0 : Int) != 0) = true from by decide) ?_
    rw [if_pos rfl]
    have n1 : ∀ q, q = true → Ev (fun k => num_Unfix.j0 k (strOfNums b) 0 n q) (0, 1) := fun q hq => by subst hq; exact Ev.step (fun k => by rw [num_Unfix.j0]) (ev_pos rfl (ev_const rfl))
    by_cases h1 : n < 1
    · rw [if_pos (Or.inl h1)]
      exact Ev.bind (Ev.congr (fun k => by rw [num_Unfix.f]) (ev_pos h1 (n1 _ rfl))) (ev_neg (show ¬ (1 : Int) = 0 by decide) (ev_const rfl))
    by_cases h8 : 8 < n
    · rw [if_pos (Or.inr h8)]
      exact Ev.bind (Ev.congr (fun k => by rw [num_Unfix.f]) (ev_neg h1 (ev_pos h8 (n1 _ rfl)))) (ev_neg (show ¬ (1 : Int) = 0 by decide) (ev_const rfl))
    rw [if_neg (show ¬ (n < 1 ∨ 8 < n) by omega)]
    obtain ⟨m, rfl⟩ := Int.eq_ofNat_of_zero_le (show 0 ≤ n by omega)
    by_cases hs : (b.length : Int) < (m : Int)
    · rw [if_pos hs]
      refine Ev.bind (a := (0, 5)) (Ev.congr (fun k => by rw [num_Unfix.f]) (ev_neg h1 (ev_neg (by omega) ?_))) (ev_neg (show ¬ (5 : Int) = 0 by decide) (ev_const rfl))
      rw [decide_eq_false (show ¬ ((0 : Int) < 0) by omega)]
      refine Ev.step (fun k => by rw [num_Unfix.j0]) (ev_neg (by simp) (ev_neg (by omega) (ev_pos ?_ (ev_const rfl))))
      rw [S_size, wrap64_id (by omega)]
      omega
    · rw [if_neg hs]
      have hy := Unfix_yes (strOfNums b) 0 m (by omega) (by omega) (by rw [S_size]; omega) (by rw [S_size]; omega)
      rw [of_S hb, List.drop_zero] at hy
      refine Ev.bind hy (ev_pos rfl (ev_pos (by omega) (ev_pos (by simp only [S_size]; omega) (ev_const ?_))))
      simp only [S_extract, Int.toNat_natCast, S_size, List.take_length]
  · rw [if_neg he]
    exact ev_pos (show (e != 0) = true from by rw [bne_iff_ne]; exact he) (ev_const rfl)
theorem RUnfix_yes (s : ByteArray) (n : Nat) (h1 : 1 ≤ n) (hn : n ≤ 8) (ha : n ≤ s.size) (hs : s.size ≤ 9223372036854775807) :
    Ev (fun k => cornucopiaref1_Unfix.f k s 0 (n : Int)) (((un ((bytesOf s).take n) : Nat) : Int), 0) := by
  refine Ev.congr (fun k => by rw [cornucopiaref1_Unfix.f]) (ev_neg (by omega) (ev_neg (by omega) ?_))
  rw [decide_eq_false (show ¬ ((0 : Int) < 0) by omega)]
  refine Ev.step (fun k => by rw [cornucopiaref1_Unfix.j0]) (ev_neg (by simp) (ev_neg (by omega) ?_))
  rw [decide_eq_false (show ¬ ((0 : Int) > wrap64 ((s.size : Int) - (n : Int))) by rw [wrap64_id (by omega)]; omega)]
  refine Ev.step (fun k => by rw [cornucopiaref1_Unfix.j1]) (ev_neg (by simp) ?_)
  have := RUnfix_l0 s 0 n hn (by omega) hs n 0 (by omega)
  rw [List.take_zero, List.drop_zero] at this
  exact this
theorem XFix_ev {b : List Int} (hb : ok8 b) (e n : Int) : Ev (fun k => cornucopiaref1_Reader_Fix.f k (strOfNums b) e n) ((rFix b e n).1, strOfNums (rFix b e n).2.1, (rFix b e n).2.2) := by
  have off : ∀ {e : Int} (_ : e ≠ 0), Ev (fun k => cornucopiaref1_Reader_Fix.j1 k n (strOfNums b) e) (0, strOfNums b, e) := fun he => by
    refine Ev.step (fun k => by rw [cornucopiaref1_Reader_Fix.j1]) (ev_call (bytes_eq _ _ (.inr he)) ?_)
    unfold rTake
    rw [if_neg he]
    exact ev_neg he (ev_const rfl)
  unfold rFix
  by_cases he : e = 0
  · subst he
    rw [if_pos rfl]
    have no : Ev (fun k => cornucopiaref1_Reader_Fix.j0 k n true (strOfNums b) 0) (0, strOfNums b, 1) := Ev.step (fun k => by rw [cornucopiaref1_Reader_Fix.j0]) (ev_pos rfl (ev_call (XFail_eq _ _ _) (off (e := 1) (by decide))))
    by_cases h1 : n < 1
    · rw [if_pos (Or.inl h1)]
      exact Ev.congr (fun k => by rw [cornucopiaref1_Reader_Fix.f]) (ev_pos rfl (ev_pos h1 no))
    by_cases h8 : 8 < n
    · rw [if_pos (Or.inr h8)]
      refine Ev.congr (fun k => by rw [cornucopiaref1_Reader_Fix.f]) (ev_pos rfl (ev_neg h1 ?_))
      rw [decide_eq_true (show n > 8 from h8)]
      exact no
    rw [if_neg (show ¬ (n < 1 ∨ 8 < n) by omega)]
    refine Ev.congr (fun k => by rw [cornucopiaref1_Reader_Fix.f]) (ev_pos rfl (ev_neg h1 ?_))
    rw [decide_eq_false (show ¬ n > 8 from h8)]
    refine Ev.step (fun k => by rw [cornucopiaref1_Reader_Fix.j0]) (ev_neg (by simp) ?_)
    refine Ev.step (fun k => by rw [cornucopiaref1_Reader_Fix.j1]) (ev_call (bytes_eq _ _ (.inl (by omega))) ?_)
    unfold rTake
    rw [if_pos rfl]
    by_cases hs : (b.length : Int) < n
    · rw [if_pos hs, if_pos hs]
      exact ev_neg (show ¬ (5 : Int) = 0 by decide) (ev_const rfl)
    · rw [if_neg hs, if_neg hs]
      obtain ⟨m, rfl⟩ := Int.eq_ofNat_of_zero_le (show 0 ≤ n by omega)
      have hy := RUnfix_yes (strOfNums (b.take m)) m (by omega) (by omega) (by rw [S_size, List.length_take]; omega) (by rw [S_size, List.length_take]; omega)
      rw [of_S (fun x hx => hb x (List.mem_of_mem_take hx)), List.take_take, Nat.min_self] at hy
      exact ev_pos rfl (Ev.bind hy (ev_const rfl))
  · rw [if_neg he]
    refine Ev.congr (fun k => by rw [cornucopiaref1_Reader_Fix.f]) (ev_neg he ?_)
    exact Ev.step (fun k => by rw [cornucopiaref1_Reader_Fix.j0]) (ev_neg (by simp) (off he))
theorem XBool_eq {b : List Int} (hb : ok8 b) (e : Int) : cornucopiaref1_Reader_Bool.f (strOfNums b) e = some ((rBool b e).1, strOfNums (rBool b e).2.1, (rBool b e).2.2) := by
  unfold cornucopiaref1_Reader_Bool.f rBool
  by_cases he : e = 0
  · subst he
    rw [if_pos rfl, if_pos rfl, S_size]
    cases b with
    | nil => rw [if_pos (by simp), XFail_eq]; rfl
    | cons c t =>
      rw [if_neg (by simp; omega), if_pos (by simp)]
      have hbt : bt (strOfNums (c :: t)) 0 = c := by
        have := bt_S hb 0
        simpa using this
      rw [hbt]
      by_cases h : c > 1
      · rw [if_pos h, XFail_eq]
        simp only
        rw [if_pos h]
        rfl
      · rw [if_neg h, bytes_eq _ _ (.inl (by omega))]
        unfold rTake
        rw [if_pos rfl, if_neg (by simp; omega)]
        simp only
        rw [if_neg h]
        have hc := hb c (by simp)
        have h01 : c = 0 ∨ c = 1 := by omega
        simp only [Option.bind_some, Int.toNat_one, List.take_succ_cons, List.take_zero, List.drop_succ_cons, List.drop_zero, S_toList]
        rcases h01 with rfl | rfl <;> simp
  · rw [if_neg he, if_neg he]
theorem XEnd_eq (b : List Int) (e : Int) : cornucopiaref1_Reader_End.f (strOfNums b) e = some ((if e = 0 then (if b = [] then 0 else 4) else e), strOfNums b, e) := by
  unfold cornucopiaref1_Reader_End.f
  by_cases he : e = 0
  · rw [if_pos he, if_pos he, S_size]
    cases b with
    | nil => rw [if_neg (by simp), if_pos rfl]
    | cons c t => rw [if_pos (by simp), if_neg (by simp)]
  · rw [if_neg he, if_neg he]
/-! ### one step of both readers -/
theorem both {α : Type} {f g : Nat → Option α} {r : α} (h : Ev f r) (h2 : Ev g r) : ∃ k, f k = some r ∧ g k = some r := by
  obtain ⟨k1, h1⟩ := h
  obtain ⟨k2, h2⟩ := h2
  exact ⟨max k1 k2, h1 _ (Nat.le_max_left _ _), h2 _ (Nat.le_max_right _ _)⟩
def Small (b : List Int) : Prop := ok8 b ∧ b.length ≤ 6000
theorem step_Var {b : List Int} (h : Small b) (e : Int) : ∃ k v b' e', num_Reader_Var.f k (strOfNums b) e = some (v, strOfNums b', e') ∧ cornucopiaref1_Reader_Var.f k (strOfNums b) e = some (v, strOfNums b', e') ∧ Small b' := by
  obtain ⟨k, h1, h2⟩ := both (Var_ev h.1 e) (XVar_ev h.1 e)
  exact ⟨k, _, _, _, h1, h2, rVar_ok h.1, Nat.le_trans (rVar_len b e) h.2⟩
theorem step_Int {b : List Int} (h : Small b) (e : Int) : ∃ k v b' e', num_Reader_Int.f k (strOfNums b) e = some (v, strOfNums b', e') ∧ cornucopiaref1_Reader_Int.f k (strOfNums b) e = some (v, strOfNums b', e') ∧ Small b' := by
  obtain ⟨k, h1, h2⟩ := both (Int_ev h.1 e) (XInt_ev h.1 e)
  exact ⟨k, _, _, _, h1, h2, rVar_ok h.1, Nat.le_trans (rVar_len b e) h.2⟩
theorem step_Count {b : List Int} (h : Small b) (e : Int) {n : Int} (hn : -9223372036854775808 ≤ n ∧ n ≤ 9223372036854775807) : ∃ k v b' e', num_Reader_Count.f k (strOfNums b) e n = some (v, strOfNums b', e') ∧ cornucopiaref1_Reader_Count.f k (strOfNums b) e n = some (v, strOfNums b', e') ∧ Small b' := by
  obtain ⟨k, h1, h2⟩ := both (Count_ev h.1 e n hn) (XCount_ev h.1 e n hn)
  exact ⟨k, _, _, _, h1, h2, rCount_ok h.1, Nat.le_trans (rCount_len b e n) h.2⟩
theorem step_Text {b : List Int} (h : Small b) (e : Int) {n : Int} (hn : -9223372036854775808 ≤ n ∧ n ≤ 9223372036854775807) : ∃ k v b' e', num_Reader_Text.f k (strOfNums b) e n = some (v, strOfNums b', e') ∧ cornucopiaref1_Reader_Text.f k (strOfNums b) e n = some (v, strOfNums b', e') ∧ Small b' := by
  obtain ⟨k, h1, h2⟩ := both (Text_ev h.1 e n hn) (XText_ev h.1 e n hn)
  exact ⟨k, _, _, _, h1, h2, (rText_ok h.1).1, Nat.le_trans (rText_len b e n) h.2⟩
theorem step_Bool {b : List Int} (h : Small b) (e : Int) : ∃ v b' e', num_Reader_Bool.f (strOfNums b) e = some (v, strOfNums b', e') ∧ cornucopiaref1_Reader_Bool.f (strOfNums b) e = some (v, strOfNums b', e') ∧ Small b' :=
  ⟨_, _, _, Bool_eq h.1 e, XBool_eq h.1 e, rBool_ok h.1, Nat.le_trans (rBool_len b e) h.2⟩
theorem step_Fix {b : List Int} (h : Small b) (e n : Int) : ∃ k v b' e', num_Reader_Fix.f k (strOfNums b) e n = some (v, strOfNums b', e') ∧ cornucopiaref1_Reader_Fix.f k (strOfNums b) e n = some (v, strOfNums b', e') ∧ Small b' := by
  obtain ⟨k, h1, h2⟩ := both (Fix_ev h.1 (by have := h.2; omega) e n) (XFix_ev h.1 e n)
  exact ⟨k, _, _, _, h1, h2, rFix_ok h.1, Nat.le_trans (rFix_len b e n) h.2⟩
theorem step_Fail {b : List Int} (h : Small b) (e n : Int) : ∃ b' e', num_Reader_Fail.f (strOfNums b) e n = some (strOfNums b', e') ∧ cornucopiaref1_Reader_Fail.f (strOfNums b) e n = some (strOfNums b', e') ∧ Small b' :=
  ⟨_, _, Fail_eq _ e n, XFail_eq _ e n, h⟩
theorem ends (b : List Int) (e : Int) : ∃ v, num_Reader_End.f (strOfNums b) e = some (v, strOfNums b, e) ∧ cornucopiaref1_Reader_End.f (strOfNums b) e = some (v, strOfNums b, e) := ⟨_, End_eq b e, XEnd_eq b e⟩
theorem small_of (s : ByteArray) (h : s.size ≤ 6000) : Small (bytesOf s) := ⟨ok8_of s, by rw [bytesOf_length]; exact h⟩
theorem small_nil : Small [] := ⟨ok8_nil, Nat.zero_le _⟩
end Go.Proofs.Ytkpjipfjhniddaa.PuReads
