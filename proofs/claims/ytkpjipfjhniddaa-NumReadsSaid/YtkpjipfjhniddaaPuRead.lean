/- The reader of num in plain lists of bytes: what each of its methods comes to. -/
import Derived.Test.YtkpjipfjhniddaaPNumx11
import Derived.Test.YtkpjipfjhniddaaPNumx12
import Derived.Test.YtkpjipfjhniddaaPNumx4
import Derived.Test.YtkpjipfjhniddaaPNumx5
import Derived.Test.YtkpjipfjhniddaaPNumx6
import Derived.Test.YtkpjipfjhniddaaPNumx7
import Derived.Test.YtkpjipfjhniddaaPuNum
namespace Go.Proofs.Ytkpjipfjhniddaa.PuRead
open Go Go.RowKit Go.Proofs.Ytkpjipfjhniddaa.PNum Go.Proofs.Ytkpjipfjhniddaa.PuNum Go.Proofs.YtkpjipfjhniddaaW.PrintWords Go.Proofs.YtkpjipfjhniddaaW.PrintLast Go.Proofs.YtkpjipfjhniddaaW.PrintMore Go.Proofs.YtkpjipfjhniddaaW.Pu

/-- A number at the front: its value, what is left, the error. -/
def rv : List Int → Nat → Nat → Int × List Int × Int
  | [], _, _ => (0, [], 5)
  | c :: t, i, acc => if i = 9 ∧ 1 < c then (0, [], 4) else if 128 ≤ c then rv t (i + 1) (acc + (c.toNat % 128) * 128 ^ i) else if c = 0 ∧ 0 < i then (0, [], 4) else (((acc + c.toNat * 128 ^ i : Nat) : Int), t, 0)
theorem and128 : ∀ m : Fin 256, (m.val &&& 128 = 0) ↔ m.val < 128 := by decide +kernel
theorem pow128 (i : Nat) : (128 : Nat) ^ i = 2 ^ (7 * i) := by rw [Nat.pow_mul]
theorem or_group (acc c i : Nat) (hi : i ≤ 9) (ha : acc < 128 ^ i) (hc : c < 256) (h9 : i = 9 → c ≤ 1) :
    Go.bits .or .u64 (acc : Int) (shl .u64 (IntKind.u64.wrap (Go.bits .and .u8 (c : Int) 127)) (wrap64 (7 * (i : Int)))) = ((acc + (c % 128) * 128 ^ i : Nat) : Int) := by
  have e1 : Go.bits .and .u8 (c : Int) 127 = ((c % 128 : Nat) : Int) := by
    have h := and_u8 c 127 (by omega) (by decide)
    refine h.trans ?_
    rw [show (127 : Nat) = 2 ^ 7 - 1 from rfl, Nat.and_two_pow_sub_one_eq_mod]
  have e2 : wrap64 (7 * (i : Int)) = ((7 * i : Nat) : Int) := by rw [wrap64_id (by omega)]; omega
  have hp : (128 : Nat) ^ i ≤ 2 ^ 63 := by rw [pow128]; exact Nat.pow_le_pow_right (by decide) (by omega)
  have hb : (c % 128) * 128 ^ i + 128 ^ i ≤ 2 ^ 64 := by
    by_cases h : i = 9
    · have h1 := h9 h
      have h2 : (c % 128) * 128 ^ i ≤ 1 * 128 ^ i := Nat.mul_le_mul_right _ (by omega)
      omega
    · have hq : (128 : Nat) ^ i ≤ 2 ^ 56 := by rw [pow128]; exact Nat.pow_le_pow_right (by decide) (by omega)
      have h2 : (c % 128) * 128 ^ i ≤ 127 * 128 ^ i := Nat.mul_le_mul_right _ (by omega)
      omega
  rw [e1, e2, wu64_id (by omega)]
  have e3 : shl .u64 ((c % 128 : Nat) : Int) ((7 * i : Nat) : Int) = (((c % 128) * 128 ^ i : Nat) : Int) := by
    unfold shl
    rw [show min ((7 * i : Nat) : Int).toNat IntKind.u64.bits = 7 * i from by simp [IntKind.bits]; omega, pow128]
    have : ((c % 128 : Nat) : Int) * 2 ^ (7 * i) = (((c % 128) * 2 ^ (7 * i) : Nat) : Int) := by push_cast; rfl
    rw [this]
    rw [pow128] at hb
    have hp2 : 0 < (2 : Nat) ^ (7 * i) := Nat.pow_pos (by decide)
    exact wu64_id ⟨by omega, by omega⟩
  rw [e3]
  have hpos : 0 < (128 : Nat) ^ i := Nat.pow_pos (by decide)
  have h := or_u64 acc ((c % 128) * 128 ^ i) (by omega) (by omega)
  refine h.trans ?_
  congr 1
  rw [Nat.or_comm, Nat.add_comm, Nat.mul_comm, pow128]
  rw [pow128] at ha
  exact (Nat.two_pow_add_eq_or_of_lt ha _).symm
theorem number_l0 (s : ByteArray) (d : Nat) : ∀ (i acc : Nat), i + d = s.size → i ≤ 9 → acc < 128 ^ i →
    Ev (fun k => num_number.l0 k s (acc : Int) (i : Int)) ((rv ((bytesOf s).drop i) i acc).1, strOfNums (rv ((bytesOf s).drop i) i acc).2.1, (rv ((bytesOf s).drop i) i acc).2.2) := by
  induction d with
  | zero =>
    intro i acc hi h9 ha
    refine Ev.step (fun k => by rw [num_number.l0]) ?_
    rw [List.drop_of_length_le (by rw [bytesOf_length]; omega)]
    exact ev_pos (by omega) (ev_const rfl)
  | succ d ih =>
    intro i acc hi h9 ha
    have hlt : i < (bytesOf s).length := by rw [bytesOf_length]; omega
    have hdrop : (bytesOf s).drop i = (bytesOf s)[i] :: (bytesOf s).drop (i + 1) := List.drop_eq_getElem_cons hlt
    have hbt : bt s (i : Int) = (bytesOf s)[i] := by rw [bt_eq]; simp [List.getD_eq_getElem?_getD, List.getElem?_eq_getElem hlt]
    have hc := ok8_of s (bytesOf s)[i] (List.getElem_mem hlt)
    rw [hdrop]
    generalize (bytesOf s)[i] = c at *
    obtain ⟨c, rfl⟩ := Int.eq_ofNat_of_zero_le hc.1
    have e2 : wrap64 (7 * (i : Int)) = ((7 * i : Nat) : Int) := by rw [wrap64_id (by omega)]; omega
    have e4 : wrap64 ((i : Int) + 1) = ((i + 1 : Nat) : Int) := by rw [wrap64_id (by omega)]; omega
    have hj : ¬ (i = 9 ∧ 1 < (c : Int)) → Ev (fun k => num_number.j1 k s (acc : Int) (i : Int) (c : Int) false) ((rv ((c : Int) :: (bytesOf s).drop (i + 1)) i acc).1, strOfNums (rv ((c : Int) :: (bytesOf s).drop (i + 1)) i acc).2.1, (rv ((c : Int) :: (bytesOf s).drop (i + 1)) i acc).2.2) := by
      intro hn
      have hor := or_group acc c i h9 ha (by omega) (by omega)
      have e5 : Go.bits .and .u8 (c : Int) 128 = ((c &&& 128 : Nat) : Int) := and_u8 c 128 (by omega) (by decide)
      have e6 := and128 ⟨c, by omega⟩
      simp only at e6
      refine Ev.step (fun k => by rw [num_number.j1, hor, e5, e4, e2]) ?_
      refine ev_neg (by simp) (ev_pos (by omega) ?_)
      rw [rv, if_neg hn]
      by_cases h128 : 128 ≤ (c : Int)
      · rw [if_pos h128]
        have hne : ¬ ((c &&& 128 : Nat) : Int) = 0 := by
          intro h
          have := e6.1 (by omega)
          omega
        refine ev_neg hne ?_
        have hi9 : i ≠ 9 := by
          intro h
          exact hn ⟨h, by omega⟩
        have := ih (i + 1) (acc + (c % 128) * 128 ^ i) (by omega) (by omega) (by
          rw [Nat.pow_succ]
          have : (c % 128) * 128 ^ i ≤ 127 * 128 ^ i := Nat.mul_le_mul_right _ (by omega)
          omega)
        exact this
      · rw [if_neg h128]
        have h0 : ((c &&& 128 : Nat) : Int) = 0 := by
          have := e6.2 (by omega)
          omega
        refine ev_pos h0 ?_
        have ecm : c % 128 = c := by omega
        have hrest : s.extract ((i + 1 : Nat) : Int).toNat s.size = strOfNums ((bytesOf s).drop (i + 1)) := by
          rw [Int.toNat_natCast]
          apply bytesOf_inj
          rw [bytesOf_extract, of_S (fun x hx => ok8_of s x (List.mem_of_mem_drop hx)), List.take_of_length_le (by rw [bytesOf_length]; omega)]
        by_cases hz : (c : Int) = 0
        · refine ev_pos hz ?_
          by_cases hi0 : 0 < i
          · rw [if_pos (show (c : Int) = 0 ∧ 0 < i from ⟨hz, hi0⟩)]
            exact ev_pos (by omega) (ev_const rfl)
          · rw [if_neg (show ¬ ((c : Int) = 0 ∧ 0 < i) from by omega)]
            refine ev_neg (by omega) (ev_pos (by omega) (ev_pos (by omega) (ev_const ?_)))
            rw [hrest, ecm, Int.toNat_natCast]
        · rw [if_neg (show ¬ ((c : Int) = 0 ∧ 0 < i) from by omega)]
          refine ev_neg hz (ev_pos (by omega) (ev_pos (by omega) (ev_const ?_)))
          rw [hrest, ecm, Int.toNat_natCast]
    refine Ev.step (fun k => by rw [num_number.l0, hbt]) ?_
    refine ev_neg (by omega) (ev_pos (by omega) (ev_pos (by omega) ?_))
    by_cases h9' : i = 9
    · refine ev_pos (by omega) ?_
      by_cases h1 : 1 < (c : Int)
      · rw [rv, if_pos ⟨h9', h1⟩]
        refine Ev.step (fun k => by rw [num_number.j1]) ?_
        exact ev_pos (decide_eq_true (by omega)) (ev_const rfl)
      · rw [show decide ((c : Int) > 1) = false from decide_eq_false (by omega)]
        exact hj (by omega)
    · exact ev_neg (by omega) (hj (by omega))
theorem number_ev (s : ByteArray) :
    Ev (fun k => num_number.f k s) ((rv (bytesOf s) 0 0).1, strOfNums (rv (bytesOf s) 0 0).2.1, (rv (bytesOf s) 0 0).2.2) := by
  have := number_l0 s s.size 0 0 (by omega) (by omega) (by decide)
  simpa [num_number.f] using this
theorem rv_nonneg : ∀ l i acc, 0 ≤ (rv l i acc).1
  | [], _, _ => by simp [rv]
  | c :: t, i, acc => by
    rw [rv]
    split
    · simp
    · split
      · exact rv_nonneg t _ _
      · split
        · simp
        · exact Int.natCast_nonneg _
theorem rv_ok : ∀ l i acc, ok8 l → ok8 (rv l i acc).2.1
  | [], _, _, _ => by simpa [rv] using ok8_nil
  | c :: t, i, acc, h => by
    have ht : ok8 t := fun x hx => h x (by simp [hx])
    rw [rv]
    split
    · exact ok8_nil
    · split
      · exact rv_ok t _ _ ht
      · split
        · exact ok8_nil
        · exact ht
/-! ### the reader -/
def rVar (b : List Int) (e : Int) : Int × List Int × Int := if e = 0 then (if (rv b 0 0).2.2 = 0 then ((rv b 0 0).1, (rv b 0 0).2.1, 0) else (0, b, (rv b 0 0).2.2)) else (0, b, e)
theorem rVar_ok {b : List Int} {e : Int} (h : ok8 b) : ok8 (rVar b e).2.1 := by
  unfold rVar
  split
  · split
    · exact rv_ok _ _ _ h
    · exact h
  · exact h
theorem rVar_nonneg (b : List Int) (e : Int) : 0 ≤ (rVar b e).1 := by
  unfold rVar
  split
  · split
    · exact rv_nonneg _ _ _
    · simp
  · simp
theorem off_eq (s : ByteArray) (e : Int) : num_Reader_off.f s e = some ((e != 0), s, e) := rfl
theorem Var_ev {b : List Int} (hb : ok8 b) (e : Int) : Ev (fun k => num_Reader_Var.f k (strOfNums b) e) ((rVar b e).1, strOfNums (rVar b e).2.1, (rVar b e).2.2) := by
  refine Ev.congr (fun k => by rw [num_Reader_Var.f]) (ev_call (off_eq _ _) ?_)
  unfold rVar
  by_cases he : e = 0
  · subst he
    refine ev_neg (show ¬ ((0 : Int) != 0) = true from by decide) ?_
    have hn := number_ev (strOfNums b)
    rw [of_S hb] at hn
    refine Ev.bind hn ?_
    by_cases h : (rv b 0 0).2.2 = 0
    · refine ev_pos h (ev_const ?_)
      rw [if_pos rfl, if_pos h]
    · refine ev_neg h (ev_const ?_)
      rw [if_pos rfl, if_neg h]
  · refine ev_pos (show (e != 0) = true from by rw [bne_iff_ne]; exact he) (ev_const ?_)
    rw [if_neg he]
def rCount (b : List Int) (e most : Int) : Int × List Int × Int := if (rVar b e).2.2 = 0 then (if most < 0 ∨ most < (rVar b e).1 then (0, (rVar b e).2.1, 2) else ((rVar b e).1, (rVar b e).2.1, 0)) else (0, (rVar b e).2.1, (rVar b e).2.2)
theorem rCount_ok {b : List Int} {e most : Int} (h : ok8 b) : ok8 (rCount b e most).2.1 := by
  unfold rCount
  split
  · split <;> exact rVar_ok h
  · exact rVar_ok h
theorem rCount_range (b : List Int) (e most : Int) (hm : most ≤ 9223372036854775807) : 0 ≤ (rCount b e most).1 ∧ (rCount b e most).1 ≤ 9223372036854775807 := by
  have := rVar_nonneg b e
  unfold rCount
  split
  · split
    · simp
    · simp only; omega
  · simp
theorem Count_ev {b : List Int} (hb : ok8 b) (e most : Int) (hm : -9223372036854775808 ≤ most ∧ most ≤ 9223372036854775807) : Ev (fun k => num_Reader_Count.f k (strOfNums b) e most) ((rCount b e most).1, strOfNums (rCount b e most).2.1, (rCount b e most).2.2) := by
  refine Ev.congr (fun k => by rw [num_Reader_Count.f]) (Ev.bind (Var_ev hb e) (ev_call (off_eq _ _) ?_))
  have hnn := rVar_nonneg b e
  unfold rCount
  by_cases h : (rVar b e).2.2 = 0
  · rw [if_pos h]
    refine ev_neg (by simp [h]) ?_
    by_cases h0 : most < 0
    · rw [if_pos (Or.inl h0)]
      exact ev_pos h0 (ev_const rfl)
    · refine ev_neg h0 ?_
      rw [wu64_id (by omega)]
      by_cases h1 : most < (rVar b e).1
      · rw [if_pos (Or.inr h1)]
        exact ev_pos h1 (ev_const rfl)
      · rw [if_neg (show ¬ (most < 0 ∨ most < (rVar b e).1) from by omega)]
        refine ev_neg h1 (ev_const ?_)
        rw [wrap64_id (by omega), h]
  · rw [if_neg h]
    exact ev_pos (by rw [bne_iff_ne]; exact h) (ev_const rfl)
def rTake (b : List Int) (e n : Int) : List Int × List Int × Int := if e = 0 then (if (b.length : Int) < n then ([], b, 5) else (b.take n.toNat, b.drop n.toNat, 0)) else ([], b, e)
theorem rTake_ok {b : List Int} {e n : Int} (h : ok8 b) : ok8 (rTake b e n).2.1 ∧ ok8 (rTake b e n).1 := by
  unfold rTake
  split
  · split
    · exact ⟨h, ok8_nil⟩
    · exact ⟨fun x hx => h x (List.mem_of_mem_drop hx), fun x hx => h x (List.mem_of_mem_take hx)⟩
  · exact ⟨h, ok8_nil⟩
theorem take_eq {b : List Int} (e n : Int) (hn : 0 ≤ n) : num_Reader_take.f (strOfNums b) e n = some (strOfNums (rTake b e n).1, strOfNums (rTake b e n).2.1, (rTake b e n).2.2) := by
  unfold num_Reader_take.f rTake
  rw [off_eq]
  simp only [Option.bind_some, S_size]
  by_cases he : e = 0
  · subst he
    rw [if_neg (show ¬ ((0 : Int) != 0) = true from by decide), if_pos rfl]
    by_cases h : n > (b.length : Int)
    · rw [if_pos h, if_pos h]; rfl
    · rw [if_neg h, if_neg h, if_pos hn, if_pos (by omega), S_extract, S_extract]
      simp
  · rw [if_pos (show (e != 0) = true from by rw [bne_iff_ne]; exact he), if_neg he]; rfl
def rText (b : List Int) (e most : Int) : List Int × List Int × Int := rTake (rCount b e most).2.1 (rCount b e most).2.2 (rCount b e most).1
theorem rText_ok {b : List Int} {e n : Int} (h : ok8 b) : ok8 (rText b e n).2.1 ∧ ok8 (rText b e n).1 := rTake_ok (rCount_ok h)
theorem Text_ev {b : List Int} (hb : ok8 b) (e most : Int) (hm : -9223372036854775808 ≤ most ∧ most ≤ 9223372036854775807) : Ev (fun k => num_Reader_Text.f k (strOfNums b) e most) (strOfNums (rText b e most).1, strOfNums (rText b e most).2.1, (rText b e most).2.2) := by
  refine Ev.congr (fun k => by rw [num_Reader_Text.f]) (Ev.bind (Count_ev hb e most hm) ?_)
  exact ev_call (take_eq _ _ (rCount_range b e most hm.2).1) (ev_const rfl)
def rBool (b : List Int) (e : Int) : Bool × List Int × Int := if e = 0 then (match b with | [] => (false, [], 5) | c :: t => if 1 < c then (false, c :: t, 4) else (c == 1, t, 0)) else (false, b, e)
theorem rBool_ok {b : List Int} {e : Int} (h : ok8 b) : ok8 (rBool b e).2.1 := by
  unfold rBool
  split
  · split
    · exact ok8_nil
    · split
      · exact h
      · exact fun x hx => h x (by simp [hx])
  · exact h
theorem S_toList_nil (b : List Int) : (strOfNums b).toList = ([] : List UInt8) ↔ b = [] := by rw [S_toList, List.map_eq_nil_iff]
theorem Bool_eq {b : List Int} (hb : ok8 b) (e : Int) : num_Reader_Bool.f (strOfNums b) e = some ((rBool b e).1, strOfNums (rBool b e).2.1, (rBool b e).2.2) := by
  unfold num_Reader_Bool.f rBool
  rw [off_eq]
  simp only [Option.bind_some, S_size]
  by_cases he : e = 0
  · subst he
    rw [if_neg (show ¬ ((0 : Int) != 0) = true from by decide), if_pos rfl]
    cases b with
    | nil => rw [if_pos (by rw [S_toList_nil])]
    | cons c t =>
      rw [if_neg (by rw [S_toList_nil]; simp)]
      have hbt : bt (strOfNums (c :: t)) 0 = c := by
        have := bt_S hb 0
        simpa using this
      rw [hbt, if_pos (by simp)]
      by_cases h : c > 1
      · rw [if_pos h]
        simp only
        rw [if_pos h]
      · rw [if_neg h, if_pos (by simp; omega), S_extract]
        simp only
        rw [if_neg h]
        simp
  · rw [if_pos (show (e != 0) = true from by rw [bne_iff_ne]; exact he), if_neg he]
theorem Err_eq (s : ByteArray) (e : Int) : num_Reader_Err.f s e = some (e, s, e) := rfl
theorem Left_eq (s : ByteArray) (e : Int) : num_Reader_Left.f s e = some ((s.size : Int), s, e) := rfl
theorem End_eq (b : List Int) (e : Int) : num_Reader_End.f (strOfNums b) e = some ((if e = 0 then (if b = [] then 0 else 4) else e), strOfNums b, e) := by
  unfold num_Reader_End.f
  rw [Err_eq]
  simp only [Option.bind_some]
  by_cases he : e = 0
  · rw [if_pos he, if_pos he]
    by_cases h : b = []
    · rw [if_pos ((S_toList_nil b).2 h), if_pos h]
    · rw [if_neg (fun z => h ((S_toList_nil b).1 z)), if_neg h]
  · rw [if_neg he, if_neg he]
theorem Fail_eq (s : ByteArray) (e x : Int) : num_Reader_Fail.f s e x = some (s, if e = 0 then x else e) := by
  unfold num_Reader_Fail.f
  rw [off_eq]
  simp only [Option.bind_some]
  by_cases he : e = 0
  · subst he
    rfl
  · rw [if_pos (show (e != 0) = true from by rw [bne_iff_ne]; exact he), if_neg he]
theorem New_eq (s : ByteArray) (h : s.size ≤ 281474976710656) : num_NewReader.f s = some (s, 0) := by
  unfold num_NewReader.f strings_Clone.f stringslite_Clone.f
  rw [if_pos h]
  rfl
/-! ### with an error nothing is read -/
theorem rVar_off (b : List Int) {e : Int} (h : e ≠ 0) : rVar b e = (0, b, e) := if_neg h
theorem rCount_off (b : List Int) {e : Int} (h : e ≠ 0) (most : Int) : rCount b e most = (0, b, e) := by
  unfold rCount
  rw [rVar_off b h, if_neg h]
theorem rText_off (b : List Int) {e : Int} (h : e ≠ 0) (most : Int) : rText b e most = ([], b, e) := by
  unfold rText
  rw [rCount_off b h]
  exact if_neg h
theorem rBool_off (b : List Int) {e : Int} (h : e ≠ 0) : rBool b e = (false, b, e) := if_neg h
theorem Fix_off (s : ByteArray) {e : Int} (h : e ≠ 0) (n : Int) : Ev (fun k => num_Reader_Fix.f k s e n) (0, s, e) := by
  refine Ev.congr (fun k => by rw [num_Reader_Fix.f]) (ev_call (off_eq _ _) ?_)
  exact ev_pos (by rw [bne_iff_ne]; exact h) (ev_const rfl)
end Go.Proofs.Ytkpjipfjhniddaa.PuRead
