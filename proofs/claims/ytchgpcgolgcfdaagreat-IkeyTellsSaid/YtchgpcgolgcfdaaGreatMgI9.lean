/- Texts of this claim, put together and cut down to what is used (I9). -/
import Derived.Test.YtchgpcgolgcfdaaGreatMgI7
import Derived.Test.YtchgpcgolgcfdaaGreatMgI8
import Derived.Test.YtchgpcgolgcfdaaGreatMgI6
import Derived.Test.YtchgpcgolgcfdaaGreatMgI3
section
namespace Go.Proofs.YtchgpcgolgcfdaaGreat.PuRead
open Go Go.RowKit Go.Proofs.YtchgpcgolgcfdaaGreat.PNum Go.Proofs.YtchgpcgolgcfdaaGreat.PuNum Go.Proofs.YtchgpcgolgcfdaaGreatW.PrintWords Go.Proofs.YtchgpcgolgcfdaaGreatW.PrintLast Go.Proofs.YtchgpcgolgcfdaaGreatW.PrintMore Go.Proofs.YtchgpcgolgcfdaaGreatW.Pu
def rv : List Int → Nat → Nat → Int × List Int × Int
 | [], _, _ => (0, [], 5)
 | c :: t, i, acc => if i = 9 ∧ 1 < c then (0, [], 4) else if 128 ≤ c then rv t (i + 1) (acc + (c.toNat % 128) * 128 ^ i) else if c = 0 ∧ 0 < i then (0, [], 4) else (((acc + c.toNat * 128 ^ i : Nat) : Int), t, 0)
theorem and128 : ∀ m : Fin 256, (m.val &&& 128 = 0) ↔ m.val < 128 := by decide +kernel
theorem pow128 (i : Nat) : (128 : Nat) ^ i = 2 ^ (7 * i) := by rw [Nat.pow_mul]
theorem or_group (acc c i : Nat) (hi : i ≤ 9) (ha : acc < 128 ^ i) (hc : c < 256) (h9 : i = 9 → c ≤ 1) :
  Go.bits .or .u64 (acc : Int) (shl .u64 (IntKind.u64.wrap (Go.bits .and .u8 (c : Int) 127)) (wrap64 (7 * (i : Int)))) = ((acc + (c % 128) * 128 ^ i : Nat) : Int) := by
 have e1 : Go.bits .and .u8 (c : Int) 127 = ((c % 128 : Nat) : Int) := by
  have h := and_u8 c 127 (by omega) (by decide)
  refine h.trans ?_
  rw [show (127 : Nat) = 2 ^ 7 - 1 from rfl, Nat.and_two_pow_sub_one_eq_mod]
 have e2 : wrap64 (7 * (i : Int)) = ((7 * i : Nat) : Int) := by rw [wrap64_id (by omega)]; omega
 have hp : (128 : Nat) ^ i ≤ 2 ^ 63 := by rw [pow128]; exact Nat.pow_le_pow_right (by decide) (by omega)
 have hb : (c % 128) * 128 ^ i + 128 ^ i ≤ 2 ^ 64 := by
  by_cases h : i = 9
  ·have h1 := h9 h
   have h2 : (c % 128) * 128 ^ i ≤ 1 * 128 ^ i := Nat.mul_le_mul_right _ (by omega)
   omega
  ·have hq : (128 : Nat) ^ i ≤ 2 ^ 56 := by rw [pow128]; exact Nat.pow_le_pow_right (by decide) (by omega)
   have h2 : (c % 128) * 128 ^ i ≤ 127 * 128 ^ i := Nat.mul_le_mul_right _ (by omega)
   omega
 rw [e1, e2, wu64_id (by omega)]
 have e3 : shl .u64 ((c % 128 : Nat) : Int) ((7 * i : Nat) : Int) = (((c % 128) * 128 ^ i : Nat) : Int) := by
  unfold shl
  rw [show min ((7 * i : Nat) : Int).toNat IntKind.u64.bits = 7 * i from by simp [IntKind.bits]; omega, pow128]
  have : ((c % 128 : Nat) : Int) * 2 ^ (7 * i) = (((c % 128) * 2 ^ (7 * i) : Nat) : Int) := by push_cast; rfl
  rw [this]
  rw [pow128] at hb
  have hp2 : 0 < (2 : Nat) ^ (7 * i) := Nat.pow_pos (by decide)
  exact wu64_id ⟨by omega, by omega⟩
 rw [e3]
 have hpos : 0 < (128 : Nat) ^ i := Nat.pow_pos (by decide)
 have h := or_u64 acc ((c % 128) * 128 ^ i) (by omega) (by omega)
 refine h.trans ?_
 congr 1
 rw [Nat.or_comm, Nat.add_comm, Nat.mul_comm, pow128]
 rw [pow128] at ha
 exact (Nat.two_pow_add_eq_or_of_lt ha _).symm
theorem number_l0 (s : ByteArray) (d : Nat) : ∀ (i acc : Nat), i + d = s.size → i ≤ 9 → acc < 128 ^ i →
  Ev (fun k => num_number.l0 k s (acc : Int) (i : Int)) ((rv ((bytesOf s).drop i) i acc).1, strOfNums (rv ((bytesOf s).drop i) i acc).2.1, (rv ((bytesOf s).drop i) i acc).2.2) := by
 induction d with
 | zero =>
  intro i acc hi h9 ha
  refine Ev.step (fun k => by rw [num_number.l0]) ?_
  rw [List.drop_of_length_le (by rw [bytesOf_length]; omega)]
  exact ev_pos (by omega) (ev_const rfl)
 | succ d ih =>
  intro i acc hi h9 ha
  have hlt : i < (bytesOf s).length := by rw [bytesOf_length]; omega
  have hdrop : (bytesOf s).drop i = (bytesOf s)[i] :: (bytesOf s).drop (i + 1) := List.drop_eq_getElem_cons hlt
  have hbt : bt s (i : Int) = (bytesOf s)[i] := by rw [bt_eq]; simp [List.getD_eq_getElem?_getD, List.getElem?_eq_getElem hlt]
  have hc := ok8_of s (bytesOf s)[i] (List.getElem_mem hlt)
  rw [hdrop]
  generalize (bytesOf s)[i] = c at *
  obtain ⟨c, rfl⟩ := Int.eq_ofNat_of_zero_le hc.1
  have e2 : wrap64 (7 * (i : Int)) = ((7 * i : Nat) : Int) := by rw [wrap64_id (by omega)]; omega
  have e4 : wrap64 ((i : Int) + 1) = ((i + 1 : Nat) : Int) := by rw [wrap64_id (by omega)]; omega
  have hj : ¬ (i = 9 ∧ 1 < (c : Int)) → Ev (fun k => num_number.j1 k s (acc : Int) (i : Int) (c : Int) false) ((rv ((c : Int) :: (bytesOf s).drop (i + 1)) i acc).1, strOfNums (rv ((c : Int) :: (bytesOf s).drop (i + 1)) i acc).2.1, (rv ((c : Int) :: (bytesOf s).drop (i + 1)) i acc).2.2) := by
   intro hn
   have hor := or_group acc c i h9 ha (by omega) (by omega)
   have e5 : Go.bits .and .u8 (c : Int) 128 = ((c &&& 128 : Nat) : Int) := and_u8 c 128 (by omega) (by decide)
   have e6 := and128 ⟨c, by omega⟩
   simp only at e6
   refine Ev.step (fun k => by rw [num_number.j1, hor, e5, e4, e2]) ?_
   refine ev_neg (by simp) (ev_pos (by omega) ?_)
   rw [rv, if_neg hn]
   by_cases h128 : 128 ≤ (c : Int)
   ·rw [if_pos h128]
    have hne : ¬ ((c &&& 128 : Nat) : Int) = 0 := by
     intro h
     have := e6.1 (by omega)
     omega
    refine ev_neg hne ?_
    have hi9 : i ≠ 9 := by
     intro h
     exact hn ⟨h, by omega⟩
    have := ih (i + 1) (acc + (c % 128) * 128 ^ i) (by omega) (by omega) (by
     rw [Nat.pow_succ]
     have : (c % 128) * 128 ^ i ≤ 127 * 128 ^ i := Nat.mul_le_mul_right _ (by omega)
     omega)
    exact this
   ·rw [if_neg h128]
    have h0 : ((c &&& 128 : Nat) : Int) = 0 := by
     have := e6.2 (by omega)
     omega
    refine ev_pos h0 ?_
    have ecm : c % 128 = c := by omega
    have hrest : s.extract ((i + 1 : Nat) : Int).toNat s.size = strOfNums ((bytesOf s).drop (i + 1)) := by
     rw [Int.toNat_natCast]
     apply bytesOf_inj
     rw [bytesOf_extract, of_S (fun x hx => ok8_of s x (List.mem_of_mem_drop hx)), List.take_of_length_le (by rw [bytesOf_length]; omega)]
    by_cases hz : (c : Int) = 0
    ·refine ev_pos hz ?_
     by_cases hi0 : 0 < i
     ·rw [if_pos (show (c : Int) = 0 ∧ 0 < i from ⟨hz, hi0⟩)]
      exact ev_pos (by omega) (ev_const rfl)
     ·rw [if_neg (show ¬ ((c : Int) = 0 ∧ 0 < i) from by omega)]
      refine ev_neg (by omega) (ev_pos (by omega) (ev_pos (by omega) (ev_const ?_)))
      rw [hrest, ecm, Int.toNat_natCast]
    ·rw [if_neg (show ¬ ((c : Int) = 0 ∧ 0 < i) from by omega)]
     refine ev_neg hz (ev_pos (by omega) (ev_pos (by omega) (ev_const ?_)))
     rw [hrest, ecm, Int.toNat_natCast]
  refine Ev.step (fun k => by rw [num_number.l0, hbt]) ?_
  refine ev_neg (by omega) (ev_pos (by omega) (ev_pos (by omega) ?_))
  by_cases h9' : i = 9
  ·refine ev_pos (by omega) ?_
   by_cases h1 : 1 < (c : Int)
   ·rw [rv, if_pos ⟨h9', h1⟩]
    refine Ev.step (fun k => by rw [num_number.j1]) ?_
    exact ev_pos (decide_eq_true (by omega)) (ev_const rfl)
   ·rw [show decide ((c : Int) > 1) = false from decide_eq_false (by omega)]
    exact hj (by omega)
  ·exact ev_neg (by omega) (hj (by omega))
theorem number_ev (s : ByteArray) :
  Ev (fun k => num_number.f k s) ((rv (bytesOf s) 0 0).1, strOfNums (rv (bytesOf s) 0 0).2.1, (rv (bytesOf s) 0 0).2.2) := by
 have := number_l0 s s.size 0 0 (by omega) (by omega) (by decide)
 simpa [num_number.f] using this
theorem rv_nonneg : ∀ l i acc, 0 ≤ (rv l i acc).1
 | [], _, _ => by simp [rv]
 | c :: t, i, acc => by
  rw [rv]
  split
  ·simp
  ·split
   ·exact rv_nonneg t _ _
   ·split
    ·simp
    ·exact Int.natCast_nonneg _
theorem rv_ok : ∀ l i acc, ok8 l → ok8 (rv l i acc).2.1
 | [], _, _, _ => by simpa [rv] using ok8_nil
 | c :: t, i, acc, h => by
  have ht : ok8 t := fun x hx => h x (by simp [hx])
  rw [rv]
  split
  ·exact ok8_nil
  ·split
   ·exact rv_ok t _ _ ht
   ·split
    ·exact ok8_nil
    ·exact ht
def rVar (b : List Int) (e : Int) : Int × List Int × Int := if e = 0 then (if (rv b 0 0).2.2 = 0 then ((rv b 0 0).1, (rv b 0 0).2.1, 0) else (0, b, (rv b 0 0).2.2)) else (0, b, e)
theorem rVar_ok {b : List Int} {e : Int} (h : ok8 b) : ok8 (rVar b e).2.1 := by
 unfold rVar
 split
 ·split
  ·exact rv_ok _ _ _ h
  ·exact h
 ·exact h
theorem rVar_nonneg (b : List Int) (e : Int) : 0 ≤ (rVar b e).1 := by
 unfold rVar
 split
 ·split
  ·exact rv_nonneg _ _ _
  ·simp
 ·simp
theorem off_eq (s : ByteArray) (e : Int) : num_Reader_off.f s e = some ((e != 0), s, e) := rfl
theorem Var_ev {b : List Int} (hb : ok8 b) (e : Int) : Ev (fun k => num_Reader_Var.f k (strOfNums b) e) ((rVar b e).1, strOfNums (rVar b e).2.1, (rVar b e).2.2) := by
 refine Ev.congr (fun k => by rw [num_Reader_Var.f]) (ev_call (off_eq _ _) ?_)
 unfold rVar
 by_cases he : e = 0
 ·subst he
  refine ev_neg (show ¬ ((0 : Int) != 0) = true from by decide) ?_
  have hn := number_ev (strOfNums b)
  rw [of_S hb] at hn
  refine Ev.bind hn ?_
  by_cases h : (rv b 0 0).2.2 = 0
  ·refine ev_pos h (ev_const ?_)
   rw [if_pos rfl, if_pos h]
  ·refine ev_neg h (ev_const ?_)
   rw [if_pos rfl, if_neg h]
 ·refine ev_pos (show (e != 0) = true from by rw [bne_iff_ne]; exact he) (ev_const ?_)
  rw [if_neg he]
def rCount (b : List Int) (e most : Int) : Int × List Int × Int := if (rVar b e).2.2 = 0 then (if most < 0 ∨ most < (rVar b e).1 then (0, (rVar b e).2.1, 2) else ((rVar b e).1, (rVar b e).2.1, 0)) else (0, (rVar b e).2.1, (rVar b e).2.2)
theorem rCount_ok {b : List Int} {e most : Int} (h : ok8 b) : ok8 (rCount b e most).2.1 := by
 unfold rCount
 split
 ·split <;> exact rVar_ok h
 ·exact rVar_ok h
theorem rCount_range (b : List Int) (e most : Int) (hm : most ≤ 9223372036854775807) : 0 ≤ (rCount b e most).1 ∧ (rCount b e most).1 ≤ 9223372036854775807 := by
 have := rVar_nonneg b e
 unfold rCount
 split
 ·split
  ·simp
  ·simp only; omega
 ·simp
theorem Count_ev {b : List Int} (hb : ok8 b) (e most : Int) (hm : -9223372036854775808 ≤ most ∧ most ≤ 9223372036854775807) : Ev (fun k => num_Reader_Count.f k (strOfNums b) e most) ((rCount b e most).1, strOfNums (rCount b e most).2.1, (rCount b e most).2.2) := by
 refine Ev.congr (fun k => by rw [num_Reader_Count.f]) (Ev.bind (Var_ev hb e) (ev_call (off_eq _ _) ?_))
 have hnn := rVar_nonneg b e
 unfold rCount
 by_cases h : (rVar b e).2.2 = 0
 ·rw [if_pos h]
  refine ev_neg (by simp [h]) ?_
  by_cases h0 : most < 0
  ·rw [if_pos (Or.inl h0)]
   exact ev_pos h0 (ev_const rfl)
  ·refine ev_neg h0 ?_
   rw [wu64_id (by omega)]
   by_cases h1 : most < (rVar b e).1
   ·rw [if_pos (Or.inr h1)]
    exact ev_pos h1 (ev_const rfl)
   ·rw [if_neg (show ¬ (most < 0 ∨ most < (rVar b e).1) from by omega)]
    refine ev_neg h1 (ev_const ?_)
    rw [wrap64_id (by omega), h]
 ·rw [if_neg h]
  exact ev_pos (by rw [bne_iff_ne]; exact h) (ev_const rfl)
def rTake (b : List Int) (e n : Int) : List Int × List Int × Int := if e = 0 then (if (b.length : Int) < n then ([], b, 5) else (b.take n.toNat, b.drop n.toNat, 0)) else ([], b, e)
theorem rTake_ok {b : List Int} {e n : Int} (h : ok8 b) : ok8 (rTake b e n).2.1 ∧ ok8 (rTake b e n).1 := by
 unfold rTake
 split
 ·split
  ·exact ⟨h, ok8_nil⟩
  ·exact ⟨fun x hx => h x (List.mem_of_mem_drop hx), fun x hx => h x (List.mem_of_mem_take hx)⟩
 ·exact ⟨h, ok8_nil⟩
theorem take_eq {b : List Int} (e n : Int) (hn : 0 ≤ n) : num_Reader_take.f (strOfNums b) e n = some (strOfNums (rTake b e n).1, strOfNums (rTake b e n).2.1, (rTake b e n).2.2) := by
 unfold num_Reader_take.f rTake
 rw [off_eq]
 simp only [Option.bind_some, S_size]
 by_cases he : e = 0
 ·subst he
  rw [if_neg (show ¬ ((0 : Int) != 0) = true from by decide), if_pos rfl]
  by_cases h : n > (b.length : Int)
  ·rw [if_pos h, if_pos h]; rfl
  ·rw [if_neg h, if_neg h, if_pos hn, if_pos (by omega), S_extract, S_extract]
   simp
 ·rw [if_pos (show (e != 0) = true from by rw [bne_iff_ne]; exact he), if_neg he]; rfl
def rText (b : List Int) (e most : Int) : List Int × List Int × Int := rTake (rCount b e most).2.1 (rCount b e most).2.2 (rCount b e most).1
theorem rText_ok {b : List Int} {e n : Int} (h : ok8 b) : ok8 (rText b e n).2.1 ∧ ok8 (rText b e n).1 := rTake_ok (rCount_ok h)
theorem Text_ev {b : List Int} (hb : ok8 b) (e most : Int) (hm : -9223372036854775808 ≤ most ∧ most ≤ 9223372036854775807) : Ev (fun k => num_Reader_Text.f k (strOfNums b) e most) (strOfNums (rText b e most).1, strOfNums (rText b e most).2.1, (rText b e most).2.2) := by
 refine Ev.congr (fun k => by rw [num_Reader_Text.f]) (Ev.bind (Count_ev hb e most hm) ?_)
 exact ev_call (take_eq _ _ (rCount_range b e most hm.2).1) (ev_const rfl)
theorem Err_eq (s : ByteArray) (e : Int) : num_Reader_Err.f s e = some (e, s, e) := rfl
theorem Left_eq (s : ByteArray) (e : Int) : num_Reader_Left.f s e = some ((s.size : Int), s, e) := rfl
theorem Fail_eq (s : ByteArray) (e x : Int) : num_Reader_Fail.f s e x = some (s, if e = 0 then x else e) := by
 unfold num_Reader_Fail.f
 rw [off_eq]
 simp only [Option.bind_some]
 by_cases he : e = 0
 ·subst he
  rfl
 ·rw [if_pos (show (e != 0) = true from by rw [bne_iff_ne]; exact he), if_neg he]
theorem New_eq (s : ByteArray) (h : s.size ≤ 281474976710656) : num_NewReader.f s = some (s, 0) := by
 unfold num_NewReader.f strings_Clone.f stringslite_Clone.f
 rw [if_pos h]
 rfl
end Go.Proofs.YtchgpcgolgcfdaaGreat.PuRead
end
section
namespace Go.Proofs.YtchgpcgolgcfdaaGreat.PuNum2
open Go Go.RowKit Go.Proofs.YtchgpcgolgcfdaaGreat.PNum Go.Proofs.YtchgpcgolgcfdaaGreat.PuNum Go.Proofs.YtchgpcgolgcfdaaGreat.PuRead Go.Proofs.YtchgpcgolgcfdaaGreatW.PrintWords Go.Proofs.YtchgpcgolgcfdaaGreatW.PrintLast Go.Proofs.YtchgpcgolgcfdaaGreatW.PrintMore Go.Proofs.YtchgpcgolgcfdaaGreatW.Pu
def tx (l : List ByteArray) : List Int := l.flatMap fun s => vb s.size ++ bytesOf s
theorem tx_cons (s : ByteArray) (l : List ByteArray) : tx (s :: l) = (vb s.size ++ bytesOf s) ++ tx l := rfl
def room (l : List ByteArray) : Nat := (l.map fun s => s.size + 10).sum
theorem Text_go (l : List ByteArray) : ∀ (acc : ByteArray), acc.size + room l < 140737488355328 → Ev (fun k => num_Text.go k l acc) (acc ++ strOfNums (tx l)) := by
 induction l with
 | nil =>
  intro acc _
  refine ev_const ?_
  simp only [tx, List.flatMap_nil, S_nil]
  exact congrArg some (ByteArray.ext (by simp [ByteArray.data_append]))
 | cons s l ih =>
  intro acc h
  have e : room (s :: l) = s.size + 10 + room l := rfl
  rw [e] at h
  have h1 := vb_len10 (n := s.size) (by omega)
  have hv := Var_ev (l := [(s.size : Int)]) (by intro x hx; simp at hx; omega) (by simp)
  have ev : vbs [(s.size : Int)] = vb s.size := by simp [vbs]
  rw [ev] at hv
  refine Ev.congr (fun k => by rw [num_Text.go]) (Ev.bind hv (ev_pos ?_ ?_))
  ·rw [S_size]
   omega
  have := ih (acc ++ (strOfNums (vb s.size) ++ s)) (by rw [ByteArray.size_append, ByteArray.size_append, S_size]; omega)
  rw [tx_cons, ← S_append, ← S_append, S_of]
  rw [ByteArray.append_assoc] at this
  exact this
theorem room_mem {l : List ByteArray} {s : ByteArray} (h : s ∈ l) : s.size + 10 ≤ room l := by
 induction l with
 | nil => simp at h
 | cons x l ih =>
  have e : room (x :: l) = x.size + 10 + room l := rfl
  rcases List.mem_cons.1 h with rfl | h
  ·omega
  ·have := ih h
   omega
theorem Text_ev (l : List ByteArray) (h : room l < 140737488355328) : Ev (fun k => num_Text.f k l) (strOfNums (tx l)) := by
 have hs : ∀ s ∈ l, s.size ≤ 140737488355328 := by
  intro s hs
  have := room_mem hs
  omega
 have := Text_go l ⟨#[]⟩ (by show 0 + room l < _; omega)
 refine Ev.congr (fun k => by rw [num_Text.f, if_pos hs]) ?_
 have e : (⟨#[]⟩ : ByteArray) ++ strOfNums (tx l) = strOfNums (tx l) := ByteArray.ext (by simp [ByteArray.data_append])
 rw [e] at this
 exact this
def B (xs : List Int) : List UInt8 := xs.map fun n => UInt8.ofNat n.toNat
end Go.Proofs.YtchgpcgolgcfdaaGreat.PuNum2
end
section
namespace Go.Proofs.YtchgpcgolgcfdaaGreat.PuIk
open Go Go.RowKit Go.Proofs.YtchgpcgolgcfdaaGreat.PNum Go.Proofs.YtchgpcgolgcfdaaGreat.PuNum Go.Proofs.YtchgpcgolgcfdaaGreat.PuRead Go.Proofs.YtchgpcgolgcfdaaGreat.PuNum2 Go.Proofs.YtchgpcgolgcfdaaGreatW.PrintWords Go.Proofs.YtchgpcgolgcfdaaGreatW.PrintLast Go.Proofs.YtchgpcgolgcfdaaGreatW.PrintMore Go.Proofs.YtchgpcgolgcfdaaGreatW.Pu
theorem cl_range : ∀ a b : List UInt8, Lib.compareBytes a b = -1 ∨ Lib.compareBytes a b = 0 ∨ Lib.compareBytes a b = 1
 | [], [] => .inr (.inl rfl)
 | [], _ :: _ => .inl rfl
 | _ :: _, [] => .inr (.inr rfl)
 | a :: xs, b :: ys => by
  rw [Lib.compareBytes]
  split
  ·exact .inl rfl
  ·split
   ·exact .inr (.inr rfl)
   ·exact cl_range xs ys
theorem cl_neg : ∀ a b : List UInt8, Lib.compareBytes a b = -Lib.compareBytes b a
 | [], [] => rfl
 | [], _ :: _ => rfl
 | _ :: _, [] => rfl
 | a :: xs, b :: ys => by
  rw [Lib.compareBytes, Lib.compareBytes, cl_neg xs ys]
  by_cases h : a < b
  ·rw [if_pos h, if_neg (fun k => UInt8.lt_asymm h k), if_pos h]
  ·by_cases k : b < a
   ·rw [if_neg h, if_pos k, if_pos k]; rfl
   ·rw [if_neg h, if_neg k, if_neg k, if_neg h]
theorem cl_zero : ∀ a b : List UInt8, Lib.compareBytes a b = 0 ↔ a = b
 | [], [] => by simp [Lib.compareBytes]
 | [], _ :: _ => by simp [Lib.compareBytes]
 | _ :: _, [] => by simp [Lib.compareBytes]
 | a :: xs, b :: ys => by
  rw [Lib.compareBytes]
  by_cases h : a < b
  ·rw [if_pos h]
   simp only [List.cons.injEq]
   exact ⟨fun k => by omega, fun k => absurd (k.1 ▸ h) (UInt8.lt_irrefl _)⟩
  ·by_cases k : b < a
   ·rw [if_neg h, if_pos k]
    simp only [List.cons.injEq]
    exact ⟨fun k => by omega, fun q => absurd (q.1 ▸ k) (UInt8.lt_irrefl _)⟩
   ·rw [if_neg h, if_neg k, cl_zero xs ys, List.cons.injEq]
    have : a = b := UInt8.le_antisymm (UInt8.not_lt.1 k) (UInt8.not_lt.1 h)
    simp [this]
theorem cl_trans : ∀ a b c : List UInt8, Lib.compareBytes a b = -1 → Lib.compareBytes b c = -1 → Lib.compareBytes a c = -1
 | [], _, [] => fun h k => by
  rename_i b
  cases b with
  | nil => cases h
  | cons => cases k
 | [], _, _ :: _ => fun _ _ => rfl
 | _ :: _, [], _ => fun h _ => by cases h
 | _ :: _, _ :: _, [] => fun _ h => by cases h
 | a :: xs, b :: ys, c :: zs => by
  intro h k
  rw [Lib.compareBytes] at h k ⊢
  by_cases h1 : a < b
  ·by_cases k1 : b < c
   ·rw [if_pos (UInt8.lt_trans h1 k1)]
   ·rw [if_neg k1] at k
    by_cases k2 : c < b
    ·rw [if_pos k2] at k; cases k
    ·have : b = c := UInt8.le_antisymm (UInt8.not_lt.1 k2) (UInt8.not_lt.1 k1)
     rw [if_pos (this ▸ h1)]
  ·rw [if_neg h1] at h
   by_cases h2 : b < a
   ·rw [if_pos h2] at h; cases h
   ·rw [if_neg h2] at h
    have hab : a = b := UInt8.le_antisymm (UInt8.not_lt.1 h2) (UInt8.not_lt.1 h1)
    subst hab
    by_cases k1 : a < c
    ·rw [if_pos k1]
    ·rw [if_neg k1] at k ⊢
     by_cases k2 : c < a
     ·rw [if_pos k2] at k; cases k
     ·rw [if_neg k2] at k ⊢
      exact cl_trans xs ys zs h k
def cb (a b : ByteArray) : Int := Lib.compareBytes a.data.toList b.data.toList
theorem ba_ext {a b : ByteArray} : a.data.toList = b.data.toList ↔ a = b := by
 refine ⟨fun h => ?_, fun h => by rw [h]⟩
 cases a; cases b
 simp only [ByteArray.mk.injEq]
 exact Array.toList_inj.1 h
theorem tl_ext {a b : ByteArray} : a.toList = b.toList ↔ a = b := by rw [toList_data, toList_data, ba_ext]
theorem tl_beq (a b : ByteArray) : (a.toList == b.toList) = decide (a = b) := by
 by_cases h : a = b
 ·subst h; simp
 ·rw [decide_eq_false h, beq_eq_false_iff_ne]
  exact fun k => h (tl_ext.1 k)
def cs (x y : Int) : Int := if x < y then -1 else if x > y then 1 else 0
def ce (a b : S32) : Int := if cb a.f0 b.f0 = 0 then cs b.f1 a.f1 else cb a.f0 b.f0
theorem cs_range (x y : Int) : cs x y = -1 ∨ cs x y = 0 ∨ cs x y = 1 := by
 unfold cs
 split
 ·exact .inl rfl
 ·split
  ·exact .inr (.inr rfl)
  ·exact .inr (.inl rfl)
theorem cmp_u64 (x y : Int) : cmp_Compare_uint64.f x y = some (cs x y) := by
 simp only [cmp_Compare_uint64.f, cmp_isNaN_uint64.f, Option.bind_some, bne_self_eq_false]
 rw [if_neg (by simp), if_neg (by simp)]
 unfold cs
 split
 ·rfl
 ·split <;> rfl
theorem Or_ev (x y : Int) : Ev (fun k => cmp_Or_int.f k [x, y]) (if x = 0 then y else x) := by
 refine Ev.congr (fun k => by rw [cmp_Or_int.f]) (Ev.step (fun k => by rw [cmp_Or_int.l0]) ?_)
 refine ev_pos (show (0 : Int) < (([x, y] : List Int).length : Int) by simp) (ev_pos (by omega) (ev_pos (show (0 : Int) < (([x, y] : List Int).length : Int) by simp) ?_))
 rw [show rd [x, y] 0 = x from rfl]
 by_cases h : x = 0
 ·rw [if_pos h]
  refine ev_pos h ?_
  rw [show wrap64 (0 + 1) = 1 from wrap64_id (by omega)]
  refine Ev.step (fun k => by rw [cmp_Or_int.l0]) ?_
  refine ev_pos (show (1 : Int) < (([x, y] : List Int).length : Int) by simp) (ev_pos (by omega) (ev_pos (show (1 : Int) < (([x, y] : List Int).length : Int) by simp) ?_))
  rw [show rd [x, y] 1 = y from rfl]
  by_cases k : y = 0
  ·refine ev_pos k ?_
   rw [show wrap64 (1 + 1) = 2 from wrap64_id (by omega)]
   refine Ev.step (fun k => by rw [cmp_Or_int.l0]) (ev_neg (show ¬ (2 : Int) < (([x, y] : List Int).length : Int) by simp) (ev_const ?_))
   rw [k]
  ·exact ev_neg k (ev_const rfl)
 ·rw [if_neg h]
  exact ev_neg h (ev_const rfl)
theorem Compare_ev (a b : S32) : Ev (fun k => ikey_Compare.f k a.f0 a.f1 a.f2 a.f3 b.f0 b.f1 b.f2 b.f3) (ce a b) := by
 refine Ev.congr (fun k => by rw [ikey_Compare.f]) (ev_call (show strings_Compare.f a.f0 b.f0 = some (cb a.f0 b.f0) from rfl) (ev_call (cmp_u64 b.f1 a.f1) (Ev.bind (Or_ev _ _) (ev_const rfl))))
theorem ce_range (a b : S32) : ce a b = -1 ∨ ce a b = 0 ∨ ce a b = 1 := by
 unfold ce
 split
 ·exact cs_range _ _
 ·exact cl_range _ _
theorem cb_neg (a b : ByteArray) : cb a b = - cb b a := cl_neg _ _
theorem cb_zero (a b : ByteArray) : cb a b = 0 ↔ a = b := (cl_zero _ _).trans ba_ext
theorem ce_trans {a b c : S32} (h : ce a b = -1) (k : ce b c = -1) : ce a c = -1 := by
 unfold ce at *
 by_cases h0 : cb a.f0 b.f0 = 0
 ·rw [if_pos h0] at h
  have e := (cb_zero _ _).1 h0
  rw [e]
  by_cases k0 : cb b.f0 c.f0 = 0
  ·rw [if_pos k0] at k ⊢
   unfold cs at *
   rw [if_pos]
   split at h
   ·split at k
    ·omega
    ·split at k <;> cases k
   ·split at h <;> cases h
  ·rw [if_neg k0] at k ⊢
   exact k
 ·rw [if_neg h0] at h
  by_cases k0 : cb b.f0 c.f0 = 0
  ·have e := (cb_zero _ _).1 k0
   rw [← e, if_neg h0]
   exact h
  ·rw [if_neg k0] at k
   have : cb a.f0 c.f0 = -1 := cl_trans _ _ _ h k
   rw [if_neg (by omega)]
   exact this
def valid (a0 : ByteArray) (a2 : Int) (a3 : ByteArray) : Bool := decide ((a0.size : Int) ≤ 300 ∧ (a3.size : Int) ≤ 60000 ∧ if a2 = 2 then a3 = ⟨#[]⟩ else a2 = 1)
theorem nil_toList : (⟨#[]⟩ : ByteArray).toList = [] := by rw [toList_data]
theorem Valid_ev (a0 : ByteArray) (a1 a2 : Int) (a3 : ByteArray) : Ev (fun k => ikey_Valid.f k a0 a1 a2 a3) (valid a0 a2 a3) := by
 refine Ev.congr (fun k => by rw [ikey_Valid.f]) ?_
 have hn : ∀ {b : Bool}, valid a0 a2 a3 = false → b = true → Ev (fun k => ikey_Valid.j0 k b a0 a1 a2 a3) (valid a0 a2 a3) := by
  intro b h hb
  subst hb
  exact Ev.step (fun k => by rw [ikey_Valid.j0]) (ev_pos rfl (ev_const (by rw [h])))
 by_cases h : (a0.size : Int) > 300
 ·refine ev_pos h (hn ?_ rfl)
  unfold valid
  exact decide_eq_false (fun k => by omega)
 ·refine ev_neg h ?_
  by_cases k : (a3.size : Int) > 60000
  ·refine hn ?_ (decide_eq_true k)
   unfold valid
   exact decide_eq_false (fun q => by omega)
  ·rw [decide_eq_false k]
   refine Ev.step (fun k => by rw [ikey_Valid.j0]) (ev_neg (by simp) ?_)
   unfold valid
   by_cases q : a2 = 2
   ·refine ev_pos q (ev_const ?_)
    have hb := tl_beq a3 ⟨#[]⟩
    rw [nil_toList] at hb
    rw [hb]
    refine congrArg some (decide_eq_decide.2 ?_)
    rw [if_pos q]
    exact ⟨fun x => ⟨by omega, by omega, x⟩, fun x => x.2.2⟩
   ·refine ev_neg q (ev_const ?_)
    refine congrArg some ((decide_eq_decide (p := a2 = 1)).2 ?_)
    rw [if_neg q]
    exact ⟨fun x => ⟨by omega, by omega, x⟩, fun x => x.2.2⟩
def pick (key : ByteArray) (q : Int) : List S32 → S32 → Bool → S32 × Bool
 | [], b, f => (b, f)
 | e :: l, b, f => if e.f0 = key ∧ e.f1 ≤ q ∧ (f = true → e.f1 > b.f1) then pick key q l e true else pick key q l b f
theorem at_nat (l : List S32) (i : Nat) (h : i < l.length) : rd_T32 l (i : Int) = l[i] := by
 simp [rd_T32, h]
theorem Pick_l0 (key : ByteArray) (q : Int) (l : List S32) (hl : l.length ≤ 9223372036854775806) (d : Nat) : ∀ (i : Nat) (b : S32) (f : Bool), i + d = l.length →
  Ev (fun k => ikey_Pick.l0 k key q f l (l.length : Int) (i : Int) b.f0 b.f1 b.f2 b.f3) ((pick key q (l.drop i) b f).1.f0, (pick key q (l.drop i) b f).1.f1, (pick key q (l.drop i) b f).1.f2, (pick key q (l.drop i) b f).1.f3, (pick key q (l.drop i) b f).2) := by
 induction d with
 | zero =>
  intro i b f h
  rw [List.drop_of_length_le (by omega)]
  refine Ev.step (fun k => by rw [ikey_Pick.l0]) ?_
  exact ev_neg (show ¬ (i : Int) < (l.length : Int) by omega) (ev_const rfl)
 | succ d ih =>
  intro i b f h
  have hlt : i < l.length := by omega
  have hd : l.drop i = l[i] :: l.drop (i + 1) := List.drop_eq_getElem_cons hlt
  have hw : wrap64 ((i : Int) + 1) = ((i + 1 : Nat) : Int) := by rw [wrap64_id (by omega)]; omega
  rw [hd, pick]
  refine Ev.step (fun k => by rw [ikey_Pick.l0, at_nat l i hlt, hw]) (ev_pos (by omega) (ev_pos (by omega) (ev_pos (by omega) ?_)))
  by_cases h1 : l[i].f0 = key
  ·refine ev_pos (tl_ext.2 h1) ?_
   by_cases h2 : l[i].f1 ≤ q
   ·refine ev_pos h2 ?_
    cases f with
    | false =>
     refine ev_neg (by simp) ?_
     rw [if_pos ⟨h1, h2, by simp⟩]
     exact ih (i + 1) l[i] true (by omega)
    | true =>
     refine ev_pos rfl ?_
     by_cases h3 : l[i].f1 > b.f1
     ·refine ev_pos h3 ?_
      rw [if_pos ⟨h1, h2, fun _ => h3⟩]
      exact ih (i + 1) l[i] true (by omega)
     ·refine ev_neg h3 ?_
      rw [if_neg (fun k => h3 (k.2.2 rfl))]
      exact ih (i + 1) b true (by omega)
   ·refine ev_neg h2 ?_
    rw [if_neg (fun k => h2 k.2.1)]
    exact ih (i + 1) b f (by omega)
  ·refine ev_neg (fun k => h1 (tl_ext.1 k)) ?_
   rw [if_neg (fun k => h1 k.1)]
   exact ih (i + 1) b f (by omega)
def z0 : S32 := ⟨⟨#[]⟩, 0, 0, ⟨#[]⟩⟩
theorem Pick_ev (key : ByteArray) (q : Int) (l : List S32) (hl : l.length ≤ 9223372036854775806) :
  Ev (fun k => ikey_Pick.f k l key q) ((pick key q l z0 false).1.f0, (pick key q l z0 false).1.f1, (pick key q l z0 false).1.f2, (pick key q l z0 false).1.f3, (pick key q l z0 false).2) := by
 have := Pick_l0 key q l hl l.length 0 z0 false (by omega)
 simpa [ikey_Pick.f, z0] using this
def e5 : S32 := ⟨⟨#[97]⟩, 5, 1, ⟨#[]⟩⟩
def e3 : S32 := ⟨⟨#[97]⟩, 3, 1, ⟨#[]⟩⟩
def e1 : S32 := ⟨⟨#[97]⟩, 1, 1, ⟨#[]⟩⟩
theorem first_shadow : ikey_Shadow.f [e5, e3, e1] [4] = some [e5, e3] := by
 have hw : (Lit.int .u64 4).wf = true := by decide
 simp [ikey_Shadow.f, ikey_Shadow.go, ikey_Shadow.inn, ikey_Shadow.first, e5, e3, e1, hw]
theorem first_pick : pick ⟨#[97]⟩ 4 [e5, e3, e1] z0 false = (e3, true) := by
 simp [pick, e5, e3, e1]
theorem alive_ev : Ev (fun k => cornucopialaw5_alive.f k) true := by
 have hp := Pick_ev ⟨#[97]⟩ 4 [e5, e3, e1] (by simp)
 rw [first_pick] at hp
 have hc := Compare_ev e5 e3
 have hce : ce e5 e3 = -1 := by
  unfold ce
  rw [if_pos ((cb_zero e5.f0 e3.f0).2 rfl)]
  decide
 rw [hce] at hc
 have v1 := Valid_ev e5.f0 e5.f1 e5.f2 e5.f3
 rw [show valid e5.f0 e5.f2 e5.f3 = true from by unfold valid e5; exact decide_eq_true ⟨by decide, by decide, by simp⟩] at v1
 have v2 := Valid_ev ⟨#[97]⟩ 0 0 ⟨#[]⟩
 rw [show valid ⟨#[97]⟩ 0 ⟨#[]⟩ = false from by unfold valid; exact decide_eq_false (fun h => by simp at h)] at v2
 refine Ev.congr (fun k => by rw [cornucopialaw5_alive.f]) ?_
 refine ev_some (x := [e5, e3, e1]) ?_
 refine ev_call first_shadow ?_
 refine Ev.bind hp ?_
 refine ev_pos rfl (ev_pos (by decide) (ev_pos rfl (ev_pos rfl (ev_pos rfl (ev_pos (by decide) (ev_pos (by decide) (Ev.bind hc (ev_pos rfl (Ev.bind v1 (ev_pos rfl (Ev.bind v2 (ev_const rfl))))))))))))
theorem Room_ev (r a b : Int) (hr : -1 ≤ r ∧ r ≤ 20000) (ha : 0 ≤ a ∧ a ≤ 9223372036854775807) (hb : 0 ≤ b ∧ b ≤ 9223372036854775807) : ∃ q, Ev (fun k => cornucopiabook_Room.f k r [a, b]) q ∧ -1 ≤ q ∧ q ≤ 20000 := by
 have fin : ∀ q, (h : Ev (fun k => cornucopiabook_Room.l0 k r [a, b] 0) q) → Ev (fun k => cornucopiabook_Room.f k r [a, b]) q := fun q h => Ev.congr (fun k => by rw [cornucopiabook_Room.f]) h
 have l2 : (([a, b] : List Int).length : Int) = 2 := rfl
 by_cases h0 : r < 0
 ·exact ⟨-1, fin _ (Ev.step (fun k => by rw [cornucopiabook_Room.l0, l2]) (ev_pos (by omega) (ev_pos h0 (ev_const rfl)))), by omega, by omega⟩
 by_cases h1 : a > r
 ·exact ⟨-1, fin _ (Ev.step (fun k => by rw [cornucopiabook_Room.l0, l2, show rd [a, b] 0 = a from rfl]) (ev_pos (by omega) (ev_neg h0 (ev_pos (by omega) (ev_pos h1 (ev_const rfl)))))), by omega, by omega⟩
 have s1 : wrap64 (r - a) = r - a := wrap64_id (by omega)
 have s2 : wrap64 ((0 : Int) + 1) = 1 := wrap64_id (by omega)
 have s3 : wrap64 ((1 : Int) + 1) = 2 := wrap64_id (by omega)
 have f1 : ∀ q, (h : Ev (fun k => cornucopiabook_Room.l0 k (r - a) [a, b] 1) q) → Ev (fun k => cornucopiabook_Room.f k r [a, b]) q := fun q h =>
  fin _ (Ev.step (fun k => by rw [cornucopiabook_Room.l0, l2, show rd [a, b] 0 = a from rfl, s1, s2]) (ev_pos (by omega) (ev_neg h0 (ev_pos (by omega) (ev_neg h1 h)))))
 by_cases h2 : b > r - a
 ·exact ⟨-1, f1 _ (Ev.step (fun k => by rw [cornucopiabook_Room.l0, l2, show rd [a, b] 1 = b from rfl]) (ev_pos (by omega) (ev_neg (by omega) (ev_pos (by omega) (ev_pos h2 (ev_const rfl)))))), by omega, by omega⟩
 ·have s4 : wrap64 (r - a - b) = r - a - b := wrap64_id (by omega)
  exact ⟨r - a - b, f1 _ (Ev.step (fun k => by rw [cornucopiabook_Room.l0, l2, show rd [a, b] 1 = b from rfl, s3, s4]) (ev_pos (by omega) (ev_neg (by omega) (ev_pos (by omega) (ev_neg h2 (Ev.step (fun k => by rw [cornucopiabook_Room.l0, l2]) (ev_neg (by omega) (ev_const rfl)))))))), by omega, by omega⟩
end Go.Proofs.YtchgpcgolgcfdaaGreat.PuIk
end
section
namespace Go.Proofs.YtchgpcgolgcfdaaGreat.PuIkB
open Go Go.RowKit Go.Proofs.YtchgpcgolgcfdaaGreat.PNum Go.Proofs.YtchgpcgolgcfdaaGreat.PuNum Go.Proofs.YtchgpcgolgcfdaaGreat.PuRead Go.Proofs.YtchgpcgolgcfdaaGreat.PuNum2 Go.Proofs.YtchgpcgolgcfdaaGreat.PuIk Go.Proofs.YtchgpcgolgcfdaaGreatW.PrintWords Go.Proofs.YtchgpcgolgcfdaaGreatW.PrintLast Go.Proofs.YtchgpcgolgcfdaaGreatW.PrintMore Go.Proofs.YtchgpcgolgcfdaaGreatW.Pu
theorem Small_l0 (l : List S32) (hs : ∀ e ∈ l, e.f0.size ≤ 140737488351232 ∧ e.f3.size ≤ 140737488351232) (d : Nat) : ∀ (i : Nat) (r : Int), i + d = 400 → -1 ≤ r → r ≤ 20000 →
  ∃ b, Ev (fun k => cornucopialaw5_Small.l0 k l r (i : Int)) b ∧ (b = true → l.length ≤ 150) := by
 have leaf : ∀ (i : Nat) (r : Int), ∃ b, Ev (fun _ : Nat => if (l.length : Int) ≤ 150 then (some (decide (r ≥ 0))) else (some false)) b ∧ (b = true → l.length ≤ 150) := by
  intro i r
  by_cases h : (l.length : Int) ≤ 150
  ·exact ⟨decide (r ≥ 0), ev_pos h (ev_const rfl), fun _ => by omega⟩
  ·exact ⟨false, ev_neg h (ev_const rfl), fun k => by cases k⟩
 induction d with
 | zero =>
  intro i r hi h0 h1
  obtain ⟨b, hb, hl⟩ := leaf i r
  refine ⟨b, Ev.step (fun k => by rw [cornucopialaw5_Small.l0]) ?_, hl⟩
  by_cases h : (i : Int) < (l.length : Int)
  ·exact ev_pos h (ev_neg (by omega) hb)
  ·exact ev_neg h hb
 | succ d ih =>
  intro i r hi h0 h1
  by_cases h : (i : Int) < (l.length : Int)
  ·by_cases hr : r ≥ 0
   ·have hlt : i < l.length := by omega
    have hsz := hs l[i] (List.getElem_mem hlt)
    obtain ⟨q, hq, q0, q1⟩ := Room_ev r (l[i].f0.size : Int) (l[i].f3.size : Int) ⟨h0, h1⟩ ⟨by omega, by omega⟩ ⟨by omega, by omega⟩
    obtain ⟨b, hb, hl⟩ := ih (i + 1) q (by omega) q0 q1
    refine ⟨b, Ev.step (fun k => by rw [cornucopialaw5_Small.l0, at_nat l i hlt]) (ev_pos h (ev_pos (by omega) (ev_pos hr (ev_pos (by omega) (Ev.bind hq ?_))))), hl⟩
    rw [wrap64_id (by omega), show ((i : Int) + 1) = ((i + 1 : Nat) : Int) from by omega]
    exact hb
   ·obtain ⟨b, hb, hl⟩ := leaf i r
    exact ⟨b, Ev.step (fun k => by rw [cornucopialaw5_Small.l0]) (ev_pos h (ev_pos (by omega) (ev_neg hr hb))), hl⟩
  ·obtain ⟨b, hb, hl⟩ := leaf i r
   exact ⟨b, Ev.step (fun k => by rw [cornucopialaw5_Small.l0]) (ev_neg h hb), hl⟩
theorem Small_ev (l : List S32) (hs : ∀ e ∈ l, e.f0.size ≤ 140737488351232 ∧ e.f3.size ≤ 140737488351232) : ∃ b, Ev (fun k => cornucopialaw5_Small.f k l) b ∧ (b = true → l.length ≤ 150) := by
 obtain ⟨b, hb, hl⟩ := Small_l0 l hs 400 0 20000 (by omega) (by omega) (by omega)
 exact ⟨b, Ev.congr (fun k => by rw [cornucopialaw5_Small.f]; rfl) hb, hl⟩
theorem valid_sizes {a0 : ByteArray} {a2 : Int} {a3 : ByteArray} (h : valid a0 a2 a3 = true) : (a0.size : Int) ≤ 300 ∧ (a3.size : Int) ≤ 60000 ∧ (a2 = 2 ∨ a2 = 1) := by
 unfold valid at h
 have h := of_decide_eq_true h
 refine ⟨h.1, h.2.1, ?_⟩
 by_cases k : a2 = 2
 ·exact .inl k
 ·have := h.2.2
  rw [if_neg k] at this
  exact .inr this
def pb (a0 : ByteArray) (a1 a2 : Int) (a3 : ByteArray) : List Int := (vb a0.size ++ bytesOf a0) ++ (vb a1.toNat ++ (vb a2.toNat ++ ((vb a3.size ++ bytesOf a3) ++ [])))
theorem pb_len {a0 : ByteArray} {a1 a2 : Int} {a3 : ByteArray} (h1 : a1 ≤ 18446744073709551615) (h : valid a0 a2 a3 = true) : (pb a0 a1 a2 a3).length ≤ 70000 := by
 have hv := valid_sizes h
 have n1 := vb_len10 (n := a0.size) (by omega)
 have n2 := vb_len10 (n := a1.toNat) (by omega)
 have n3 := vb_len10 (n := a2.toNat) (by omega)
 have n4 := vb_len10 (n := a3.size) (by omega)
 have b0 := bytesOf_length a0
 have b3 := bytesOf_length a3
 unfold pb
 simp only [List.length_append, List.length_nil]
 omega
theorem Put_ev (a0 : ByteArray) (a1 a2 : Int) (a3 : ByteArray) (h0 : 0 ≤ a1) (h1 : a1 ≤ 18446744073709551615) : Ev (fun k => ikey_Put.f k a0 a1 a2 a3) (if valid a0 a2 a3 = true then (strOfNums (pb a0 a1 a2 a3), 0) else (⟨#[]⟩, 1)) := by
 refine Ev.congr (fun k => by rw [ikey_Put.f]) (Ev.bind (Valid_ev a0 a1 a2 a3) ?_)
 by_cases h : valid a0 a2 a3 = true
 ·rw [if_pos h]
  refine ev_pos h ?_
  have hv := valid_sizes h
  have hw : IntKind.u64.wrap a2 = a2 := wu64_id (by omega)
  have hl := pb_len h1 h
  have t0 := PuNum2.Text_ev [a0] (by show a0.size + 10 + 0 < _; omega)
  have t3 := PuNum2.Text_ev [a3] (by show a3.size + 10 + 0 < _; omega)
  have hvv := PuNum.Var_ev (l := [a1, a2]) (by intro x hx; simp at hx; omega) (by simp)
  rw [hw]
  have e0 : tx [a0] = vb a0.size ++ bytesOf a0 := by simp [tx]
  have e3 : tx [a3] = vb a3.size ++ bytesOf a3 := by simp [tx]
  have e1 : vbs [a1, a2] = vb a1.toNat ++ vb a2.toNat := by simp [vbs]
  rw [e0] at t0
  rw [e3] at t3
  rw [e1] at hvv
  have hpb : pb a0 a1 a2 a3 = ((vb a0.size ++ bytesOf a0) ++ (vb a1.toNat ++ vb a2.toNat)) ++ (vb a3.size ++ bytesOf a3) := by simp [pb]
  have hl2 := hl
  rw [hpb, List.length_append] at hl2
  refine Ev.bind t0 (Ev.bind hvv (ev_pos ?_ (Ev.bind t3 (ev_pos ?_ (ev_const ?_)))))
  ·rw [S_size, S_size, ← List.length_append]; omega
  ·rw [S_append, S_size, S_size]; omega
  ·rw [S_append, S_append, hpb]
 ·rw [if_neg h]
  exact ev_neg h (ev_const rfl)
theorem Clone_eq (s : ByteArray) (h : s.size ≤ 281474976710656) : strings_Clone.f s = some s := by
 simp [strings_Clone.f, stringslite_Clone.f, h]
end Go.Proofs.YtchgpcgolgcfdaaGreat.PuIkB
end
section
namespace Go.Proofs.YtchgpcgolgcfdaaGreat.PNum
open Go.RowKit Go.Proofs.YtchgpcgolgcfdaaGreatW.PrintWords Go.Proofs.YtchgpcgolgcfdaaGreatW.PrintLast Go.Proofs.YtchgpcgolgcfdaaGreatW.PrintMore
attribute [local go_sem] max2_int min2_int max_two min_two max_three min_three max_four min_four   -- for this text's walks alone
set_option linter.unusedVariables false
set_option linter.unusedSimpArgs false
def cornucopialaw5_Ordered.l0 : Nat → List (S32) → Int → Option (Bool)
 | 0, _, _ => none
 | k + 1, x0, x3 => if x3 < (x0.length : Int) then (if 0 ≤ (wrap64 (x3 - 1)) then (if (wrap64 (x3 - 1)) < (x0.length : Int) then (if 0 ≤ x3 then ((cornucopiaref5_Compare.f k ((rd_T32 x0 (wrap64 (x3 - 1))).f0) ((rd_T32 x0 (wrap64 (x3 - 1))).f1) ((rd_T32 x0 (wrap64 (x3 - 1))).f2) ((rd_T32 x0 (wrap64 (x3 - 1))).f3) ((rd_T32 x0 x3).f0) ((rd_T32 x0 x3).f1) ((rd_T32 x0 x3).f2) ((rd_T32 x0 x3).f3)).bind fun t382 => (if t382 ≥ 0 then (some false) else (cornucopialaw5_Ordered.l0 k x0 (wrap64 (x3 + 1))))) else (none)) else (none)) else (none)) else (some true)
def cornucopialaw5_Ordered.f (k : Nat) (l0 : List (S32)) : Option (Bool) := cornucopialaw5_Ordered.l0 k l0 1
theorem cornucopialaw5_Ordered.mono_l : ∀ k, (∀ y0 y1, LeO (cornucopialaw5_Ordered.l0 k y0 y1) (cornucopialaw5_Ordered.l0 (k + 1) y0 y1))
 | 0 => fun _ _ r h => by simp [cornucopialaw5_Ordered.l0] at h
 | k + 1 => by
  have ih0 := cornucopialaw5_Ordered.mono_l k
  ·intro y0 y1
   unfold cornucopialaw5_Ordered.l0
   repeat' first
   | (with_reducible exact ih0 _ _)
   | (with_reducible exact cornucopiaref5_Compare.mono _ _ _ _ _ _ _ _ _)
   | (with_reducible exact LeO.refl _)
   | (with_reducible exact LeO.none _)
   | (with_reducible refine LeO.ite ?_ ?_)
   | (with_reducible refine LeO.bind ?_ (fun _ => ?_))
   | exact ih0 _ _
   | exact cornucopiaref5_Compare.mono _ _ _ _ _ _ _ _ _
   | exact LeO.none _
   | refine LeO.ite ?_ ?_
   | refine LeO.bind ?_ (fun _ => ?_)
theorem cornucopialaw5_Ordered.mono : ∀ a0 k, LeO (cornucopialaw5_Ordered.f k a0) (cornucopialaw5_Ordered.f (k + 1) a0) := by
 intro a0 k
 have ih0 := cornucopialaw5_Ordered.mono_l k
 unfold cornucopialaw5_Ordered.f
 repeat' first
   | (with_reducible exact ih0 _ _)
   | (with_reducible exact cornucopiaref5_Compare.mono _ _ _ _ _ _ _ _ _)
   | (with_reducible exact LeO.refl _)
   | (with_reducible exact LeO.none _)
   | (with_reducible refine LeO.ite ?_ ?_)
   | (with_reducible refine LeO.bind ?_ (fun _ => ?_))
   | exact ih0 _ _
   | exact cornucopiaref5_Compare.mono _ _ _ _ _ _ _ _ _
   | exact LeO.none _
   | refine LeO.ite ?_ ?_
   | refine LeO.bind ?_ (fun _ => ?_)
def cornucopialaw5_Ordered.T4 : Bool × List (List Nat × List Nat) := (true, [([], []), ([], []), ([1], [1]), ([0, 2], [0, 2]), ([3], [3]), ([], []), ([], []), ([5, 6], [5, 6]), ([7], [7]), ([4, 8], [4, 8]), ([9], [9])])
def cornucopialaw5_Ordered.B4 : List Nat := [0, 0, 2, 7, 15, 0, 0, 96, 224, 511, 1023]
theorem cornucopialaw5_Ordered.tab4 : rtab .any (opsOf Tryz.f31 4) = cornucopialaw5_Ordered.T4 := by kernel_rfl
theorem cornucopialaw5_Ordered.bits4 : waitsOk cornucopialaw5_Ordered.T4.2 cornucopialaw5_Ordered.B4 = true := by kernel_rfl
set_option maxHeartbeats 8000000 in
set_option maxRecDepth 100000 in
theorem cornucopialaw5_Ordered.calls (k : Nat) (A0 : Option Addr) (c0 : Nat) (l0 : List (S32)) (r : Bool) (w : World) (hr0 : Kd.C k32 w A0 l0.length l0) (hc0 : l0.length ≤ c0) (h : cornucopialaw5_Ordered.f k l0 = some r) :
  Calls Tryz.prog 31 #[.slice A0 l0.length c0] w fun e w' => e = .returned (.bool r) ∧ Below w.heap.size w w' := by
 have hu32 := Tryz.underlying32
 have HR0 := Aside0.mk hr0
 have HC0 := Aside0.mk hc0
 clear hr0 hc0
 have HB := Aside0.mk (Below.refl w.heap.size w)
 have H : (cornucopialaw5_Ordered.l0 k l0 1) = some r := h
 clear h
 have H' := Aside0.mk H
 clear H
 go_enter Tryz.func31, Tryz.ntmps31
 go_wp2
 go_loopg [3] k (fun kq v3 w' => ∃ (x3_1 : Int), v3 = .int .i64 x3_1 ∧ Aside0 (cornucopialaw5_Ordered.l0 kq l0 x3_1 = some r) ∧ Aside0 (kq ≤ k) ∧ Aside0 (Below w.heap.size w w'))
 case atStart => exact ⟨(1), (by first | rfl | (simp; done) | (simp [*]; done)), H', ⟨Nat.le_refl _⟩, ⟨by repeat (first | (with_reducible first | exact HB.out | apply below_alloc | apply pw_below_drewN | apply below_drew1) | exact HB.out)⟩⟩
 case round =>
  clear H'
  obtain ⟨x3_1, rfl, HA, HK1, HB⟩ := hrel
  cases gk with
  | zero => exact absurd HA.out (by simp [cornucopialaw5_Ordered.l0])
  | succ k1 =>
   have H := HA.out
   clear HA
   simp only [cornucopialaw5_Ordered.l0] at H
   by_cases c2 : x3_1 < (l0.length : Int)
   ·rw [if_pos c2] at H
    have c2b0 : decide (x3_1 < (l0.length : Int)) = true := decide_eq_true c2
    clear c2
    obtain ⟨ji3, hji3⟩ : ∃ j_ : Int, (wrap64 (x3_1 - 1)) = j_ := ⟨_, rfl⟩
    replace H : (if 0 ≤ (ji3) then (if (ji3) < (l0.length : Int) then (if 0 ≤ x3_1 then ((cornucopiaref5_Compare.f k1 ((rd_T32 l0 (ji3)).f0) ((rd_T32 l0 (ji3)).f1) ((rd_T32 l0 (ji3)).f2) ((rd_T32 l0 (ji3)).f3) ((rd_T32 l0 x3_1).f0) ((rd_T32 l0 x3_1).f1) ((rd_T32 l0 x3_1).f2) ((rd_T32 l0 x3_1).f3)).bind fun t382 => (if t382 ≥ 0 then (some false) else (cornucopialaw5_Ordered.l0 k1 l0 (wrap64 (x3_1 + 1))))) else (none)) else (none)) else (none)) = some r := by first | (rw [hji3] at H; exact H) | (simp only [hji3] at H ⊢; exact H)
    have hji3w : (IntKind.i64.wrap (x3_1 - 1)) = ji3 := (i64_w _).trans hji3
    by_cases c4 : 0 ≤ (ji3)
    ·rw [if_pos c4] at H
     have c4b0 : decide (0 ≤ (ji3)) = true := decide_eq_true c4
     clear c4
     by_cases c5 : (ji3) < (l0.length : Int)
     ·rw [if_pos c5] at H
      have c5b0 : decide ((ji3) < (l0.length : Int)) = true := decide_eq_true c5
      clear c5
      by_cases c6 : 0 ≤ x3_1
      ·rw [if_pos c6] at H
       have c6b0 : decide (0 ≤ x3_1) = true := decide_eq_true c6
       clear c6
       replace H := Option.bind_eq_some_iff.mp H
       obtain ⟨t382, A70, H⟩ := H
       replace H : (if t382 ≥ 0 then (some false) else (cornucopialaw5_Ordered.l0 k1 l0 (wrap64 (x3_1 + 1)))) = some r := H
       have A7 := Aside0.mk A70
       clear A70
       by_cases c8 : t382 ≥ 0
       ·rw [if_pos c8] at H
        have c8b0 : decide (0 ≤ t382) = true := decide_eq_true c8
        clear c8
        obtain rfl := Option.some.inj H
        try go_wp2
        have n0_ := Aside0.mk (below_drew1 HB.out)
        clear HB
        have HB := n0_
        clear n0_
        have p380 : 0 ≤ ((ji3) : Int) := of_decide_eq_true (by first | (with_reducible assumption) | assumption)
        have q380 : (ji3) < (l0.length : Int) := of_decide_eq_true (by first | (with_reducible assumption) | assumption)
        obtain ⟨ad380, e380, hx380_0, hx380_1, hx380_2, hx380_3⟩ := at_T32 HR0.out (ji3) p380 q380
        have hw380_3 := hx380_3
        have hw380_2 := hx380_2
        have hw380_1 := hx380_1
        have hw380_0 := hx380_0
        cases e380
        replace hx380_0 := (HB.out.cell (World.block_lt_of_cell? w _ hx380_0)).trans hx380_0
        replace hx380_1 := (HB.out.cell (World.block_lt_of_cell? w _ hx380_1)).trans hx380_1
        replace hx380_2 := (HB.out.cell (World.block_lt_of_cell? w _ hx380_2)).trans hx380_2
        replace hx380_3 := (HB.out.cell (World.block_lt_of_cell? w _ hx380_3)).trans hx380_3
        replace p380 := eq_true p380
        replace q380 := eq_true q380
        have p381 : 0 ≤ (x3_1 : Int) := of_decide_eq_true (by first | (with_reducible assumption) | assumption)
        have q381 : x3_1 < (l0.length : Int) := of_decide_eq_true (by first | (with_reducible assumption) | assumption)
        obtain ⟨ad381, e381, hx381_0, hx381_1, hx381_2, hx381_3⟩ := at_T32 HR0.out x3_1 p381 q381
        have hw381_3 := hx381_3
        have hw381_2 := hx381_2
        have hw381_1 := hx381_1
        have hw381_0 := hx381_0
        obtain rfl : ad380 = ad381 := (by injection e381)
        replace hx381_0 := (HB.out.cell (World.block_lt_of_cell? w _ hx381_0)).trans hx381_0
        replace hx381_1 := (HB.out.cell (World.block_lt_of_cell? w _ hx381_1)).trans hx381_1
        replace hx381_2 := (HB.out.cell (World.block_lt_of_cell? w _ hx381_2)).trans hx381_2
        replace hx381_3 := (HB.out.cell (World.block_lt_of_cell? w _ hx381_3)).trans hx381_3
        replace p381 := eq_true p381
        replace q381 := eq_true q381
        refine start_ (n := 11) (S := fun w' => w'.cell? (ad380.add (((ji3)).toNat * 4)) = some (.string ((rd_T32 l0 (ji3)).f0)) ∧ w'.cell? ⟨(ad380.add (((ji3)).toNat * 4)).block, (ad380.add (((ji3)).toNat * 4)).off + 1, none⟩ = some (.int .u64 ((rd_T32 l0 (ji3)).f1)) ∧ w'.cell? ⟨(ad380.add (((ji3)).toNat * 4)).block, (ad380.add (((ji3)).toNat * 4)).off + 2, none⟩ = some (.int .i64 ((rd_T32 l0 (ji3)).f2)) ∧ w'.cell? ⟨(ad380.add (((ji3)).toNat * 4)).block, (ad380.add (((ji3)).toNat * 4)).off + 3, none⟩ = some (.string ((rd_T32 l0 (ji3)).f3)) ∧ w'.cell? (ad380.add ((x3_1).toNat * 4)) = some (.string ((rd_T32 l0 x3_1).f0)) ∧ w'.cell? ⟨(ad380.add ((x3_1).toNat * 4)).block, (ad380.add ((x3_1).toNat * 4)).off + 1, none⟩ = some (.int .u64 ((rd_T32 l0 x3_1).f1)) ∧ w'.cell? ⟨(ad380.add ((x3_1).toNat * 4)).block, (ad380.add ((x3_1).toNat * 4)).off + 2, none⟩ = some (.int .i64 ((rd_T32 l0 x3_1).f2)) ∧ w'.cell? ⟨(ad380.add ((x3_1).toNat * 4)).block, (ad380.add ((x3_1).toNat * 4)).off + 3, none⟩ = some (.string ((rd_T32 l0 x3_1).f3))) (ds := []) #[false, false, false, false, false, false, false, false, false, false, false] (by kernel_rfl) rfl rfl ⟨((HB.out.cell (World.block_lt_of_cell? w _ hw380_0)).trans hw380_0), ((HB.out.cell (World.block_lt_of_cell? w _ hw380_1)).trans hw380_1), ((HB.out.cell (World.block_lt_of_cell? w _ hw380_2)).trans hw380_2), ((HB.out.cell (World.block_lt_of_cell? w _ hw380_3)).trans hw380_3), ((HB.out.cell (World.block_lt_of_cell? w _ hw381_0)).trans hw381_0), ((HB.out.cell (World.block_lt_of_cell? w _ hw381_1)).trans hw381_1), ((HB.out.cell (World.block_lt_of_cell? w _ hw381_2)).trans hw381_2), ((HB.out.cell (World.block_lt_of_cell? w _ hw381_3)).trans hw381_3)⟩ (fun hHeld => ?_); refine with_tabW cornucopialaw5_Ordered.tab4 cornucopialaw5_Ordered.bits4 (fun HT_ HW_ => ?_)
        generalize wr.drew = w9 at HB hx380_0 hx380_1 hx380_2 hx380_3 hx381_0 hx381_1 hx381_2 hx381_3 hHeld ⊢
        refine pure_ (i := 0) (N := some 10) (v := ?_) (a' := ?_) #[true, false, false, false, false, false, false, false, false, false, false] rfl rfl (any_of HT_.out (by kernel_rfl)) (fun _ _ _ h => h) (Or.inl ⟨by rfl, ?_⟩) ?_ ?_
        rotate_left
        ·intro w'
         go_simp
         with_reducible rfl
        rotate_left
        ·simp only [Act.put, List.setIfInBounds_toArray, List.set_cons_zero, List.set_cons_succ, i64_w, i32_w]
         rfl
        refine pure_ (i := 1) (N := some 11) (v := ?_) (a' := ?_) #[true, true, false, false, false, false, false, false, false, false, false] rfl rfl (any_of HT_.out (by kernel_rfl)) (fun _ _ _ h => h) (Or.inl ⟨by rfl, ?_⟩) ?_ ?_
        rotate_left
        ·intro w'
         go_simp
         with_reducible rfl
        rotate_left
        ·simp only [Act.put, List.setIfInBounds_toArray, List.set_cons_zero, List.set_cons_succ, i64_w, i32_w]
         rfl
        refine pure_ (i := 2) (N := some 12) (v := ?_) (a' := ?_) #[true, true, true, false, false, false, false, false, false, false, false] rfl rfl (any_of HT_.out (by kernel_rfl)) (fun _ _ _ h => h) (Or.inl ⟨by rfl, ?_⟩) ?_ ?_
        rotate_left
        ·intro w'
         go_simp
         with_reducible rfl
        rotate_left
        ·simp only [Act.put, List.setIfInBounds_toArray, List.set_cons_zero, List.set_cons_succ, i64_w, i32_w]
         rfl
        refine pure_ (i := 3) (N := some 13) (v := ?_) (a' := ?_) #[true, true, true, true, false, false, false, false, false, false, false] rfl rfl (any_of HT_.out (by kernel_rfl)) (fun _ _ _ h => h) (Or.inl ⟨by rfl, ?_⟩) ?_ ?_
        rotate_left
        ·intro w'
         go_simp
         with_reducible rfl
        rotate_left
        ·simp only [Act.put, List.setIfInBounds_toArray, List.set_cons_zero, List.set_cons_succ, i64_w, i32_w]
         rfl
        refine pure_ (i := 5) (N := some 15) (v := ?_) (a' := ?_) #[true, true, true, true, false, true, false, false, false, false, false] rfl rfl (any_of HT_.out (by kernel_rfl)) (fun _ _ _ h => h) (Or.inl ⟨by rfl, ?_⟩) ?_ ?_
        rotate_left
        ·intro w'
         go_simp
         with_reducible rfl
        rotate_left
        ·simp only [Act.put, List.setIfInBounds_toArray, List.set_cons_zero, List.set_cons_succ, i64_w, i32_w]
         rfl
        refine pure_ (i := 6) (N := some 16) (v := ?_) (a' := ?_) #[true, true, true, true, false, true, true, false, false, false, false] rfl rfl (any_of HT_.out (by kernel_rfl)) (fun _ _ _ h => h) (Or.inl ⟨by rfl, ?_⟩) ?_ ?_
        rotate_left
        ·intro w'
         go_simp
         with_reducible rfl
        rotate_left
        ·simp only [Act.put, List.setIfInBounds_toArray, List.set_cons_zero, List.set_cons_succ, i64_w, i32_w]
         rfl
        refine pure_ (i := 7) (N := some 17) (v := ?_) (a' := ?_) #[true, true, true, true, false, true, true, true, false, false, false] rfl rfl (any_of HT_.out (by kernel_rfl)) (fun _ _ _ h => h) (Or.inl ⟨by rfl, ?_⟩) ?_ ?_
        rotate_left
        ·intro w'
         go_simp
         with_reducible rfl
        rotate_left
        ·simp only [Act.put, List.setIfInBounds_toArray, List.set_cons_zero, List.set_cons_succ, i64_w, i32_w]
         rfl
        refine take_ (i := 4) (N := some 14) (v := ?_) (a' := ?_) #[true, true, true, true, true, true, true, true, false, false, false] rfl rfl (take_ofW HT_.out HW_.out (by kernel_rfl)) (fun _ _ _ h => h) (Or.inl ⟨by rfl, ?_⟩) hHeld ?_ ?_
        rotate_left
        ·rintro w' ⟨s0, s1, s2, s3, s4, s5, s6, s7⟩
         go_simp
         with_reducible rfl
        rotate_left
        ·simp only [Act.put, List.setIfInBounds_toArray, List.set_cons_zero, List.set_cons_succ, i64_w, i32_w]
         rfl
        refine take_ (i := 8) (N := some 18) (v := ?_) (a' := ?_) #[true, true, true, true, true, true, true, true, true, false, false] rfl rfl (take_ofW HT_.out HW_.out (by kernel_rfl)) (fun _ _ _ h => h) (Or.inl ⟨by rfl, ?_⟩) hHeld ?_ ?_
        rotate_left
        ·rintro w' ⟨s0, s1, s2, s3, s4, s5, s6, s7⟩
         go_simp
         with_reducible rfl
        rotate_left
        ·simp only [Act.put, List.setIfInBounds_toArray, List.set_cons_zero, List.set_cons_succ, i64_w, i32_w]
         rfl
        refine one_ (i := 9) (N := some 19) #[true, true, true, true, true, true, true, true, true, true, false] rfl rfl (one_of HT_.out (by kernel_rfl)) (by decide) (fun K hK => ?_)
        refine goes_ Tryz.func48 (by kernel_rfl) rfl #[.agg #[.string ((rd_T32 l0 (ji3)).f0), .int .u64 ((rd_T32 l0 (ji3)).f1), .int .i64 ((rd_T32 l0 (ji3)).f2), .string ((rd_T32 l0 (ji3)).f3)], .agg #[.string ((rd_T32 l0 x3_1).f0), .int .u64 ((rd_T32 l0 x3_1).f1), .int .i64 ((rd_T32 l0 x3_1).f2), .string ((rd_T32 l0 x3_1).f3)]] (by rfl) rfl rfl (by (try simp only [List.map_toArray, List.map_cons, List.map_nil]); first | done | (simp only [hji3]; rfl) | rfl | (simp only [List.length_drop, List.length_take]; rfl)) ?_
        with_reducible refine (cornucopiaref5_Compare.calls k1 ((rd_T32 l0 (ji3)).f0) ((rd_T32 l0 (ji3)).f1) ((rd_T32 l0 (ji3)).f2) ((rd_T32 l0 (ji3)).f3) ((rd_T32 l0 x3_1).f0) ((rd_T32 l0 x3_1).f1) ((rd_T32 l0 x3_1).f2) ((rd_T32 l0 x3_1).f3) t382 _ A7.out).mono ?_
        rintro e w10 ⟨rfl, hb⟩
        refine ⟨_, rfl, ?_⟩
        have n0_ := Aside0.mk (below_step (by repeat (first | (with_reducible first | exact HB.out | apply below_alloc | apply pw_below_drewN | apply below_drew1) | exact HB.out)) hb)
        clear HB
        have HB := n0_
        clear n0_
        (try clear hb)
        (try clear hb2)
        (try clear hk)
        (try clear hi)
        refine hK.out _ _ ⟨((HB.out.cell (World.block_lt_of_cell? w _ hw380_0)).trans hw380_0), ((HB.out.cell (World.block_lt_of_cell? w _ hw380_1)).trans hw380_1), ((HB.out.cell (World.block_lt_of_cell? w _ hw380_2)).trans hw380_2), ((HB.out.cell (World.block_lt_of_cell? w _ hw380_3)).trans hw380_3), ((HB.out.cell (World.block_lt_of_cell? w _ hw381_0)).trans hw381_0), ((HB.out.cell (World.block_lt_of_cell? w _ hw381_1)).trans hw381_1), ((HB.out.cell (World.block_lt_of_cell? w _ hw381_2)).trans hw381_2), ((HB.out.cell (World.block_lt_of_cell? w _ hw381_3)).trans hw381_3)⟩ (fun hHeld => ?_)
        clear hK K
        refine norm_ (a' := ?_) ?_ ?_
        rotate_left
        ·show Act.put _ (some 19) _ = _
         simp only [Act.put, List.setIfInBounds_toArray, List.set_cons_zero, List.set_cons_succ, i64_w, i32_w]
         rfl
        refine pure_ (i := 10) (N := some 20) (v := ?_) (a' := ?_) #[true, true, true, true, true, true, true, true, true, true, true] rfl rfl (any_of HT_.out (by kernel_rfl)) (fun _ _ _ h => h) (Or.inl ⟨by rfl, ?_⟩) ?_ ?_
        rotate_left
        ·intro w'
         go_simp
         with_reducible rfl
        rotate_left
        ·simp only [Act.put, List.setIfInBounds_toArray, List.set_cons_zero, List.set_cons_succ, i64_w, i32_w]
         rfl
        refine done_ (done_of HT_.out (by kernel_rfl)) ?_
        try go_wp2
        go_ret
        exact ⟨by first | rfl | (simp [errW_none, errW_some] <;> rfl) | (simp only [← hji3]; first | rfl | (simp [errW_none, errW_some] <;> rfl)) | (simp [*, errW_none, errW_some] <;> rfl), by repeat (first | (with_reducible first | exact HB.out | apply below_alloc | apply pw_below_drewN | apply below_drew1) | exact HB.out)⟩
       ·rw [if_neg c8] at H
        have c8b0 : decide (0 ≤ t382) = false := decide_eq_false c8
        clear c8
        have H' := Aside0.mk H
        clear H
        try go_wp2
        have n0_ := Aside0.mk (below_drew1 HB.out)
        clear HB
        have HB := n0_
        clear n0_
        have p380 : 0 ≤ ((ji3) : Int) := of_decide_eq_true (by first | (with_reducible assumption) | assumption)
        have q380 : (ji3) < (l0.length : Int) := of_decide_eq_true (by first | (with_reducible assumption) | assumption)
        obtain ⟨ad380, e380, hx380_0, hx380_1, hx380_2, hx380_3⟩ := at_T32 HR0.out (ji3) p380 q380
        have hw380_3 := hx380_3
        have hw380_2 := hx380_2
        have hw380_1 := hx380_1
        have hw380_0 := hx380_0
        cases e380
        replace hx380_0 := (HB.out.cell (World.block_lt_of_cell? w _ hx380_0)).trans hx380_0
        replace hx380_1 := (HB.out.cell (World.block_lt_of_cell? w _ hx380_1)).trans hx380_1
        replace hx380_2 := (HB.out.cell (World.block_lt_of_cell? w _ hx380_2)).trans hx380_2
        replace hx380_3 := (HB.out.cell (World.block_lt_of_cell? w _ hx380_3)).trans hx380_3
        replace p380 := eq_true p380
        replace q380 := eq_true q380
        have p381 : 0 ≤ (x3_1 : Int) := of_decide_eq_true (by first | (with_reducible assumption) | assumption)
        have q381 : x3_1 < (l0.length : Int) := of_decide_eq_true (by first | (with_reducible assumption) | assumption)
        obtain ⟨ad381, e381, hx381_0, hx381_1, hx381_2, hx381_3⟩ := at_T32 HR0.out x3_1 p381 q381
        have hw381_3 := hx381_3
        have hw381_2 := hx381_2
        have hw381_1 := hx381_1
        have hw381_0 := hx381_0
        obtain rfl : ad380 = ad381 := (by injection e381)
        replace hx381_0 := (HB.out.cell (World.block_lt_of_cell? w _ hx381_0)).trans hx381_0
        replace hx381_1 := (HB.out.cell (World.block_lt_of_cell? w _ hx381_1)).trans hx381_1
        replace hx381_2 := (HB.out.cell (World.block_lt_of_cell? w _ hx381_2)).trans hx381_2
        replace hx381_3 := (HB.out.cell (World.block_lt_of_cell? w _ hx381_3)).trans hx381_3
        replace p381 := eq_true p381
        replace q381 := eq_true q381
        refine start_ (n := 11) (S := fun w' => w'.cell? (ad380.add (((ji3)).toNat * 4)) = some (.string ((rd_T32 l0 (ji3)).f0)) ∧ w'.cell? ⟨(ad380.add (((ji3)).toNat * 4)).block, (ad380.add (((ji3)).toNat * 4)).off + 1, none⟩ = some (.int .u64 ((rd_T32 l0 (ji3)).f1)) ∧ w'.cell? ⟨(ad380.add (((ji3)).toNat * 4)).block, (ad380.add (((ji3)).toNat * 4)).off + 2, none⟩ = some (.int .i64 ((rd_T32 l0 (ji3)).f2)) ∧ w'.cell? ⟨(ad380.add (((ji3)).toNat * 4)).block, (ad380.add (((ji3)).toNat * 4)).off + 3, none⟩ = some (.string ((rd_T32 l0 (ji3)).f3)) ∧ w'.cell? (ad380.add ((x3_1).toNat * 4)) = some (.string ((rd_T32 l0 x3_1).f0)) ∧ w'.cell? ⟨(ad380.add ((x3_1).toNat * 4)).block, (ad380.add ((x3_1).toNat * 4)).off + 1, none⟩ = some (.int .u64 ((rd_T32 l0 x3_1).f1)) ∧ w'.cell? ⟨(ad380.add ((x3_1).toNat * 4)).block, (ad380.add ((x3_1).toNat * 4)).off + 2, none⟩ = some (.int .i64 ((rd_T32 l0 x3_1).f2)) ∧ w'.cell? ⟨(ad380.add ((x3_1).toNat * 4)).block, (ad380.add ((x3_1).toNat * 4)).off + 3, none⟩ = some (.string ((rd_T32 l0 x3_1).f3))) (ds := []) #[false, false, false, false, false, false, false, false, false, false, false] (by kernel_rfl) rfl rfl ⟨((HB.out.cell (World.block_lt_of_cell? w _ hw380_0)).trans hw380_0), ((HB.out.cell (World.block_lt_of_cell? w _ hw380_1)).trans hw380_1), ((HB.out.cell (World.block_lt_of_cell? w _ hw380_2)).trans hw380_2), ((HB.out.cell (World.block_lt_of_cell? w _ hw380_3)).trans hw380_3), ((HB.out.cell (World.block_lt_of_cell? w _ hw381_0)).trans hw381_0), ((HB.out.cell (World.block_lt_of_cell? w _ hw381_1)).trans hw381_1), ((HB.out.cell (World.block_lt_of_cell? w _ hw381_2)).trans hw381_2), ((HB.out.cell (World.block_lt_of_cell? w _ hw381_3)).trans hw381_3)⟩ (fun hHeld => ?_); refine with_tabW cornucopialaw5_Ordered.tab4 cornucopialaw5_Ordered.bits4 (fun HT_ HW_ => ?_)
        generalize wr.drew = w11 at HB hx380_0 hx380_1 hx380_2 hx380_3 hx381_0 hx381_1 hx381_2 hx381_3 hHeld ⊢
        refine pure_ (i := 0) (N := some 10) (v := ?_) (a' := ?_) #[true, false, false, false, false, false, false, false, false, false, false] rfl rfl (any_of HT_.out (by kernel_rfl)) (fun _ _ _ h => h) (Or.inl ⟨by rfl, ?_⟩) ?_ ?_
        rotate_left
        ·intro w'
         go_simp
         with_reducible rfl
        rotate_left
        ·simp only [Act.put, List.setIfInBounds_toArray, List.set_cons_zero, List.set_cons_succ, i64_w, i32_w]
         rfl
        refine pure_ (i := 1) (N := some 11) (v := ?_) (a' := ?_) #[true, true, false, false, false, false, false, false, false, false, false] rfl rfl (any_of HT_.out (by kernel_rfl)) (fun _ _ _ h => h) (Or.inl ⟨by rfl, ?_⟩) ?_ ?_
        rotate_left
        ·intro w'
         go_simp
         with_reducible rfl
        rotate_left
        ·simp only [Act.put, List.setIfInBounds_toArray, List.set_cons_zero, List.set_cons_succ, i64_w, i32_w]
         rfl
        refine pure_ (i := 2) (N := some 12) (v := ?_) (a' := ?_) #[true, true, true, false, false, false, false, false, false, false, false] rfl rfl (any_of HT_.out (by kernel_rfl)) (fun _ _ _ h => h) (Or.inl ⟨by rfl, ?_⟩) ?_ ?_
        rotate_left
        ·intro w'
         go_simp
         with_reducible rfl
        rotate_left
        ·simp only [Act.put, List.setIfInBounds_toArray, List.set_cons_zero, List.set_cons_succ, i64_w, i32_w]
         rfl
        refine pure_ (i := 3) (N := some 13) (v := ?_) (a' := ?_) #[true, true, true, true, false, false, false, false, false, false, false] rfl rfl (any_of HT_.out (by kernel_rfl)) (fun _ _ _ h => h) (Or.inl ⟨by rfl, ?_⟩) ?_ ?_
        rotate_left
        ·intro w'
         go_simp
         with_reducible rfl
        rotate_left
        ·simp only [Act.put, List.setIfInBounds_toArray, List.set_cons_zero, List.set_cons_succ, i64_w, i32_w]
         rfl
        refine pure_ (i := 5) (N := some 15) (v := ?_) (a' := ?_) #[true, true, true, true, false, true, false, false, false, false, false] rfl rfl (any_of HT_.out (by kernel_rfl)) (fun _ _ _ h => h) (Or.inl ⟨by rfl, ?_⟩) ?_ ?_
        rotate_left
        ·intro w'
         go_simp
         with_reducible rfl
        rotate_left
        ·simp only [Act.put, List.setIfInBounds_toArray, List.set_cons_zero, List.set_cons_succ, i64_w, i32_w]
         rfl
        refine pure_ (i := 6) (N := some 16) (v := ?_) (a' := ?_) #[true, true, true, true, false, true, true, false, false, false, false] rfl rfl (any_of HT_.out (by kernel_rfl)) (fun _ _ _ h => h) (Or.inl ⟨by rfl, ?_⟩) ?_ ?_
        rotate_left
        ·intro w'
         go_simp
         with_reducible rfl
        rotate_left
        ·simp only [Act.put, List.setIfInBounds_toArray, List.set_cons_zero, List.set_cons_succ, i64_w, i32_w]
         rfl
        refine pure_ (i := 7) (N := some 17) (v := ?_) (a' := ?_) #[true, true, true, true, false, true, true, true, false, false, false] rfl rfl (any_of HT_.out (by kernel_rfl)) (fun _ _ _ h => h) (Or.inl ⟨by rfl, ?_⟩) ?_ ?_
        rotate_left
        ·intro w'
         go_simp
         with_reducible rfl
        rotate_left
        ·simp only [Act.put, List.setIfInBounds_toArray, List.set_cons_zero, List.set_cons_succ, i64_w, i32_w]
         rfl
        refine take_ (i := 4) (N := some 14) (v := ?_) (a' := ?_) #[true, true, true, true, true, true, true, true, false, false, false] rfl rfl (take_ofW HT_.out HW_.out (by kernel_rfl)) (fun _ _ _ h => h) (Or.inl ⟨by rfl, ?_⟩) hHeld ?_ ?_
        rotate_left
        ·rintro w' ⟨s0, s1, s2, s3, s4, s5, s6, s7⟩
         go_simp
         with_reducible rfl
        rotate_left
        ·simp only [Act.put, List.setIfInBounds_toArray, List.set_cons_zero, List.set_cons_succ, i64_w, i32_w]
         rfl
        refine take_ (i := 8) (N := some 18) (v := ?_) (a' := ?_) #[true, true, true, true, true, true, true, true, true, false, false] rfl rfl (take_ofW HT_.out HW_.out (by kernel_rfl)) (fun _ _ _ h => h) (Or.inl ⟨by rfl, ?_⟩) hHeld ?_ ?_
        rotate_left
        ·rintro w' ⟨s0, s1, s2, s3, s4, s5, s6, s7⟩
         go_simp
         with_reducible rfl
        rotate_left
        ·simp only [Act.put, List.setIfInBounds_toArray, List.set_cons_zero, List.set_cons_succ, i64_w, i32_w]
         rfl
        refine one_ (i := 9) (N := some 19) #[true, true, true, true, true, true, true, true, true, true, false] rfl rfl (one_of HT_.out (by kernel_rfl)) (by decide) (fun K hK => ?_)
        refine goes_ Tryz.func48 (by kernel_rfl) rfl #[.agg #[.string ((rd_T32 l0 (ji3)).f0), .int .u64 ((rd_T32 l0 (ji3)).f1), .int .i64 ((rd_T32 l0 (ji3)).f2), .string ((rd_T32 l0 (ji3)).f3)], .agg #[.string ((rd_T32 l0 x3_1).f0), .int .u64 ((rd_T32 l0 x3_1).f1), .int .i64 ((rd_T32 l0 x3_1).f2), .string ((rd_T32 l0 x3_1).f3)]] (by rfl) rfl rfl (by (try simp only [List.map_toArray, List.map_cons, List.map_nil]); first | done | (simp only [hji3]; rfl) | rfl | (simp only [List.length_drop, List.length_take]; rfl)) ?_
        with_reducible refine (cornucopiaref5_Compare.calls k1 ((rd_T32 l0 (ji3)).f0) ((rd_T32 l0 (ji3)).f1) ((rd_T32 l0 (ji3)).f2) ((rd_T32 l0 (ji3)).f3) ((rd_T32 l0 x3_1).f0) ((rd_T32 l0 x3_1).f1) ((rd_T32 l0 x3_1).f2) ((rd_T32 l0 x3_1).f3) t382 _ A7.out).mono ?_
        rintro e w12 ⟨rfl, hb⟩
        refine ⟨_, rfl, ?_⟩
        have n0_ := Aside0.mk (below_step (by repeat (first | (with_reducible first | exact HB.out | apply below_alloc | apply pw_below_drewN | apply below_drew1) | exact HB.out)) hb)
        clear HB
        have HB := n0_
        clear n0_
        (try clear hb)
        (try clear hb2)
        (try clear hk)
        (try clear hi)
        refine hK.out _ _ ⟨((HB.out.cell (World.block_lt_of_cell? w _ hw380_0)).trans hw380_0), ((HB.out.cell (World.block_lt_of_cell? w _ hw380_1)).trans hw380_1), ((HB.out.cell (World.block_lt_of_cell? w _ hw380_2)).trans hw380_2), ((HB.out.cell (World.block_lt_of_cell? w _ hw380_3)).trans hw380_3), ((HB.out.cell (World.block_lt_of_cell? w _ hw381_0)).trans hw381_0), ((HB.out.cell (World.block_lt_of_cell? w _ hw381_1)).trans hw381_1), ((HB.out.cell (World.block_lt_of_cell? w _ hw381_2)).trans hw381_2), ((HB.out.cell (World.block_lt_of_cell? w _ hw381_3)).trans hw381_3)⟩ (fun hHeld => ?_)
        clear hK K
        refine norm_ (a' := ?_) ?_ ?_
        rotate_left
        ·show Act.put _ (some 19) _ = _
         simp only [Act.put, List.setIfInBounds_toArray, List.set_cons_zero, List.set_cons_succ, i64_w, i32_w]
         rfl
        refine pure_ (i := 10) (N := some 20) (v := ?_) (a' := ?_) #[true, true, true, true, true, true, true, true, true, true, true] rfl rfl (any_of HT_.out (by kernel_rfl)) (fun _ _ _ h => h) (Or.inl ⟨by rfl, ?_⟩) ?_ ?_
        rotate_left
        ·intro w'
         go_simp
         with_reducible rfl
        rotate_left
        ·simp only [Act.put, List.setIfInBounds_toArray, List.set_cons_zero, List.set_cons_succ, i64_w, i32_w]
         rfl
        refine done_ (done_of HT_.out (by kernel_rfl)) ?_
        try go_wp2
        go_roundg k1
        case measure => have := HK1.out; omega
        case rel => exact ⟨(wrap64 (x3_1 + 1)), (by first | rfl | (simp; done) | (simp [*]; done)), H', ⟨by have := HK1.out; omega⟩, ⟨by repeat (first | (with_reducible first | exact HB.out | apply below_alloc | apply pw_below_drewN | apply below_drew1) | exact HB.out)⟩⟩
      ·rw [if_neg c6] at H
       exact absurd H (by simp)
     ·rw [if_neg c5] at H
      exact absurd H (by simp)
    ·rw [if_neg c4] at H
     exact absurd H (by simp)
   ·rw [if_neg c2] at H
    have c2b0 : decide (x3_1 < (l0.length : Int)) = false := decide_eq_false c2
    clear c2
    obtain rfl := Option.some.inj H
    go_wp2
    go_ret
    exact ⟨by first | rfl | (simp [errW_none, errW_some] <;> rfl) | (simp [*, errW_none, errW_some] <;> rfl), by repeat (first | (with_reducible first | exact HB.out | apply below_alloc | apply pw_below_drewN | apply below_drew1) | exact HB.out)⟩
end Go.Proofs.YtchgpcgolgcfdaaGreat.PNum
end
section
namespace Go.Proofs.YtchgpcgolgcfdaaGreat.PuShadow
open Go Go.RowKit Go.Proofs.YtchgpcgolgcfdaaGreat.PNum Go.Proofs.YtchgpcgolgcfdaaGreat.PuIk Go.Proofs.YtchgpcgolgcfdaaGreatW.PrintWords Go.Proofs.YtchgpcgolgcfdaaGreatW.PrintLast Go.Proofs.YtchgpcgolgcfdaaGreatW.PrintMore Go.Proofs.YtchgpcgolgcfdaaGreatW.Pu
abbrev E := S32
def Rl (a b : E) : Prop := ce a b = -1
def stay (P : List Int) : Option E → E → Prop
 | none, _ => True
 | some d, e => d.f0 ≠ e.f0 ∨ ∃ p ∈ P, e.f1 ≤ p ∧ p < d.f1
open Classical in
noncomputable def kp (P : List Int) : Option E → List E → List E
 | _, [] => []
 | pv, e :: l => if stay P pv e then e :: kp P (some e) l else kp P (some e) l
theorem inn_seen (s : Int) : ∀ (ps seen : List Int) (st : Bool) (p : Int), p ∈ (ikey_Shadow.inn s ps seen st).1 ↔ p ∈ seen ∨ (p ∈ ps ∧ s ≤ p)
 | [], seen, st, p => by simp [ikey_Shadow.inn]
 | a :: ps, seen, st, p => by
  rw [ikey_Shadow.inn]
  split
  ·rename_i h
   rw [inn_seen s ps _ _ p, List.mem_append, List.mem_singleton, List.mem_cons]
   constructor
   ·rintro ((h1 | h1) | h1)
    ·exact .inl h1
    ·exact .inr ⟨.inl h1, h1 ▸ h.2⟩
    ·exact .inr ⟨.inr h1.1, h1.2⟩
   ·rintro (h1 | ⟨h1 | h1, h2⟩)
    ·exact .inl (.inl h1)
    ·exact .inl (.inr h1)
    ·exact .inr ⟨h1, h2⟩
  ·rename_i h
   rw [inn_seen s ps _ _ p, List.mem_cons]
   constructor
   ·rintro (h1 | h1)
    ·exact .inl h1
    ·exact .inr ⟨.inr h1.1, h1.2⟩
   ·rintro (h1 | ⟨h1 | h1, h2⟩)
    ·exact .inl h1
    ·subst h1
     refine .inl ?_
     have : ¬ seen.contains p = false := fun k => h ⟨k, h2⟩
     simpa using this
    ·exact .inr ⟨h1, h2⟩
theorem inn_stay (s : Int) : ∀ (ps seen : List Int) (st : Bool), (ikey_Shadow.inn s ps seen st).2 = true ↔ st = true ∨ ∃ p ∈ ps, p ∉ seen ∧ s ≤ p
 | [], seen, st => by simp [ikey_Shadow.inn]
 | a :: ps, seen, st => by
  rw [ikey_Shadow.inn]
  split
  ·rename_i h
   rw [inn_stay s ps _ _]
   refine ⟨fun _ => .inr ⟨a, List.mem_cons_self, by simpa using h.1, h.2⟩, fun _ => .inl rfl⟩
  ·rename_i h
   rw [inn_stay s ps _ _]
   constructor
   ·rintro (h1 | ⟨p, h1, h2⟩)
    ·exact .inl h1
    ·exact .inr ⟨p, List.mem_cons_of_mem _ h1, h2⟩
   ·rintro (h1 | ⟨p, h1, h2, h3⟩)
    ·exact .inl h1
    ·rcases List.mem_cons.1 h1 with rfl | h1
     ·exact absurd ⟨by simpa using h2, h3⟩ h
     ·exact .inr ⟨p, h1, h2, h3⟩
theorem bne_tl (a b : ByteArray) : (a.toList != b.toList) = true ↔ a ≠ b := by
 rw [bne_iff_ne]
 exact not_congr tl_ext
theorem Rl_lt {a b : E} (h : Rl a b) (k : a.f0 = b.f0) : b.f1 < a.f1 := by
 unfold Rl ce at h
 rw [if_pos ((cb_zero _ _).2 k)] at h
 unfold cs at h
 split at h
 ·assumption
 ·split at h <;> cases h
theorem Rl_trans {a b c : E} (h : Rl a b) (k : Rl b c) : Rl a c := ce_trans h k
theorem go_kp (P : List Int) : ∀ (l : List E) (pv : Option E) (seen : List Int) (out : List E), l.Pairwise Rl → (∀ d, pv = some d → ∀ e ∈ l, Rl d e) → (∀ d, pv = some d → ∀ p, p ∈ seen ↔ (p ∈ P ∧ d.f1 ≤ p)) →
  ikey_Shadow.go P l (pv.map S32.f0) seen out = out ++ kp P pv l
 | [], pv, seen, out, _, _, _ => by simp [ikey_Shadow.go, kp]
 | e :: l, pv, seen, out, hl, hd, hs => by
  rw [ikey_Shadow.go, kp]
  have hl' := (List.pairwise_cons.1 hl)
  have hfirst : ikey_Shadow.first (pv.map S32.f0) e = true ↔ ∀ d, pv = some d → d.f0 ≠ e.f0 := by
   cases pv with
   | none => simp [ikey_Shadow.first]
   | some d => simp only [Option.map_some, ikey_Shadow.first, bne_tl, Option.some.injEq, forall_eq']
  generalize hF : ikey_Shadow.first (pv.map S32.f0) e = F at *
  have hseen : ∀ p, p ∈ (ikey_Shadow.inn e.f1 P (if F = true then [] else seen) F).1 ↔ (p ∈ P ∧ e.f1 ≤ p) := by
   intro p
   rw [inn_seen]
   refine ⟨?_, .inr⟩
   rintro (h | h)
   ·cases F with
    | true => simp at h
    | false =>
     simp only [Bool.false_eq_true, if_false] at h
     cases pv with
     | none => exact absurd (hfirst.2 (fun d hd => by cases hd)) (by simp)
     | some d =>
      have hk : d.f0 = e.f0 := by
       refine Classical.byContradiction fun q => ?_
       exact absurd (hfirst.2 (fun d' hd' => by cases hd'; exact q)) (by simp)
      have h2 := (hs d rfl p).1 h
      have h3 := Rl_lt (hd d rfl e List.mem_cons_self) hk
      exact ⟨h2.1, by omega⟩
   ·exact h
  have hst : (ikey_Shadow.inn e.f1 P (if F = true then [] else seen) F).2 = true ↔ stay P pv e := by
   rw [inn_stay]
   cases F with
   | true =>
    have := hfirst.1 rfl
    simp only [if_true, true_or, true_iff]
    cases pv with
    | none => trivial
    | some d => exact .inl (this d rfl)
   | false =>
    simp only [Bool.false_eq_true, if_false, false_or]
    cases pv with
    | none => exact absurd (hfirst.2 (fun d hd => by cases hd)) (by simp)
    | some d =>
     have hk : d.f0 = e.f0 := by
      refine Classical.byContradiction fun q => ?_
      exact absurd (hfirst.2 (fun d' hd' => by cases hd'; exact q)) (by simp)
     constructor
     ·rintro ⟨p, h1, h2, h3⟩
      refine .inr ⟨p, h1, h3, ?_⟩
      have := mt (hs d rfl p).2 h2
      have : ¬ d.f1 ≤ p := fun q => this ⟨h1, q⟩
      omega
     ·rintro (h1 | ⟨p, h1, h2, h3⟩)
      ·exact absurd hk h1
      ·exact ⟨p, h1, fun q => by have := ((hs d rfl p).1 q).2; omega, h2⟩
  have ih := fun out' => go_kp P l (some e) (ikey_Shadow.inn e.f1 P (if F = true then [] else seen) F).1 out' hl'.2 (fun d hd' e' he' => by cases hd'; exact hl'.1 e' he') (fun d hd' p => by cases hd'; exact hseen p)
  rw [show (some e.f0) = (some e).map S32.f0 from rfl, ih]
  by_cases h : stay P pv e
  ·rw [if_pos (hst.2 h), if_pos h, List.append_assoc]; rfl
  ·rw [if_neg (fun k => h (hst.1 k)), if_neg h]
theorem kp_sub (P : List Int) : ∀ (l : List E) (pv : Option E), (kp P pv l).Sublist l
 | [], _ => by rw [kp]; exact List.Sublist.slnil
 | e :: l, pv => by
  rw [kp]
  split
  ·exact (kp_sub P l _).cons_cons e
  ·exact (kp_sub P l _).cons e
theorem Shadow_eq (P : List Int) (l : List E) (hl : l.Pairwise Rl) (h1 : l.length < 1000000) (h2 : P.length < 1000000) (h3 : ∀ x ∈ P, (Lit.int .u64 x).wf = true) : ikey_Shadow.f l P = some (kp P none l) := by
 unfold ikey_Shadow.f
 rw [if_pos ⟨h1, h2, h3⟩]
 have := go_kp P l none [] [] hl (fun d h => by cases h) (fun d h => by cases h)
 simpa using this
theorem bt_at (s : ByteArray) (i : Nat) (h : i < s.data.toList.length) : bt s (i : Int) = (s.data.toList[i].toNat : Int) := by
 have h' : i < s.data.size := by simpa using h
 rw [bt_eq]
 simp only [bytesOf, List.getD_eq_getElem?_getD, List.getElem?_map, Array.getElem?_toList, Array.getElem_toList]
 rw [Array.getElem?_eq_getElem h']
 rfl
theorem size_data (s : ByteArray) : s.data.toList.length = s.size := by
 show s.data.toList.length = s.data.size
 simp
theorem Less_l0 (a b : ByteArray) (_ha : a.size ≤ 140737488351232) (hb : b.size ≤ 140737488351232) (d : Nat) : ∀ i, i + d = a.size → i ≤ b.size →
  Ev (fun k => cornucopiaref1_Less.l0 k a b (i : Int)) (decide (Lib.compareBytes (a.data.toList.drop i) (b.data.toList.drop i) = -1)) := by
 have la := size_data a
 have lb := size_data b
 induction d with
 | zero =>
  intro i hi hib
  refine Ev.step (fun k => by rw [cornucopiaref1_Less.l0]) (ev_neg (by omega) ?_)
  refine Ev.step (fun k => by rw [cornucopiaref1_Less.j1]) (ev_neg (by simp) (ev_const ?_))
  rw [show a.data.toList.drop i = [] from List.drop_of_length_le (by omega)]
  refine congrArg some (decide_eq_decide.2 ?_)
  cases h : b.data.toList.drop i with
  | nil =>
   have := congrArg List.length h
   rw [List.length_drop] at this
   simp only [List.length_nil] at this
   rw [Lib.compareBytes]
   omega
  | cons y ys =>
   have := congrArg List.length h
   rw [List.length_drop] at this
   simp only [List.length_cons] at this
   rw [Lib.compareBytes]
   omega
 | succ d ih =>
  intro i hi hib
  have ia : i < a.data.toList.length := by omega
  refine Ev.step (fun k => by rw [cornucopiaref1_Less.l0]) (ev_pos (by omega) ?_)
  have da : a.data.toList.drop i = a.data.toList[i] :: a.data.toList.drop (i + 1) := List.drop_eq_getElem_cons ia
  by_cases h : i < b.size
  ·have ib : i < b.data.toList.length := by omega
   have db : b.data.toList.drop i = b.data.toList[i] :: b.data.toList.drop (i + 1) := List.drop_eq_getElem_cons ib
   rw [decide_eq_true (show (i : Int) < (b.size : Int) by omega), da, db, Lib.compareBytes]
   refine Ev.step (fun k => by rw [cornucopiaref1_Less.j1, bt_at a i ia, bt_at b i ib]) (ev_pos rfl (ev_pos (by omega) (ev_pos (by omega) (ev_pos (by omega) ?_))))
   by_cases e : a.data.toList[i] = b.data.toList[i]
   ·refine ev_pos (by rw [e]) ?_
    rw [e, if_neg (UInt8.lt_irrefl _), if_neg (UInt8.lt_irrefl _), wrap64_id (by omega), show ((i : Int) + 1) = ((i + 1 : Nat) : Int) from by omega]
    exact ih (i + 1) (by omega) (by omega)
   ·have hne : a.data.toList[i].toNat ≠ b.data.toList[i].toNat := fun k => e (UInt8.toNat_inj.1 k)
    refine ev_neg (by omega) (ev_const ?_)
    refine congrArg some (decide_eq_decide.2 ?_)
    by_cases k : a.data.toList[i] < b.data.toList[i]
    ·rw [if_pos k]
     have := UInt8.lt_iff_toNat_lt.1 k
     omega
    ·have k2 : b.data.toList[i] < a.data.toList[i] := UInt8.lt_iff_toNat_lt.2 (by have := mt UInt8.lt_iff_toNat_lt.2 k; omega)
     rw [if_neg k, if_pos k2]
     have := UInt8.lt_iff_toNat_lt.1 k2
     omega
  ·rw [decide_eq_false (show ¬ (i : Int) < (b.size : Int) by omega), da, show b.data.toList.drop i = [] from List.drop_of_length_le (by omega), Lib.compareBytes]
   refine Ev.step (fun k => by rw [cornucopiaref1_Less.j1]) (ev_neg (by simp) (ev_const ?_))
   refine congrArg some (decide_eq_decide.2 ?_)
   omega
theorem Less_ev (a b : ByteArray) (ha : a.size ≤ 140737488351232) (hb : b.size ≤ 140737488351232) : Ev (fun k => cornucopiaref1_Less.f k a b) (decide (cb a b = -1)) := by
 have := Less_l0 a b ha hb a.size 0 (by omega) (by omega)
 rw [List.drop_zero, List.drop_zero] at this
 exact Ev.congr (fun k => by rw [cornucopiaref1_Less.f]; rfl) this
theorem RefCompare_ev (a b : E) (ha : a.f0.size ≤ 140737488351232) (hb : b.f0.size ≤ 140737488351232) : Ev (fun k => cornucopiaref5_Compare.f k a.f0 a.f1 a.f2 a.f3 b.f0 b.f1 b.f2 b.f3) (ce a b) := by
 refine Ev.congr (fun k => by rw [cornucopiaref5_Compare.f]) (Ev.bind (Less_ev _ _ ha hb) ?_)
 have r : cb a.f0 b.f0 = -1 ∨ cb a.f0 b.f0 = 0 ∨ cb a.f0 b.f0 = 1 := cl_range _ _
 have n := cb_neg a.f0 b.f0
 unfold ce
 by_cases h : cb a.f0 b.f0 = -1
 ·rw [if_neg (show ¬ cb a.f0 b.f0 = 0 by omega), decide_eq_true h, h]
  exact ev_pos rfl (ev_const rfl)
 ·rw [decide_eq_false h]
  refine ev_neg (by simp) (Ev.bind (Less_ev _ _ hb ha) ?_)
  by_cases k : cb b.f0 a.f0 = -1
  ·rw [if_neg (show ¬ cb a.f0 b.f0 = 0 by omega), decide_eq_true k, show cb a.f0 b.f0 = 1 by omega]
   exact ev_pos rfl (ev_const rfl)
  ·rw [if_pos (show cb a.f0 b.f0 = 0 by omega), decide_eq_false k]
   refine ev_neg (by simp) ?_
   unfold cs
   by_cases q : a.f1 > b.f1
   ·refine ev_pos q (ev_const ?_)
    rw [if_pos q]
   ·refine ev_neg q ?_
    rw [if_neg q]
    by_cases q2 : a.f1 < b.f1
    ·refine ev_pos q2 (ev_const ?_)
     rw [if_pos q2]
    ·refine ev_neg q2 (ev_const ?_)
     rw [if_neg q2]
theorem Ordered_l0 (l : List E) (hs : ∀ e ∈ l, e.f0.size ≤ 140737488351232) (hl : l.length ≤ 140737488351232) (d : Nat) : ∀ i, i + 1 + d = l.length →
  ∃ b, Ev (fun k => cornucopialaw5_Ordered.l0 k l ((i + 1 : Nat) : Int)) b ∧ (b = true → (l.drop i).Pairwise Rl) := by
 induction d with
 | zero =>
  intro i hi
  have hlt : i < l.length := by omega
  refine ⟨true, Ev.step (fun k => by rw [cornucopialaw5_Ordered.l0]) (ev_neg (by omega) (ev_const rfl)), fun _ => ?_⟩
  rw [List.drop_eq_getElem_cons hlt, List.drop_of_length_le (by omega)]
  exact List.pairwise_singleton _ _
 | succ d ih =>
  intro i hi
  have h0 : i < l.length := by omega
  have h1 : i + 1 < l.length := by omega
  have hw : wrap64 (((i + 1 : Nat) : Int) - 1) = (i : Int) := by rw [wrap64_id (by omega)]; omega
  have hr := RefCompare_ev l[i] l[i + 1] (hs _ (List.getElem_mem h0)) (hs _ (List.getElem_mem h1))
  obtain ⟨b, hb, hp⟩ := ih (i + 1) (by omega)
  by_cases k : ce l[i] l[i + 1] ≥ 0
  ·refine ⟨false, Ev.step (fun k => by rw [cornucopialaw5_Ordered.l0, hw, at_nat l i h0, at_nat l (i + 1) h1]) (ev_pos (by omega) (ev_pos (by omega) (ev_pos (by omega) (ev_pos (by omega) (Ev.bind hr (ev_pos k (ev_const rfl))))))), fun q => by cases q⟩
  ·refine ⟨b, Ev.step (fun k => by rw [cornucopialaw5_Ordered.l0, hw, at_nat l i h0, at_nat l (i + 1) h1]) (ev_pos (by omega) (ev_pos (by omega) (ev_pos (by omega) (ev_pos (by omega) (Ev.bind hr (ev_neg k ?_)))))), fun q => ?_⟩
   ·rw [wrap64_id (by omega), show (((i + 1 : Nat) : Int) + 1) = ((i + 1 + 1 : Nat) : Int) from by omega]
    exact hb
   ·have hp := hp q
    have e0 : l.drop i = l[i] :: l.drop (i + 1) := List.drop_eq_getElem_cons h0
    have e1 : l.drop (i + 1) = l[i + 1] :: l.drop (i + 1 + 1) := List.drop_eq_getElem_cons h1
    have r : Rl l[i] l[i + 1] := by have := ce_range l[i] l[i + 1]; unfold Rl; omega
    rw [e0]
    refine List.pairwise_cons.2 ⟨fun y hy => ?_, hp⟩
    rw [e1] at hy hp
    rcases List.mem_cons.1 hy with rfl | hy
    ·exact r
    ·exact Rl_trans r ((List.pairwise_cons.1 hp).1 y hy)
theorem Ordered_ev (l : List E) (hs : ∀ e ∈ l, e.f0.size ≤ 140737488351232) (hl : l.length ≤ 140737488351232) : ∃ b, Ev (fun k => cornucopialaw5_Ordered.f k l) b ∧ (b = true → l.Pairwise Rl) := by
 by_cases h : l = []
 ·subst h
  exact ⟨true, Ev.congr (fun k => by rw [cornucopialaw5_Ordered.f]) (Ev.step (fun k => by rw [cornucopialaw5_Ordered.l0]) (ev_neg (by simp) (ev_const rfl))), fun _ => List.Pairwise.nil⟩
 ·have : 0 < l.length := List.length_pos_iff.2 h
  obtain ⟨b, hb, hp⟩ := Ordered_l0 l hs hl (l.length - 1) 0 (by omega)
  exact ⟨b, Ev.congr (fun k => by rw [cornucopialaw5_Ordered.f]; rfl) hb, by simpa using hp⟩
end Go.Proofs.YtchgpcgolgcfdaaGreat.PuShadow
end
section
namespace Go.Proofs.YtchgpcgolgcfdaaGreat.PuReads
open Go Go.RowKit Go.Proofs.YtchgpcgolgcfdaaGreat.PNum Go.Proofs.YtchgpcgolgcfdaaGreat.PuNum Go.Proofs.YtchgpcgolgcfdaaGreat.PuRead Go.Proofs.YtchgpcgolgcfdaaGreat.PuNum2 Go.Proofs.YtchgpcgolgcfdaaGreatW.PrintWords Go.Proofs.YtchgpcgolgcfdaaGreatW.PrintLast Go.Proofs.YtchgpcgolgcfdaaGreatW.PrintMore Go.Proofs.YtchgpcgolgcfdaaGreatW.Pu
theorem XFail_eq (s : ByteArray) (e x : Int) : cornucopiaref1_Reader_Fail.f s e x = some (s, if e = 0 then x else e) := by
 unfold cornucopiaref1_Reader_Fail.f
 by_cases he : e = 0
 ·rw [if_pos he, if_pos he]
 ·rw [if_neg he, if_neg he]
def rest (l : List Int) (s : ByteArray) (i acc : Nat) : ByteArray := if (rv l i acc).2.2 = 0 then strOfNums (rv l i acc).2.1 else s
theorem add_group (acc c i : Nat) (hi : i ≤ 9) (ha : acc < 128 ^ i) (hc : c < 256) (h9 : i = 9 → c ≤ 1) :
  IntKind.u64.wrap ((acc : Int) + (IntKind.u64.wrap ((IntKind.u64.wrap (Int.tmod (c : Int) 128)) * ((128 ^ i : Nat) : Int)))) = ((acc + (c % 128) * 128 ^ i : Nat) : Int) := by
 have hp : (128 : Nat) ^ i ≤ 2 ^ 63 := by rw [pow128]; exact Nat.pow_le_pow_right (by decide) (by omega)
 have hb : (c % 128) * 128 ^ i + 128 ^ i ≤ 2 ^ 64 := by
  by_cases h : i = 9
  ·have h1 := h9 h
   have h2 : (c % 128) * 128 ^ i ≤ 1 * 128 ^ i := Nat.mul_le_mul_right _ (by omega)
   omega
  ·have hq : (128 : Nat) ^ i ≤ 2 ^ 56 := by rw [pow128]; exact Nat.pow_le_pow_right (by decide) (by omega)
   have h2 : (c % 128) * 128 ^ i ≤ 127 * 128 ^ i := Nat.mul_le_mul_right _ (by omega)
   omega
 rw [Int.tmod_eq_emod_of_nonneg (by omega), show ((c : Int) % 128) = ((c % 128 : Nat) : Int) from by omega, wu64_id (x := ((c % 128 : Nat) : Int)) (by omega)]
 have e : ((c % 128 : Nat) : Int) * ((128 ^ i : Nat) : Int) = (((c % 128) * 128 ^ i : Nat) : Int) := by push_cast; rfl
 rw [e]
 generalize (c % 128) * 128 ^ i = x at *
 generalize 128 ^ i = y at *
 rw [wu64_id (x := (x : Int)) (by omega), wu64_id (by omega)]
 omega
theorem XVar_l0 (s : ByteArray) (d : Nat) : ∀ (i acc : Nat), i + d = s.size → i ≤ 9 → acc < 128 ^ i →
  Ev (fun k => cornucopiaref1_Reader_Var.l0 k (acc : Int) ((128 ^ i : Nat) : Int) (i : Int) s 0) ((rv ((bytesOf s).drop i) i acc).1, rest ((bytesOf s).drop i) s i acc, (rv ((bytesOf s).drop i) i acc).2.2) := by
 induction d with
 | zero =>
  intro i acc hi h9 ha
  refine Ev.step (fun k => by rw [cornucopiaref1_Reader_Var.l0]) ?_
  unfold rest
  rw [List.drop_of_length_le (by rw [bytesOf_length]; omega)]
  exact ev_pos (by omega) (ev_call (XFail_eq _ _ _) (ev_const rfl))
 | succ d ih =>
  intro i acc hi h9 ha
  have hlt : i < (bytesOf s).length := by rw [bytesOf_length]; omega
  have hdrop : (bytesOf s).drop i = (bytesOf s)[i] :: (bytesOf s).drop (i + 1) := List.drop_eq_getElem_cons hlt
  have hbt : bt s (i : Int) = (bytesOf s)[i] := by rw [bt_eq]; simp [List.getD_eq_getElem?_getD, List.getElem?_eq_getElem hlt]
  have hc := ok8_of s (bytesOf s)[i] (List.getElem_mem hlt)
  rw [hdrop]
  generalize (bytesOf s)[i] = c at *
  obtain ⟨c, rfl⟩ := Int.eq_ofNat_of_zero_le hc.1
  have e4 : wrap64 ((i : Int) + 1) = ((i + 1 : Nat) : Int) := by rw [wrap64_id (by omega)]; omega
  have hj : ¬ (i = 9 ∧ 1 < (c : Int)) → Ev (fun k => cornucopiaref1_Reader_Var.j1 k (acc : Int) ((128 ^ i : Nat) : Int) (i : Int) (c : Int) false s 0) ((rv ((c : Int) :: (bytesOf s).drop (i + 1)) i acc).1, rest ((c : Int) :: (bytesOf s).drop (i + 1)) s i acc, (rv ((c : Int) :: (bytesOf s).drop (i + 1)) i acc).2.2) := by
   intro hn
   have hor := add_group acc c i h9 ha (by omega) (by omega)
   refine Ev.step (fun k => by rw [cornucopiaref1_Reader_Var.j1, hor, e4]) ?_
   refine ev_neg (by simp) ?_
   unfold rest
   rw [rv, if_neg hn]
   by_cases h128 : 128 ≤ (c : Int)
   ·rw [if_pos h128]
    refine ev_pos (show (c : Int) ≥ 128 by omega) ?_
    have hi9 : i ≠ 9 := by
     intro h
     exact hn ⟨h, by omega⟩
    have hq : (128 : Nat) ^ (i + 1) ≤ 2 ^ 63 := by rw [pow128]; exact Nat.pow_le_pow_right (by decide) (by omega)
    have e6 : IntKind.u64.wrap (((128 ^ i : Nat) : Int) * 128) = ((128 ^ (i + 1) : Nat) : Int) := by
     rw [Nat.pow_succ] at hq ⊢
     rw [wu64_id (by omega)]
     omega
    rw [e6]
    have := ih (i + 1) (acc + (c % 128) * 128 ^ i) (by omega) (by omega) (by
     rw [Nat.pow_succ]
     have : (c % 128) * 128 ^ i ≤ 127 * 128 ^ i := Nat.mul_le_mul_right _ (by omega)
     omega)
    exact this
   ·rw [if_neg h128]
    refine ev_neg (show ¬ (c : Int) ≥ 128 by omega) ?_
    have ecm : c % 128 = c := by omega
    have hrest : s.extract ((i + 1 : Nat) : Int).toNat s.size = strOfNums ((bytesOf s).drop (i + 1)) := by
     rw [Int.toNat_natCast]
     apply bytesOf_inj
     rw [bytesOf_extract, of_S (fun x hx => ok8_of s x (List.mem_of_mem_drop hx)), List.take_of_length_le (by rw [bytesOf_length]; omega)]
    by_cases hi0 : (i : Int) > 0
    ·refine ev_pos hi0 ?_
     by_cases hz : (c : Int) = 0
     ·rw [if_pos (show (c : Int) = 0 ∧ 0 < i from ⟨hz, by omega⟩)]
      exact ev_pos hz (ev_call (XFail_eq _ _ _) (ev_const rfl))
     ·rw [if_neg (show ¬ ((c : Int) = 0 ∧ 0 < i) from by omega)]
      refine ev_neg hz (ev_pos (by omega) (ev_pos (by omega) (ev_const ?_)))
      rw [hrest, ecm, Int.toNat_natCast]
      rfl
    ·rw [if_neg (show ¬ ((c : Int) = 0 ∧ 0 < i) from by omega)]
     refine ev_neg hi0 (ev_pos (by omega) (ev_pos (by omega) (ev_const ?_)))
     rw [hrest, ecm, Int.toNat_natCast]
     rfl
  refine Ev.step (fun k => by rw [cornucopiaref1_Reader_Var.l0, hbt]) ?_
  refine ev_neg (by omega) (ev_pos (by omega) (ev_pos (by omega) ?_))
  by_cases h9' : i = 9
  ·refine ev_pos (by omega) ?_
   by_cases h1 : 1 < (c : Int)
   ·unfold rest
    rw [rv, if_pos ⟨h9', h1⟩]
    refine Ev.step (fun k => by rw [cornucopiaref1_Reader_Var.j1]) ?_
    exact ev_pos (decide_eq_true (by omega)) (ev_call (XFail_eq _ _ _) (ev_const rfl))
   ·rw [show decide ((c : Int) > 1) = false from decide_eq_false (by omega)]
    exact hj (by omega)
  ·exact ev_neg (by omega) (hj (by omega))
theorem rv_zero : ∀ l i acc, (rv l i acc).2.2 ≠ 0 → (rv l i acc).1 = 0
 | [], _, _, _ => by simp [rv]
 | c :: t, i, acc, h => by
  rw [rv] at h ⊢
  split
  ·rfl
  ·rename_i h1
   rw [if_neg h1] at h
   split
   ·rename_i h2
    rw [if_pos h2] at h
    exact rv_zero t _ _ h
   ·rename_i h2
    rw [if_neg h2] at h
    split
    ·rfl
    ·rename_i h3
     rw [if_neg h3] at h
     exact absurd rfl h
theorem XVar_ev {b : List Int} (hb : ok8 b) (e : Int) : Ev (fun k => cornucopiaref1_Reader_Var.f k (strOfNums b) e) ((rVar b e).1, strOfNums (rVar b e).2.1, (rVar b e).2.2) := by
 refine Ev.congr (fun k => by rw [cornucopiaref1_Reader_Var.f]) ?_
 unfold rVar
 by_cases he : e = 0
 ·subst he
  refine ev_pos rfl ?_
  have hn := XVar_l0 (strOfNums b) (strOfNums b).size 0 0 (by omega) (by omega) (by decide)
  rw [of_S hb, List.drop_zero, rest] at hn
  rw [if_pos rfl]
  by_cases h : (rv b 0 0).2.2 = 0
  ·rw [if_pos h] at hn ⊢
   rw [h] at hn
   exact hn
  ·rw [if_neg h] at hn ⊢
   rw [rv_zero _ _ _ h] at hn
   exact hn
 ·rw [if_neg he]
  exact ev_neg he (ev_const rfl)
theorem rv_len : ∀ l i acc, (rv l i acc).2.1.length ≤ l.length
 | [], _, _ => by simp [rv]
 | c :: t, i, acc => by
  rw [rv]
  split
  ·simp
  ·split
   ·have := rv_len t (i + 1) (acc + (c.toNat % 128) * 128 ^ i)
    simp
    omega
   ·split <;> simp
theorem rVar_len (b : List Int) (e : Int) : (rVar b e).2.1.length ≤ b.length := by
 unfold rVar
 split
 ·split
  ·exact rv_len _ _ _
  ·exact Nat.le_refl _
 ·exact Nat.le_refl _
theorem rCount_len (b : List Int) (e m : Int) : (rCount b e m).2.1.length ≤ b.length := by
 unfold rCount
 have := rVar_len b e
 split
 ·split <;> exact this
 ·exact this
theorem rTake_len (b : List Int) (e m : Int) : (rTake b e m).2.1.length ≤ b.length := by
 unfold rTake
 split
 ·split <;> simp
 ·exact Nat.le_refl _
theorem rText_len (b : List Int) (e m : Int) : (rText b e m).2.1.length ≤ b.length := Nat.le_trans (rTake_len _ _ _) (rCount_len _ _ _)
theorem XCount_ev {b : List Int} (hb : ok8 b) (e most : Int) (hm : -9223372036854775808 ≤ most ∧ most ≤ 9223372036854775807) : Ev (fun k => cornucopiaref1_Reader_Count.f k (strOfNums b) e most) ((rCount b e most).1, strOfNums (rCount b e most).2.1, (rCount b e most).2.2) := by
 refine Ev.congr (fun k => by rw [cornucopiaref1_Reader_Count.f]) (Ev.bind (XVar_ev hb e) ?_)
 have hnn := rVar_nonneg b e
 unfold rCount
 by_cases h : (rVar b e).2.2 = 0
 ·refine ev_pos h ?_
  rw [if_pos h, h]
  by_cases h0 : most < 0
  ·rw [if_pos (Or.inl h0)]
   exact ev_pos h0 (ev_call (XFail_eq _ _ _) (ev_const rfl))
  ·refine ev_neg h0 ?_
   rw [wu64_id (by omega)]
   by_cases h1 : most < (rVar b e).1
   ·rw [if_pos (Or.inr h1)]
    exact ev_pos h1 (ev_call (XFail_eq _ _ _) (ev_const rfl))
   ·rw [if_neg (show ¬ (most < 0 ∨ most < (rVar b e).1) from by omega)]
    refine ev_neg h1 (ev_const ?_)
    rw [wrap64_id (by omega)]
 ·refine ev_neg h ?_
  rw [if_neg h]
  exact ev_const rfl
theorem bytes_eq {b : List Int} (e n : Int) (hn : 0 ≤ n ∨ e ≠ 0) : cornucopiaref1_Reader_bytes.f (strOfNums b) e n = some (strOfNums (rTake b e n).1, strOfNums (rTake b e n).2.1, (rTake b e n).2.2) := by
 unfold cornucopiaref1_Reader_bytes.f rTake
 by_cases he : e = 0
 ·subst he
  rw [if_pos rfl, if_pos rfl, S_size]
  have hn : 0 ≤ n := hn.resolve_right (fun h => h rfl)
  by_cases h : (b.length : Int) < n
  ·rw [if_pos h, if_pos h, XFail_eq]; rfl
  ·rw [if_neg h, if_neg h, if_pos hn, if_pos (by omega), S_extract, S_extract]
   simp
 ·rw [if_neg he, if_neg he]; rfl
theorem XText_ev {b : List Int} (hb : ok8 b) (e most : Int) (hm : -9223372036854775808 ≤ most ∧ most ≤ 9223372036854775807) : Ev (fun k => cornucopiaref1_Reader_Text.f k (strOfNums b) e most) (strOfNums (rText b e most).1, strOfNums (rText b e most).2.1, (rText b e most).2.2) := by
 refine Ev.congr (fun k => by rw [cornucopiaref1_Reader_Text.f]) (Ev.bind (XCount_ev hb e most hm) ?_)
 exact ev_call (bytes_eq _ _ (.inl (rCount_range b e most hm.2).1)) (ev_const rfl)
theorem both {α : Type} {f g : Nat → Option α} {r : α} (h : Ev f r) (h2 : Ev g r) : ∃ k, f k = some r ∧ g k = some r := by
 obtain ⟨k1, h1⟩ := h
 obtain ⟨k2, h2⟩ := h2
 exact ⟨max k1 k2, h1 _ (Nat.le_max_left _ _), h2 _ (Nat.le_max_right _ _)⟩
def Small (b : List Int) : Prop := ok8 b ∧ b.length ≤ 6000
theorem small_of (s : ByteArray) (h : s.size ≤ 6000) : Small (bytesOf s) := ⟨ok8_of s, by rw [bytesOf_length]; exact h⟩
end Go.Proofs.YtchgpcgolgcfdaaGreat.PuReads
end
section
namespace Go.Proofs.YtchgpcgolgcfdaaGreat.PuIkT
open Go Go.RowKit Go.Proofs.YtchgpcgolgcfdaaGreat.PNum Go.Proofs.YtchgpcgolgcfdaaGreat.PuNum Go.Proofs.YtchgpcgolgcfdaaGreat.PuRead Go.Proofs.YtchgpcgolgcfdaaGreat.PuNum2 Go.Proofs.YtchgpcgolgcfdaaGreat.PuIk Go.Proofs.YtchgpcgolgcfdaaGreat.PuIkB Go.Proofs.YtchgpcgolgcfdaaGreat.PuShadow Go.Proofs.YtchgpcgolgcfdaaGreat.PuReads Go.Proofs.YtchgpcgolgcfdaaGreatW.PrintWords Go.Proofs.YtchgpcgolgcfdaaGreatW.PrintLast Go.Proofs.YtchgpcgolgcfdaaGreatW.PrintMore Go.Proofs.YtchgpcgolgcfdaaGreatW.Pu
set_option linter.unusedVariables false
set_option linter.unusedSimpArgs false
theorem refValid_eq (a0 : ByteArray) (a1 a2 : Int) (a3 : ByteArray) : cornucopiaref5_Valid.f a0 a1 a2 a3 = some (valid a0 a2 a3) := by
 unfold cornucopiaref5_Valid.f valid
 by_cases h1 : (a0.size : Int) ≤ 300
 ·by_cases h2 : (a3.size : Int) ≤ 60000
  ·by_cases h3 : a2 = 1
   ·simp [h1, h2, h3]
   ·by_cases h4 : a2 = 2
    ·have : (a3.toList == ([] : List UInt8)) = decide (a3 = ⟨#[]⟩) := by
      have := tl_beq a3 ⟨#[]⟩
      rw [nil_toList] at this
      exact this
     simp [h1, h2, h4, this]
    ·simp [h1, h2, h3, h4]
  ·simp [h1, h2]
 ·simp [h1]
theorem RVar_l0 (b : Nat) : ∀ (n : Nat) (acc : List Int), n < 128 ^ (b + 1) → n ≤ 18446744073709551615 → acc.length + b + 1 < 140737488355328 → Ev (fun k => cornucopiaref1_Var.l0 k (n : Int) acc) (strOfNums (acc ++ vb n)) := by
 have low : ∀ (n : Nat) (acc : List Int), n < 128 → acc.length + 1 < 140737488355328 → Ev (fun k => cornucopiaref1_Var.l0 k (n : Int) acc) (strOfNums (acc ++ vb n)) := by
  intro n acc h ha
  rw [vb_low h]
  refine Ev.step (fun k => by rw [cornucopiaref1_Var.l0]) (ev_neg (by omega) (ev_pos (by omega) (ev_const ?_)))
  rw [show ((n : Int) % 256) = n from by omega]
 induction b with
 | zero => intro n acc h _ ha; exact low n acc (by simpa using h) (by omega)
 | succ b ih =>
  intro n acc h hn ha
  by_cases h128 : n < 128
  ·exact low n acc h128 (by omega)
  ·have e1 : IntKind.u64.wrap (Int.tdiv (n : Int) 128) = ((n / 128 : Nat) : Int) := by rw [Int.tdiv_eq_ediv_of_nonneg (by omega), wu64_id (by omega)]; omega
   have e2 : ((Int.tmod (n : Int) 128) + 128) % 256 = ((n % 128 + 128 : Nat) : Int) := by rw [Int.tmod_eq_emod_of_nonneg (by omega)]; omega
   rw [vb_high h128]
   refine Ev.step (fun k => by rw [cornucopiaref1_Var.l0, e1, e2]) (ev_pos (by omega) (ev_pos (by omega) ?_))
   have := ih (n / 128) (acc ++ [((n % 128 + 128 : Nat) : Int)]) (by rw [Nat.pow_succ] at h; omega) (by omega) (by simp; omega)
   rw [List.append_assoc] at this
   exact this
theorem RVar_ev (n : Nat) (hn : n ≤ 18446744073709551615) : Ev (fun k => cornucopiaref1_Var.f k (n : Int)) (strOfNums (vb n)) := by
 have := RVar_l0 9 n [] (by omega) hn (by simp)
 exact Ev.congr (fun k => by rw [cornucopiaref1_Var.f]) this
theorem RText_ev (s : ByteArray) (hs : s.size ≤ 100000) : Ev (fun k => cornucopiaref1_Text.f k s) (strOfNums (vb s.size ++ bytesOf s)) := by
 have n1 := vb_len10 (n := s.size) (by omega)
 have e1 : IntKind.u64.wrap (s.size : Int) = (s.size : Int) := wu64_id (by omega)
 refine Ev.congr (fun k => by rw [cornucopiaref1_Text.f, e1]) ?_
 refine Ev.bind (RVar_ev s.size (by omega)) ?_
 refine ev_pos ?_ (ev_const ?_)
 ·rw [S_size]; omega
 ·rw [← S_append, S_of]
theorem RVars_l0 (l : List Int) (hl : u64s l) (hn : l.length ≤ 300) (d : Nat) : ∀ i (acc : List Int), i + d = l.length → acc.length ≤ 10 * i → Ev (fun k => cornucopiaref1_Vars.l0 k l acc (i : Int)) (strOfNums (acc ++ vbs (l.drop i))) := by
 induction d with
 | zero =>
  intro i acc hi ha
  rw [List.drop_of_length_le (by omega)]
  refine Ev.step (fun k => by rw [cornucopiaref1_Vars.l0]) (ev_neg (by omega) (ev_const ?_))
  simp [vbs]
 | succ d ih =>
  intro i acc hi ha
  have hlt : i < l.length := by omega
  have hx := hl l[i] (List.getElem_mem hlt)
  have n1 := vb_len10 (n := l[i].toNat) (by omega)
  have hv := RVar_ev l[i].toNat (by omega)
  rw [show ((l[i].toNat : Nat) : Int) = l[i] from by omega] at hv
  refine Ev.step (fun k => by rw [cornucopiaref1_Vars.l0, rd_nat l i hlt]) (ev_pos (by omega) (ev_pos (by omega) (Ev.bind hv ?_)))
  refine ev_pos ?_ ?_
  ·rw [S_size]; omega
  rw [of_S (vb_ok _), wrap64_id (by omega), show ((i : Int) + 1) = ((i + 1 : Nat) : Int) from by omega]
  have := ih (i + 1) (acc ++ vb l[i].toNat) (by omega) (by simp; omega)
  rw [List.drop_eq_getElem_cons hlt, vbs_cons, ← List.append_assoc]
  exact this
theorem RVars_ev (l : List Int) (hl : u64s l) (hn : l.length ≤ 300) : Ev (fun k => cornucopiaref1_Vars.f k l) (strOfNums (vbs l)) := by
 have := RVars_l0 l hl hn l.length 0 [] (by omega) (by simp)
 exact Ev.congr (fun k => by rw [cornucopiaref1_Vars.f]; rfl) this
theorem RPut_ev (a0 : ByteArray) (a1 a2 : Int) (a3 : ByteArray) (h0 : 0 ≤ a1) (h1 : a1 ≤ 18446744073709551615) : Ev (fun k => cornucopiaref5_Put.f k a0 a1 a2 a3) (if valid a0 a2 a3 = true then (strOfNums (pb a0 a1 a2 a3), 0) else (⟨#[]⟩, 1)) := by
 refine Ev.congr (fun k => by rw [cornucopiaref5_Put.f]) (ev_call (refValid_eq a0 a1 a2 a3) ?_)
 by_cases h : valid a0 a2 a3 = true
 ·rw [if_pos h]
  refine ev_pos h ?_
  have hv := valid_sizes h
  have hw : IntKind.u64.wrap a2 = a2 := wu64_id (by omega)
  have hl := pb_len h1 h
  have t0 := RText_ev a0 (by omega)
  have t3 := RText_ev a3 (by omega)
  have hvv := RVars_ev [a1, a2] (by intro x hx; simp at hx; omega) (by simp)
  rw [hw]
  have e1 : vbs [a1, a2] = vb a1.toNat ++ vb a2.toNat := by simp [vbs]
  rw [e1] at hvv
  have hpb : pb a0 a1 a2 a3 = ((vb a0.size ++ bytesOf a0) ++ (vb a1.toNat ++ vb a2.toNat)) ++ (vb a3.size ++ bytesOf a3) := by simp [pb]
  have hl2 := hl
  rw [hpb, List.length_append] at hl2
  refine Ev.bind t0 (Ev.bind hvv (ev_pos ?_ (Ev.bind t3 (ev_pos ?_ (ev_const ?_)))))
  ·rw [S_size, S_size, ← List.length_append]; omega
  ·rw [S_append, S_size, S_size]; omega
  ·rw [S_append, S_append, hpb]
 ·rw [if_neg h]
  exact ev_neg h (ev_const rfl)
theorem both_put (a0 : ByteArray) (a1 a2 : Int) (a3 : ByteArray) (h0 : 0 ≤ a1) (h1 : a1 ≤ 18446744073709551615) : ∃ k s x, ikey_Put.f k a0 a1 a2 a3 = some (s, x) ∧ cornucopiaref5_Put.f k a0 a1 a2 a3 = some (s, x) := by
 obtain ⟨k, h2, h3⟩ := both (Put_ev a0 a1 a2 a3 h0 h1) (RPut_ev a0 a1 a2 a3 h0 h1)
 refine ⟨k, (if valid a0 a2 a3 = true then (strOfNums (pb a0 a1 a2 a3), (0 : Int)) else (⟨#[]⟩, 1)).1, _, h2, h3⟩
theorem Err_ne (s : ByteArray) (e : Int) : num_Reader_Err.f s e = some (e, s, e) := rfl
def kd (k : Int) : Int := if k ≤ 2 then k else 0
def got (k0 : List Int) (k1 k2 : Int) (k3 b : List Int) (e : Int) : ByteArray × Int × Int × ByteArray × ByteArray × Int :=
 if e = 0 ∧ valid (strOfNums k0) (kd k2) (strOfNums k3) = true then (strOfNums k0, k1, kd k2, strOfNums k3, strOfNums b, 0) else (⟨#[]⟩, 0, 0, ⟨#[]⟩, strOfNums b, if e = 0 then 4 else e)
theorem got_yes {k0 : List Int} {k1 k2 : Int} {k3 b : List Int} {e : Int} (h : e = 0) (hv : valid (strOfNums k0) (kd k2) (strOfNums k3) = true) : got k0 k1 k2 k3 b e = (strOfNums k0, k1, kd k2, strOfNums k3, strOfNums b, 0) := by unfold got; exact if_pos ⟨h, hv⟩
theorem got_bad {k0 : List Int} {k1 k2 : Int} {k3 b : List Int} {e : Int} (h : ¬ (e = 0 ∧ valid (strOfNums k0) (kd k2) (strOfNums k3) = true)) : got k0 k1 k2 k3 b e = (⟨#[]⟩, 0, 0, ⟨#[]⟩, strOfNums b, if e = 0 then 4 else e) := by unfold got; exact if_neg h
theorem IGet_tail (k0 : List Int) (k1 k2 : Int) (b : List Int) (e : Int) (hb : Small b) (h2 : 0 ≤ k2) : Ev (fun k => ikey_Get.j0 k (strOfNums b) e (strOfNums k0) k1 (kd k2) (⟨#[]⟩ : ByteArray)) (got k0 k1 k2 (rText b e 60000).1 (rText b e 60000).2.1 (rText b e 60000).2.2) := by
 have g4 := PuRead.Text_ev hb.1 e 60000 (by omega)
 have hlen : (strOfNums (rText b e 60000).1).size ≤ 281474976710656 := by
  rw [S_size]
  unfold rText rTake
  have := rCount_len b e 60000
  have := hb.2
  split
  ·split
   ·simp
   ·simp only [List.length_take]; omega
  ·simp
 refine Ev.step (fun k => by rw [ikey_Get.j0]) (Ev.bind g4 (ev_call (Clone_eq _ hlen) (Ev.bind (Valid_ev _ k1 _ _) ?_)))
 by_cases hv : valid (strOfNums k0) (kd k2) (strOfNums (rText b e 60000).1) = true
 ·refine ev_pos hv (ev_call (Err_eq _ _) ?_)
  by_cases he : (rText b e 60000).2.2 = 0
  ·refine ev_pos he (ev_const ?_)
   rw [got_yes he hv]
   simp only [he]
  ·refine ev_neg he (ev_const ?_)
   rw [got_bad (fun q => he q.1), if_neg he]
 ·refine ev_neg hv (ev_call (PuRead.Fail_eq _ _ _) (ev_call (Err_eq _ _) (ev_neg ?_ (ev_const ?_))))
  ·show ¬ (if (rText b e 60000).2.2 = 0 then (4 : Int) else _) = 0
   split
   ·omega
   ·assumption
  ·rw [got_bad (fun q => hv q.2)]
theorem RGet_tail (k0 : List Int) (k1 k2 : Int) (t : List Int) (b : List Int) (e : Int) (h2 : 0 ≤ k2) : Ev (fun k => if k2 = 1 then (cornucopiaref5_Get.j0 k k2 true (strOfNums b) e (strOfNums k0) k1 0 (strOfNums t)) else (cornucopiaref5_Get.j0 k k2 (k2 == 2) (strOfNums b) e (strOfNums k0) k1 0 (strOfNums t))) (got k0 k1 k2 t b e) := by
 have j1 : ∀ kd_, kd_ = kd k2 → Ev (fun k => cornucopiaref5_Get.j1 k (strOfNums b) e (strOfNums k0) k1 kd_ (strOfNums t)) (got k0 k1 k2 t b e) := by
  rintro _ rfl
  by_cases he : e = 0
  ·subst he
   refine Ev.step (fun k => by rw [cornucopiaref5_Get.j1]) (ev_pos rfl (ev_call (refValid_eq _ _ _ _) ?_))
   by_cases hv : valid (strOfNums k0) (kd k2) (strOfNums t) = true
   ·rw [got_yes rfl hv, hv]
    exact Ev.step (fun k => by rw [cornucopiaref5_Get.j2]) (ev_neg (by simp) (ev_pos rfl (ev_const rfl)))
   ·rw [got_bad (fun q => hv q.2), if_pos rfl]
    rw [Bool.not_eq_true] at hv
    rw [hv]
    refine Ev.step (fun k => by rw [cornucopiaref5_Get.j2]) (ev_pos (show (!false) = true from rfl) (ev_call (XFail_eq _ _ _) (ev_neg (show ¬ (if (0 : Int) = 0 then (4 : Int) else 0) = 0 by decide) (ev_const rfl))))
  ·rw [got_bad (fun q => he q.1), if_neg he]
   refine Ev.step (fun k => by rw [cornucopiaref5_Get.j1]) (ev_neg he (Ev.step (fun k => by rw [cornucopiaref5_Get.j2]) (ev_neg (by simp) (ev_neg he (ev_const rfl)))))
 by_cases h1 : k2 = 1
 ·subst h1
  refine ev_pos rfl (Ev.step (fun k => by rw [cornucopiaref5_Get.j0]) (ev_pos rfl ?_))
  exact j1 _ (by rw [wrap64_id (by omega)]; rfl)
 ·refine ev_neg h1 ?_
  by_cases h3 : k2 = 2
  ·subst h3
   refine Ev.step (fun k => by rw [cornucopiaref5_Get.j0]) (ev_pos (show ((2 : Int) == 2) = true from rfl) ?_)
   exact j1 _ (by rw [wrap64_id (by omega)]; rfl)
  ·refine Ev.step (fun k => by rw [cornucopiaref5_Get.j0]) (ev_neg (by simp [h3]) ?_)
   refine j1 _ ?_
   unfold kd
   split <;> omega
theorem step_Get {b : List Int} (h : Small b) (e : Int) : ∃ k v0 v1 v2 v3 b' e', ikey_Get.f k (strOfNums b) e = some (v0, v1, v2, v3, strOfNums b', e') ∧ cornucopiaref5_Get.f k (strOfNums b) e = some (v0, v1, v2, v3, strOfNums b', e') ∧ Small b' := by
 have s1 : Small (rText b e 300).2.1 := ⟨(rText_ok h.1).1, Nat.le_trans (rText_len b e 300) h.2⟩
 have hl1 : (strOfNums (rText b e 300).1).size ≤ 281474976710656 := by
  rw [S_size]
  unfold rText rTake
  have := rCount_len b e 300
  have := h.2
  split
  ·split
   ·simp
   ·simp only [List.length_take]; omega
  ·simp
 obtain ⟨t, ht⟩ : ∃ t, t = rText b e 300 := ⟨_, rfl⟩
 have g1 := PuRead.Text_ev h.1 e 300 (by omega)
 have x1 := XText_ev h.1 e (most := 300) (by omega)
 rw [← ht] at g1 x1 s1 hl1
 have g2 := PuRead.Var_ev s1.1 t.2.2
 have x2 := XVar_ev s1.1 t.2.2
 have s2 : Small (rVar t.2.1 t.2.2).2.1 := ⟨rVar_ok s1.1, Nat.le_trans (rVar_len _ _) s1.2⟩
 obtain ⟨p, hp⟩ : ∃ p, p = rVar t.2.1 t.2.2 := ⟨_, rfl⟩
 rw [← hp] at g2 x2 s2
 have g3 := PuRead.Var_ev s2.1 p.2.2
 have x3 := XVar_ev s2.1 p.2.2
 have n3 := rVar_nonneg p.2.1 p.2.2
 have s3 : Small (rVar p.2.1 p.2.2).2.1 := ⟨rVar_ok s2.1, Nat.le_trans (rVar_len _ _) s2.2⟩
 obtain ⟨q, hq⟩ : ∃ q, q = rVar p.2.1 p.2.2 := ⟨_, rfl⟩
 rw [← hq] at g3 x3 s3 n3
 have x4 := XText_ev s3.1 q.2.2 (most := 60000) (by omega)
 have s4 : Small (rText q.2.1 q.2.2 60000).2.1 := ⟨(rText_ok s3.1).1, Nat.le_trans (rText_len _ _ _) s3.2⟩
 have i4 := IGet_tail t.1 p.1 q.1 q.2.1 q.2.2 s3 n3
 have hI : Ev (fun k => ikey_Get.f k (strOfNums b) e) (got t.1 p.1 q.1 (rText q.2.1 q.2.2 60000).1 (rText q.2.1 q.2.2 60000).2.1 (rText q.2.1 q.2.2 60000).2.2) := by
  refine Ev.congr (fun k => by rw [ikey_Get.f]) (Ev.bind g1 (ev_call (Clone_eq _ hl1) (Ev.bind g2 (Ev.bind g3 ?_))))
  by_cases c : q.1 ≤ 2
  ·refine ev_pos c ?_
   rw [show wrap64 q.1 = q.1 from wrap64_id (by omega)]
   rw [show kd q.1 = q.1 from if_pos c] at i4
   exact i4
  ·refine ev_neg c ?_
   rw [show kd q.1 = 0 from if_neg c] at i4
   exact i4
 have hR : Ev (fun k => cornucopiaref5_Get.f k (strOfNums b) e) (got t.1 p.1 q.1 (rText q.2.1 q.2.2 60000).1 (rText q.2.1 q.2.2 60000).2.1 (rText q.2.1 q.2.2 60000).2.2) := by
  refine Ev.congr (fun k => by rw [cornucopiaref5_Get.f]) (Ev.bind x1 (Ev.bind x2 (Ev.bind x3 (Ev.bind x4 ?_))))
  exact RGet_tail t.1 p.1 q.1 _ _ _ n3
 obtain ⟨k, h1, h2⟩ := both hI hR
 by_cases c : (rText q.2.1 q.2.2 60000).2.2 = 0 ∧ valid (strOfNums t.1) (kd q.1) (strOfNums (rText q.2.1 q.2.2 60000).1) = true
 ·rw [got_yes c.1 c.2] at h1 h2
  exact ⟨k, _, _, _, _, _, _, h1, h2, s4⟩
 ·rw [got_bad c] at h1 h2
  exact ⟨k, _, _, _, _, _, _, h1, h2, s4⟩
theorem RPick_l0 (key : ByteArray) (q : Int) (l : List E) (hl : l.length ≤ 9223372036854775806) (d : Nat) : ∀ (i : Nat) (b : E) (f : Bool), i + d = l.length →
  Ev (fun k => cornucopiaref5_Pick.l0 k l key q f (i : Int) b.f0 b.f1 b.f2 b.f3) ((pick key q (l.drop i) b f).1.f0, (pick key q (l.drop i) b f).1.f1, (pick key q (l.drop i) b f).1.f2, (pick key q (l.drop i) b f).1.f3, (pick key q (l.drop i) b f).2) := by
 induction d with
 | zero =>
  intro i b f h
  rw [List.drop_of_length_le (by omega)]
  refine Ev.step (fun k => by rw [cornucopiaref5_Pick.l0]) ?_
  exact ev_neg (show ¬ (i : Int) < (l.length : Int) by omega) (ev_const rfl)
 | succ d ih =>
  intro i b f h
  have hlt : i < l.length := by omega
  have hd : l.drop i = l[i] :: l.drop (i + 1) := List.drop_eq_getElem_cons hlt
  have hw : wrap64 ((i : Int) + 1) = ((i + 1 : Nat) : Int) := by rw [wrap64_id (by omega)]; omega
  rw [hd, pick]
  refine Ev.step (fun k => by rw [cornucopiaref5_Pick.l0, at_nat l i hlt, hw]) (ev_pos (by omega) (ev_pos (by omega) ?_))
  by_cases h1 : l[i].f0 = key
  ·refine ev_pos (tl_ext.2 h1) ?_
   by_cases h2 : l[i].f1 ≤ q
   ·refine ev_pos h2 ?_
    cases f with
    | false =>
     refine ev_neg (by simp) ?_
     rw [if_pos ⟨h1, h2, by simp⟩]
     exact ih (i + 1) l[i] true (by omega)
    | true =>
     refine ev_pos rfl ?_
     by_cases h3 : l[i].f1 > b.f1
     ·refine ev_pos h3 ?_
      rw [if_pos ⟨h1, h2, fun _ => h3⟩]
      exact ih (i + 1) l[i] true (by omega)
     ·refine ev_neg h3 ?_
      rw [if_neg (fun k => h3 (k.2.2 rfl))]
      exact ih (i + 1) b true (by omega)
   ·refine ev_neg h2 ?_
    rw [if_neg (fun k => h2 k.2.1)]
    exact ih (i + 1) b f (by omega)
  ·refine ev_neg (fun k => h1 (tl_ext.1 k)) ?_
   rw [if_neg (fun k => h1 k.1)]
   exact ih (i + 1) b f (by omega)
theorem RPick_ev (key : ByteArray) (q : Int) (l : List E) (hl : l.length ≤ 9223372036854775806) :
  Ev (fun k => cornucopiaref5_Pick.f k l key q) ((pick key q l z0 false).1.f0, (pick key q l z0 false).1.f1, (pick key q l z0 false).1.f2, (pick key q l z0 false).1.f3, (pick key q l z0 false).2) := by
 have := RPick_l0 key q l hl l.length 0 z0 false (by omega)
 exact Ev.congr (fun k => by rw [cornucopiaref5_Pick.f]; rfl) this
theorem both_pick (key : ByteArray) (q : Int) (l : List E) (hl : l.length ≤ 9223372036854775806) : ∃ (k : Nat) (v : E) (f : Bool), ikey_Pick.f k l key q = some (v.f0, v.f1, v.f2, v.f3, f) ∧ cornucopiaref5_Pick.f k l key q = some (v.f0, v.f1, v.f2, v.f3, f) := by
 obtain ⟨k, h1, h2⟩ := both (Pick_ev key q l hl) (RPick_ev key q l hl)
 exact ⟨k, _, _, h1, h2⟩
open Classical in
theorem RSh_l1 (l : List E) (P : List Int) (hP : P.length ≤ 1000000) (hl : l.length ≤ 1000000) (i : Nat) (hi : i < l.length) (out r : List E) (ho : out.length ≤ i) (b2 : Bool) (hb2 : b2 = true ∨ 0 < i)
  (F : Bool) (hF : F = true ↔ b2 = true ∨ ∃ p ∈ P, l[i].f1 ≤ p ∧ p < (l[i - 1]'(by omega)).f1)
  (hr : Ev (fun k => cornucopiaref5_Shadow.l0 k l P (if F = true then out ++ [l[i]] else out) ((i + 1 : Nat) : Int)) r) : ∀ (d j : Nat) (b : Bool), j + d = P.length → (b = true ↔ b2 = true ∨ ∃ p ∈ P.take j, l[i].f1 ≤ p ∧ p < (l[i - 1]'(by omega)).f1) → Ev (fun k => cornucopiaref5_Shadow.l1 k l P out (i : Int) b (j : Int)) r := by
 intro d
 induction d with
 | zero =>
  intro j b hj hb
  have hbF : b = F := by
   rw [List.take_of_length_le (by omega)] at hb
   rw [Bool.eq_iff_iff, hb, hF]
  refine Ev.step (fun k => by rw [cornucopiaref5_Shadow.l1, at_nat l i hi]) (ev_neg (by omega) ?_)
  rw [wrap64_id (by omega), show ((i : Int) + 1) = ((i + 1 : Nat) : Int) from by omega]
  subst hbF
  cases b with
  | true => exact ev_pos rfl (ev_pos (by omega) (ev_pos (by omega) (ev_pos (by omega) hr)))
  | false => exact ev_neg (by simp) hr
 | succ d ih =>
  intro j b hj hb
  have hjl : j < P.length := by omega
  have e1 : ∀ b', (b' = true ↔ b2 = true ∨ ∃ p ∈ P.take (j + 1), l[i].f1 ≤ p ∧ p < (l[i - 1]'(by omega)).f1) → Ev (fun k => cornucopiaref5_Shadow.l1 k l P out (i : Int) b' ((j + 1 : Nat) : Int)) r := fun b' h => ih (j + 1) b' (by omega) h
  have htk : ∀ X : Int → Prop, (∃ p ∈ P.take (j + 1), X p) ↔ (∃ p ∈ P.take j, X p) ∨ X P[j] := by
   intro X
   rw [List.take_succ_eq_append_getElem hjl]
   constructor
   ·rintro ⟨p, hp, hx⟩
    rcases List.mem_append.1 hp with hp | hp
    ·exact .inl ⟨p, hp, hx⟩
    ·rw [List.mem_singleton.1 hp] at hx; exact .inr hx
   ·rintro (⟨p, hp, hx⟩ | hx)
    ·exact ⟨p, List.mem_append.2 (.inl hp), hx⟩
    ·exact ⟨P[j], List.mem_append.2 (.inr (by simp)), hx⟩
  have hw : wrap64 ((j : Int) + 1) = ((j + 1 : Nat) : Int) := by rw [wrap64_id (by omega)]; omega
  by_cases hbt : b = true
  ·refine Ev.step (fun k => by rw [cornucopiaref5_Shadow.l1, hw]) (ev_pos (by omega) (ev_pos hbt (e1 true ?_)))
   rw [htk]
   have := hb.1 hbt
   refine ⟨fun _ => ?_, fun _ => rfl⟩
   rcases this with q | q
   ·exact .inl q
   ·exact .inr (.inl q)
  ·have hbf : b = false := by simpa using hbt
   subst hbf
   have hno : ¬ (b2 = true ∨ ∃ p ∈ P.take j, l[i].f1 ≤ p ∧ p < (l[i - 1]'(by omega)).f1) := fun q => by have := hb.2 q; cases this
   have hb2' : b2 = false := by
    cases b2 with
    | false => rfl
    | true => exact absurd (.inl rfl) hno
   have hi0 : 0 < i := by
    rcases hb2 with q | q
    ·rw [hb2'] at q; cases q
    ·exact q
   have hwi : wrap64 ((i : Int) - 1) = ((i - 1 : Nat) : Int) := by rw [wrap64_id (by omega)]; omega
   refine Ev.step (fun k => by rw [cornucopiaref5_Shadow.l1, hw, hwi, at_nat l i hi, at_nat l (i - 1) (by omega), rd_nat P j hjl]) (ev_pos (by omega) (ev_neg (by simp) (ev_pos (by omega) (ev_pos (by omega) (ev_pos (by omega) ?_)))))
   by_cases c : l[i].f1 ≤ P[j]
   ·refine ev_pos c (ev_pos (by omega) (ev_pos (by omega) (e1 _ ?_)))
    rw [htk, decide_eq_true_iff]
    constructor
    ·intro q; exact .inr (.inr ⟨c, q⟩)
    ·rintro (q | q | q)
     ·exact absurd (.inl q) hno
     ·exact absurd (.inr q) hno
     ·exact q.2
   ·refine ev_neg c (e1 _ ?_)
    rw [htk]
    constructor
    ·intro q; cases q
    ·rintro (q | q | q)
     ·exact absurd (.inl q) hno
     ·exact absurd (.inr q) hno
     ·exact absurd q.1 c
theorem bne_key (a b : ByteArray) : (a.toList != b.toList) = true ↔ a ≠ b := bne_tl a b
open Classical in
theorem RSh_l0 (l : List E) (P : List Int) (hP : P.length ≤ 1000000) (hl : l.length ≤ 1000000) : ∀ (d i : Nat) (out : List E), i + d = l.length → out.length ≤ i →
  Ev (fun k => cornucopiaref5_Shadow.l0 k l P out (i : Int)) (out ++ kp P (if i = 0 then none else l[i - 1]?) (l.drop i)) := by
 intro d
 induction d with
 | zero =>
  intro i out hi ho
  rw [List.drop_of_length_le (by omega), kp, List.append_nil]
  exact Ev.step (fun k => by rw [cornucopiaref5_Shadow.l0]) (ev_neg (by omega) (ev_const rfl))
 | succ d ih =>
  intro i out hi ho
  have hlt : i < l.length := by omega
  rw [List.drop_eq_getElem_cons hlt, kp]
  have hs : l[i + 1 - 1]? = some l[i] := by simp [hlt]
  by_cases h0 : i = 0
  ·subst h0
   have hst : stay P (if 0 = 0 then none else l[0 - 1]?) l[0] := by simp [stay]
   rw [if_pos hst]
   have h1 := ih 1 (out ++ [l[0]]) (by omega) (by rw [List.length_append, List.length_singleton]; omega)
   rw [if_neg (by omega), hs, List.append_assoc] at h1
   refine Ev.step (fun k => by rw [cornucopiaref5_Shadow.l0]) (ev_pos (by omega) (ev_pos (show ((0 : Nat) : Int) = 0 from rfl) (Ev.step (fun k => by rw [cornucopiaref5_Shadow.j1]) ?_)))
   exact RSh_l1 l P hP hl 0 hlt out _ ho true (.inl rfl) true (by simp) (by simpa using h1) P.length 0 true (by omega) (by simp)
  ·have hwi : wrap64 ((i : Int) - 1) = ((i - 1 : Nat) : Int) := by rw [wrap64_id (by omega)]; omega
   have hp : l[i - 1]? = some (l[i - 1]'(by omega)) := List.getElem?_eq_getElem (by omega)
   rw [if_neg h0, hp]
   have hst : stay P (some (l[i - 1]'(by omega))) l[i] ↔ (((l[i - 1]'(by omega)).f0.toList != l[i].f0.toList) = true ∨ ∃ p ∈ P, l[i].f1 ≤ p ∧ p < (l[i - 1]'(by omega)).f1) := by
    rw [bne_key]; rfl
   refine Ev.step (fun k => by rw [cornucopiaref5_Shadow.l0, hwi, at_nat l i hlt, at_nat l (i - 1) (by omega)]) (ev_pos (by omega) (ev_neg (by omega) (ev_pos (by omega) (ev_pos (by omega) (ev_pos (by omega) (Ev.step (fun k => by rw [cornucopiaref5_Shadow.j1]) ?_))))))
   by_cases hy : stay P (some (l[i - 1]'(by omega))) l[i]
   ·rw [if_pos hy]
    have h1 := ih (i + 1) (out ++ [l[i]]) (by omega) (by simp; omega)
    rw [if_neg (by omega), hs, List.append_assoc] at h1
    exact RSh_l1 l P hP hl i hlt out _ ho _ (.inr (by omega)) true (by rw [← hst]; simp [hy]) (by simpa using h1) P.length 0 _ (by omega) (by simp)
   ·rw [if_neg hy]
    have h1 := ih (i + 1) out (by omega) (by omega)
    rw [if_neg (by omega), hs] at h1
    exact RSh_l1 l P hP hl i hlt out _ ho _ (.inr (by omega)) false (by rw [← hst]; simp [hy]) (by simpa using h1) P.length 0 _ (by omega) (by simp)
theorem RShadow_ev (l : List E) (P : List Int) (hP : P.length ≤ 1000000) (hl : l.length ≤ 1000000) : Ev (fun k => cornucopiaref5_Shadow.f k l P) (kp P none l) := by
 have := RSh_l0 l P hP hl l.length 0 [] (by omega) (by simp)
 exact Ev.congr (fun k => by rw [cornucopiaref5_Shadow.f]; rfl) this
end Go.Proofs.YtchgpcgolgcfdaaGreat.PuIkT
end
section
namespace Go.Proofs.YtchgpcgolgcfdaaGreat.PNum
open Go.RowKit Go.Proofs.YtchgpcgolgcfdaaGreatW.PrintWords Go.Proofs.YtchgpcgolgcfdaaGreatW.PrintLast Go.Proofs.YtchgpcgolgcfdaaGreatW.PrintMore
attribute [local go_sem] max2_int min2_int max_two min_two max_three min_three max_four min_four   -- for this text's walks alone
set_option linter.unusedVariables false
set_option linter.unusedSimpArgs false
def cornucopiabook_SameNums.l0 : Nat → List Int → List Int → Int → Option (Bool)
 | 0, _, _, _ => none
 | k + 1, x0, x1, x5 => if x5 < (x0.length : Int) then (if 0 ≤ x5 then (if x5 < (x1.length : Int) then (if (rd x0 x5) = (rd x1 x5) then (cornucopiabook_SameNums.l0 k x0 x1 (wrap64 (x5 + 1))) else (some false)) else (none)) else (none)) else (some true)
def cornucopiabook_SameNums.f (k : Nat) (l0 : List Int) (l1 : List Int) : Option (Bool) := if (l0.length : Int) = (l1.length : Int) then (cornucopiabook_SameNums.l0 k l0 l1 0) else (some false)
theorem cornucopiabook_SameNums.mono_l : ∀ k, (∀ y0 y1 y2, LeO (cornucopiabook_SameNums.l0 k y0 y1 y2) (cornucopiabook_SameNums.l0 (k + 1) y0 y1 y2))
 | 0 => fun _ _ _ r h => by simp [cornucopiabook_SameNums.l0] at h
 | k + 1 => by
  have ih0 := cornucopiabook_SameNums.mono_l k
  ·intro y0 y1 y2
   unfold cornucopiabook_SameNums.l0
   repeat' first
   | (with_reducible exact ih0 _ _ _)
   | (with_reducible exact LeO.refl _)
   | (with_reducible exact LeO.none _)
   | (with_reducible refine LeO.ite ?_ ?_)
   | (with_reducible refine LeO.bind ?_ (fun _ => ?_))
   | exact ih0 _ _ _
   | exact LeO.none _
   | refine LeO.ite ?_ ?_
   | refine LeO.bind ?_ (fun _ => ?_)
theorem cornucopiabook_SameNums.mono : ∀ a0 a1 k, LeO (cornucopiabook_SameNums.f k a0 a1) (cornucopiabook_SameNums.f (k + 1) a0 a1) := by
 intro a0 a1 k
 have ih0 := cornucopiabook_SameNums.mono_l k
 unfold cornucopiabook_SameNums.f
 repeat' first
   | (with_reducible exact ih0 _ _ _)
   | (with_reducible exact LeO.refl _)
   | (with_reducible exact LeO.none _)
   | (with_reducible refine LeO.ite ?_ ?_)
   | (with_reducible refine LeO.bind ?_ (fun _ => ?_))
   | exact ih0 _ _ _
   | exact LeO.none _
   | refine LeO.ite ?_ ?_
   | refine LeO.bind ?_ (fun _ => ?_)
set_option maxHeartbeats 8000000 in
set_option maxRecDepth 100000 in
theorem cornucopiabook_SameNums.calls (k : Nat) (A0 : Option Addr) (c0 : Nat) (l0 : List Int) (A1 : Option Addr) (c1 : Nat) (l1 : List Int) (r : Bool) (w : World) (hr0 : Kd.C (Kd.int .u64) w A0 l0.length l0) (hc0 : l0.length ≤ c0) (hr1 : Kd.C (Kd.int .u64) w A1 l1.length l1) (hc1 : l1.length ≤ c1) (h : cornucopiabook_SameNums.f k l0 l1 = some r) :
  Calls Tryz.prog 177 #[.slice A0 l0.length c0, .slice A1 l1.length c1] w fun e w' => e = .returned (.bool r) ∧ Drawn0 w w' := by
 have HR0 := Aside0.mk hr0
 have HC0 := Aside0.mk hc0
 clear hr0 hc0
 have HR1 := Aside0.mk hr1
 have HC1 := Aside0.mk hc1
 clear hr1 hc1
 have H : (if (l0.length : Int) = (l1.length : Int) then (cornucopiabook_SameNums.l0 k l0 l1 0) else (some false)) = some r := h
 clear h
 by_cases c3 : (l0.length : Int) = (l1.length : Int)
 ·rw [if_pos c3] at H
  have c3b0 : ((l0.length : Int) == (l1.length : Int)) = true := beq_iff_eq.mpr c3
  have c3b1 : ((l0.length : Int) != (l1.length : Int)) = false := bne_eq_false_iff_eq.mpr c3
  have c3b2 : (l0.length == l1.length) = true := by first | simpa using c3 | (simp at c3 ⊢; omega)
  clear c3
  have H' := Aside0.mk H
  clear H
  go_enter Tryz.func177, Tryz.ntmps177
  go_wp2
  repeat (go_quiet (fail); try go_wp2)
  go_loopg [5] k (fun kq v5 w' => ∃ (x5_1 : Int), v5 = .int .i64 x5_1 ∧ Aside0 (cornucopiabook_SameNums.l0 kq l0 l1 x5_1 = some r) ∧ Aside0 (kq ≤ k) ∧ Drawn0 w w')
  case atStart => exact ⟨(0), (by first | rfl | (simp; done) | (simp [*]; done)), H', ⟨Nat.le_refl _⟩, by repeat (first | exact Drawn0.refl _ | apply Drawn0.step)⟩
  case round =>
   clear H'
   try clear c1
   try clear p2
   try clear c3
   try clear c3b0
   try clear c3b1
   try clear c3b2
   obtain ⟨x5_1, rfl, HA, HK1, ⟨m1, rfl⟩⟩ := hrel
   cases gk with
   | zero => exact absurd HA.out (by simp [cornucopiabook_SameNums.l0])
   | succ k1 =>
    have H := HA.out
    clear HA
    simp only [cornucopiabook_SameNums.l0] at H
    by_cases c4 : x5_1 < (l0.length : Int)
    ·rw [if_pos c4] at H
     have c4b0 : decide (x5_1 < (l0.length : Int)) = true := decide_eq_true c4
     clear c4
     by_cases c5 : 0 ≤ x5_1
     ·rw [if_pos c5] at H
      have c5b0 : decide (0 ≤ x5_1) = true := decide_eq_true c5
      clear c5
      by_cases c6 : x5_1 < (l1.length : Int)
      ·rw [if_pos c6] at H
       have c6b0 : decide (x5_1 < (l1.length : Int)) = true := decide_eq_true c6
       clear c6
       by_cases c7 : (rd l0 x5_1) = (rd l1 x5_1)
       ·rw [if_pos c7] at H
        have c7b0 : ((rd l0 x5_1) == (rd l1 x5_1)) = true := beq_iff_eq.mpr c7
        have c7b1 : ((rd l0 x5_1) != (rd l1 x5_1)) = false := bne_eq_false_iff_eq.mpr c7
        clear c7
        have H' := Aside0.mk H
        clear H
        have p215 : 0 ≤ (x5_1 : Int) := of_decide_eq_true (by first | (with_reducible assumption) | assumption)
        have q215 : x5_1 < (l0.length : Int) := of_decide_eq_true (by first | (with_reducible assumption) | assumption)
        obtain ⟨ad215, e215, hx215_0⟩ := Kd.at_int HR0.out x5_1 p215 q215
        cases e215
        replace p215 := eq_true p215
        replace q215 := eq_true q215
        have p216 : 0 ≤ (x5_1 : Int) := of_decide_eq_true (by first | (with_reducible assumption) | assumption)
        have q216 : x5_1 < (l1.length : Int) := of_decide_eq_true (by first | (with_reducible assumption) | assumption)
        obtain ⟨ad216, e216, hx216_0⟩ := Kd.at_int HR1.out x5_1 p216 q216
        cases e216
        replace p216 := eq_true p216
        replace q216 := eq_true q216
        go_wp2
        repeat (go_quiet (fail); try go_wp2)
        go_roundg k1
        case measure => have := HK1.out; omega
        case rel => exact ⟨(wrap64 (x5_1 + 1)), (by first | rfl | (simp; done) | (simp [*]; done)), H', ⟨by have := HK1.out; omega⟩, by repeat (first | exact Drawn0.refl _ | apply Drawn0.step)⟩
       ·rw [if_neg c7] at H
        have c7b0 : ((rd l0 x5_1) == (rd l1 x5_1)) = false := beq_eq_false_iff_ne.mpr c7
        have c7b1 : ((rd l0 x5_1) != (rd l1 x5_1)) = true := bne_iff_ne.mpr c7
        obtain rfl := Option.some.inj H
        have p215 : 0 ≤ (x5_1 : Int) := of_decide_eq_true (by first | (with_reducible assumption) | assumption)
        have q215 : x5_1 < (l0.length : Int) := of_decide_eq_true (by first | (with_reducible assumption) | assumption)
        obtain ⟨ad215, e215, hx215_0⟩ := Kd.at_int HR0.out x5_1 p215 q215
        cases e215
        replace p215 := eq_true p215
        replace q215 := eq_true q215
        have p216 : 0 ≤ (x5_1 : Int) := of_decide_eq_true (by first | (with_reducible assumption) | assumption)
        have q216 : x5_1 < (l1.length : Int) := of_decide_eq_true (by first | (with_reducible assumption) | assumption)
        obtain ⟨ad216, e216, hx216_0⟩ := Kd.at_int HR1.out x5_1 p216 q216
        cases e216
        replace p216 := eq_true p216
        replace q216 := eq_true q216
        go_wp2
        repeat (go_quiet (fail); try go_wp2)
        go_ret
        exact ⟨by first | rfl | (simp; done) | (simp [*]; done), by repeat (first | exact Drawn0.refl _ | apply Drawn0.step)⟩
      ·rw [if_neg c6] at H
       exact absurd H (by simp)
     ·rw [if_neg c5] at H
      exact absurd H (by simp)
    ·rw [if_neg c4] at H
     have c4b0 : decide (x5_1 < (l0.length : Int)) = false := decide_eq_false c4
     clear c4
     obtain rfl := Option.some.inj H
     go_wp2
     repeat (go_quiet (fail); try go_wp2)
     go_ret
     exact ⟨by first | rfl | (simp; done) | (simp [*]; done), by repeat (first | exact Drawn0.refl _ | apply Drawn0.step)⟩
 ·rw [if_neg c3] at H
  have c3b0 : ((l0.length : Int) == (l1.length : Int)) = false := beq_eq_false_iff_ne.mpr c3
  have c3b1 : ((l0.length : Int) != (l1.length : Int)) = true := bne_iff_ne.mpr c3
  have c3b2 : (l0.length == l1.length) = false := by first | simpa using c3 | (simp at c3 ⊢; omega)
  obtain rfl := Option.some.inj H
  go_enter Tryz.func177, Tryz.ntmps177
  go_wp2
  repeat (go_quiet (fail); try go_wp2)
  go_ret
  exact ⟨by first | rfl | (simp; done) | (simp [*]; done), by repeat (first | exact Drawn0.refl _ | apply Drawn0.step)⟩
end Go.Proofs.YtchgpcgolgcfdaaGreat.PNum
end
