/- More of num in plain numbers: Zig and Zag, Unfix, Text, the order of numbers in so many bytes, and what texts are short. -/
import Derived.Test.YtkpjipfjhniddaaPNumx14
import Derived.Test.YtkpjipfjhniddaaPNumx20
import Derived.Test.YtkpjipfjhniddaaPNumx21
import Derived.Test.YtkpjipfjhniddaaPNumx4
import Derived.Test.YtkpjipfjhniddaaPNumx5
import Derived.Test.YtkpjipfjhniddaaPuNum
import Derived.Test.YtkpjipfjhniddaaPuRead
namespace Go.Proofs.Ytkpjipfjhniddaa.PuNum2
open Go Go.RowKit Go.Proofs.Ytkpjipfjhniddaa.PNum Go.Proofs.Ytkpjipfjhniddaa.PuNum Go.Proofs.Ytkpjipfjhniddaa.PuRead Go.Proofs.YtkpjipfjhniddaaW.PrintWords Go.Proofs.YtkpjipfjhniddaaW.PrintLast Go.Proofs.YtkpjipfjhniddaaW.PrintMore Go.Proofs.YtkpjipfjhniddaaW.Pu

/-! ### with a sign -/
def zig (v : Int) : Int := if v < 0 then -2 * v - 1 else 2 * v
def zag (u : Int) : Int := if u % 2 = 1 then -(u / 2) - 1 else u / 2
theorem zag_zig (v : Int) : zag (zig v) = v := by unfold zag zig; split <;> split <;> omega
theorem zig_zag {u : Int} (h : 0 ≤ u) : zig (zag u) = u := by unfold zig zag; split <;> split <;> omega
theorem zig_range {v : Int} (h : -9223372036854775808 ≤ v ∧ v ≤ 9223372036854775807) : 0 ≤ zig v ∧ zig v ≤ 18446744073709551615 := by unfold zig; split <;> omega
theorem zag_range {u : Int} (h : 0 ≤ u ∧ u ≤ 18446744073709551615) : -9223372036854775808 ≤ zag u ∧ zag u ≤ 9223372036854775807 := by unfold zag; split <;> omega
theorem xor_ones (x : Nat) (h : x < 2 ^ 64) : x ^^^ (2 ^ 64 - 1) = 2 ^ 64 - 1 - x := by
  have := congrArg BitVec.toNat (BitVec.xor_allOnes (x := BitVec.ofNat 64 x))
  simp only [BitVec.toNat_xor, BitVec.toNat_ofNat, BitVec.toNat_allOnes, BitVec.toNat_not, Nat.mod_eq_of_lt h] at this
  exact this
theorem Zig_eq {v : Int} (h : -9223372036854775808 ≤ v ∧ v ≤ 9223372036854775807) : num_Zig.f v = some (zig v) := by
  unfold num_Zig.f zig
  refine congrArg some ?_
  by_cases hn : v < 0
  · rw [if_pos hn, show v / 9223372036854775808 = -1 from by omega, wu64_mod v, wu64_mod, wu64_mod]
    rw [show v % 18446744073709551616 * 2 % 18446744073709551616 = (((2 * v + 18446744073709551616).toNat : Nat) : Int) from by omega, show (-1 : Int) % 18446744073709551616 = ((2 ^ 64 - 1 : Nat) : Int) from by decide]
    refine (xor_u64 _ _ (by omega) (by decide)).trans ?_
    rw [xor_ones _ (by omega)]
    omega
  · rw [if_neg hn, show v / 9223372036854775808 = 0 from by omega, wu64_id (x := v) (by omega), wu64_id (x := v * 2) (by omega), wu64_id (x := 0) (by omega)]
    obtain ⟨n, rfl⟩ := Int.eq_ofNat_of_zero_le (show 0 ≤ v by omega)
    rw [show ((n : Int) * 2) = ((n * 2 : Nat) : Int) from by omega]
    have := xor_u64 (n * 2) 0 (by omega) (by decide)
    rw [Nat.xor_zero] at this
    refine Eq.trans this ?_
    omega
theorem xor_i64 (x y : Int) : Go.bits .xor .i64 x y = IntKind.i64.wrap (((BitVec.ofInt 64 x ^^^ BitVec.ofInt 64 y).toNat : Nat) : Int) := rfl
theorem Zag_eq {u : Int} (h : 0 ≤ u ∧ u ≤ 18446744073709551615) : num_Zag.f u = some (zag u) := by
  obtain ⟨n, rfl⟩ := Int.eq_ofNat_of_zero_le h.1
  unfold num_Zag.f zag
  refine congrArg some ?_
  have e1 : Go.bits .and .u64 (n : Int) 1 = ((n % 2 : Nat) : Int) := by
    refine (and_u64 n 1 (by omega) (by decide)).trans ?_
    rw [Nat.and_one_is_mod]
  rw [e1, wrap64_id (x := (n : Int) / 2) (by omega), wrap64_id (x := ((n % 2 : Nat) : Int)) (by omega), wrap64_id (by omega)]
  rw [show ((n : Int) / 2) = ((n / 2 : Nat) : Int) from by omega]
  have hm : (n / 2) % 2 ^ 64 = n / 2 := Nat.mod_eq_of_lt (by omega)
  by_cases ho : (n : Int) % 2 = 1
  · rw [if_pos ho, show -((n % 2 : Nat) : Int) = -1 from by omega]
    rw [xor_i64, show BitVec.ofInt 64 (-1) = BitVec.allOnes 64 from by decide, BitVec.xor_allOnes, BitVec.ofInt_natCast, BitVec.toNat_not, BitVec.toNat_ofNat, hm, IntKind.wrap_i64]
    omega
  · rw [if_neg ho, show -((n % 2 : Nat) : Int) = 0 from by omega]
    rw [xor_i64, show BitVec.ofInt 64 0 = 0#64 from by decide, BitVec.xor_zero, BitVec.ofInt_natCast, BitVec.toNat_ofNat, hm, IntKind.wrap_i64]
    omega

/-! ### numbers of so many bytes, read -/
def un (l : List Int) : Nat := l.foldl (fun a c => a * 256 + c.toNat) 0
theorem un_app (l : List Int) (c : Int) : un (l ++ [c]) = un l * 256 + c.toNat := by simp [un]
theorem un_lt (n : Nat) : ∀ (l : List Int), ok8 l → l.length = n → un l < 256 ^ n := by
  induction n with
  | zero => intro l _ h; rw [List.eq_nil_of_length_eq_zero h]; decide
  | succ n ih =>
    intro l ho hl
    have hne : l ≠ [] := by intro h; rw [h] at hl; simp at hl
    rw [← List.dropLast_concat_getLast hne, un_app, Nat.pow_succ]
    have h1 := ih l.dropLast (fun x hx => ho x (List.dropLast_subset _ hx)) (by simp [hl])
    have h2 := ho _ (List.getLast_mem hne)
    omega
theorem un_be (n : Nat) : ∀ v, v < 256 ^ n → un (be n v) = v := by
  induction n with
  | zero => intro v h; simp at h; subst h; rfl
  | succ n ih =>
    intro v h
    rw [Nat.pow_succ] at h
    rw [be, un_app, ih (v / 256) (by omega)]
    simp only [Int.toNat_natCast]
    omega
theorem Unfix_l0 (s : ByteArray) (at_ n : Nat) (hn : n ≤ 8) (ha : at_ + n ≤ s.size) (hs : s.size ≤ 9223372036854775807) (d : Nat) : ∀ i, i + d = n →
    Ev (fun k => num_Unfix.l0 k s (at_ : Int) ((un (((bytesOf s).drop at_).take i) : Nat) : Int) (n : Int) (i : Int)) (((un (((bytesOf s).drop at_).take n) : Nat) : Int), 0) := by
  have hok : ∀ i, ok8 (((bytesOf s).drop at_).take i) := fun i x hx => ok8_of s x (List.mem_of_mem_drop (List.mem_of_mem_take hx))
  induction d with
  | zero =>
    intro i hi
    obtain rfl : i = n := by omega
    refine Ev.step (fun k => by rw [num_Unfix.l0]) ?_
    exact ev_neg (by omega) (ev_const rfl)
  | succ d ih =>
    intro i hi
    have hb : (bytesOf s).length = s.size := bytesOf_length s
    have hlt : i < ((bytesOf s).drop at_).length := by rw [List.length_drop, hb]; omega
    have hw : wrap64 ((at_ : Int) + (i : Int)) = ((at_ + i : Nat) : Int) := by rw [wrap64_id (by omega)]; omega
    have hbt : bt s ((at_ + i : Nat) : Int) = ((bytesOf s).drop at_)[i] := by
      rw [bt_eq, List.getElem_drop]
      simp [List.getD_eq_getElem?_getD, List.getElem?_eq_getElem (show at_ + i < (bytesOf s).length by omega)]
    have et : ((bytesOf s).drop at_).take (i + 1) = ((bytesOf s).drop at_).take i ++ [((bytesOf s).drop at_)[i]] := by rw [List.take_succ_eq_append_getElem hlt]
    have hc := hok (i + 1) (((bytesOf s).drop at_)[i]) (by rw [et]; simp)
    have hl1 := un_lt i _ (hok i) (by rw [List.length_take]; omega)
    have ih' := ih (i + 1) (by omega)
    rw [et, un_app] at ih'
    generalize ((bytesOf s).drop at_)[i] = c at *
    obtain ⟨c, rfl⟩ := Int.eq_ofNat_of_zero_le hc.1
    generalize un (((bytesOf s).drop at_).take i) = a at *
    have hp : (256 : Nat) ^ i ≤ 256 ^ 7 := Nat.pow_le_pow_right (by decide) (by omega)
    refine Ev.step (fun k => by rw [num_Unfix.l0, hw, hbt]) ?_
    refine ev_pos (by omega) (ev_pos (by omega) (ev_pos (by omega) ?_))
    rw [wu64_id (x := (a : Int) * 256) (by omega), wu64_id (x := (c : Int)) (by omega), wrap64_id (by omega), show ((i : Int) + 1) = ((i + 1 : Nat) : Int) from by omega]
    have e : Go.bits .or .u64 ((a : Int) * 256) (c : Int) = ((a * 256 + c : Nat) : Int) := by
      rw [show ((a : Int) * 256) = ((a * 256 : Nat) : Int) from by omega]
      refine (or_u64 (a * 256) c (by omega) (by omega)).trans ?_
      congr 1
      rw [Nat.mul_comm]
      exact (Nat.two_pow_add_eq_or_of_lt (i := 8) (by omega) a).symm
    rw [e]
    simpa using ih'
theorem Unfix_yes (s : ByteArray) (at_ n : Nat) (h1 : 1 ≤ n) (hn : n ≤ 8) (ha : at_ + n ≤ s.size) (hs : s.size ≤ 9223372036854775807) :
    Ev (fun k => num_Unfix.f k s (at_ : Int) (n : Int)) (((un (((bytesOf s).drop at_).take n) : Nat) : Int), 0) := by
  refine Ev.congr (fun k => by rw [num_Unfix.f]) (ev_neg (by omega) (ev_neg (by omega) ?_))
  rw [decide_eq_false (show ¬ ((at_ : Int) < 0) by omega)]
  refine Ev.step (fun k => by rw [num_Unfix.j0]) ?_
  refine ev_neg (by simp) (ev_neg (by omega) (ev_neg ?_ ?_))
  · rw [wrap64_id (by omega)]; omega
  · have := Unfix_l0 s at_ n hn ha hs n 0 (by omega)
    rw [List.take_zero] at this
    exact this

/-! ### texts -/
def tx (l : List ByteArray) : List Int := l.flatMap fun s => vb s.size ++ bytesOf s
theorem tx_cons (s : ByteArray) (l : List ByteArray) : tx (s :: l) = (vb s.size ++ bytesOf s) ++ tx l := rfl
def room (l : List ByteArray) : Nat := (l.map fun s => s.size + 10).sum
theorem tx_ok (l : List ByteArray) : ok8 (tx l) := by
  induction l with
  | nil => exact ok8_nil
  | cons s l ih => rw [tx_cons]; exact ok8_append (ok8_append (vb_ok _) (ok8_of s)) ih
theorem tx_len (l : List ByteArray) (h : room l < 140737488355328) : (tx l).length ≤ room l := by
  induction l with
  | nil => simp [tx, room]
  | cons s l ih =>
    have e : room (s :: l) = s.size + 10 + room l := rfl
    rw [e] at h
    have h1 := vb_len10 (n := s.size) (by omega)
    have h2 := ih (by omega)
    rw [tx_cons, e]
    simp only [List.length_append, bytesOf_length]
    omega
theorem Text_go (l : List ByteArray) : ∀ (acc : ByteArray), acc.size + room l < 140737488355328 → Ev (fun k => num_Text.go k l acc) (acc ++ strOfNums (tx l)) := by
  induction l with
  | nil =>
    intro acc _
    refine ev_const ?_
    simp only [tx, List.flatMap_nil, S_nil]
    exact congrArg some (ByteArray.ext (by simp [ByteArray.data_append]))
  | cons s l ih =>
    intro acc h
    have e : room (s :: l) = s.size + 10 + room l := rfl
    rw [e] at h
    have h1 := vb_len10 (n := s.size) (by omega)
    have hv := Var_ev (l := [(s.size : Int)]) (by intro x hx; simp at hx; omega) (by simp)
    have ev : vbs [(s.size : Int)] = vb s.size := by simp [vbs]
    rw [ev] at hv
    refine Ev.congr (fun k => by rw [num_Text.go]) (Ev.bind hv (ev_pos ?_ ?_))
    · rw [S_size]
      omega
    have := ih (acc ++ (strOfNums (vb s.size) ++ s)) (by rw [ByteArray.size_append, ByteArray.size_append, S_size]; omega)
    rw [tx_cons, ← S_append, ← S_append, S_of]
    rw [ByteArray.append_assoc] at this
    exact this
theorem room_mem {l : List ByteArray} {s : ByteArray} (h : s ∈ l) : s.size + 10 ≤ room l := by
  induction l with
  | nil => simp at h
  | cons x l ih =>
    have e : room (x :: l) = x.size + 10 + room l := rfl
    rcases List.mem_cons.1 h with rfl | h
    · omega
    · have := ih h
      omega
theorem Text_ev (l : List ByteArray) (h : room l < 140737488355328) : Ev (fun k => num_Text.f k l) (strOfNums (tx l)) := by
  have hs : ∀ s ∈ l, s.size ≤ 140737488355328 := by
    intro s hs
    have := room_mem hs
    omega
  have := Text_go l ⟨#[]⟩ (by show 0 + room l < _; omega)
  refine Ev.congr (fun k => by rw [num_Text.f, if_pos hs]) ?_
  have e : (⟨#[]⟩ : ByteArray) ++ strOfNums (tx l) = strOfNums (tx l) := ByteArray.ext (by simp [ByteArray.data_append])
  rw [e] at this
  exact this

/-! ### are texts few and short -/
def sizes (l : List ByteArray) : Int := ((l.map fun s => s.size).sum : Nat)
theorem sizes_cons (s : ByteArray) (l : List ByteArray) : sizes (s :: l) = s.size + sizes l := by simp [sizes]
theorem sizes_nonneg (l : List ByteArray) : 0 ≤ sizes l := Int.natCast_nonneg _
theorem Room_one (x : Int) (n : Nat) (hx : 0 ≤ x ∧ x ≤ 9223372036854775807) : Ev (fun k => cornucopiabook_Room.f k x [(n : Int)]) (if (n : Int) ≤ x then x - n else -1) := by
  refine Ev.congr (fun k => by rw [cornucopiabook_Room.f]) ?_
  refine Ev.step (fun k => by rw [cornucopiabook_Room.l0]) ?_
  refine ev_pos (by simp) (ev_neg (by omega) (ev_pos (by omega) ?_))
  have hr : rd [(n : Int)] 0 = n := rfl
  rw [hr]
  by_cases h : (n : Int) ≤ x
  · refine ev_neg (by omega) ?_
    rw [if_pos h, wrap64_id (x := x - n) (by omega), wrap64_id (x := 0 + 1) (by omega)]
    refine Ev.step (fun k => by rw [cornucopiabook_Room.l0]) ?_
    exact ev_neg (by simp) (ev_const rfl)
  · rw [if_neg h]
    exact ev_pos (by omega) (ev_const rfl)
theorem rdOf_nat (l : List ByteArray) (i : Nat) (h : i < l.length) : rdOf ByteArray.empty l (i : Int) = l[i] := by
  simp [rdOf, List.getElem?_eq_getElem h]
theorem Short_l0 (l : List ByteArray) (hl : l.length ≤ 9223372036854775806) (d : Nat) : ∀ (i : Nat) (x : Int), i + d = l.length → -1 ≤ x ∧ x ≤ 9223372036854775807 →
    Ev (fun k => cornucopiabook_Short.l0 k x l (i : Int)) (decide (sizes (l.drop i) ≤ x)) := by
  induction d with
  | zero =>
    intro i x hi hx
    refine Ev.step (fun k => by rw [cornucopiabook_Short.l0]) ?_
    refine ev_neg (by omega) (ev_const ?_)
    rw [List.drop_of_length_le (by omega)]
    rfl
  | succ d ih =>
    intro i x hi hx
    have hlt : i < l.length := by omega
    refine Ev.step (fun k => by rw [cornucopiabook_Short.l0, rdOf_nat l i hlt]) ?_
    refine ev_pos (by omega) ?_
    have hd : l.drop i = l[i] :: l.drop (i + 1) := List.drop_eq_getElem_cons hlt
    rw [hd, sizes_cons]
    have hn := sizes_nonneg (l.drop (i + 1))
    by_cases h0 : x ≥ 0
    · refine ev_pos h0 (ev_pos (by omega) (Ev.bind (Room_one x _ ⟨h0, hx.2⟩) ?_))
      rw [wrap64_id (by omega), show ((i : Int) + 1) = ((i + 1 : Nat) : Int) from by omega]
      by_cases hle : (l[i].size : Int) ≤ x
      · rw [if_pos hle]
        have := ih (i + 1) (x - l[i].size) (by omega) (by omega)
        rwa [show decide (sizes (l.drop (i + 1)) ≤ x - l[i].size) = decide ((l[i].size : Int) + sizes (l.drop (i + 1)) ≤ x) from decide_eq_decide.2 (by omega)] at this
      · rw [if_neg hle]
        have := ih (i + 1) (-1) (by omega) (by omega)
        rwa [show decide (sizes (l.drop (i + 1)) ≤ -1) = decide ((l[i].size : Int) + sizes (l.drop (i + 1)) ≤ x) from decide_eq_decide.2 (by omega)] at this
    · refine ev_neg h0 (ev_const ?_)
      rw [decide_eq_false h0, decide_eq_false (by omega)]
theorem Short_ev (few r : Int) (l : List ByteArray) (hl : l.length ≤ 9223372036854775806) (hr : -1 ≤ r ∧ r ≤ 9223372036854775807) :
    Ev (fun k => cornucopiabook_Short.f k few r l) (decide ((l.length : Int) ≤ few ∧ sizes l ≤ r)) := by
  refine Ev.congr (fun k => by rw [cornucopiabook_Short.f]) ?_
  by_cases h : (l.length : Int) > few
  · refine ev_pos h (ev_const ?_)
    rw [decide_eq_false (by omega)]
  · refine ev_neg h ?_
    have := Short_l0 l hl l.length 0 r (by omega) hr
    rw [List.drop_zero] at this
    rwa [show decide (sizes l ≤ r) = decide ((l.length : Int) ≤ few ∧ sizes l ≤ r) from decide_eq_decide.2 (by omega)] at this
theorem sizes_mem {l : List ByteArray} {s : ByteArray} (h : s ∈ l) : (s.size : Int) ≤ sizes l := by
  induction l with
  | nil => simp at h
  | cons x l ih =>
    rw [sizes_cons]
    have := sizes_nonneg l
    rcases List.mem_cons.1 h with rfl | h
    · omega
    · have := ih h
      omega
theorem room_eq (l : List ByteArray) : (room l : Int) = sizes l + 10 * l.length := by
  induction l with
  | nil => simp [room, sizes]
  | cons s l ih =>
    have e : room (s :: l) = s.size + 10 + room l := rfl
    rw [e, sizes_cons, List.length_cons]
    omega

/-! ### the order of bytes -/
def B (xs : List Int) : List UInt8 := xs.map fun n => UInt8.ofNat n.toNat
theorem S_B (xs : List Int) : (strOfNums xs).toList = B xs := S_toList xs
theorem less_app : ∀ (x y : List UInt8) (p q : UInt8), x.length = y.length → Op.bytesLess (x ++ [p]) (y ++ [q]) = (Op.bytesLess x y || (x == y && decide (p < q)))
  | [], [], p, q, _ => by simp [Op.bytesLess]
  | a :: x, b :: y, p, q, h => by
    have := less_app x y p q (by simpa using h)
    simp only [List.cons_append, Op.bytesLess, this]
    by_cases e : a = b
    · subst e; simp
    · have e2 : (a == b) = false := by rw [beq_eq_false_iff_ne]; exact e
      have e3 : (a :: x == b :: y) = (a == b && x == y) := rfl
      rw [e3, e2]
      simp
theorem be_inj {n a b : Nat} (ha : a < 256 ^ n) (hb : b < 256 ^ n) (h : be n a = be n b) : a = b := by
  have := congrArg un h
  rwa [un_be n a ha, un_be n b hb] at this
theorem B_inj {x y : List Int} (hx : ok8 x) (hy : ok8 y) (h : B x = B y) : x = y := by
  refine S_inj hx hy ?_
  exact ByteArray.ext (Array.ext' h)
theorem less_be (n : Nat) : ∀ a b, a < 256 ^ n → b < 256 ^ n → Op.bytesLess (B (be n a)) (B (be n b)) = decide (a < b) := by
  induction n with
  | zero => intro a b ha hb; simp at ha hb; subst ha hb; rfl
  | succ n ih =>
    intro a b ha hb
    rw [Nat.pow_succ] at ha hb
    have h1 := ih (a / 256) (b / 256) (by omega) (by omega)
    simp only [be, B, List.map_append, List.map_cons, List.map_nil]
    rw [less_app _ _ _ _ (by simp [be_len])]
    have h2 : (List.map (fun n : Int => UInt8.ofNat n.toNat) (be n (a / 256)) == List.map (fun n : Int => UInt8.ofNat n.toNat) (be n (b / 256))) = decide (a / 256 = b / 256) := by
      rw [Bool.eq_iff_iff, beq_iff_eq, decide_eq_true_iff]
      exact ⟨fun h => be_inj (by omega) (by omega) (B_inj (be_ok _ _) (be_ok _ _) h), fun h => by rw [h]⟩
    have h3 : decide (UInt8.ofNat ((a % 256 : Nat) : Int).toNat < UInt8.ofNat ((b % 256 : Nat) : Int).toNat) = decide (a % 256 < b % 256) := by
      rw [decide_eq_decide, UInt8.lt_iff_toNat_lt, Int.toNat_natCast, Int.toNat_natCast, UInt8.toNat_ofNat', UInt8.toNat_ofNat']
      omega
    have h4 : Op.bytesLess (List.map (fun n : Int => UInt8.ofNat n.toNat) (be n (a / 256))) (List.map (fun n : Int => UInt8.ofNat n.toNat) (be n (b / 256))) = decide (a / 256 < b / 256) := h1
    rw [h2, h3, h4]
    rw [Bool.eq_iff_iff]
    simp
    omega
theorem vb_inj {a b : Nat} (h : vb a = vb b) : a = b := by
  induction a using Nat.strongRecOn generalizing b with
  | _ a ih =>
    by_cases ha : a < 128
    · by_cases hb : b < 128
      · rw [vb_low ha, vb_low hb] at h
        simp at h
        omega
      · rw [vb_low ha, vb_high hb] at h
        have := (List.cons.inj h).1
        omega
    · by_cases hb : b < 128
      · rw [vb_high ha, vb_low hb] at h
        have := (List.cons.inj h).1
        omega
      · rw [vb_high ha, vb_high hb] at h
        have h1 := (List.cons.inj h).1
        have h2 := ih (a / 128) (by omega) (List.cons.inj h).2
        omega
/-! ### what is laid is read -/
theorem rv_vb (rest : List Int) (n : Nat) : ∀ (i acc : Nat), acc + n * 128 ^ i < 18446744073709551616 → i ≤ 9 → (0 < i → 0 < n) → rv (vb n ++ rest) i acc = (((acc + n * 128 ^ i : Nat) : Int), rest, 0) := by
  induction n using Nat.strongRecOn with
  | _ n ih =>
    intro i acc hb hi h0
    have h9 : i = 9 → n ≤ 1 := by
      intro h
      subst h
      have : (128 : Nat) ^ 9 = 9223372036854775808 := by decide
      rw [this] at hb
      omega
    by_cases hn : n < 128
    · rw [vb_low hn]
      simp only [List.cons_append, List.nil_append, rv]
      rw [if_neg (show ¬ (i = 9 ∧ 1 < (n : Int)) from by omega), if_neg (by omega), if_neg (show ¬ ((n : Int) = 0 ∧ 0 < i) from by omega), Int.toNat_natCast]
    · rw [vb_high hn]
      simp only [List.cons_append, rv]
      rw [if_neg (show ¬ (i = 9 ∧ 1 < ((n % 128 + 128 : Nat) : Int)) from by omega), if_pos (by omega), Int.toNat_natCast, show (n % 128 + 128) % 128 = n % 128 from by omega]
      have e : acc + n % 128 * 128 ^ i + n / 128 * 128 ^ (i + 1) = acc + n * 128 ^ i := by
        rw [Nat.pow_succ, Nat.mul_comm (128 ^ i) 128, ← Nat.mul_assoc, Nat.add_assoc, ← Nat.add_mul]
        congr 2
        omega
      rw [ih (n / 128) (by omega) (i + 1) _ (by rw [e]; exact hb) (by omega) (by omega), e]
theorem rVar_vb {n : Nat} (h : n < 18446744073709551616) (rest : List Int) : rVar (vb n ++ rest) 0 = ((n : Int), rest, 0) := by
  have := rv_vb rest n 0 0 (by simpa using h) (by omega) (by omega)
  unfold rVar
  rw [this]
  simp
theorem rText_tx {s : ByteArray} {most : Int} (h : (s.size : Int) ≤ most) (hm : most ≤ 9223372036854775807) (rest : List Int) : rText ((vb s.size ++ bytesOf s) ++ rest) 0 most = (bytesOf s, rest, 0) := by
  unfold rText rCount
  rw [List.append_assoc, rVar_vb (by omega)]
  simp only
  rw [if_pos trivial, if_neg (by omega)]
  unfold rTake
  have hl : (bytesOf s).length = s.size := bytesOf_length s
  simp only
  rw [if_pos trivial, if_neg (by simp [hl]; omega), Int.toNat_natCast, List.take_left' hl, List.drop_left' hl]
end Go.Proofs.Ytkpjipfjhniddaa.PuNum2
