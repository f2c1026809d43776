/- How numbers and texts are laid, in plain words (Var, Text alone). -/
import Derived.Test.YtchgpcgolgcfdaaPNumx7
import Derived.Test.YtchgpcgolgcfdaaPNumx8
import Derived.Test.YtchgpcgolgcfdaaWPu
namespace Go.Proofs.Ytchgpcgolgcfdaa.PuVt
open Go Go.RowKit Go.Proofs.Ytchgpcgolgcfdaa.PNum Go.Proofs.YtchgpcgolgcfdaaW.PrintWords Go.Proofs.YtchgpcgolgcfdaaW.PrintLast Go.Proofs.YtchgpcgolgcfdaaW.PrintMore Go.Proofs.YtchgpcgolgcfdaaW.Pu

def vb (n : Nat) : List Int := if n < 128 then [(n : Int)] else ((n % 128 + 128 : Nat) : Int) :: vb (n / 128)
theorem vb_low {n : Nat} (h : n < 128) : vb n = [(n : Int)] := by rw [vb, if_pos h]
theorem vb_high {n : Nat} (h : ¬ n < 128) : vb n = ((n % 128 + 128 : Nat) : Int) :: vb (n / 128) := by rw [vb, if_neg h]
theorem vb_len (k : Nat) : ∀ n, n < 128 ^ (k + 1) → (vb n).length ≤ k + 1 := by
  induction k with
  | zero => intro n h; rw [vb_low (by simpa using h)]; simp
  | succ k ih =>
    intro n h
    by_cases hn : n < 128
    · rw [vb_low hn]; simp
    · rw [vb_high hn, List.length_cons]
      have := ih (n / 128) (by rw [Nat.pow_succ] at h; omega)
      omega
theorem vb_len10 {n : Nat} (h : n < 18446744073709551616) : (vb n).length ≤ 10 := vb_len 9 n (by omega)
theorem vb_pos (n : Nat) : 0 < (vb n).length := by rw [vb]; split <;> simp
theorem vb_ok (n : Nat) : ok8 (vb n) := by
  induction n using Nat.strongRecOn with
  | _ n ih =>
    by_cases hn : n < 128
    · rw [vb_low hn]; exact ok8_cons (by omega) ok8_nil
    · rw [vb_high hn]; exact ok8_cons (by omega) (ih _ (by omega))
theorem or128 : ∀ m : Fin 256, m.val ||| 128 = m.val % 128 + 128 := by decide +kernel
theorem or_more (n : Nat) : Go.bits .or .u8 ((n : Int) % 256) 128 = ((n % 128 + 128 : Nat) : Int) := by
  rw [show ((n : Int) % 256) = ((n % 256 : Nat) : Int) from by omega]
  have h := or_u8 (n % 256) 128 (by omega) (by decide)
  refine h.trans ?_
  have := or128 ⟨n % 256, by omega⟩
  simp only at this
  rw [this]
  congr 1
  omega
theorem Var_l1 (l6 : List Int) (x7 x8 : Int) (r : ByteArray) (n : Nat) : ∀ (x3 : List Int), n < 18446744073709551616 → x3.length + 10 < 140737488355328 →
    Ev (fun k => num_Var.l0 k (x3 ++ vb n) l6 x7 (wrap64 (x8 + 1))) r → Ev (fun k => num_Var.l1 k x3 n l6 x7 x8) r := by
  have key : ∀ (j : Nat) (n : Nat) (x3 : List Int), (vb n).length ≤ j → x3.length + j < 140737488355328 →
      Ev (fun k => num_Var.l0 k (x3 ++ vb n) l6 x7 (wrap64 (x8 + 1))) r → Ev (fun k => num_Var.l1 k x3 n l6 x7 x8) r := by
    intro j
    induction j with
    | zero => intro n x3 h; have := vb_pos n; omega
    | succ j ih =>
      intro n x3 h hl he
      refine Ev.step (fun k => by rw [num_Var.l1]) ?_
      by_cases hn : n < 128
      · refine ev_neg (by omega) (ev_pos (by omega) ?_)
        rw [vb_low hn] at he
        rw [show ((n : Int) % 256) = n from by omega]
        exact he
      · refine ev_pos (by omega) (ev_pos (by omega) ?_)
        rw [vb_high hn] at h he
        rw [or_more, show ((n : Int) / 128) = ((n / 128 : Nat) : Int) from by omega]
        exact ih (n / 128) _ (by simpa using h) (by simp; omega) (by simpa using he)
  intro x3 hn hl he
  exact key 10 n x3 (vb_len10 hn) (by omega) he
def u64s (l : List Int) : Prop := ∀ x ∈ l, 0 ≤ x ∧ x ≤ 18446744073709551615
def vbs (l : List Int) : List Int := l.flatMap fun x => vb x.toNat
theorem vbs_cons (x : Int) (l : List Int) : vbs (x :: l) = vb x.toNat ++ vbs l := rfl
theorem vbs_len {l : List Int} (h : u64s l) : (vbs l).length ≤ 10 * l.length := by
  induction l with
  | nil => simp [vbs]
  | cons x l ih =>
    rw [vbs_cons, List.length_append, List.length_cons]
    have h0 := h x (by simp)
    have h1 := vb_len10 (n := x.toNat) (by omega)
    have h2 := ih (fun y hy => h y (by simp [hy]))
    omega
theorem vbs_ok {l : List Int} : ok8 (vbs l) := by
  induction l with
  | nil => exact ok8_nil
  | cons x l ih => rw [vbs_cons]; exact ok8_append (vb_ok _) ih
theorem rd_nat (l : List Int) (i : Nat) (h : i < l.length) : rd l (i : Int) = l[i] := by
  simp [rd, List.getD_eq_getElem?_getD, List.getElem?_eq_getElem h]
theorem Var_l0 (l : List Int) (hl : u64s l) (hb : 10 * l.length < 140737488355328) (d : Nat) : ∀ (i : Nat) (x3 : List Int), i + d = l.length → x3.length ≤ 10 * i →
    Ev (fun k => num_Var.l0 k x3 l (l.length : Int) (i : Int)) (strOfNums (x3 ++ vbs (l.drop i))) := by
  induction d with
  | zero =>
    intro i x3 hi h3
    refine Ev.step (fun k => by rw [num_Var.l0]) ?_
    refine ev_neg (by omega) ?_
    rw [List.drop_of_length_le (by omega)]
    exact ev_const (by simp [vbs])
  | succ d ih =>
    intro i x3 hi h3
    have hlt : i < l.length := by omega
    have hx := hl l[i] (List.getElem_mem hlt)
    refine Ev.step (fun k => by rw [num_Var.l0]) ?_
    refine ev_pos (by omega) (ev_pos (by omega) (ev_pos (by omega) ?_))
    rw [rd_nat l i hlt]
    obtain ⟨n, hn⟩ := Int.eq_ofNat_of_zero_le hx.1
    have hn' : n < 18446744073709551616 := by omega
    have hd : vbs (l.drop i) = vb n ++ vbs (l.drop (i + 1)) := by
      rw [List.drop_eq_getElem_cons hlt, vbs_cons, hn]; rfl
    rw [hd, hn]
    refine Var_l1 l _ _ _ n x3 hn' (by omega) ?_
    rw [wrap64_id (by omega), show ((i : Int) + 1) = ((i + 1 : Nat) : Int) from by omega]
    have := ih (i + 1) (x3 ++ vb n) (by omega) (by have := vb_len10 hn'; simp; omega)
    simpa using this
theorem Var_ev {l : List Int} (hl : u64s l) (hb : 10 * l.length < 140737488355328) : Ev (fun k => num_Var.f k l) (strOfNums (vbs l)) := by
  have := Var_l0 l hl hb l.length 0 [] (by omega) (by simp)
  simpa [num_Var.f] using this
def tx (l : List ByteArray) : List Int := l.flatMap fun s => vb s.size ++ bytesOf s
theorem tx_cons (s : ByteArray) (l : List ByteArray) : tx (s :: l) = (vb s.size ++ bytesOf s) ++ tx l := rfl
def room (l : List ByteArray) : Nat := (l.map fun s => s.size + 10).sum
theorem tx_ok (l : List ByteArray) : ok8 (tx l) := by
  induction l with
  | nil => exact ok8_nil
  | cons s l ih => rw [tx_cons]; exact ok8_append (ok8_append (vb_ok _) (ok8_of s)) ih
theorem tx_len (l : List ByteArray) (h : room l < 140737488355328) : (tx l).length ≤ room l := by
  induction l with
  | nil => simp [tx, room]
  | cons s l ih =>
    have e : room (s :: l) = s.size + 10 + room l := rfl
    rw [e] at h
    have h1 := vb_len10 (n := s.size) (by omega)
    have h2 := ih (by omega)
    rw [tx_cons, e]
    simp only [List.length_append, bytesOf_length]
    omega
theorem Text_go (l : List ByteArray) : ∀ (acc : ByteArray), acc.size + room l < 140737488355328 → Ev (fun k => num_Text.go k l acc) (acc ++ strOfNums (tx l)) := by
  induction l with
  | nil =>
    intro acc _
    refine ev_const ?_
    simp only [tx, List.flatMap_nil, S_nil]
    exact congrArg some (ByteArray.ext (by simp [ByteArray.data_append]))
  | cons s l ih =>
    intro acc h
    have e : room (s :: l) = s.size + 10 + room l := rfl
    rw [e] at h
    have h1 := vb_len10 (n := s.size) (by omega)
    have hv := Var_ev (l := [(s.size : Int)]) (by intro x hx; simp at hx; omega) (by simp)
    have ev : vbs [(s.size : Int)] = vb s.size := by simp [vbs]
    rw [ev] at hv
    refine Ev.congr (fun k => by rw [num_Text.go]) (Ev.bind hv (ev_pos ?_ ?_))
    · rw [S_size]
      omega
    have := ih (acc ++ (strOfNums (vb s.size) ++ s)) (by rw [ByteArray.size_append, ByteArray.size_append, S_size]; omega)
    rw [tx_cons, ← S_append, ← S_append, S_of]
    rw [ByteArray.append_assoc] at this
    exact this
theorem room_mem {l : List ByteArray} {s : ByteArray} (h : s ∈ l) : s.size + 10 ≤ room l := by
  induction l with
  | nil => simp at h
  | cons x l ih =>
    have e : room (x :: l) = x.size + 10 + room l := rfl
    rcases List.mem_cons.1 h with rfl | h
    · omega
    · have := ih h
      omega
theorem Text_ev (l : List ByteArray) (h : room l < 140737488355328) : Ev (fun k => num_Text.f k l) (strOfNums (tx l)) := by
  have hs : ∀ s ∈ l, s.size ≤ 140737488355328 := by
    intro s hs
    have := room_mem hs
    omega
  have := Text_go l ⟨#[]⟩ (by show 0 + room l < _; omega)
  refine Ev.congr (fun k => by rw [num_Text.f, if_pos hs]) ?_
  have e : (⟨#[]⟩ : ByteArray) ++ strOfNums (tx l) = strOfNums (tx l) := ByteArray.ext (by simp [ByteArray.data_append])
  rw [e] at this
  exact this

end Go.Proofs.Ytchgpcgolgcfdaa.PuVt
