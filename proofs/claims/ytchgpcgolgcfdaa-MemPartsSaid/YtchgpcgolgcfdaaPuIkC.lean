/- Versions of keys (ikey), in plain numbers: their order, what is right; how much room texts take. (As PuIk, without what chapter 5 alone needs.) -/
import Derived.Test.YtchgpcgolgcfdaaPNumx10
import Derived.Test.YtchgpcgolgcfdaaPNumx2
import Derived.Test.YtchgpcgolgcfdaaPNumx8
import Derived.Test.YtchgpcgolgcfdaaWPu
import Derived.Test.YtchgpcgolgcfdaaWRd
namespace Go.Proofs.Ytchgpcgolgcfdaa.PuIkC
open Go Go.RowKit Go.Proofs.Ytchgpcgolgcfdaa.PNum Go.Proofs.YtchgpcgolgcfdaaW.PrintWords Go.Proofs.YtchgpcgolgcfdaaW.PrintLast Go.Proofs.YtchgpcgolgcfdaaW.PrintMore Go.Proofs.YtchgpcgolgcfdaaW.Pu
theorem rd_nat (l : List Int) (i : Nat) (h : i < l.length) : rd l (i : Int) = l[i] := by
  simp [rd, h]
/-! ### the order of bytes -/
theorem cl_range : ∀ a b : List UInt8, Lib.compareBytes a b = -1 ∨ Lib.compareBytes a b = 0 ∨ Lib.compareBytes a b = 1
  | [], [] => .inr (.inl rfl)
  | [], _ :: _ => .inl rfl
  | _ :: _, [] => .inr (.inr rfl)
  | a :: xs, b :: ys => by
    rw [Lib.compareBytes]
    split
    · exact .inl rfl
    · split
      · exact .inr (.inr rfl)
      · exact cl_range xs ys
theorem cl_neg : ∀ a b : List UInt8, Lib.compareBytes a b = -Lib.compareBytes b a
  | [], [] => rfl
  | [], _ :: _ => rfl
  | _ :: _, [] => rfl
  | a :: xs, b :: ys => by
    rw [Lib.compareBytes, Lib.compareBytes, cl_neg xs ys]
    by_cases h : a < b
    · rw [if_pos h, if_neg (fun k => UInt8.lt_asymm h k), if_pos h]
    · by_cases k : b < a
      · rw [if_neg h, if_pos k, if_pos k]; rfl
      · rw [if_neg h, if_neg k, if_neg k, if_neg h]
theorem cl_zero : ∀ a b : List UInt8, Lib.compareBytes a b = 0 ↔ a = b
  | [], [] => by simp [Lib.compareBytes]
  | [], _ :: _ => by simp [Lib.compareBytes]
  | _ :: _, [] => by simp [Lib.compareBytes]
  | a :: xs, b :: ys => by
    rw [Lib.compareBytes]
    by_cases h : a < b
    · rw [if_pos h]
      simp only [List.cons.injEq]
      exact ⟨fun k => by omega, fun k => absurd (k.1 ▸ h) (UInt8.lt_irrefl _)⟩
    · by_cases k : b < a
      · rw [if_neg h, if_pos k]
        simp only [List.cons.injEq]
        exact ⟨fun k => by omega, fun q => absurd (q.1 ▸ k) (UInt8.lt_irrefl _)⟩
      · rw [if_neg h, if_neg k, cl_zero xs ys, List.cons.injEq]
        have : a = b := UInt8.le_antisymm (UInt8.not_lt.1 k) (UInt8.not_lt.1 h)
        simp [this]
theorem cl_trans : ∀ a b c : List UInt8, Lib.compareBytes a b = -1 → Lib.compareBytes b c = -1 → Lib.compareBytes a c = -1
  | [], _, [] => fun h k => by
    rename_i b
    cases b with
    | nil => cases h
    | cons => cases k
  | [], _, _ :: _ => fun _ _ => rfl
  | _ :: _, [], _ => fun h _ => by cases h
  | _ :: _, _ :: _, [] => fun _ h => by cases h
  | a :: xs, b :: ys, c :: zs => by
    intro h k
    rw [Lib.compareBytes] at h k ⊢
    by_cases h1 : a < b
    · by_cases k1 : b < c
      · rw [if_pos (UInt8.lt_trans h1 k1)]
      · rw [if_neg k1] at k
        by_cases k2 : c < b
        · rw [if_pos k2] at k; cases k
        · have : b = c := UInt8.le_antisymm (UInt8.not_lt.1 k2) (UInt8.not_lt.1 k1)
          rw [if_pos (this ▸ h1)]
    · rw [if_neg h1] at h
      by_cases h2 : b < a
      · rw [if_pos h2] at h; cases h
      · rw [if_neg h2] at h
        have hab : a = b := UInt8.le_antisymm (UInt8.not_lt.1 h2) (UInt8.not_lt.1 h1)
        subst hab
        by_cases k1 : a < c
        · rw [if_pos k1]
        · rw [if_neg k1] at k ⊢
          by_cases k2 : c < a
          · rw [if_pos k2] at k; cases k
          · rw [if_neg k2] at k ⊢
            exact cl_trans xs ys zs h k
def cb (a b : ByteArray) : Int := Lib.compareBytes a.data.toList b.data.toList
theorem ba_ext {a b : ByteArray} : a.data.toList = b.data.toList ↔ a = b := by
  refine ⟨fun h => ?_, fun h => by rw [h]⟩
  cases a; cases b
  simp only [ByteArray.mk.injEq]
  exact Array.toList_inj.1 h
theorem tl_ext {a b : ByteArray} : a.toList = b.toList ↔ a = b := by rw [toList_data, toList_data, ba_ext]
theorem tl_beq (a b : ByteArray) : (a.toList == b.toList) = decide (a = b) := by
  by_cases h : a = b
  · subst h; simp
  · rw [decide_eq_false h, beq_eq_false_iff_ne]
    exact fun k => h (tl_ext.1 k)
def cs (x y : Int) : Int := if x < y then -1 else if x > y then 1 else 0
/-- The order of versions. -/
def ce (a b : S29) : Int := if cb a.f0 b.f0 = 0 then cs b.f1 a.f1 else cb a.f0 b.f0
theorem cs_range (x y : Int) : cs x y = -1 ∨ cs x y = 0 ∨ cs x y = 1 := by
  unfold cs
  split
  · exact .inl rfl
  · split
    · exact .inr (.inr rfl)
    · exact .inr (.inl rfl)
theorem cmp_u64 (x y : Int) : cmp_Compare_uint64.f x y = some (cs x y) := by
  simp only [cmp_Compare_uint64.f, cmp_isNaN_uint64.f, Option.bind_some, bne_self_eq_false]
  rw [if_neg (by simp), if_neg (by simp)]
  unfold cs
  split
  · rfl
  · split <;> rfl
theorem Or_ev (x y : Int) : Ev (fun k => cmp_Or_int.f k [x, y]) (if x = 0 then y else x) := by
  refine Ev.congr (fun k => by rw [cmp_Or_int.f]) (Ev.step (fun k => by rw [cmp_Or_int.l0]) ?_)
  refine ev_pos (show (0 : Int) < (([x, y] : List Int).length : Int) by simp) (ev_pos (by omega) (ev_pos (show (0 : Int) < (([x, y] : List Int).length : Int) by simp) ?_))
  rw [show rd [x, y] 0 = x from rfl]
  by_cases h : x = 0
  · rw [if_pos h]
    refine ev_pos h ?_
    rw [show wrap64 (0 + 1) = 1 from wrap64_id (by omega)]
    refine Ev.step (fun k => by rw [cmp_Or_int.l0]) ?_
    refine ev_pos (show (1 : Int) < (([x, y] : List Int).length : Int) by simp) (ev_pos (by omega) (ev_pos (show (1 : Int) < (([x, y] : List Int).length : Int) by simp) ?_))
    rw [show rd [x, y] 1 = y from rfl]
    by_cases k : y = 0
    · refine ev_pos k ?_
      rw [show wrap64 (1 + 1) = 2 from wrap64_id (by omega)]
      refine Ev.step (fun k => by rw [cmp_Or_int.l0]) (ev_neg (show ¬ (2 : Int) < (([x, y] : List Int).length : Int) by simp) (ev_const ?_))
      rw [k]
    · exact ev_neg k (ev_const rfl)
  · rw [if_neg h]
    exact ev_neg h (ev_const rfl)
theorem Compare_ev (a b : S29) : Ev (fun k => ikey_Compare.f k a.f0 a.f1 a.f2 a.f3 b.f0 b.f1 b.f2 b.f3) (ce a b) := by
  refine Ev.congr (fun k => by rw [ikey_Compare.f]) (ev_call (show strings_Compare.f a.f0 b.f0 = some (cb a.f0 b.f0) from rfl) (ev_call (cmp_u64 b.f1 a.f1) (Ev.bind (Or_ev _ _) (ev_const rfl))))
theorem ce_range (a b : S29) : ce a b = -1 ∨ ce a b = 0 ∨ ce a b = 1 := by
  unfold ce
  split
  · exact cs_range _ _
  · exact cl_range _ _
theorem cb_neg (a b : ByteArray) : cb a b = - cb b a := cl_neg _ _
theorem cb_zero (a b : ByteArray) : cb a b = 0 ↔ a = b := (cl_zero _ _).trans ba_ext
theorem cs_neg (x y : Int) : cs x y = - cs y x := by unfold cs; split <;> split <;> (try split) <;> omega
theorem ce_neg (a b : S29) : ce a b = - ce b a := by
  unfold ce
  rw [cb_neg a.f0 b.f0, cs_neg b.f1 a.f1]
  by_cases h : cb b.f0 a.f0 = 0
  · rw [if_pos h, if_pos (by omega)]
  · rw [if_neg h, if_neg (by omega)]
theorem cs_zero (x y : Int) : cs x y = 0 ↔ x = y := by unfold cs; split <;> (try split) <;> omega
theorem ce_zero (a b : S29) : ce a b = 0 ↔ a.f0 = b.f0 ∧ a.f1 = b.f1 := by
  unfold ce
  by_cases h : cb a.f0 b.f0 = 0
  · rw [if_pos h, cs_zero]
    have := (cb_zero _ _).1 h
    exact ⟨fun k => ⟨this, k.symm⟩, fun k => k.2.symm⟩
  · rw [if_neg h]
    exact ⟨fun k => absurd k h, fun k => absurd ((cb_zero _ _).2 k.1) h⟩
theorem ce_trans {a b c : S29} (h : ce a b = -1) (k : ce b c = -1) : ce a c = -1 := by
  unfold ce at *
  by_cases h0 : cb a.f0 b.f0 = 0
  · rw [if_pos h0] at h
    have e := (cb_zero _ _).1 h0
    rw [e]
    by_cases k0 : cb b.f0 c.f0 = 0
    · rw [if_pos k0] at k ⊢
      unfold cs at *
      rw [if_pos]
      split at h
      · split at k
        · omega
        · split at k <;> cases k
      · split at h <;> cases h
    · rw [if_neg k0] at k ⊢
      exact k
  · rw [if_neg h0] at h
    by_cases k0 : cb b.f0 c.f0 = 0
    · have e := (cb_zero _ _).1 k0
      rw [← e, if_neg h0]
      exact h
    · rw [if_neg k0] at k
      have : cb a.f0 c.f0 = -1 := cl_trans _ _ _ h k
      rw [if_neg (by omega)]
      exact this
theorem ce_same {a b : S29} (h : a.f0 = b.f0) (c : S29) (k : a.f1 = b.f1) : ce a c = ce b c := by
  unfold ce
  rw [h, k]
/-! ### a right version -/
def valid (a0 : ByteArray) (a2 : Int) (a3 : ByteArray) : Bool := decide ((a0.size : Int) ≤ 300 ∧ (a3.size : Int) ≤ 60000 ∧ if a2 = 2 then a3 = ⟨#[]⟩ else a2 = 1)
theorem nil_toList : (⟨#[]⟩ : ByteArray).toList = [] := by rw [toList_data]
theorem Valid_ev (a0 : ByteArray) (a1 a2 : Int) (a3 : ByteArray) : Ev (fun k => ikey_Valid.f k a0 a1 a2 a3) (valid a0 a2 a3) := by
  refine Ev.congr (fun k => by rw [ikey_Valid.f]) ?_
  have hn : ∀ {b : Bool}, valid a0 a2 a3 = false → b = true → Ev (fun k => ikey_Valid.j0 k b a0 a1 a2 a3) (valid a0 a2 a3) := by
    intro b h hb
    subst hb
    exact Ev.step (fun k => by rw [ikey_Valid.j0]) (ev_pos rfl (ev_const (by rw [h])))
  by_cases h : (a0.size : Int) > 300
  · refine ev_pos h (hn ?_ rfl)
    unfold valid
    exact decide_eq_false (fun k => by omega)
  · refine ev_neg h ?_
    by_cases k : (a3.size : Int) > 60000
    · refine hn ?_ (decide_eq_true k)
      unfold valid
      exact decide_eq_false (fun q => by omega)
    · rw [decide_eq_false k]
      refine Ev.step (fun k => by rw [ikey_Valid.j0]) (ev_neg (by simp) ?_)
      unfold valid
      by_cases q : a2 = 2
      · refine ev_pos q (ev_const ?_)
        have hb := tl_beq a3 ⟨#[]⟩
        rw [nil_toList] at hb
        rw [hb]
        refine congrArg some (decide_eq_decide.2 ?_)
        rw [if_pos q]
        exact ⟨fun x => ⟨by omega, by omega, x⟩, fun x => x.2.2⟩
      · refine ev_neg q (ev_const ?_)
        refine congrArg some ((decide_eq_decide (p := a2 = 1)).2 ?_)
        rw [if_neg q]
        exact ⟨fun x => ⟨by omega, by omega, x⟩, fun x => x.2.2⟩
/-! ### what is picked -/
theorem Room_ev (r a b : Int) (hr : -1 ≤ r ∧ r ≤ 20000) (ha : 0 ≤ a ∧ a ≤ 9223372036854775807) (hb : 0 ≤ b ∧ b ≤ 9223372036854775807) : ∃ q, Ev (fun k => cornucopiabook_Room.f k r [a, b]) q ∧ -1 ≤ q ∧ q ≤ 20000 := by
  have fin : ∀ q, (h : Ev (fun k => cornucopiabook_Room.l0 k r [a, b] 0) q) → Ev (fun k => cornucopiabook_Room.f k r [a, b]) q := fun q h => Ev.congr (fun k => by rw [cornucopiabook_Room.f]) h
  have l2 : (([a, b] : List Int).length : Int) = 2 := rfl
  by_cases h0 : r < 0
  · exact ⟨-1, fin _ (Ev.step (fun k => by rw [cornucopiabook_Room.l0, l2]) (ev_pos (by omega) (ev_pos h0 (ev_const rfl)))), by omega, by omega⟩
  by_cases h1 : a > r
  · exact ⟨-1, fin _ (Ev.step (fun k => by rw [cornucopiabook_Room.l0, l2, show rd [a, b] 0 = a from rfl]) (ev_pos (by omega) (ev_neg h0 (ev_pos (by omega) (ev_pos h1 (ev_const rfl)))))), by omega, by omega⟩
  have s1 : wrap64 (r - a) = r - a := wrap64_id (by omega)
  have s2 : wrap64 ((0 : Int) + 1) = 1 := wrap64_id (by omega)
  have s3 : wrap64 ((1 : Int) + 1) = 2 := wrap64_id (by omega)
  have f1 : ∀ q, (h : Ev (fun k => cornucopiabook_Room.l0 k (r - a) [a, b] 1) q) → Ev (fun k => cornucopiabook_Room.f k r [a, b]) q := fun q h =>
    fin _ (Ev.step (fun k => by rw [cornucopiabook_Room.l0, l2, show rd [a, b] 0 = a from rfl, s1, s2]) (ev_pos (by omega) (ev_neg h0 (ev_pos (by omega) (ev_neg h1 h)))))
  by_cases h2 : b > r - a
  · exact ⟨-1, f1 _ (Ev.step (fun k => by rw [cornucopiabook_Room.l0, l2, show rd [a, b] 1 = b from rfl]) (ev_pos (by omega) (ev_neg (by omega) (ev_pos (by omega) (ev_pos h2 (ev_const rfl)))))), by omega, by omega⟩
  · have s4 : wrap64 (r - a - b) = r - a - b := wrap64_id (by omega)
    exact ⟨r - a - b, f1 _ (Ev.step (fun k => by rw [cornucopiabook_Room.l0, l2, show rd [a, b] 1 = b from rfl, s3, s4]) (ev_pos (by omega) (ev_neg (by omega) (ev_pos (by omega) (ev_neg h2 (Ev.step (fun k => by rw [cornucopiabook_Room.l0, l2]) (ev_neg (by omega) (ev_const rfl)))))))), by omega, by omega⟩
end Go.Proofs.Ytchgpcgolgcfdaa.PuIkC
