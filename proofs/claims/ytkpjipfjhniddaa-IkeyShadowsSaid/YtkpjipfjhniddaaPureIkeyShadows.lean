/- IkeyShadows, in plain numbers: versions and their order, what nobody sees may go, and the law (one text, as a claim has at most 60 files). -/
import Derived.Test.YtkpjipfjhniddaaPNumx39
import Derived.Test.YtkpjipfjhniddaaWPu
namespace Go.Proofs.Ytkpjipfjhniddaa.PuIk
open Go Go.RowKit Go.Proofs.Ytkpjipfjhniddaa.PNum Go.Proofs.YtkpjipfjhniddaaW.PrintWords Go.Proofs.YtkpjipfjhniddaaW.PrintLast Go.Proofs.YtkpjipfjhniddaaW.PrintMore Go.Proofs.YtkpjipfjhniddaaW.Pu
/-! ### the order of bytes -/
theorem cl_range : ∀ a b : List UInt8, Lib.compareBytes a b = -1 ∨ Lib.compareBytes a b = 0 ∨ Lib.compareBytes a b = 1
  | [], [] => .inr (.inl rfl)
  | [], _ :: _ => .inl rfl
  | _ :: _, [] => .inr (.inr rfl)
  | a :: xs, b :: ys => by
    rw [Lib.compareBytes]
    split
    · exact .inl rfl
    · split
      · exact .inr (.inr rfl)
      · exact cl_range xs ys
theorem cl_neg : ∀ a b : List UInt8, Lib.compareBytes a b = -Lib.compareBytes b a
  | [], [] => rfl
  | [], _ :: _ => rfl
  | _ :: _, [] => rfl
  | a :: xs, b :: ys => by
    rw [Lib.compareBytes, Lib.compareBytes, cl_neg xs ys]
    by_cases h : a < b
    · rw [if_pos h, if_neg (fun k => UInt8.lt_asymm h k), if_pos h]
    · by_cases k : b < a
      · rw [if_neg h, if_pos k, if_pos k]; rfl
      · rw [if_neg h, if_neg k, if_neg k, if_neg h]
theorem cl_zero : ∀ a b : List UInt8, Lib.compareBytes a b = 0 ↔ a = b
  | [], [] => by simp [Lib.compareBytes]
  | [], _ :: _ => by simp [Lib.compareBytes]
  | _ :: _, [] => by simp [Lib.compareBytes]
  | a :: xs, b :: ys => by
    rw [Lib.compareBytes]
    by_cases h : a < b
    · rw [if_pos h]
      simp only [List.cons.injEq]
      exact ⟨fun k => by omega, fun k => absurd (k.1 ▸ h) (UInt8.lt_irrefl _)⟩
    · by_cases k : b < a
      · rw [if_neg h, if_pos k]
        simp only [List.cons.injEq]
        exact ⟨fun k => by omega, fun q => absurd (q.1 ▸ k) (UInt8.lt_irrefl _)⟩
      · rw [if_neg h, if_neg k, cl_zero xs ys, List.cons.injEq]
        have : a = b := UInt8.le_antisymm (UInt8.not_lt.1 k) (UInt8.not_lt.1 h)
        simp [this]
theorem cl_trans : ∀ a b c : List UInt8, Lib.compareBytes a b = -1 → Lib.compareBytes b c = -1 → Lib.compareBytes a c = -1
  | [], _, [] => fun h k => by
    rename_i b
    cases b with
    | nil => cases h
    | cons => cases k
  | [], _, _ :: _ => fun _ _ => rfl
  | _ :: _, [], _ => fun h _ => by cases h
  | _ :: _, _ :: _, [] => fun _ h => by cases h
  | a :: xs, b :: ys, c :: zs => by
    intro h k
    rw [Lib.compareBytes] at h k ⊢
    by_cases h1 : a < b
    · by_cases k1 : b < c
      · rw [if_pos (UInt8.lt_trans h1 k1)]
      · rw [if_neg k1] at k
        by_cases k2 : c < b
        · rw [if_pos k2] at k; cases k
        · have : b = c := UInt8.le_antisymm (UInt8.not_lt.1 k2) (UInt8.not_lt.1 k1)
          rw [if_pos (this ▸ h1)]
    · rw [if_neg h1] at h
      by_cases h2 : b < a
      · rw [if_pos h2] at h; cases h
      · rw [if_neg h2] at h
        have hab : a = b := UInt8.le_antisymm (UInt8.not_lt.1 h2) (UInt8.not_lt.1 h1)
        subst hab
        by_cases k1 : a < c
        · rw [if_pos k1]
        · rw [if_neg k1] at k ⊢
          by_cases k2 : c < a
          · rw [if_pos k2] at k; cases k
          · rw [if_neg k2] at k ⊢
            exact cl_trans xs ys zs h k
def cb (a b : ByteArray) : Int := Lib.compareBytes a.data.toList b.data.toList
theorem ba_ext {a b : ByteArray} : a.data.toList = b.data.toList ↔ a = b := by
  refine ⟨fun h => ?_, fun h => by rw [h]⟩
  cases a; cases b
  simp only [ByteArray.mk.injEq]
  exact Array.toList_inj.1 h
theorem tl_ext {a b : ByteArray} : a.toList = b.toList ↔ a = b := by rw [toList_data, toList_data, ba_ext]
theorem tl_beq (a b : ByteArray) : (a.toList == b.toList) = decide (a = b) := by
  by_cases h : a = b
  · subst h; simp
  · rw [decide_eq_false h, beq_eq_false_iff_ne]
    exact fun k => h (tl_ext.1 k)
def cs (x y : Int) : Int := if x < y then -1 else if x > y then 1 else 0
/-- The order of versions. -/
def ce (a b : S29) : Int := if cb a.f0 b.f0 = 0 then cs b.f1 a.f1 else cb a.f0 b.f0
theorem cs_range (x y : Int) : cs x y = -1 ∨ cs x y = 0 ∨ cs x y = 1 := by
  unfold cs
  split
  · exact .inl rfl
  · split
    · exact .inr (.inr rfl)
    · exact .inr (.inl rfl)
theorem cmp_u64 (x y : Int) : cmp_Compare_uint64.f x y = some (cs x y) := by
  simp only [cmp_Compare_uint64.f, cmp_isNaN_uint64.f, Option.bind_some, bne_self_eq_false]
  rw [if_neg (by simp), if_neg (by simp)]
  unfold cs
  split
  · rfl
  · split <;> rfl
theorem Or_ev (x y : Int) : Ev (fun k => cmp_Or_int.f k [x, y]) (if x = 0 then y else x) := by
  refine Ev.congr (fun k => by rw [cmp_Or_int.f]) (Ev.step (fun k => by rw [cmp_Or_int.l0]) ?_)
  refine ev_pos (show (0 : Int) < (([x, y] : List Int).length : Int) by simp) (ev_pos (by omega) (ev_pos (show (0 : Int) < (([x, y] : List Int).length : Int) by simp) ?_))
  rw [show rd [x, y] 0 = x from rfl]
  by_cases h : x = 0
  · rw [if_pos h]
    refine ev_pos h ?_
    rw [show wrap64 (0 + 1) = 1 from wrap64_id (by omega)]
    refine Ev.step (fun k => by rw [cmp_Or_int.l0]) ?_
    refine ev_pos (show (1 : Int) < (([x, y] : List Int).length : Int) by simp) (ev_pos (by omega) (ev_pos (show (1 : Int) < (([x, y] : List Int).length : Int) by simp) ?_))
    rw [show rd [x, y] 1 = y from rfl]
    by_cases k : y = 0
    · refine ev_pos k ?_
      rw [show wrap64 (1 + 1) = 2 from wrap64_id (by omega)]
      refine Ev.step (fun k => by rw [cmp_Or_int.l0]) (ev_neg (show ¬ (2 : Int) < (([x, y] : List Int).length : Int) by simp) (ev_const ?_))
      rw [k]
    · exact ev_neg k (ev_const rfl)
  · rw [if_neg h]
    exact ev_neg h (ev_const rfl)
theorem Compare_ev (a b : S29) : Ev (fun k => ikey_Compare.f k a.f0 a.f1 a.f2 a.f3 b.f0 b.f1 b.f2 b.f3) (ce a b) := by
  refine Ev.congr (fun k => by rw [ikey_Compare.f]) (ev_call (show strings_Compare.f a.f0 b.f0 = some (cb a.f0 b.f0) from rfl) (ev_call (cmp_u64 b.f1 a.f1) (Ev.bind (Or_ev _ _) (ev_const rfl))))
theorem ce_range (a b : S29) : ce a b = -1 ∨ ce a b = 0 ∨ ce a b = 1 := by
  unfold ce
  split
  · exact cs_range _ _
  · exact cl_range _ _
theorem cb_neg (a b : ByteArray) : cb a b = - cb b a := cl_neg _ _
theorem cb_zero (a b : ByteArray) : cb a b = 0 ↔ a = b := (cl_zero _ _).trans ba_ext
theorem cs_neg (x y : Int) : cs x y = - cs y x := by unfold cs; split <;> split <;> (try split) <;> omega
theorem ce_neg (a b : S29) : ce a b = - ce b a := by
  unfold ce
  rw [cb_neg a.f0 b.f0, cs_neg b.f1 a.f1]
  by_cases h : cb b.f0 a.f0 = 0
  · rw [if_pos h, if_pos (by omega)]
  · rw [if_neg h, if_neg (by omega)]
theorem cs_zero (x y : Int) : cs x y = 0 ↔ x = y := by unfold cs; split <;> (try split) <;> omega
theorem ce_zero (a b : S29) : ce a b = 0 ↔ a.f0 = b.f0 ∧ a.f1 = b.f1 := by
  unfold ce
  by_cases h : cb a.f0 b.f0 = 0
  · rw [if_pos h, cs_zero]
    have := (cb_zero _ _).1 h
    exact ⟨fun k => ⟨this, k.symm⟩, fun k => k.2.symm⟩
  · rw [if_neg h]
    exact ⟨fun k => absurd k h, fun k => absurd ((cb_zero _ _).2 k.1) h⟩
theorem ce_trans {a b c : S29} (h : ce a b = -1) (k : ce b c = -1) : ce a c = -1 := by
  unfold ce at *
  by_cases h0 : cb a.f0 b.f0 = 0
  · rw [if_pos h0] at h
    have e := (cb_zero _ _).1 h0
    rw [e]
    by_cases k0 : cb b.f0 c.f0 = 0
    · rw [if_pos k0] at k ⊢
      unfold cs at *
      rw [if_pos]
      split at h
      · split at k
        · omega
        · split at k <;> cases k
      · split at h <;> cases h
    · rw [if_neg k0] at k ⊢
      exact k
  · rw [if_neg h0] at h
    by_cases k0 : cb b.f0 c.f0 = 0
    · have e := (cb_zero _ _).1 k0
      rw [← e, if_neg h0]
      exact h
    · rw [if_neg k0] at k
      have : cb a.f0 c.f0 = -1 := cl_trans _ _ _ h k
      rw [if_neg (by omega)]
      exact this
theorem ce_same {a b : S29} (h : a.f0 = b.f0) (c : S29) (k : a.f1 = b.f1) : ce a c = ce b c := by
  unfold ce
  rw [h, k]
/-! ### a right version -/
def valid (a0 : ByteArray) (a2 : Int) (a3 : ByteArray) : Bool := decide ((a0.size : Int) ≤ 300 ∧ (a3.size : Int) ≤ 60000 ∧ if a2 = 2 then a3 = ⟨#[]⟩ else a2 = 1)
theorem nil_toList : (⟨#[]⟩ : ByteArray).toList = [] := by rw [toList_data]
theorem Valid_ev (a0 : ByteArray) (a1 a2 : Int) (a3 : ByteArray) : Ev (fun k => ikey_Valid.f k a0 a1 a2 a3) (valid a0 a2 a3) := by
  refine Ev.congr (fun k => by rw [ikey_Valid.f]) ?_
  have hn : ∀ {b : Bool}, valid a0 a2 a3 = false → b = true → Ev (fun k => ikey_Valid.j0 k b a0 a1 a2 a3) (valid a0 a2 a3) := by
    intro b h hb
    subst hb
    exact Ev.step (fun k => by rw [ikey_Valid.j0]) (ev_pos rfl (ev_const (by rw [h])))
  by_cases h : (a0.size : Int) > 300
  · refine ev_pos h (hn ?_ rfl)
    unfold valid
    exact decide_eq_false (fun k => by omega)
  · refine ev_neg h ?_
    by_cases k : (a3.size : Int) > 60000
    · refine hn ?_ (decide_eq_true k)
      unfold valid
      exact decide_eq_false (fun q => by omega)
    · rw [decide_eq_false k]
      refine Ev.step (fun k => by rw [ikey_Valid.j0]) (ev_neg (by simp) ?_)
      unfold valid
      by_cases q : a2 = 2
      · refine ev_pos q (ev_const ?_)
        have hb := tl_beq a3 ⟨#[]⟩
        rw [nil_toList] at hb
        rw [hb]
        refine congrArg some (decide_eq_decide.2 ?_)
        rw [if_pos q]
        exact ⟨fun x => ⟨by omega, by omega, x⟩, fun x => x.2.2⟩
      · refine ev_neg q (ev_const ?_)
        refine congrArg some ((decide_eq_decide (p := a2 = 1)).2 ?_)
        rw [if_neg q]
        exact ⟨fun x => ⟨by omega, by omega, x⟩, fun x => x.2.2⟩
/-! ### what is picked -/
def pick (key : ByteArray) (q : Int) : List S29 → S29 → Bool → S29 × Bool
  | [], b, f => (b, f)
  | e :: l, b, f => if e.f0 = key ∧ e.f1 ≤ q ∧ (f = true → e.f1 > b.f1) then pick key q l e true else pick key q l b f
theorem at_nat (l : List S29) (i : Nat) (h : i < l.length) : rd_T29 l (i : Int) = l[i] := by
  simp [rd_T29, h]
theorem Pick_l0 (key : ByteArray) (q : Int) (l : List S29) (hl : l.length ≤ 9223372036854775806) (d : Nat) : ∀ (i : Nat) (b : S29) (f : Bool), i + d = l.length →
    Ev (fun k => ikey_Pick.l0 k key q f l (l.length : Int) (i : Int) b.f0 b.f1 b.f2 b.f3) ((pick key q (l.drop i) b f).1.f0, (pick key q (l.drop i) b f).1.f1, (pick key q (l.drop i) b f).1.f2, (pick key q (l.drop i) b f).1.f3, (pick key q (l.drop i) b f).2) := by
  induction d with
  | zero =>
    intro i b f h
    rw [List.drop_of_length_le (by omega)]
    refine Ev.step (fun k => by rw [ikey_Pick.l0]) ?_
    exact ev_neg (show ¬ (i : Int) < (l.length : Int) by omega) (ev_const rfl)
  | succ d ih =>
    intro i b f h
    have hlt : i < l.length := by omega
    have hd : l.drop i = l[i] :: l.drop (i + 1) := List.drop_eq_getElem_cons hlt
    have hw : wrap64 ((i : Int) + 1) = ((i + 1 : Nat) : Int) := by rw [wrap64_id (by omega)]; omega
    rw [hd, pick]
    refine Ev.step (fun k => by rw [ikey_Pick.l0, at_nat l i hlt, hw]) (ev_pos (by omega) (ev_pos (by omega) (ev_pos (by omega) ?_)))
    by_cases h1 : l[i].f0 = key
    · refine ev_pos (tl_ext.2 h1) ?_
      by_cases h2 : l[i].f1 ≤ q
      · refine ev_pos h2 ?_
        cases f with
        | false =>
          refine ev_neg (by simp) ?_
          rw [if_pos ⟨h1, h2, by simp⟩]
          exact ih (i + 1) l[i] true (by omega)
        | true =>
          refine ev_pos rfl ?_
          by_cases h3 : l[i].f1 > b.f1
          · refine ev_pos h3 ?_
            rw [if_pos ⟨h1, h2, fun _ => h3⟩]
            exact ih (i + 1) l[i] true (by omega)
          · refine ev_neg h3 ?_
            rw [if_neg (fun k => h3 (k.2.2 rfl))]
            exact ih (i + 1) b true (by omega)
      · refine ev_neg h2 ?_
        rw [if_neg (fun k => h2 k.2.1)]
        exact ih (i + 1) b f (by omega)
    · refine ev_neg (fun k => h1 (tl_ext.1 k)) ?_
      rw [if_neg (fun k => h1 k.1)]
      exact ih (i + 1) b f (by omega)
def z0 : S29 := ⟨⟨#[]⟩, 0, 0, ⟨#[]⟩⟩
theorem Pick_ev (key : ByteArray) (q : Int) (l : List S29) (hl : l.length ≤ 9223372036854775806) :
    Ev (fun k => ikey_Pick.f k l key q) ((pick key q l z0 false).1.f0, (pick key q l z0 false).1.f1, (pick key q l z0 false).1.f2, (pick key q l z0 false).1.f3, (pick key q l z0 false).2) := by
  have := Pick_l0 key q l hl l.length 0 z0 false (by omega)
  simpa [ikey_Pick.f, z0] using this
/-! ### the first call -/
def e5 : S29 := ⟨⟨#[97]⟩, 5, 1, ⟨#[]⟩⟩
def e3 : S29 := ⟨⟨#[97]⟩, 3, 1, ⟨#[]⟩⟩
def e1 : S29 := ⟨⟨#[97]⟩, 1, 1, ⟨#[]⟩⟩
theorem first_shadow : ikey_Shadow.f [e5, e3, e1] [4] = some [e5, e3] := by
  have hw : (Lit.int .u64 4).wf = true := by decide
  simp [ikey_Shadow.f, ikey_Shadow.go, ikey_Shadow.inn, ikey_Shadow.first, e5, e3, e1, hw]
theorem first_pick : pick ⟨#[97]⟩ 4 [e5, e3, e1] z0 false = (e3, true) := by
  simp [pick, e5, e3, e1]
theorem alive_ev : Ev (fun k => cornucopialaw5_alive.f k) true := by
  have hp := Pick_ev ⟨#[97]⟩ 4 [e5, e3, e1] (by simp)
  rw [first_pick] at hp
  have hc := Compare_ev e5 e3
  have hce : ce e5 e3 = -1 := by
    unfold ce
    rw [if_pos ((cb_zero e5.f0 e3.f0).2 rfl)]
    decide
  rw [hce] at hc
  have v1 := Valid_ev e5.f0 e5.f1 e5.f2 e5.f3
  rw [show valid e5.f0 e5.f2 e5.f3 = true from by unfold valid e5; exact decide_eq_true ⟨by decide, by decide, by simp⟩] at v1
  have v2 := Valid_ev ⟨#[97]⟩ 0 0 ⟨#[]⟩
  rw [show valid ⟨#[97]⟩ 0 ⟨#[]⟩ = false from by unfold valid; exact decide_eq_false (fun h => by simp at h)] at v2
  refine Ev.congr (fun k => by rw [cornucopialaw5_alive.f]) ?_
  refine ev_some (x := [e5, e3, e1]) ?_
  refine ev_call first_shadow ?_
  refine Ev.bind hp ?_
  refine ev_pos rfl (ev_pos (by decide) (ev_pos rfl (ev_pos rfl (ev_pos rfl (ev_pos (by decide) (ev_pos (by decide) (Ev.bind hc (ev_pos rfl (Ev.bind v1 (ev_pos rfl (Ev.bind v2 (ev_const rfl))))))))))))
/-! ### few and short enough -/
theorem Room_ev (r a b : Int) (hr : -1 ≤ r ∧ r ≤ 20000) (ha : 0 ≤ a ∧ a ≤ 9223372036854775807) (hb : 0 ≤ b ∧ b ≤ 9223372036854775807) : ∃ q, Ev (fun k => cornucopiabook_Room.f k r [a, b]) q ∧ -1 ≤ q ∧ q ≤ 20000 := by
  have fin : ∀ q, (h : Ev (fun k => cornucopiabook_Room.l0 k r [a, b] 0) q) → Ev (fun k => cornucopiabook_Room.f k r [a, b]) q := fun q h => Ev.congr (fun k => by rw [cornucopiabook_Room.f]) h
  have l2 : (([a, b] : List Int).length : Int) = 2 := rfl
  by_cases h0 : r < 0
  · exact ⟨-1, fin _ (Ev.step (fun k => by rw [cornucopiabook_Room.l0, l2]) (ev_pos (by omega) (ev_pos h0 (ev_const rfl)))), by omega, by omega⟩
  by_cases h1 : a > r
  · exact ⟨-1, fin _ (Ev.step (fun k => by rw [cornucopiabook_Room.l0, l2, show rd [a, b] 0 = a from rfl]) (ev_pos (by omega) (ev_neg h0 (ev_pos (by omega) (ev_pos h1 (ev_const rfl)))))), by omega, by omega⟩
  have s1 : wrap64 (r - a) = r - a := wrap64_id (by omega)
  have s2 : wrap64 ((0 : Int) + 1) = 1 := wrap64_id (by omega)
  have s3 : wrap64 ((1 : Int) + 1) = 2 := wrap64_id (by omega)
  have f1 : ∀ q, (h : Ev (fun k => cornucopiabook_Room.l0 k (r - a) [a, b] 1) q) → Ev (fun k => cornucopiabook_Room.f k r [a, b]) q := fun q h =>
    fin _ (Ev.step (fun k => by rw [cornucopiabook_Room.l0, l2, show rd [a, b] 0 = a from rfl, s1, s2]) (ev_pos (by omega) (ev_neg h0 (ev_pos (by omega) (ev_neg h1 h)))))
  by_cases h2 : b > r - a
  · exact ⟨-1, f1 _ (Ev.step (fun k => by rw [cornucopiabook_Room.l0, l2, show rd [a, b] 1 = b from rfl]) (ev_pos (by omega) (ev_neg (by omega) (ev_pos (by omega) (ev_pos h2 (ev_const rfl)))))), by omega, by omega⟩
  · have s4 : wrap64 (r - a - b) = r - a - b := wrap64_id (by omega)
    exact ⟨r - a - b, f1 _ (Ev.step (fun k => by rw [cornucopiabook_Room.l0, l2, show rd [a, b] 1 = b from rfl, s3, s4]) (ev_pos (by omega) (ev_neg (by omega) (ev_pos (by omega) (ev_neg h2 (Ev.step (fun k => by rw [cornucopiabook_Room.l0, l2]) (ev_neg (by omega) (ev_const rfl)))))))), by omega, by omega⟩
end Go.Proofs.Ytkpjipfjhniddaa.PuIk

namespace Go.Proofs.Ytkpjipfjhniddaa.PuIkB
open Go Go.RowKit Go.Proofs.Ytkpjipfjhniddaa.PNum Go.Proofs.Ytkpjipfjhniddaa.PuIk Go.Proofs.YtkpjipfjhniddaaW.PrintWords Go.Proofs.YtkpjipfjhniddaaW.PrintLast Go.Proofs.YtkpjipfjhniddaaW.PrintMore Go.Proofs.YtkpjipfjhniddaaW.Pu
theorem Small_l0 (l : List S29) (hs : ∀ e ∈ l, e.f0.size ≤ 140737488351232 ∧ e.f3.size ≤ 140737488351232) (d : Nat) : ∀ (i : Nat) (r : Int), i + d = 400 → -1 ≤ r → r ≤ 20000 →
    ∃ b, Ev (fun k => cornucopialaw5_Small.l0 k l r (i : Int)) b ∧ (b = true → l.length ≤ 150) := by
  have leaf : ∀ (i : Nat) (r : Int), ∃ b, Ev (fun _ : Nat => if (l.length : Int) ≤ 150 then (some (decide (r ≥ 0))) else (some false)) b ∧ (b = true → l.length ≤ 150) := by
    intro i r
    by_cases h : (l.length : Int) ≤ 150
    · exact ⟨decide (r ≥ 0), ev_pos h (ev_const rfl), fun _ => by omega⟩
    · exact ⟨false, ev_neg h (ev_const rfl), fun k => by cases k⟩
  induction d with
  | zero =>
    intro i r hi h0 h1
    obtain ⟨b, hb, hl⟩ := leaf i r
    refine ⟨b, Ev.step (fun k => by rw [cornucopialaw5_Small.l0]) ?_, hl⟩
    by_cases h : (i : Int) < (l.length : Int)
    · exact ev_pos h (ev_neg (by omega) hb)
    · exact ev_neg h hb
  | succ d ih =>
    intro i r hi h0 h1
    by_cases h : (i : Int) < (l.length : Int)
    · by_cases hr : r ≥ 0
      · have hlt : i < l.length := by omega
        have hsz := hs l[i] (List.getElem_mem hlt)
        obtain ⟨q, hq, q0, q1⟩ := Room_ev r (l[i].f0.size : Int) (l[i].f3.size : Int) ⟨h0, h1⟩ ⟨by omega, by omega⟩ ⟨by omega, by omega⟩
        obtain ⟨b, hb, hl⟩ := ih (i + 1) q (by omega) q0 q1
        refine ⟨b, Ev.step (fun k => by rw [cornucopialaw5_Small.l0, at_nat l i hlt]) (ev_pos h (ev_pos (by omega) (ev_pos hr (ev_pos (by omega) (Ev.bind hq ?_))))), hl⟩
        rw [wrap64_id (by omega), show ((i : Int) + 1) = ((i + 1 : Nat) : Int) from by omega]
        exact hb
      · obtain ⟨b, hb, hl⟩ := leaf i r
        exact ⟨b, Ev.step (fun k => by rw [cornucopialaw5_Small.l0]) (ev_pos h (ev_pos (by omega) (ev_neg hr hb))), hl⟩
    · obtain ⟨b, hb, hl⟩ := leaf i r
      exact ⟨b, Ev.step (fun k => by rw [cornucopialaw5_Small.l0]) (ev_neg h hb), hl⟩
theorem Small_ev (l : List S29) (hs : ∀ e ∈ l, e.f0.size ≤ 140737488351232 ∧ e.f3.size ≤ 140737488351232) : ∃ b, Ev (fun k => cornucopialaw5_Small.f k l) b ∧ (b = true → l.length ≤ 150) := by
  obtain ⟨b, hb, hl⟩ := Small_l0 l hs 400 0 20000 (by omega) (by omega) (by omega)
  exact ⟨b, Ev.congr (fun k => by rw [cornucopialaw5_Small.f]; rfl) hb, hl⟩
end Go.Proofs.Ytkpjipfjhniddaa.PuIkB

namespace Go.Proofs.Ytkpjipfjhniddaa.PuShadow
open Go Go.RowKit Go.Proofs.Ytkpjipfjhniddaa.PNum Go.Proofs.Ytkpjipfjhniddaa.PuIk Go.Proofs.YtkpjipfjhniddaaW.PrintWords Go.Proofs.YtkpjipfjhniddaaW.PrintLast Go.Proofs.YtkpjipfjhniddaaW.PrintMore Go.Proofs.YtkpjipfjhniddaaW.Pu
abbrev E := S29
def Rl (a b : E) : Prop := ce a b = -1
/-! ### shadow, told by neighbours -/
def stay (P : List Int) : Option E → E → Prop
  | none, _ => True
  | some d, e => d.f0 ≠ e.f0 ∨ ∃ p ∈ P, e.f1 ≤ p ∧ p < d.f1
open Classical in
noncomputable def kp (P : List Int) : Option E → List E → List E
  | _, [] => []
  | pv, e :: l => if stay P pv e then e :: kp P (some e) l else kp P (some e) l
theorem inn_seen (s : Int) : ∀ (ps seen : List Int) (st : Bool) (p : Int), p ∈ (ikey_Shadow.inn s ps seen st).1 ↔ p ∈ seen ∨ (p ∈ ps ∧ s ≤ p)
  | [], seen, st, p => by simp [ikey_Shadow.inn]
  | a :: ps, seen, st, p => by
    rw [ikey_Shadow.inn]
    split
    · rename_i h
      rw [inn_seen s ps _ _ p, List.mem_append, List.mem_singleton, List.mem_cons]
      constructor
      · rintro ((h1 | h1) | h1)
        · exact .inl h1
        · exact .inr ⟨.inl h1, h1 ▸ h.2⟩
        · exact .inr ⟨.inr h1.1, h1.2⟩
      · rintro (h1 | ⟨h1 | h1, h2⟩)
        · exact .inl (.inl h1)
        · exact .inl (.inr h1)
        · exact .inr ⟨h1, h2⟩
    · rename_i h
      rw [inn_seen s ps _ _ p, List.mem_cons]
      constructor
      · rintro (h1 | h1)
        · exact .inl h1
        · exact .inr ⟨.inr h1.1, h1.2⟩
      · rintro (h1 | ⟨h1 | h1, h2⟩)
        · exact .inl h1
        · subst h1
          refine .inl ?_
          have : ¬ seen.contains p = false := fun k => h ⟨k, h2⟩
          simpa using this
        · exact .inr ⟨h1, h2⟩
theorem inn_stay (s : Int) : ∀ (ps seen : List Int) (st : Bool), (ikey_Shadow.inn s ps seen st).2 = true ↔ st = true ∨ ∃ p ∈ ps, p ∉ seen ∧ s ≤ p
  | [], seen, st => by simp [ikey_Shadow.inn]
  | a :: ps, seen, st => by
    rw [ikey_Shadow.inn]
    split
    · rename_i h
      rw [inn_stay s ps _ _]
      refine ⟨fun _ => .inr ⟨a, List.mem_cons_self, by simpa using h.1, h.2⟩, fun _ => .inl rfl⟩
    · rename_i h
      rw [inn_stay s ps _ _]
      constructor
      · rintro (h1 | ⟨p, h1, h2⟩)
        · exact .inl h1
        · exact .inr ⟨p, List.mem_cons_of_mem _ h1, h2⟩
      · rintro (h1 | ⟨p, h1, h2, h3⟩)
        · exact .inl h1
        · rcases List.mem_cons.1 h1 with rfl | h1
          · exact absurd ⟨by simpa using h2, h3⟩ h
          · exact .inr ⟨p, h1, h2, h3⟩
theorem bne_tl (a b : ByteArray) : (a.toList != b.toList) = true ↔ a ≠ b := by
  rw [bne_iff_ne]
  exact not_congr tl_ext
theorem Rl_lt {a b : E} (h : Rl a b) (k : a.f0 = b.f0) : b.f1 < a.f1 := by
  unfold Rl ce at h
  rw [if_pos ((cb_zero _ _).2 k)] at h
  unfold cs at h
  split at h
  · assumption
  · split at h <;> cases h
theorem Rl_trans {a b c : E} (h : Rl a b) (k : Rl b c) : Rl a c := ce_trans h k
/-- Of one key: none of another key stands between. -/
theorem Rl_mid {a b c : E} (h : Rl a b) (k : Rl b c) (e : a.f0 = c.f0) : b.f0 = c.f0 := by
  have n1 : cb a.f0 b.f0 = 0 ∨ cb a.f0 b.f0 = -1 := by
    unfold Rl ce at h
    by_cases q : cb a.f0 b.f0 = 0
    · exact .inl q
    · rw [if_neg q] at h; exact .inr h
  have n2 : cb b.f0 c.f0 = 0 ∨ cb b.f0 c.f0 = -1 := by
    unfold Rl ce at k
    by_cases q : cb b.f0 c.f0 = 0
    · exact .inl q
    · rw [if_neg q] at k; exact .inr k
  rw [e, cb_neg] at n1
  exact (cb_zero _ _).1 (by omega)
theorem go_kp (P : List Int) : ∀ (l : List E) (pv : Option E) (seen : List Int) (out : List E), l.Pairwise Rl → (∀ d, pv = some d → ∀ e ∈ l, Rl d e) → (∀ d, pv = some d → ∀ p, p ∈ seen ↔ (p ∈ P ∧ d.f1 ≤ p)) →
    ikey_Shadow.go P l (pv.map S29.f0) seen out = out ++ kp P pv l
  | [], pv, seen, out, _, _, _ => by simp [ikey_Shadow.go, kp]
  | e :: l, pv, seen, out, hl, hd, hs => by
    rw [ikey_Shadow.go, kp]
    have hl' := (List.pairwise_cons.1 hl)
    have hfirst : ikey_Shadow.first (pv.map S29.f0) e = true ↔ ∀ d, pv = some d → d.f0 ≠ e.f0 := by
      cases pv with
      | none => simp [ikey_Shadow.first]
      | some d => simp only [Option.map_some, ikey_Shadow.first, bne_tl, Option.some.injEq, forall_eq']
    generalize hF : ikey_Shadow.first (pv.map S29.f0) e = F at *
    have hseen : ∀ p, p ∈ (ikey_Shadow.inn e.f1 P (if F = true then [] else seen) F).1 ↔ (p ∈ P ∧ e.f1 ≤ p) := by
      intro p
      rw [inn_seen]
      refine ⟨?_, .inr⟩
      rintro (h | h)
      · cases F with
        | true => simp at h
        | false =>
          simp only [Bool.false_eq_true, if_false] at h
          cases pv with
          | none => exact absurd (hfirst.2 (fun d hd => by cases hd)) (by simp)
          | some d =>
            have hk : d.f0 = e.f0 := by
              refine Classical.byContradiction fun q => ?_
              exact absurd (hfirst.2 (fun d' hd' => by cases hd'; exact q)) (by simp)
            have h2 := (hs d rfl p).1 h
            have h3 := Rl_lt (hd d rfl e List.mem_cons_self) hk
            exact ⟨h2.1, by omega⟩
      · exact h
    have hst : (ikey_Shadow.inn e.f1 P (if F = true then [] else seen) F).2 = true ↔ stay P pv e := by
      rw [inn_stay]
      cases F with
      | true =>
        have := hfirst.1 rfl
        simp only [if_true, true_or, true_iff]
        cases pv with
        | none => trivial
        | some d => exact .inl (this d rfl)
      | false =>
        simp only [Bool.false_eq_true, if_false, false_or]
        cases pv with
        | none => exact absurd (hfirst.2 (fun d hd => by cases hd)) (by simp)
        | some d =>
          have hk : d.f0 = e.f0 := by
            refine Classical.byContradiction fun q => ?_
            exact absurd (hfirst.2 (fun d' hd' => by cases hd'; exact q)) (by simp)
          constructor
          · rintro ⟨p, h1, h2, h3⟩
            refine .inr ⟨p, h1, h3, ?_⟩
            have := mt (hs d rfl p).2 h2
            have : ¬ d.f1 ≤ p := fun q => this ⟨h1, q⟩
            omega
          · rintro (h1 | ⟨p, h1, h2, h3⟩)
            · exact absurd hk h1
            · exact ⟨p, h1, fun q => by have := ((hs d rfl p).1 q).2; omega, h2⟩
    have ih := fun out' => go_kp P l (some e) (ikey_Shadow.inn e.f1 P (if F = true then [] else seen) F).1 out' hl'.2 (fun d hd' e' he' => by cases hd'; exact hl'.1 e' he') (fun d hd' p => by cases hd'; exact hseen p)
    rw [show (some e.f0) = (some e).map S29.f0 from rfl, ih]
    by_cases h : stay P pv e
    · rw [if_pos (hst.2 h), if_pos h, List.append_assoc]; rfl
    · rw [if_neg (fun k => h (hst.1 k)), if_neg h]
theorem kp_sub (P : List Int) : ∀ (l : List E) (pv : Option E), (kp P pv l).Sublist l
  | [], _ => by rw [kp]; exact List.Sublist.slnil
  | e :: l, pv => by
    rw [kp]
    split
    · exact (kp_sub P l _).cons_cons e
    · exact (kp_sub P l _).cons e
theorem Shadow_eq (P : List Int) (l : List E) (hl : l.Pairwise Rl) (h1 : l.length < 1000000) (h2 : P.length < 1000000) (h3 : ∀ x ∈ P, (Lit.int .u64 x).wf = true) : ikey_Shadow.f l P = some (kp P none l) := by
  unfold ikey_Shadow.f
  rw [if_pos ⟨h1, h2, h3⟩]
  have := go_kp P l none [] [] hl (fun d h => by cases h) (fun d h => by cases h)
  simpa using this
/-! ### what is picked of a list in order -/
def sees (key : ByteArray) (q : Int) (e : E) : Bool := decide (e.f0 = key ∧ e.f1 ≤ q)
theorem pick_held (key : ByteArray) (q : Int) : ∀ (l : List E) (b : E), b.f0 = key → (∀ e ∈ l, Rl b e) → pick key q l b true = (b, true)
  | [], b, _, _ => rfl
  | e :: l, b, hb, hr => by
    rw [pick, if_neg]
    · exact pick_held key q l b hb (fun x hx => hr x (List.mem_cons_of_mem _ hx))
    · rintro ⟨h1, _, h3⟩
      have := Rl_lt (hr e List.mem_cons_self) (hb.trans h1.symm)
      have := h3 rfl
      omega
def found (key : ByteArray) (q : Int) (l : List E) : E × Bool := match l.find? (sees key q) with | some e => (e, true) | none => (z0, false)
theorem pick_found (key : ByteArray) (q : Int) : ∀ (l : List E), l.Pairwise Rl → pick key q l z0 false = found key q l
  | [], _ => rfl
  | e :: l, h => by
    have h := List.pairwise_cons.1 h
    rw [pick]
    unfold found
    by_cases k : e.f0 = key ∧ e.f1 ≤ q
    · rw [if_pos ⟨k.1, k.2, by simp⟩, List.find?_cons_of_pos (by simpa [sees] using k), pick_held key q l e k.1 h.1]
    · rw [if_neg (fun x => k ⟨x.1, x.2.1⟩), List.find?_cons_of_neg (by simpa [sees] using k), pick_found key q l h.2]
      rfl
theorem find_kp (P : List Int) (key : ByteArray) (q : Int) : ∀ (l : List E) (pv : Option E), (q ∈ P ∨ ((∀ d, pv = some d → d.f1 ≤ q) ∧ ∀ e ∈ l, e.f1 ≤ q)) → (∀ d, pv = some d → ¬ (d.f0 = key ∧ d.f1 ≤ q)) → (kp P pv l).find? (sees key q) = l.find? (sees key q)
  | [], _, _, _ => by rw [kp]
  | e :: l, pv, hq, hp => by
    rw [kp]
    by_cases k : e.f0 = key ∧ e.f1 ≤ q
    · have hst : stay P pv e := by
        cases pv with
        | none => trivial
        | some d =>
          by_cases hk : d.f0 = e.f0
          · have h1 := hp d rfl
            have h2 : q < d.f1 := by
              have : ¬ d.f1 ≤ q := fun x => h1 ⟨hk.trans k.1, x⟩
              omega
            rcases hq with hq | hq
            · exact .inr ⟨q, hq, k.2, h2⟩
            · have := hq.1 d rfl
              omega
          · exact .inl hk
      rw [if_pos hst, List.find?_cons_of_pos (by simpa [sees] using k), List.find?_cons_of_pos (by simpa [sees] using k)]
    · have ih := find_kp P key q l (some e) (hq.imp id (fun x => ⟨fun d hd => by cases hd; exact x.2 e List.mem_cons_self, fun y hy => x.2 y (List.mem_cons_of_mem _ hy)⟩)) (fun d hd => by cases hd; exact k)
      rw [List.find?_cons_of_neg (by simpa [sees] using k)]
      split
      · rw [List.find?_cons_of_neg (by simpa [sees] using k)]
        exact ih
      · exact ih
theorem kp_seen (P : List Int) (T : Int) : ∀ (l pre : List E), (pre ++ l).Pairwise Rl → (∀ e ∈ l, e.f1 ≤ T) → ∀ e ∈ kp P pre.getLast? l, ∃ q ∈ P ++ [T], (pre ++ l).find? (sees e.f0 q) = some e
  | [], _, _, _, e, he => by rw [kp] at he; cases he
  | x :: l, pre, hp, hT, e, he => by
    have rec_ : e ∈ kp P (some x) l → ∃ q ∈ P ++ [T], (pre ++ x :: l).find? (sees e.f0 q) = some e := by
      intro h
      have := kp_seen P T l (pre ++ [x]) (by simpa using hp) (fun y hy => hT y (List.mem_cons_of_mem _ hy)) e (by rw [List.getLast?_concat]; exact h)
      simpa using this
    rw [kp] at he
    by_cases hs : stay P pre.getLast? x
    · rw [if_pos hs] at he
      rcases List.mem_cons.1 he with rfl | he
      · have fin : ∀ q, q ∈ P ++ [T] → e.f1 ≤ q → (∀ g ∈ pre, ¬ (g.f0 = e.f0 ∧ g.f1 ≤ q)) → ∃ q ∈ P ++ [T], (pre ++ e :: l).find? (sees e.f0 q) = some e := by
          intro q hq h1 h2
          refine ⟨q, hq, ?_⟩
          rw [List.find?_append, List.find?_eq_none.2 (fun g hg => by simpa [sees] using fun a => (by have := h2 g hg; have : ¬ g.f1 ≤ q := fun b => this ⟨a, b⟩; omega)), Option.none_or, List.find?_cons_of_pos (by simpa [sees] using h1)]
        have hpre := (List.pairwise_append.1 hp).1
        have hx : ∀ g ∈ pre, Rl g e := fun g hg => (List.pairwise_append.1 hp).2.2 g hg e List.mem_cons_self
        rcases List.eq_nil_or_concat pre with rfl | ⟨pre', d, rfl⟩
        · exact fin T (by simp) (hT e List.mem_cons_self) (fun g hg => by cases hg)
        · rw [List.concat_eq_append] at *
          rw [List.getLast?_concat] at hs
          have hd : ∀ g ∈ pre', Rl g d := fun g hg => (List.pairwise_append.1 hpre).2.2 g hg d (by simp)
          have hde := hx d (by simp)
          rcases hs with hs | ⟨p, hp1, hp2, hp3⟩
          · refine fin T (by simp) (hT e List.mem_cons_self) ?_
            intro g hg k
            rcases List.mem_append.1 hg with hg | hg
            · exact hs (Rl_mid (hd g hg) hde k.1)
            · rw [List.mem_singleton] at hg
              exact hs (hg ▸ k.1)
          · refine fin p (by simp [hp1]) hp2 ?_
            intro g hg k
            rcases List.mem_append.1 hg with hg | hg
            · have hk := Rl_mid (hd g hg) hde k.1
              have := Rl_lt (hd g hg) (k.1.trans hk.symm)
              omega
            · rw [List.mem_singleton] at hg
              subst hg
              omega
      · exact rec_ he
    · rw [if_neg hs] at he
      exact rec_ he
theorem kp_kp (P : List Int) : ∀ (l : List E) (pl pm : Option E), l.Pairwise Rl → (∀ d, pl = some d → ∀ e ∈ l, Rl d e) → (pm = none ∨ pm = pl ∨ ∃ d' d, pm = some d' ∧ pl = some d ∧ Rl d' d) → kp P pm (kp P pl l) = kp P pl l
  | [], _, _, _, _, _ => by rw [kp, kp]
  | e :: l, pl, pm, hl, hd, hi => by
    have hl' := List.pairwise_cons.1 hl
    rw [kp]
    by_cases hs : stay P pl e
    · have hm : stay P pm e := by
        rcases hi with rfl | rfl | ⟨d', d, rfl, rfl, hr⟩
        · trivial
        · exact hs
        · have hde := hd d rfl e List.mem_cons_self
          by_cases hk : d'.f0 = e.f0
          · have hk2 := Rl_mid hr hde hk
            rcases hs with hs | ⟨p, h1, h2, h3⟩
            · exact absurd hk2 hs
            · have := Rl_lt hr (hk.trans hk2.symm)
              exact .inr ⟨p, h1, h2, by omega⟩
          · exact .inl hk
      rw [if_pos hs, kp, if_pos hm, kp_kp P l (some e) (some e) hl'.2 (fun d hd' y hy => by cases hd'; exact hl'.1 y hy) (.inr (.inl rfl))]
    · rw [if_neg hs]
      refine kp_kp P l (some e) pm hl'.2 (fun d hd' y hy => by cases hd'; exact hl'.1 y hy) ?_
      rcases hi with h | h | ⟨d', d, h1, h2, hr⟩
      · exact .inl h
      · cases pl with
        | none => exact .inl h
        | some d => exact .inr (.inr ⟨d, e, h, rfl, hd d rfl e List.mem_cons_self⟩)
      · exact .inr (.inr ⟨d', e, h1, rfl, Rl_trans hr (hd d h2 e List.mem_cons_self)⟩)
/-! ### the document's own order -/
theorem bt_at (s : ByteArray) (i : Nat) (h : i < s.data.toList.length) : bt s (i : Int) = (s.data.toList[i].toNat : Int) := by
  have h' : i < s.data.size := by simpa using h
  rw [bt_eq]
  simp only [bytesOf, List.getD_eq_getElem?_getD, List.getElem?_map, Array.getElem?_toList, Array.getElem_toList]
  rw [Array.getElem?_eq_getElem h']
  rfl
theorem size_data (s : ByteArray) : s.data.toList.length = s.size := by
  show s.data.toList.length = s.data.size
  simp
theorem Less_l0 (a b : ByteArray) (_ha : a.size ≤ 140737488351232) (hb : b.size ≤ 140737488351232) (d : Nat) : ∀ i, i + d = a.size → i ≤ b.size →
    Ev (fun k => cornucopiaref1_Less.l0 k a b (i : Int)) (decide (Lib.compareBytes (a.data.toList.drop i) (b.data.toList.drop i) = -1)) := by
  have la := size_data a
  have lb := size_data b
  induction d with
  | zero =>
    intro i hi hib
    refine Ev.step (fun k => by rw [cornucopiaref1_Less.l0]) (ev_neg (by omega) ?_)
    refine Ev.step (fun k => by rw [cornucopiaref1_Less.j1]) (ev_neg (by simp) (ev_const ?_))
    rw [show a.data.toList.drop i = [] from List.drop_of_length_le (by omega)]
    refine congrArg some (decide_eq_decide.2 ?_)
    cases h : b.data.toList.drop i with
    | nil =>
      have := congrArg List.length h
      rw [List.length_drop] at this
      simp only [List.length_nil] at this
      rw [Lib.compareBytes]
      omega
    | cons y ys =>
      have := congrArg List.length h
      rw [List.length_drop] at this
      simp only [List.length_cons] at this
      rw [Lib.compareBytes]
      omega
  | succ d ih =>
    intro i hi hib
    have ia : i < a.data.toList.length := by omega
    refine Ev.step (fun k => by rw [cornucopiaref1_Less.l0]) (ev_pos (by omega) ?_)
    have da : a.data.toList.drop i = a.data.toList[i] :: a.data.toList.drop (i + 1) := List.drop_eq_getElem_cons ia
    by_cases h : i < b.size
    · have ib : i < b.data.toList.length := by omega
      have db : b.data.toList.drop i = b.data.toList[i] :: b.data.toList.drop (i + 1) := List.drop_eq_getElem_cons ib
      rw [decide_eq_true (show (i : Int) < (b.size : Int) by omega), da, db, Lib.compareBytes]
      refine Ev.step (fun k => by rw [cornucopiaref1_Less.j1, bt_at a i ia, bt_at b i ib]) (ev_pos rfl (ev_pos (by omega) (ev_pos (by omega) (ev_pos (by omega) ?_))))
      by_cases e : a.data.toList[i] = b.data.toList[i]
      · refine ev_pos (by rw [e]) ?_
        rw [e, if_neg (UInt8.lt_irrefl _), if_neg (UInt8.lt_irrefl _), wrap64_id (by omega), show ((i : Int) + 1) = ((i + 1 : Nat) : Int) from by omega]
        exact ih (i + 1) (by omega) (by omega)
      · have hne : a.data.toList[i].toNat ≠ b.data.toList[i].toNat := fun k => e (UInt8.toNat_inj.1 k)
        refine ev_neg (by omega) (ev_const ?_)
        refine congrArg some (decide_eq_decide.2 ?_)
        by_cases k : a.data.toList[i] < b.data.toList[i]
        · rw [if_pos k]
          have := UInt8.lt_iff_toNat_lt.1 k
          omega
        · have k2 : b.data.toList[i] < a.data.toList[i] := UInt8.lt_iff_toNat_lt.2 (by have := mt UInt8.lt_iff_toNat_lt.2 k; omega)
          rw [if_neg k, if_pos k2]
          have := UInt8.lt_iff_toNat_lt.1 k2
          omega
    · rw [decide_eq_false (show ¬ (i : Int) < (b.size : Int) by omega), da, show b.data.toList.drop i = [] from List.drop_of_length_le (by omega), Lib.compareBytes]
      refine Ev.step (fun k => by rw [cornucopiaref1_Less.j1]) (ev_neg (by simp) (ev_const ?_))
      refine congrArg some (decide_eq_decide.2 ?_)
      omega
theorem Less_ev (a b : ByteArray) (ha : a.size ≤ 140737488351232) (hb : b.size ≤ 140737488351232) : Ev (fun k => cornucopiaref1_Less.f k a b) (decide (cb a b = -1)) := by
  have := Less_l0 a b ha hb a.size 0 (by omega) (by omega)
  rw [List.drop_zero, List.drop_zero] at this
  exact Ev.congr (fun k => by rw [cornucopiaref1_Less.f]; rfl) this
theorem RefCompare_ev (a b : E) (ha : a.f0.size ≤ 140737488351232) (hb : b.f0.size ≤ 140737488351232) : Ev (fun k => cornucopiaref5_Compare.f k a.f0 a.f1 a.f2 a.f3 b.f0 b.f1 b.f2 b.f3) (ce a b) := by
  refine Ev.congr (fun k => by rw [cornucopiaref5_Compare.f]) (Ev.bind (Less_ev _ _ ha hb) ?_)
  have r : cb a.f0 b.f0 = -1 ∨ cb a.f0 b.f0 = 0 ∨ cb a.f0 b.f0 = 1 := cl_range _ _
  have n := cb_neg a.f0 b.f0
  unfold ce
  by_cases h : cb a.f0 b.f0 = -1
  · rw [if_neg (show ¬ cb a.f0 b.f0 = 0 by omega), decide_eq_true h, h]
    exact ev_pos rfl (ev_const rfl)
  · rw [decide_eq_false h]
    refine ev_neg (by simp) (Ev.bind (Less_ev _ _ hb ha) ?_)
    by_cases k : cb b.f0 a.f0 = -1
    · rw [if_neg (show ¬ cb a.f0 b.f0 = 0 by omega), decide_eq_true k, show cb a.f0 b.f0 = 1 by omega]
      exact ev_pos rfl (ev_const rfl)
    · rw [if_pos (show cb a.f0 b.f0 = 0 by omega), decide_eq_false k]
      refine ev_neg (by simp) ?_
      unfold cs
      by_cases q : a.f1 > b.f1
      · refine ev_pos q (ev_const ?_)
        rw [if_pos q]
      · refine ev_neg q ?_
        rw [if_neg q]
        by_cases q2 : a.f1 < b.f1
        · refine ev_pos q2 (ev_const ?_)
          rw [if_pos q2]
        · refine ev_neg q2 (ev_const ?_)
          rw [if_neg q2]
theorem Ordered_l0 (l : List E) (hs : ∀ e ∈ l, e.f0.size ≤ 140737488351232) (hl : l.length ≤ 140737488351232) (d : Nat) : ∀ i, i + 1 + d = l.length →
    ∃ b, Ev (fun k => cornucopialaw5_Ordered.l0 k l ((i + 1 : Nat) : Int)) b ∧ (b = true → (l.drop i).Pairwise Rl) := by
  induction d with
  | zero =>
    intro i hi
    have hlt : i < l.length := by omega
    refine ⟨true, Ev.step (fun k => by rw [cornucopialaw5_Ordered.l0]) (ev_neg (by omega) (ev_const rfl)), fun _ => ?_⟩
    rw [List.drop_eq_getElem_cons hlt, List.drop_of_length_le (by omega)]
    exact List.pairwise_singleton _ _
  | succ d ih =>
    intro i hi
    have h0 : i < l.length := by omega
    have h1 : i + 1 < l.length := by omega
    have hw : wrap64 (((i + 1 : Nat) : Int) - 1) = (i : Int) := by rw [wrap64_id (by omega)]; omega
    have hr := RefCompare_ev l[i] l[i + 1] (hs _ (List.getElem_mem h0)) (hs _ (List.getElem_mem h1))
    obtain ⟨b, hb, hp⟩ := ih (i + 1) (by omega)
    by_cases k : ce l[i] l[i + 1] ≥ 0
    · refine ⟨false, Ev.step (fun k => by rw [cornucopialaw5_Ordered.l0, hw, at_nat l i h0, at_nat l (i + 1) h1]) (ev_pos (by omega) (ev_pos (by omega) (ev_pos (by omega) (ev_pos (by omega) (Ev.bind hr (ev_pos k (ev_const rfl))))))), fun q => by cases q⟩
    · refine ⟨b, Ev.step (fun k => by rw [cornucopialaw5_Ordered.l0, hw, at_nat l i h0, at_nat l (i + 1) h1]) (ev_pos (by omega) (ev_pos (by omega) (ev_pos (by omega) (ev_pos (by omega) (Ev.bind hr (ev_neg k ?_)))))), fun q => ?_⟩
      · rw [wrap64_id (by omega), show (((i + 1 : Nat) : Int) + 1) = ((i + 1 + 1 : Nat) : Int) from by omega]
        exact hb
      · have hp := hp q
        have e0 : l.drop i = l[i] :: l.drop (i + 1) := List.drop_eq_getElem_cons h0
        have e1 : l.drop (i + 1) = l[i + 1] :: l.drop (i + 1 + 1) := List.drop_eq_getElem_cons h1
        have r : Rl l[i] l[i + 1] := by have := ce_range l[i] l[i + 1]; unfold Rl; omega
        rw [e0]
        refine List.pairwise_cons.2 ⟨fun y hy => ?_, hp⟩
        rw [e1] at hy hp
        rcases List.mem_cons.1 hy with rfl | hy
        · exact r
        · exact Rl_trans r ((List.pairwise_cons.1 hp).1 y hy)
theorem Ordered_ev (l : List E) (hs : ∀ e ∈ l, e.f0.size ≤ 140737488351232) (hl : l.length ≤ 140737488351232) : ∃ b, Ev (fun k => cornucopialaw5_Ordered.f k l) b ∧ (b = true → l.Pairwise Rl) := by
  by_cases h : l = []
  · subst h
    exact ⟨true, Ev.congr (fun k => by rw [cornucopialaw5_Ordered.f]) (Ev.step (fun k => by rw [cornucopialaw5_Ordered.l0]) (ev_neg (by simp) (ev_const rfl))), fun _ => List.Pairwise.nil⟩
  · have : 0 < l.length := List.length_pos_iff.2 h
    obtain ⟨b, hb, hp⟩ := Ordered_l0 l hs hl (l.length - 1) 0 (by omega)
    exact ⟨b, Ev.congr (fun k => by rw [cornucopialaw5_Ordered.f]; rfl) hb, by simpa using hp⟩
end Go.Proofs.Ytkpjipfjhniddaa.PuShadow

namespace Go.Proofs.Ytkpjipfjhniddaa.Pure
open Go Go.RowKit Go.Proofs.Ytkpjipfjhniddaa.PNum Go.Proofs.Ytkpjipfjhniddaa.PuIk Go.Proofs.Ytkpjipfjhniddaa.PuIkB Go.Proofs.Ytkpjipfjhniddaa.PuShadow Go.Proofs.YtkpjipfjhniddaaW.PrintWords Go.Proofs.YtkpjipfjhniddaaW.PrintLast Go.Proofs.YtkpjipfjhniddaaW.PrintMore Go.Proofs.YtkpjipfjhniddaaW.Pu
theorem rd_nat (l : List Int) (i : Nat) (h : i < l.length) : rd l (i : Int) = l[i] := by
  simp [rd, List.getD_eq_getElem?_getD, List.getElem?_eq_getElem h]
theorem sh_l3 (l : List E) (hl : l.length ≤ 9223372036854775806) (P : List Int) (m : List E) (all : List Int) (i : Nat) (hi : i < m.length) (hm : m.length ≤ 9223372036854775806) (ha : all.length ≤ 9223372036854775806)
    (next : Ev (fun k => cornucopialaw5_IkeyShadows.l2 k l P m all ((i + 1 : Nat) : Int)) true) (d : Nat) : ∀ (j : Nat) (s : Bool), j + d = all.length → (s = true ∨ ∃ q ∈ all.drop j, pick m[i].f0 q l z0 false = (m[i], true)) →
    Ev (fun k => cornucopialaw5_IkeyShadows.l3 k l P m all (i : Int) s (j : Int)) true := by
  have hwi : wrap64 ((i : Int) + 1) = ((i + 1 : Nat) : Int) := by rw [wrap64_id (by omega)]; omega
  induction d with
  | zero =>
    intro j s hj hs
    rw [List.drop_of_length_le (by omega)] at hs
    have hs : s = true := by
      rcases hs with h | ⟨q, h, _⟩
      · exact h
      · cases h
    refine Ev.step (fun k => by rw [cornucopialaw5_IkeyShadows.l3, hwi]) ?_
    refine ev_neg (show ¬ (j : Int) < (all.length : Int) by omega) (ev_pos hs next)
  | succ d ih =>
    intro j s hj hs
    have hlt : j < all.length := by omega
    have hd : all.drop j = all[j] :: all.drop (j + 1) := List.drop_eq_getElem_cons hlt
    rw [hd] at hs
    have hwj : wrap64 ((j : Int) + 1) = ((j + 1 : Nat) : Int) := by rw [wrap64_id (by omega)]; omega
    refine Ev.step (fun k => by rw [cornucopialaw5_IkeyShadows.l3, at_nat m i hi, rd_nat all j hlt, hwj]) ?_
    refine ev_pos (show (j : Int) < (all.length : Int) by omega) (ev_pos (by omega) (ev_pos (by omega) (ev_pos (by omega) (Ev.bind (Pick_ev m[i].f0 all[j] l hl) ?_))))
    cases s with
    | true => exact ev_pos rfl (ih (j + 1) true (by omega) (.inl rfl))
    | false =>
      refine ev_neg (by simp) ?_
      by_cases hf : (pick m[i].f0 all[j] l z0 false).2 = true
      · refine ev_pos hf (ih (j + 1) _ (by omega) ?_)
        rcases hs with h | ⟨q, hq, h⟩
        · cases h
        · rcases List.mem_cons.1 hq with rfl | hq
          · refine .inl ?_
            rw [h]
            simp
          · exact .inr ⟨q, hq, h⟩
      · refine ev_neg hf (ih (j + 1) false (by omega) ?_)
        rcases hs with h | ⟨q, hq, h⟩
        · cases h
        · rcases List.mem_cons.1 hq with rfl | hq
          · exact absurd (congrArg Prod.snd h) hf
          · exact .inr ⟨q, hq, h⟩
theorem sh_l2 (l : List E) (hl : l.length ≤ 9223372036854775806) (P : List Int) (m : List E) (all : List Int) (hm : m.length ≤ 9223372036854775806) (ha : all.length ≤ 9223372036854775806)
    (hseen : ∀ e ∈ m, ∃ q ∈ all, pick e.f0 q l z0 false = (e, true)) (hsh : ikey_Shadow.f m P = some m) (d : Nat) : ∀ i, i + d = m.length →
    Ev (fun k => cornucopialaw5_IkeyShadows.l2 k l P m all (i : Int)) true := by
  induction d with
  | zero =>
    intro i hi
    refine Ev.step (fun k => by rw [cornucopialaw5_IkeyShadows.l2]) ?_
    refine ev_neg (show ¬ (i : Int) < (m.length : Int) by omega) (Ev.bind PuIk.alive_ev (ev_pos rfl (ev_call hsh (ev_const ?_))))
    simp
  | succ d ih =>
    intro i hi
    have hlt : i < m.length := by omega
    refine Ev.step (fun k => by rw [cornucopialaw5_IkeyShadows.l2]) ?_
    refine ev_pos (show (i : Int) < (m.length : Int) by omega) ?_
    exact sh_l3 l hl P m all i hlt hm ha (ih (i + 1) (by omega)) all.length 0 false (by omega) (.inr (by rw [List.drop_zero]; exact hseen _ (List.getElem_mem hlt)))
theorem sh_l1 (l : List E) (hl : l.length ≤ 9223372036854775806) (P : List Int) (key : ByteArray) (m : List E) (all : List Int) (hm : m.length ≤ 9223372036854775806) (ha : all.length ≤ 9223372036854775806)
    (heq : ∀ q ∈ all, pick key q l z0 false = pick key q m z0 false) (next : Ev (fun k => cornucopialaw5_IkeyShadows.l2 k l P m all 0) true) (d : Nat) : ∀ i, i + d = all.length →
    Ev (fun k => cornucopialaw5_IkeyShadows.l1 k l P key m all (i : Int)) true := by
  induction d with
  | zero =>
    intro i hi
    refine Ev.step (fun k => by rw [cornucopialaw5_IkeyShadows.l1]) ?_
    exact ev_neg (show ¬ (i : Int) < (all.length : Int) by omega) next
  | succ d ih =>
    intro i hi
    have hlt : i < all.length := by omega
    have hwi : wrap64 ((i : Int) + 1) = ((i + 1 : Nat) : Int) := by rw [wrap64_id (by omega)]; omega
    have h1 := Pick_ev key all[i] l hl
    have h2 := Pick_ev key all[i] m hm
    rw [← heq _ (List.getElem_mem hlt)] at h2
    refine Ev.step (fun k => by rw [cornucopialaw5_IkeyShadows.l1, rd_nat all i hlt, hwi]) ?_
    refine ev_pos (show (i : Int) < (all.length : Int) by omega) (ev_pos (by omega) (Ev.bind h1 (Ev.bind h2 (ev_neg (by simp) (ev_neg (by simp) ?_)))))
    exact ih (i + 1) (by omega)
theorem sh_l0 (l : List E) (hl : l.length ≤ 1000000) (P : List Int) (hP : P.length ≤ 1000000) (key : ByteArray) (m : List E)
    (next : ∀ T, (∀ e ∈ l, e.f1 ≤ T) → Ev (fun k => cornucopialaw5_IkeyShadows.l1 k l P key m (P ++ [T]) 0) true) (d : Nat) : ∀ (i : Nat) (T : Int), i + d = l.length → (∀ e ∈ l.take i, e.f1 ≤ T) →
    Ev (fun k => cornucopialaw5_IkeyShadows.l0 k l P key m T (i : Int)) true := by
  induction d with
  | zero =>
    intro i T hi hT
    rw [List.take_of_length_le (by omega)] at hT
    refine Ev.step (fun k => by rw [cornucopialaw5_IkeyShadows.l0]) ?_
    refine ev_neg (show ¬ (i : Int) < (l.length : Int) by omega) (ev_pos (by simp; omega) ?_)
    refine ev_some (x := P) ?_
    exact ev_pos (by omega) (next T hT)
  | succ d ih =>
    intro i T hi hT
    have hlt : i < l.length := by omega
    have hwi : wrap64 ((i : Int) + 1) = ((i + 1 : Nat) : Int) := by rw [wrap64_id (by omega)]; omega
    refine Ev.step (fun k => by rw [cornucopialaw5_IkeyShadows.l0, at_nat l i hlt, hwi]) ?_
    refine ev_pos (show (i : Int) < (l.length : Int) by omega) (ev_pos (by omega) (ih (i + 1) _ (by omega) ?_))
    intro e he
    rw [List.take_add_one, List.getElem?_eq_getElem hlt] at he
    have hmx : T ≤ mx T l[i].f1 ∧ l[i].f1 ≤ mx T l[i].f1 := by unfold mx; split <;> omega
    rcases List.mem_append.1 he with he | he
    · have := hT e he
      omega
    · simp at he
      subst he
      exact hmx.2
theorem IkeyShadows : cornucopialaw5_IkeyShadows.Pure := by
  intro l P key more h0 hw h1 hP hk hm
  refine Ev.rounds (Ev.congr (fun k => by rw [cornucopialaw5_IkeyShadows.f]) ?_)
  obtain ⟨b, hb, hlen⟩ := Small_ev l (fun e he => ⟨(hw e he).1, (hw e he).2.2.2⟩)
  have hskip : Ev (fun k => cornucopialaw5_IkeyShadows.j0 k l P key more true) true :=
    Ev.step (fun k => by rw [cornucopialaw5_IkeyShadows.j0]) (ev_pos rfl (Ev.bind PuIk.alive_ev (ev_const rfl)))
  refine Ev.bind hb ?_
  cases b with
  | false => exact ev_neg (by simp) hskip
  | true =>
    have hlen := hlen rfl
    obtain ⟨o, ho, hord⟩ := Ordered_ev l (fun e he => (hw e he).1) (by omega)
    refine ev_pos rfl (Ev.bind ho ?_)
    cases o with
    | false => exact ev_neg (by simp) hskip
    | true =>
      have hs := hord rfl
      refine ev_pos rfl ?_
      by_cases hp : (P.length : Int) > 30
      · exact ev_pos hp hskip
      · refine ev_neg hp ?_
        by_cases hks : (key.size : Int) > 300
        · rw [decide_eq_true hks]; exact hskip
        · rw [decide_eq_false hks]
          have hsub := kp_sub P l none
          have hml : (kp P none l).length ≤ l.length := hsub.length_le
          have hmp : (kp P none l).Pairwise Rl := hs.sublist hsub
          have hsm : ikey_Shadow.f (kp P none l) P = some (kp P none l) := by
            rw [Shadow_eq P _ hmp (by omega) (by omega) hP, kp_kp P l none none hs (fun d hd => by cases hd) (.inl rfl)]
          refine Ev.step (fun k => by rw [cornucopialaw5_IkeyShadows.j0]) (ev_neg (by simp) (ev_call (Shadow_eq P l hs (by omega) (by omega) hP) ?_))
          refine sh_l0 l (by omega) P (by omega) key (kp P none l) ?_ l.length 0 more (by omega) (fun e he => by simp at he)
          intro T hT
          have hal : (P ++ [T]).length ≤ 9223372036854775806 := by simp; omega
          have heq : ∀ q ∈ P ++ [T], pick key q l z0 false = pick key q (kp P none l) z0 false := by
            intro q hq
            rw [pick_found key q l hs, pick_found key q _ hmp]
            unfold found
            rw [find_kp P key q l none ?_ (fun d hd => by cases hd)]
            rcases List.mem_append.1 hq with hq | hq
            · exact .inl hq
            · rw [List.mem_singleton] at hq
              subst hq
              exact .inr ⟨(fun d hd => by cases hd), hT⟩
          have hseen : ∀ e ∈ kp P none l, ∃ q ∈ P ++ [T], pick e.f0 q l z0 false = (e, true) := by
            intro e he
            obtain ⟨q, hq, hf⟩ := kp_seen P T l [] hs hT e he
            refine ⟨q, hq, ?_⟩
            rw [pick_found _ _ l hs]
            unfold found
            rw [List.nil_append] at hf
            rw [hf]
          have h2 := sh_l2 l (by omega) P (kp P none l) (P ++ [T]) (by omega) hal hseen hsm (kp P none l).length 0 (by omega)
          exact sh_l1 l (by omega) P key (kp P none l) (P ++ [T]) (by omega) hal heq h2 (P ++ [T]).length 0 (by omega)
end Go.Proofs.Ytkpjipfjhniddaa.Pure
