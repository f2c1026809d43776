/- Table.Range of chapter 8: the versions of the keys from one on, below another one. -/
import Derived.Test.YtchgpcgolgcfdaaMt2
import Derived.Test.YtchgpcgolgcfdaaBkW
import Derived.Deep.DeepCutAuto
import Derived.Deep.QuietTactic
import Derived.WalkLawsBesides
namespace Go.Proofs.Ytchgpcgolgcfdaa.Mt
open Go Go.RowKit Go.Proofs.Ytchgpcgolgcfdaa.PNum Go.Proofs.Ytchgpcgolgcfdaa.RkM Go.Proofs.Ytchgpcgolgcfdaa.Rk Go.Proofs.Ytchgpcgolgcfdaa.BkW Go.Proofs.YtchgpcgolgcfdaaW.PrintWords Go.Proofs.YtchgpcgolgcfdaaW.PrintLast Go.Proofs.YtchgpcgolgcfdaaW.PrintMore
set_option linter.unusedVariables false
set_option linter.unusedSimpArgs false
/-- What a range of a sorted list is. -/
def rangeL (from_ to_ : ByteArray) (l : List E) : List E := if to_ = ⟨#[]⟩ then fromL from_ l else (fromL from_ l).takeWhile (fun x => lt to_ x)
theorem take_all {p : E → Bool} {l : List E} (h : ∀ x ∈ l, p x = true) : l.takeWhile p = l := by
  induction l with
  | nil => rfl
  | cons x r ih => rw [List.takeWhile_cons, if_pos (h x (by simp)), ih (fun y hy => h y (by simp [hy]))]
theorem take_stop {p : E → Bool} : ∀ {l : List E} {j : Nat} (hj : j < l.length), (∀ x ∈ l.take j, p x = true) → p l[j] = false → l.takeWhile p = l.take j
  | x :: r, 0, _, _, h => by
    rw [List.takeWhile_cons, if_neg (by simpa using h)]
    rfl
  | x :: r, j + 1, hj, h1, h2 => by
    rw [List.takeWhile_cons, if_pos (h1 x (by simp)), List.take_succ_cons, take_stop (by simpa using hj) (fun y hy => h1 y (by simp [hy])) (by simpa using h2)]
theorem mem_take_succ {p : E → Bool} {l : List E} {j : Nat} (hj : j < l.length) (h : ∀ x ∈ l.take j, p x = true) (h2 : p l[j] = true) : ∀ x ∈ l.take (j + 1), p x = true := by
  rw [List.take_succ_eq_append_getElem hj]
  intro x hx
  rcases List.mem_append.1 hx with q | q
  · exact h x q
  · rw [List.mem_singleton.1 q]
    exact h2
def encE (x : E) : List Value := [.string x.f0, .int .u64 x.f1, .int .i64 x.f2, .string x.f3]
theorem flatE : Flat k29 encE := ⟨fun _ => rfl, fun h => k29_openM h, fun w x => k29_mk w x, fun h => k29_open h⟩
/-- A row of one's own, made behind b. -/
structure Rd1 (w : World) (b : Nat) (v : Value) (xs : List E) : Prop where
  r : Rw w 29 4 v xs.length (encL encE xs)
  base : ∀ k, v.ownBlock = some k → b ≤ k
theorem Rd1.below {w w' : World} {b : Nat} {v : Value} {xs : List E} (h : Rd1 w b v xs) (hb : Below w.heap.size w w') : Rd1 w' b v xs := ⟨h.r.below hb, h.base⟩
theorem Rd1.clip {w : World} {b n c j : Nat} {A : Option Addr} {xs : List E} (h : Rd1 w b (.slice A n c) xs) (hn : n = xs.length) (hj : j ≤ n) : Rd1 w b (.slice A j j) (xs.take j) := by
  subst hn
  have hl : (xs.take j).length = j := by rw [List.length_take]; omega
  have he : encL encE (xs.take j) = (encL encE xs).take (j * 4) := by
    have h1 : encL encE xs = encL encE (xs.take j) ++ encL encE (xs.drop j) := by rw [← encL_append, List.take_append_drop]
    have h2 : (encL encE (xs.take j)).length = j * 4 := by rw [flatE.lenL, hl]; rfl
    rw [h1, List.take_left' h2]
  refine ⟨?_, fun k hk => h.base k (by rw [own_sl A _ c j j]; exact hk)⟩
  rw [hl, he]
  exact h.r.clip hj
set_option maxHeartbeats 8000000 in
set_option maxRecDepth 100000 in
theorem range_calls {w0 w : World} {g : Nat} {d : Value} {ds : List Int} {ns : List Nd} {size last : Int} (h : OkT w0 w g d ds ns size last) (from_ to_ : ByteArray) (hl : ns.length < 1000000) :
    Calls Try.prog 19 #[.pointer (some ⟨g, 0, none⟩), .string from_, .string to_] w fun e w' => ∃ v, e = .returned v ∧ Rd1 w' w.heap.size v (rangeL from_ to_ (ns.map (·.e))) ∧ Below w.heap.size w w' := by
  obtain ⟨a, _, _, _, _, _, _, _, _, hL⟩ := h.cells
  have HF := Aside0.mk (from_ok _ w0 w g ns from_ hL hl)
  have HLN : Aside0 ((fromL from_ (ns.map (·.e))).length ≤ 1000000) := ⟨by
    have := (List.dropWhile_sublist (l := ns.map (·.e)) (fun x => lt from_ x)).length_le
    unfold fromL
    rw [List.length_map] at this
    omega⟩
  clear h hL
  obtain ⟨L, hLe⟩ : ∃ L, L = fromL from_ (ns.map (·.e)) := ⟨_, rfl⟩
  have HRL : Aside0 (rangeL from_ to_ (ns.map (·.e)) = if to_ = ⟨#[]⟩ then L else L.takeWhile (fun x => lt to_ x)) := ⟨by rw [hLe]; rfl⟩
  rw [← hLe] at HF HLN
  rw [HRL.out]
  clear hLe HRL hl
  by_cases ht : to_ = ⟨#[]⟩
  · rw [if_pos ht]
    subst ht
    go_enter Try.func19, Try.ntmps19
    go_wp2_with (first | (go_at_call 39; refine HF.out.mono ?_; rintro e w1 ⟨v, rfl, hr, hb⟩; have HR := Aside0.mk hr; have HB := Aside0.mk hb; clear hr hb))
    go_ret
    obtain ⟨A, c, e1⟩ := Kd.R_slice HR.out
    subst e1
    exact ⟨_, rfl, ⟨flatE.of_R HR.out, fun k hk => Kd.R_base HR.out k hk⟩, HB.out⟩
  · rw [if_neg ht]
    have hto : (to_.toList == ([] : List UInt8)) = false := by
      have := PuIkC.tl_beq to_ ⟨#[]⟩
      rw [PuIkC.nil_toList] at this
      rw [this]
      exact decide_eq_false ht
    clear ht
    go_enter Try.func19, Try.ntmps19
    go_wp2_with (first | (go_at_call 39; refine HF.out.mono ?_; rintro e w1 ⟨v, rfl, hr, hb⟩; have HR := Aside0.mk hr; have HB := Aside0.mk hb; clear hr hb; obtain ⟨A, c, e1⟩ := Kd.R_slice HR.out; subst e1; have HD := Aside0.mk (⟨flatE.of_R HR.out, fun k hk => Kd.R_base HR.out k hk⟩ : Rd1 w1 w.heap.size (.slice A L.length c) L); clear HR))
    go_loopw [22] (fun v22 w' => ∃ j : Nat, v22 = .int .i64 j ∧ j ≤ L.length ∧ Aside0 (∀ x ∈ L.take j, lt to_ x = true) ∧ Aside0 (Rd1 w' w.heap.size (.slice A L.length c) L) ∧ Aside0 (Below w.heap.size w w')) (fun v22 _ => L.length - (intOf v22).toNat)
    case atStart => exact ⟨0, rfl, Nat.zero_le _, ⟨fun x hx => by simp at hx⟩, HD, HB⟩
    case round =>
      clear HD HB
      obtain ⟨j, rfl, hj, HT, HD, HB⟩ := hrel
      have hj2 : j ≤ 1000000 := Nat.le_trans hj HLN.out
      by_cases hlt : j < L.length
      · have p0 : (0 : Int) ≤ (j : Int) := Int.natCast_nonneg _
        have q0 : (j : Int) < (L.length : Int) := Int.ofNat_lt.mpr hlt
        have t0 : decide ((j : Int) < (L.length : Int)) = true := decide_eq_true q0
        obtain ⟨ad, e0, y0, y1, y2, y3⟩ := at_T29 (flatE.to_C HD.out.r rfl) (j : Int) p0 q0
        subst e0
        simp only [Int.toNat_natCast] at y0 y1 y2 y3
        have HX : Aside0 (rd_T29 L (j : Int) = L[j]) := ⟨by simp [rd_T29, hlt]⟩
        generalize rd_T29 L (j : Int) = x at *
        cases hb : Op.bytesLess x.f0.toList to_.toList
        case true =>
          have hb2 : (!Op.bytesLess x.f0.toList to_.toList) = false := by rw [hb]; rfl
          have HBL := Aside0.mk hb
          clear hb
          go_wp2_with (fail)
          go_roundw
          case rel => exact ⟨j + 1, by go_num, by omega, ⟨mem_take_succ hlt HT.out (by rw [← HX.out]; exact HBL.out)⟩, ⟨HD.out.below (below_alloc (Below.refl _ _) _)⟩, ⟨below_alloc HB.out _⟩⟩
          case measure => simp [intOf]; omega
        case false =>
          have hb2 : (!Op.bytesLess x.f0.toList to_.toList) = true := by rw [hb]; rfl
          have hc : L.length ≤ c := by
            obtain ⟨A2, c2, e2, h2⟩ := HD.out.r.slice
            injection e2 with _ _ e2
            omega
          have hjc : (j : Int) ≤ (c : Int) := by omega
          have hjj : (j : Int) ≤ (j : Int) := Int.le_refl _
          have HBL := Aside0.mk hb
          clear hb
          go_wp2_with (fail)
          go_ret
          rw [take_stop hlt HT.out (by rw [← HX.out]; exact HBL.out)]
          exact ⟨_, rfl, (HD.out.clip rfl hj).below (below_alloc (Below.refl _ _) _), below_alloc HB.out _⟩
      · obtain rfl : j = L.length := by omega
        have t0 : decide ((L.length : Int) < (L.length : Int)) = false := decide_eq_false (by omega)
        go_wp2_with (fail)
        go_ret
        rw [take_all (fun x hx => HT.out x (by rw [List.take_length]; exact hx))]
        exact ⟨_, rfl, HD.out, HB.out⟩
end Go.Proofs.Ytchgpcgolgcfdaa.Mt
