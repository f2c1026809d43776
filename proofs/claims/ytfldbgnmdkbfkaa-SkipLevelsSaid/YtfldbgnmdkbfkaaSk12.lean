/- Two skip lists at once; lists of versions that are equal; the order in which versions are put in plays no part. -/
import Derived.Test.YtfldbgnmdkbfkaaSk10
import Derived.Test.YtfldbgnmdkbfkaaPNumx7
namespace Go.Proofs.Ytfldbgnmdkbfkaa.Sk
open Go Go.RowKit Go.Proofs.Ytfldbgnmdkbfkaa.PNum Go.Proofs.Ytfldbgnmdkbfkaa.SkM Go.Proofs.YtfldbgnmdkbfkaaW.PrintWords Go.Proofs.YtfldbgnmdkbfkaaW.PrintLast Go.Proofs.YtfldbgnmdkbfkaaW.PrintMore
open PuIkC Go.Proofs.YtfldbgnmdkbfkaaW.Pu
set_option linter.unusedVariables false
set_option linter.unusedSimpArgs false
theorem same_l0 (l : List E) (hl : l.length ≤ 1000000) (d : Nat) : ∀ (i : Nat), i + d = l.length → cornucopiabook_SameEntries.l0 (d + 1) l l (i : Int) = some true := by
  induction d with
  | zero =>
    intro i hi
    rw [cornucopiabook_SameEntries.l0, if_neg (by omega)]
  | succ d ih =>
    intro i hi
    rw [cornucopiabook_SameEntries.l0, if_pos (by omega), if_pos (by omega), if_pos (by omega), if_pos (by simp), wrap64_id (by omega)]
    exact ih (i + 1) (by omega)
theorem same_calls (l : List E) (hl : l.length ≤ 1000000) (A0 : Option Addr) (c0 : Nat) (A1 : Option Addr) (c1 : Nat) (w : World) (h0 : Kd.C k24 w A0 l.length l) (hc0 : l.length ≤ c0) (h1 : Kd.C k24 w A1 l.length l) (hc1 : l.length ≤ c1) :
    Calls Try.prog 16 #[.slice A0 l.length c0, .slice A1 l.length c1] w fun e w' => e = .returned (.bool true) ∧ Below w.heap.size w w' :=
  (cornucopiabook_SameEntries.calls (l.length + 1) A0 c0 l A1 c1 l true w h0 hc0 h1 hc1 (by
    rw [cornucopiabook_SameEntries.f, if_pos rfl]
    exact same_l0 l hl l.length 0 (by omega))).mono (fun e w' h => ⟨h.1, h.2.below⟩)
theorem digits_calls (w : World) : Calls Try.prog 17 #[.int .i64 0] w fun e w' => e = .returned (.string ⟨#[48]⟩) ∧ Below w.heap.size w w' :=
  cornucopiaref1_Digits.calls 0 0 ⟨#[48]⟩ w (by rw [cornucopiaref1_Digits.f, if_pos rfl])
theorem eqE (V : World) (e : E) : (binOp BinOp.eql 24 (.agg #[.string (e).f0, .int .u64 (e).f1, .int .i64 (e).f2, .string (e).f3]) (.agg #[.string (e).f0, .int .u64 (e).f1, .int .i64 (e).f2, .string (e).f3])).run Try.prog V = .ok (.bool true) V := by
  go_simp
/-! ### what a list holds -/
theorem mem_ins (e x : E) : ∀ (l : List E), (∀ y ∈ l, ce y e ≠ 0) → (x ∈ ins e l ↔ x = e ∨ x ∈ l)
  | [], _ => by simp [ins]
  | y :: r, h => by
    rw [ins]
    split
    · rw [List.mem_cons, mem_ins e x r (fun z hz => h z (by simp [hz])), List.mem_cons]
      exact ⟨fun k => by rcases k with k | k | k; exact Or.inr (Or.inl k); exact Or.inl k; exact Or.inr (Or.inr k), fun k => by rcases k with k | k | k; exact Or.inr (Or.inl k); exact Or.inl k; exact Or.inr (Or.inr k)⟩
    · rw [if_neg (h y (by simp))]
      simp
theorem mem_insV (e x : E) (l : List E) (h : ∀ y ∈ l, ce y e ≠ 0) : x ∈ insV e l ↔ (x = e ∧ valid e.f0 e.f2 e.f3 = true) ∨ x ∈ l := by
  unfold insV
  by_cases hv : valid e.f0 e.f2 e.f3 = true
  · rw [if_pos hv, mem_ins e x l h]
    simp [hv]
  · rw [if_neg hv]
    simp [hv]
theorem ce_irr (a : E) : ce a a ≠ -1 := by
  rw [(ce_zero a a).2 ⟨rfl, rfl⟩]
  decide
theorem srt_unique : ∀ {p q : List E}, p.Pairwise (fun x y => ce x y = -1) → q.Pairwise (fun x y => ce x y = -1) → (∀ x, x ∈ p ↔ x ∈ q) → p = q
  | [], [], _, _, _ => rfl
  | [], y :: s, _, _, h => by have := (h y).2 (by simp); cases this
  | x :: r, [], _, _, h => by have := (h x).1 (by simp); cases this
  | x :: r, y :: s, hp, hq, h => by
    have hp2 := List.pairwise_cons.1 hp
    have hq2 := List.pairwise_cons.1 hq
    have hxy : x = y := by
      rcases List.mem_cons.1 ((h x).1 (by simp)) with k | k
      · exact k
      · rcases List.mem_cons.1 ((h y).2 (by simp)) with k2 | k2
        · exact k2.symm
        · exact absurd (ce_trans (hp2.1 y k2) (hq2.1 x k)) (ce_irr x)
    subst hxy
    rw [srt_unique hp2.2 hq2.2 (fun z => ⟨fun k => ?_, fun k => ?_⟩)]
    · rcases List.mem_cons.1 ((h z).1 (List.mem_cons_of_mem _ k)) with rfl | k2
      · exact absurd (hp2.1 _ k) (ce_irr _)
      · exact k2
    · rcases List.mem_cons.1 ((h z).2 (List.mem_cons_of_mem _ k)) with rfl | k2
      · exact absurd (hq2.1 _ k) (ce_irr _)
      · exact k2
/-! ### two lists -/
structure Two (w0 V : World) (g : Nat) (ns : List Nd) (g2 : Nat) (ms : List Nd) : Prop where
  a : OkL w0 V g ns
  b : OkL w0 V g2 ms
  ap : ∀ k, (k = g ∨ k ∈ blocks ns) → ¬ (k = g2 ∨ k ∈ blocks ms)
theorem Two.symm {w0 V : World} {g g2 : Nat} {ns ms : List Nd} (h : Two w0 V g ns g2 ms) : Two w0 V g2 ms g ns := ⟨h.b, h.a, fun k h1 h2 => h.ap k h2 h1⟩
theorem Two.below {w0 V V1 : World} {g g2 : Nat} {ns ms : List Nd} (h : Two w0 V g ns g2 ms) (hb : Below V.heap.size V V1) : Two w0 V1 g ns g2 ms := ⟨h.a.below hb, h.b.below hb, h.ap⟩
theorem new_two (w0 w : World) (hB : Below w0.heap.size w0 w) (g : Nat) (ns : List Nd) (hO : OkL w0 w g ns) :
    Calls Try.prog 15 #[] w fun e w' => ∃ g2, e = .returned (.pointer (some ⟨g2, 0, none⟩)) ∧ Two w0 w' g ns g2 [] ∧ Below w.heap.size w w' :=
  (new_ok w0 w hB).mono (fun e w' ⟨g2, h1, h2, h3, h4⟩ => ⟨g2, h1, ⟨hO.below h4, h2, fun k k1 k2 => by
    have h5 := hO.lt k k1
    rcases k2 with rfl | k2
    · omega
    · cases k2⟩, h4⟩)
theorem put_two (w0 w : World) (g g2 : Nat) (ns ms : List Nd) (e : E) (lv : Int) (hO : Two w0 w g ns g2 ms) (hB : Below w0.heap.size w0 w) (hl : ns.length < 1000000) (s0 : e.f0.size ≤ 140737488351232) (s3 : e.f3.size ≤ 140737488351232) :
    Calls Try.prog 9 #[.pointer (some ⟨g, 0, none⟩), .agg #[.string (e).f0, .int .u64 (e).f1, .int .i64 (e).f2, .string (e).f3], .int .i64 lv] w fun ee w' => ee = .returned (.bool (fresh e (ns.map (·.e)))) ∧ ∃ ns', Two w0 w' g ns' g2 ms ∧ ns'.map (·.e) = insV e (ns.map (·.e)) ∧ Below w0.heap.size w0 w' :=
  (put_any w0 w g ns e lv hO.a hB hl s0 s3).mono (fun ee w' ⟨h1, h2, ns', h3, h4, h5, h6, h7⟩ => ⟨h1, ns', ⟨h3, hO.b.far (fun k hk => h6 k (hO.b.lt k hk) (fun z => hO.ap k (Or.inl z) hk) (fun z => hO.ap k (Or.inr z) hk)), fun k k1 k2 => by
    rcases k1 with k1 | k1
    · exact hO.ap k (Or.inl k1) k2
    · rcases h7 k k1 with k3 | k3
      · exact hO.ap k (Or.inr k3) k2
      · have := hO.b.lt k k2
        omega⟩, h4, h5⟩)
theorem get_as (w0 w : World) (g : Nat) (ns : List Nd) (L : List E) (hL : ns.map (·.e) = L) (key : ByteArray) (s : Int) (h : OkL w0 w g ns) :
    Calls Try.prog 8 #[.pointer (some ⟨g, 0, none⟩), .string key, .int .u64 s] w fun e w' => e = .returned (.tuple #[.agg #[.string ((pickL key s L).getD zE).f0, .int .u64 ((pickL key s L).getD zE).f1, .int .i64 ((pickL key s L).getD zE).f2, .string ((pickL key s L).getD zE).f3], .bool (pickL key s L).isSome]) ∧ Below w.heap.size w w' := by
  subst hL
  exact get_ok w0 w g ns key s h
theorem all_as (w0 w : World) (g : Nat) (ns : List Nd) (L : List E) (hL : ns.map (·.e) = L) (h : OkL w0 w g ns) (hl : L.length < 1000000) :
    Calls Try.prog 10 #[.pointer (some ⟨g, 0, none⟩)] w fun e w' => ∃ A c, e = .returned (.slice A L.length c) ∧ L.length ≤ c ∧ Kd.C k24 w' A L.length L ∧ Below w.heap.size w w' := by
  subst hL
  refine (all_ok w0 w g ns h (by simpa using hl)).mono ?_
  rintro e w' ⟨v, rfl, hr, hb⟩
  obtain ⟨A, c, rfl, hcc, hC⟩ := Kd.R_reads hr
  exact ⟨A, c, rfl, hcc, hC, hb⟩
theorem from_as (w0 w : World) (g : Nat) (ns : List Nd) (L : List E) (hL : ns.map (·.e) = L) (key : ByteArray) (K : List E) (hK : fromL key L = K) (h : OkL w0 w g ns) (hl : L.length < 1000000) :
    Calls Try.prog 11 #[.pointer (some ⟨g, 0, none⟩), .string key] w fun e w' => ∃ A c, e = .returned (.slice A K.length c) ∧ K.length ≤ c ∧ Kd.C k24 w' A K.length K ∧ Below w.heap.size w w' := by
  subst hL hK
  refine (from_ok w0 w g ns key h (by simpa using hl)).mono ?_
  rintro e w' ⟨v, rfl, hr, hb⟩
  obtain ⟨A, c, rfl, hcc, hC⟩ := Kd.R_reads hr
  exact ⟨A, c, rfl, hcc, hC, hb⟩
theorem len_as (w0 w : World) (g : Nat) (ns : List Nd) (L : List E) (hL : ns.map (·.e) = L) (h : OkL w0 w g ns) :
    Calls Try.prog 12 #[.pointer (some ⟨g, 0, none⟩)] w fun e w' => e = .returned (.int .i64 (L.length : Int)) ∧ w' = w := by
  subst hL
  rw [List.length_map]
  exact len_ok w0 w g ns h
theorem fromL_len (key : ByteArray) (l : List E) : (fromL key l).length ≤ l.length := by
  unfold fromL
  have h := congrArg List.length (List.takeWhile_append_dropWhile (p := fun x => lt key x) (l := l))
  rw [List.length_append] at h
  omega
end Go.Proofs.Ytfldbgnmdkbfkaa.Sk
