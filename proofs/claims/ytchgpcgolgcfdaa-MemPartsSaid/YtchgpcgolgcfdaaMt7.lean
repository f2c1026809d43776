/- Two tables side by side: what is added to one of them, and what is added to both. -/
import Derived.Test.YtchgpcgolgcfdaaMt4
import Derived.Test.YtchgpcgolgcfdaaMt6
namespace Go.Proofs.Ytchgpcgolgcfdaa.Mt
open Go Go.RowKit Go.Proofs.Ytchgpcgolgcfdaa.PNum Go.Proofs.Ytchgpcgolgcfdaa.RkM Go.Proofs.Ytchgpcgolgcfdaa.Rk Go.Proofs.Ytchgpcgolgcfdaa.BkW Go.Proofs.YtchgpcgolgcfdaaW.PrintWords Go.Proofs.YtchgpcgolgcfdaaW.PrintLast Go.Proofs.YtchgpcgolgcfdaaW.PrintMore
set_option linter.unusedVariables false
/-- Two tables, in blocks of their own. -/
structure Pr (w0 V : World) (g : Nat) (d : Value) (ds : List Int) (ns : List Nd) (sz last : Int) (g2 : Nat) (d2 : Value) (ds2 : List Int) (ns2 : List Nd) (sz2 last2 : Int) : Prop where
  a : OkT w0 V g d ds ns sz last
  b : OkT w0 V g2 d2 ds2 ns2 sz2 last2
  ap : ∀ k, Ft g d ns k → ¬ Ft g2 d2 ns2 k
  bel : Below w0.heap.size w0 V
section
variable {w0 V V1 : World} {g g2 : Nat} {d d2 : Value} {ds ds2 : List Int} {ns ns2 : List Nd} {sz sz2 last last2 : Int}
theorem Pr.swap (h : Pr w0 V g d ds ns sz last g2 d2 ds2 ns2 sz2 last2) : Pr w0 V g2 d2 ds2 ns2 sz2 last2 g d ds ns sz last := ⟨h.b, h.a, fun k h1 h2 => h.ap k h2 h1, h.bel⟩
theorem Pr.below (h : Pr w0 V g d ds ns sz last g2 d2 ds2 ns2 sz2 last2) (hb : Below V.heap.size V V1) : Pr w0 V1 g d ds ns sz last g2 d2 ds2 ns2 sz2 last2 := ⟨h.a.below hb, h.b.below hb, h.ap, below_step h.bel hb⟩
end
/-- Is a batch taken? -/
def good (W : List S79) (first last : Int) : Bool := okW W && decide (last < first ∧ first ≤ 4611686018427387904 - (W.length : Int))
theorem sizeL_bound : ∀ (W : List S79) (s : Int), 0 ≤ s ∧ s ≤ 4611686018427387904 → 0 ≤ sizeL W s ∧ sizeL W s ≤ 4611686018427387904
  | [], s, h => h
  | x :: r, s, h => by
    rw [sizeL]
    exact sizeL_bound r _ (by omega)
theorem addL_len (first : Int) : ∀ (W : List S79) (i : Nat) (l : List E), (addL first i W l).length ≤ l.length + W.length
  | [], i, l => by rw [addL]; omega
  | x :: r, i, l => by
    rw [addL]
    have h1 := addL_len first r (i + 1) (insV (eOf first i x) l)
    have h2 := insV_len (eOf first i x) l
    simp only [List.length_cons]
    omega
/-- One of two tables has a batch added. -/
theorem pr_add {w0 w : World} {g g2 : Nat} {d d2 : Value} {ds ds2 : List Int} {ns ns2 : List Nd} {sz sz2 last last2 : Int} (h : Pr w0 w g d ds ns sz last g2 d2 ds2 ns2 sz2 last2) (A : Option Addr) (c : Nat) (W : List S79) (first : Int) (hC : Kd.C k79 w0 A W.length W) (hn : W.length ≤ 60) (hf : 0 ≤ first ∧ first ≤ 4611686018427387904) (hs : 0 ≤ sz ∧ sz ≤ 4611686018427387904) (hl : ns.length < 900000) (hd : ds.length ≤ 1000000) :
    Calls Try.prog 18 #[.pointer (some ⟨g, 0, none⟩), .int .u64 first, .slice A W.length c] w fun e w' => e = .returned (.tuple #[.int .u64 (if good W first last = true then first + W.length else 0), .int .i64 (if good W first last = true then 0 else 1)]) ∧ ∃ ns', Pr w0 w' g d ds ns' (if good W first last = true then sizeL W sz else sz) (if good W first last = true then first + W.length - 1 else last) g2 d2 ds2 ns2 sz2 last2 ∧ ns'.map (·.e) = (if good W first last = true then addL first 0 W (ns.map (·.e)) else ns.map (·.e)) := by
  cases hg : good W first last with
  | true =>
    unfold good at hg
    obtain ⟨hok, hg2⟩ := Bool.and_eq_true_iff.1 hg
    have hg3 := of_decide_eq_true hg2
    refine (add_yes h.a A c W first (fun V _ hB _ => Kd.C_below hC hB) hn ⟨hf.1, hg3.1, hg3.2⟩ hok h.bel hs hl hd).mono ?_
    rintro e w' ⟨rfl, ns', h1, h2, h3, h4, h5⟩
    have hFt : ∀ k, Ft g2 d2 ns2 k → w'.heap[k]? = w.heap[k]? := fun k hk => h4 k (h.b.lt k hk) (fun q => h.ap k (.inl q) hk) (fun q => h.ap k (.inr (.inl q)) hk)
    refine ⟨by simp, ns', ⟨by simpa using h1, h.b.far hFt, ?_, h3⟩, by simpa using h2⟩
    rintro k (q | q | q) hk
    · exact h.ap k (.inl q) hk
    · rcases h5 k q with z | z
      · exact h.ap k (.inr (.inl z)) hk
      · have := h.b.lt k hk
        omega
    · exact h.ap k (.inr (.inr q)) hk
  | false =>
    have hbad : okW W = false ∨ first ≤ last ∨ 4611686018427387904 < first ∨ 4611686018427387904 - (W.length : Int) < first := by
      unfold good at hg
      cases ho : okW W with
      | false => exact .inl rfl
      | true =>
        rw [ho, Bool.true_and] at hg
        have := of_decide_eq_false hg
        omega
    refine (add_bad h.a A c W first (Kd.C_below hC h.bel) hn ⟨hf.1, by omega⟩ hbad).mono ?_
    rintro e w' ⟨rfl, hb⟩
    exact ⟨by simp, ns, by simpa using h.below hb, by simp⟩
end Go.Proofs.Ytchgpcgolgcfdaa.Mt
