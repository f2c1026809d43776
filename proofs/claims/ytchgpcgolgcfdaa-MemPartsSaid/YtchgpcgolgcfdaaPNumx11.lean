/- A walk, written by a program of this session out of the translation (a printed Lean function, and that the Go code comes to its answer). Lean checks it. -/
import Derived.Test.YtchgpcgolgcfdaaPNumx0
import Derived.Test.YtchgpcgolgcfdaaMt8
import Derived.Test.YtchgpcgolgcfdaaWRd
import Derived.Test.YtchgpcgolgcfdaaWPu
namespace Go.Proofs.Ytchgpcgolgcfdaa.PNum
open Go.RowKit Go.Proofs.YtchgpcgolgcfdaaW.PrintWords Go.Proofs.YtchgpcgolgcfdaaW.PrintLast Go.Proofs.YtchgpcgolgcfdaaW.PrintMore
attribute [local go_sem] max2_int min2_int max_two min_two max_three min_three max_four min_four   -- for this text's walks alone
set_option linter.unusedVariables false
set_option linter.unusedSimpArgs false

-- OWNIMPORT Derived.Test.YtchgpcgolgcfdaaMt8
-- OWNIMPORT Derived.Test.YtchgpcgolgcfdaaWRd
-- OWNIMPORT Derived.Test.YtchgpcgolgcfdaaWPu
/-! ### cornucopialaw8_MemParts: function 6 -/
/-- What a call comes to: true. -/
def cornucopialaw8_MemParts.f (l0 : List S45) (a1 a2 a3 : ByteArray) (l4 : List Int) : Option Bool := some true
theorem cornucopialaw8_MemParts.calls (A0 : Option Addr) (c0 : Nat) (l0 : List S45) (a1 a2 a3 : ByteArray) (A4 : Option Addr) (c4 : Nat) (l4 : List Int) (r : Bool) (w : World) (hr0 : Kd.C k45 w A0 l0.length l0) (hc0 : l0.length ≤ c0) (hr4 : Kd.C (Kd.int .i64) w A4 l4.length l4) (hc4 : l4.length ≤ c4) (h : cornucopialaw8_MemParts.f l0 a1 a2 a3 l4 = some r) :
    Calls Try.prog 6 #[.slice A0 l0.length c0, .string a1, .string a2, .string a3, .slice A4 l4.length c4] w fun e w' => e = .returned (.bool r) ∧ Below w.heap.size w w' := by
  obtain rfl : true = r := Option.some.inj h
  exact Mt.parts_calls A0 c0 l0 a1 a2 a3 A4 c4 l4 w hr0 hc0 hr4 hc4


/-- THE ONE PURE STATEMENT of cornucopialaw8_MemParts. -/
def cornucopialaw8_MemParts.Pure : Prop := ∀ (l0 : List (S45)) (a1 : ByteArray) (a2 : ByteArray) (a3 : ByteArray) (l4 : List Int), l0.length * 72 ≤ 140737488351232 → (∀ x_ ∈ l0, wfS45 x_) → a1.size ≤ 140737488351232 → a2.size ≤ 140737488351232 → a3.size ≤ 140737488351232 → l4.length * 8 ≤ 140737488351232 → (∀ x_ ∈ l4, (Lit.int .i64 x_).wf = true) → cornucopialaw8_MemParts.f l0 a1 a2 a3 l4 = some true
theorem cornucopialaw8_MemParts.walk (P : cornucopialaw8_MemParts.Pure) (A0 : Option Addr) (c0 : Nat) (l0 : List (S45)) (a1 : ByteArray) (a2 : ByteArray) (a3 : ByteArray) (A4 : Option Addr) (c4 : Nat) (l4 : List Int) (w : World) (hr0 : Kd.C k45 w A0 l0.length l0) (hc0 : l0.length ≤ c0) (w0_0 : l0.length * 72 ≤ 140737488351232) (w0_1 : (∀ x_ ∈ l0, wfS45 x_)) (w1_0 : a1.size ≤ 140737488351232) (w2_0 : a2.size ≤ 140737488351232) (w3_0 : a3.size ≤ 140737488351232) (hr4 : Kd.C (Kd.int .i64) w A4 l4.length l4) (hc4 : l4.length ≤ c4) (w4_0 : l4.length * 8 ≤ 140737488351232) (w4_1 : (∀ x_ ∈ l4, (Lit.int .i64 x_).wf = true)) :
    Calls Try.prog 6 #[.slice A0 l0.length c0, .string a1, .string a2, .string a3, .slice A4 l4.length c4] w fun e w' => e = .returned (.bool true) ∧ Below w.heap.size w w' := by
  have h := P l0 a1 a2 a3 l4 w0_0 w0_1 w1_0 w2_0 w3_0 w4_0 w4_1
  refine (cornucopialaw8_MemParts.calls _ _ l0 a1 a2 a3 _ _ l4 true w hr0 hc0 hr4 hc4 h).mono ?_
  rintro e w' ⟨rfl, hd⟩
  exact ⟨rfl, hd⟩

end Go.Proofs.Ytchgpcgolgcfdaa.PNum
