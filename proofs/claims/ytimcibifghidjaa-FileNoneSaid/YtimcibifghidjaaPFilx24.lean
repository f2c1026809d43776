/- A walk, written by a program of this session out of the translation (a printed Lean function, and that the Go code comes to its answer). Lean checks it. -/
import Derived.Test.YtimcibifghidjaaPFilx0
import Derived.Test.YtimcibifghidjaaFlNone
import Derived.Test.YtimcibifghidjaaWRd
import Derived.Test.YtimcibifghidjaaWPu
namespace Go.Proofs.Ytimcibifghidjaa.PFil
open Go.RowKit Go.Proofs.YtimcibifghidjaaW.PrintWords Go.Proofs.YtimcibifghidjaaW.PrintLast Go.Proofs.YtimcibifghidjaaW.PrintMore
attribute [local go_sem] max2_int min2_int max_two min_two max_three min_three max_four min_four   -- for this text's walks alone
set_option linter.unusedVariables false
set_option linter.unusedSimpArgs false

-- OWNIMPORT Derived.Test.YtimcibifghidjaaFlNone
-- OWNIMPORT Derived.Test.YtimcibifghidjaaWRd
-- OWNIMPORT Derived.Test.YtimcibifghidjaaWPu
/-! ### cornucopialaw4_FileNone: function 10 -/
/-- What a call comes to: true. -/
def cornucopialaw4_FileNone.f (a0 a1 : ByteArray) : Option Bool := some true
theorem cornucopialaw4_FileNone.calls (a0 a1 : ByteArray) (r : Bool) (w : World) (h : cornucopialaw4_FileNone.f a0 a1 = some r) :
    Calls Try.prog 10 #[.string a0, .string a1] w fun e w' => e = .returned (.bool r) ∧ Below w.heap.size w w' := by
  obtain rfl : true = r := Option.some.inj h
  exact Go.Proofs.Ytimcibifghidjaa.Fs.none_calls w a0 a1


/-- THE ONE PURE STATEMENT of cornucopialaw4_FileNone. -/
def cornucopialaw4_FileNone.Pure : Prop := ∀ (a0 : ByteArray) (a1 : ByteArray), a0.size ≤ 140737488351232 → a1.size ≤ 140737488351232 → cornucopialaw4_FileNone.f a0 a1 = some true
theorem cornucopialaw4_FileNone.walk (P : cornucopialaw4_FileNone.Pure) (a0 : ByteArray) (a1 : ByteArray) (w : World) (w0_0 : a0.size ≤ 140737488351232) (w1_0 : a1.size ≤ 140737488351232) :
    Calls Try.prog 10 #[.string a0, .string a1] w fun e w' => e = .returned (.bool true) ∧ Below w.heap.size w w' := by
  have h := P a0 a1 w0_0 w1_0
  refine (cornucopialaw4_FileNone.calls a0 a1 true w h).mono ?_
  rintro e w' ⟨rfl, hd⟩
  exact ⟨rfl, hd⟩

end Go.Proofs.Ytimcibifghidjaa.PFil
