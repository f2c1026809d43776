/- A walk, written by a program of this session out of the translation (a printed Lean function, and that the Go code comes to its answer). Lean checks it. -/
import Derived.Test.YtimcibifghidjaaPFilx0
import Derived.Test.YtimcibifghidjaaFlFuse
import Derived.Test.YtimcibifghidjaaWRd
import Derived.Test.YtimcibifghidjaaWPu
namespace Go.Proofs.Ytimcibifghidjaa.PFil
open Go.RowKit Go.Proofs.YtimcibifghidjaaW.PrintWords Go.Proofs.YtimcibifghidjaaW.PrintLast Go.Proofs.YtimcibifghidjaaW.PrintMore
attribute [local go_sem] max2_int min2_int max_two min_two max_three min_three max_four min_four   -- for this text's walks alone
set_option linter.unusedVariables false
set_option linter.unusedSimpArgs false

-- OWNIMPORT Derived.Test.YtimcibifghidjaaFlFuse
-- OWNIMPORT Derived.Test.YtimcibifghidjaaWRd
-- OWNIMPORT Derived.Test.YtimcibifghidjaaWPu
/-! ### cornucopialaw4_FileFuses: function 4 -/
/-- What a call comes to: true. -/
def cornucopialaw4_FileFuses.f (a0 : Int) : Option Bool := some true
theorem cornucopialaw4_FileFuses.calls (a0 : Int) (r : Bool) (w : World) (h : cornucopialaw4_FileFuses.f a0 = some r) :
    Calls Try.prog 4 #[.int .i64 a0] w fun e w' => e = .returned (.bool r) ∧ Below w.heap.size w w' := by
  obtain rfl : true = r := Option.some.inj h
  exact Go.Proofs.Ytimcibifghidjaa.Fs.fuses_calls w a0


/-- THE ONE PURE STATEMENT of cornucopialaw4_FileFuses. -/
def cornucopialaw4_FileFuses.Pure : Prop := ∀ (a0 : Int), (Lit.int .i64 a0).wf = true → cornucopialaw4_FileFuses.f a0 = some true
theorem cornucopialaw4_FileFuses.walk (P : cornucopialaw4_FileFuses.Pure) (a0 : Int) (w : World) (w0_0 : (Lit.int .i64 a0).wf = true) :
    Calls Try.prog 4 #[.int .i64 a0] w fun e w' => e = .returned (.bool true) ∧ Below w.heap.size w w' := by
  have h := P a0 w0_0
  refine (cornucopialaw4_FileFuses.calls a0 true w h).mono ?_
  rintro e w' ⟨rfl, hd⟩
  exact ⟨rfl, hd⟩

end Go.Proofs.Ytimcibifghidjaa.PFil
