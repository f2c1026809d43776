/- A walk, written by a program of this session out of the translation (a printed Lean function, and that the Go code comes to its answer). Lean checks it. -/
import Derived.Test.YtimcibifghidjaaPFilx0
import Derived.Test.YtimcibifghidjaaFlOrd
import Derived.Test.YtimcibifghidjaaWRd
import Derived.Test.YtimcibifghidjaaWPu
namespace Go.Proofs.Ytimcibifghidjaa.PFil
open Go.RowKit Go.Proofs.YtimcibifghidjaaW.PrintWords Go.Proofs.YtimcibifghidjaaW.PrintLast Go.Proofs.YtimcibifghidjaaW.PrintMore
attribute [local go_sem] max2_int min2_int max_two min_two max_three min_three max_four min_four   -- for this text's walks alone
set_option linter.unusedVariables false
set_option linter.unusedSimpArgs false

-- OWNIMPORT Derived.Test.YtimcibifghidjaaFlOrd
-- OWNIMPORT Derived.Test.YtimcibifghidjaaWRd
-- OWNIMPORT Derived.Test.YtimcibifghidjaaWPu
/-! ### cornucopialaw4_FileOrder: function 3 -/
/-- What a call comes to: true. -/
def cornucopialaw4_FileOrder.f (a0 a1 : Int) : Option Bool := some true
theorem cornucopialaw4_FileOrder.calls (a0 a1 : Int) (r : Bool) (w : World) (h : cornucopialaw4_FileOrder.f a0 a1 = some r) :
    Calls Try.prog 3 #[.int .i64 a0, .int .i64 a1] w fun e w' => e = .returned (.bool r) ∧ Below w.heap.size w w' := by
  obtain rfl : true = r := Option.some.inj h
  exact Go.Proofs.Ytimcibifghidjaa.Fs.order_calls w a0 a1


/-- THE ONE PURE STATEMENT of cornucopialaw4_FileOrder. -/
def cornucopialaw4_FileOrder.Pure : Prop := ∀ (a0 : Int) (a1 : Int), (Lit.int .i64 a0).wf = true → (Lit.int .i64 a1).wf = true → cornucopialaw4_FileOrder.f a0 a1 = some true
theorem cornucopialaw4_FileOrder.walk (P : cornucopialaw4_FileOrder.Pure) (a0 : Int) (a1 : Int) (w : World) (w0_0 : (Lit.int .i64 a0).wf = true) (w1_0 : (Lit.int .i64 a1).wf = true) :
    Calls Try.prog 3 #[.int .i64 a0, .int .i64 a1] w fun e w' => e = .returned (.bool true) ∧ Below w.heap.size w w' := by
  have h := P a0 a1 w0_0 w1_0
  refine (cornucopialaw4_FileOrder.calls a0 a1 true w h).mono ?_
  rintro e w' ⟨rfl, hd⟩
  exact ⟨rfl, hd⟩

end Go.Proofs.Ytimcibifghidjaa.PFil
