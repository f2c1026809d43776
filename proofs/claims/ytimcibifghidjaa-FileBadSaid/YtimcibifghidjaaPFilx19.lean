/- A walk, written by a program of this session out of the translation (a printed Lean function, and that the Go code comes to its answer). Lean checks it. -/
import Derived.Test.YtimcibifghidjaaPFilx0
import Derived.Test.YtimcibifghidjaaFlBad
import Derived.Test.YtimcibifghidjaaWRd
import Derived.Test.YtimcibifghidjaaWPu
namespace Go.Proofs.Ytimcibifghidjaa.PFil
open Go.RowKit Go.Proofs.YtimcibifghidjaaW.PrintWords Go.Proofs.YtimcibifghidjaaW.PrintLast Go.Proofs.YtimcibifghidjaaW.PrintMore
attribute [local go_sem] max2_int min2_int max_two min_two max_three min_three max_four min_four   -- for this text's walks alone
set_option linter.unusedVariables false
set_option linter.unusedSimpArgs false

-- OWNIMPORT Derived.Test.YtimcibifghidjaaFlBad
-- OWNIMPORT Derived.Test.YtimcibifghidjaaWRd
-- OWNIMPORT Derived.Test.YtimcibifghidjaaWPu
/-! ### cornucopialaw4_FileBad: function 8 -/
/-- What a call comes to: true. -/
def cornucopialaw4_FileBad.f (a0 a1 : Int) (a2 : ByteArray) : Option Bool := some true
theorem cornucopialaw4_FileBad.calls (a0 a1 : Int) (a2 : ByteArray) (r : Bool) (w : World) (h : cornucopialaw4_FileBad.f a0 a1 a2 = some r) :
    Calls Try.prog 8 #[.int .i64 a0, .int .i64 a1, .string a2] w fun e w' => e = .returned (.bool r) ∧ Below w.heap.size w w' := by
  obtain rfl : true = r := Option.some.inj h
  exact Go.Proofs.Ytimcibifghidjaa.Fs.bads_calls w a0 a1 a2


/-- THE ONE PURE STATEMENT of cornucopialaw4_FileBad. -/
def cornucopialaw4_FileBad.Pure : Prop := ∀ (a0 : Int) (a1 : Int) (a2 : ByteArray), (Lit.int .i64 a0).wf = true → (Lit.int .i64 a1).wf = true → a2.size ≤ 140737488351232 → cornucopialaw4_FileBad.f a0 a1 a2 = some true
theorem cornucopialaw4_FileBad.walk (P : cornucopialaw4_FileBad.Pure) (a0 : Int) (a1 : Int) (a2 : ByteArray) (w : World) (w0_0 : (Lit.int .i64 a0).wf = true) (w1_0 : (Lit.int .i64 a1).wf = true) (w2_0 : a2.size ≤ 140737488351232) :
    Calls Try.prog 8 #[.int .i64 a0, .int .i64 a1, .string a2] w fun e w' => e = .returned (.bool true) ∧ Below w.heap.size w w' := by
  have h := P a0 a1 a2 w0_0 w1_0 w2_0
  refine (cornucopialaw4_FileBad.calls a0 a1 a2 true w h).mono ?_
  rintro e w' ⟨rfl, hd⟩
  exact ⟨rfl, hd⟩

end Go.Proofs.Ytimcibifghidjaa.PFil
