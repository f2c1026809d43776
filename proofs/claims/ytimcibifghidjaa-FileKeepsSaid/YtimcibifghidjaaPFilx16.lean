/- A walk, written by a program of this session out of the translation (a printed Lean function, and that the Go code comes to its answer). Lean checks it. -/
import Derived.Test.YtimcibifghidjaaPFilx0
import Derived.Test.YtimcibifghidjaaFlKeep
import Derived.Test.YtimcibifghidjaaWRd
import Derived.Test.YtimcibifghidjaaWPu
namespace Go.Proofs.Ytimcibifghidjaa.PFil
open Go.RowKit Go.Proofs.YtimcibifghidjaaW.PrintWords Go.Proofs.YtimcibifghidjaaW.PrintLast Go.Proofs.YtimcibifghidjaaW.PrintMore
attribute [local go_sem] max2_int min2_int max_two min_two max_three min_three max_four min_four   -- for this text's walks alone
set_option linter.unusedVariables false
set_option linter.unusedSimpArgs false

-- OWNIMPORT Derived.Test.YtimcibifghidjaaFlKeep
-- OWNIMPORT Derived.Test.YtimcibifghidjaaWRd
-- OWNIMPORT Derived.Test.YtimcibifghidjaaWPu
/-! ### cornucopialaw4_FileKeeps: function 6 -/
/-- What a call comes to: true. -/
def cornucopialaw4_FileKeeps.f (a0 a1 : ByteArray) (a2 a3 : Int) : Option Bool := some true
theorem cornucopialaw4_FileKeeps.calls (a0 a1 : ByteArray) (a2 a3 : Int) (r : Bool) (w : World) (h : cornucopialaw4_FileKeeps.f a0 a1 a2 a3 = some r) :
    Calls Try.prog 6 #[.string a0, .string a1, .int .i64 a2, .int .i64 a3] w fun e w' => e = .returned (.bool r) ∧ Below w.heap.size w w' := by
  obtain rfl : true = r := Option.some.inj h
  exact Go.Proofs.Ytimcibifghidjaa.Fs.keeps_calls w a0 a1 a2 a3


/-- THE ONE PURE STATEMENT of cornucopialaw4_FileKeeps. -/
def cornucopialaw4_FileKeeps.Pure : Prop := ∀ (a0 : ByteArray) (a1 : ByteArray) (a2 : Int) (a3 : Int), a0.size ≤ 140737488351232 → a1.size ≤ 140737488351232 → (Lit.int .i64 a2).wf = true → (Lit.int .i64 a3).wf = true → cornucopialaw4_FileKeeps.f a0 a1 a2 a3 = some true
theorem cornucopialaw4_FileKeeps.walk (P : cornucopialaw4_FileKeeps.Pure) (a0 : ByteArray) (a1 : ByteArray) (a2 : Int) (a3 : Int) (w : World) (w0_0 : a0.size ≤ 140737488351232) (w1_0 : a1.size ≤ 140737488351232) (w2_0 : (Lit.int .i64 a2).wf = true) (w3_0 : (Lit.int .i64 a3).wf = true) :
    Calls Try.prog 6 #[.string a0, .string a1, .int .i64 a2, .int .i64 a3] w fun e w' => e = .returned (.bool true) ∧ Below w.heap.size w w' := by
  have h := P a0 a1 a2 a3 w0_0 w1_0 w2_0 w3_0
  refine (cornucopialaw4_FileKeeps.calls a0 a1 a2 a3 true w h).mono ?_
  rintro e w' ⟨rfl, hd⟩
  exact ⟨rfl, hd⟩

end Go.Proofs.Ytimcibifghidjaa.PFil
