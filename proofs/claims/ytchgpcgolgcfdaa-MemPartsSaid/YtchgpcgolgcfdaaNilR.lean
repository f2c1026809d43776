/- The reader's methods of a nil reader: what each call tells, by hand. -/
import Derived.Test.YtchgpcgolgcfdaaProg
import Derived.Test.YtchgpcgolgcfdaaWWords
import Derived.Test.YtchgpcgolgcfdaaWMore
import Derived.Test.YtchgpcgolgcfdaaWLast
import Derived.KernelRfl
namespace Go.Proofs.Ytchgpcgolgcfdaa.NilR
set_option linter.unusedVariables false
open Go Go.RowKit Go.Proofs.YtchgpcgolgcfdaaW.PrintWords Go.Proofs.YtchgpcgolgcfdaaW.PrintLast Go.Proofs.YtchgpcgolgcfdaaW.PrintMore
theorem off (w : World) : Calls Try.prog 85 #[.pointer none] w fun e w' => e = .returned (.bool true) ∧ Drawn0 w w' := by
  go_enter Try.func85, Try.ntmps85
  go_wp2
  go_ret
  exact ⟨rfl, Drawn0.refl _⟩
def Var.f : Option Int := some 0
theorem Var.calls (r : Int) (w : World) (h : Var.f = some r) : Calls Try.prog 76 #[.pointer none] w fun e w' => e = .returned (.int .u64 r) ∧ Drawn0 w w' := by
  obtain rfl := Option.some.inj h
  go_enter Try.func76, Try.ntmps76
  go_wp2_with (first | (go_at_call 85; refine (off _).mono ?_; rintro e w' ⟨rfl, ⟨nd, rfl⟩⟩))
  go_ret
  exact ⟨rfl, by repeat (first | exact Drawn0.refl _ | apply Drawn0.step)⟩
def Count.f (n : Int) : Option Int := some 0
theorem Count.calls (n : Int) (r : Int) (w : World) (h : Count.f n = some r) : Calls Try.prog 74 #[.pointer none, .int .i64 n] w fun e w' => e = .returned (.int .i64 r) ∧ Drawn0 w w' := by
  obtain rfl := Option.some.inj h
  go_enter Try.func74, Try.ntmps74
  go_wp2_with (first | (go_at_call 76; refine (Var.calls 0 _ rfl).mono ?_; rintro e w' ⟨rfl, ⟨nd, rfl⟩⟩) | (go_at_call 85; refine (off _).mono ?_; rintro e w' ⟨rfl, ⟨nd, rfl⟩⟩))
  go_ret
  exact ⟨rfl, by repeat (first | exact Drawn0.refl _ | apply Drawn0.step)⟩
def take.f (n : Int) : Option ByteArray := some ⟨#[]⟩
theorem take.calls (n : Int) (r : ByteArray) (w : World) (h : take.f n = some r) : Calls Try.prog 86 #[.pointer none, .int .i64 n] w fun e w' => e = .returned (.string r) ∧ Drawn0 w w' := by
  obtain rfl := Option.some.inj h
  go_enter Try.func86, Try.ntmps86
  go_wp2_with (first | (go_at_call 85; refine (off _).mono ?_; rintro e w' ⟨rfl, ⟨nd, rfl⟩⟩))
  go_ret
  exact ⟨rfl, by repeat (first | exact Drawn0.refl _ | apply Drawn0.step)⟩
def Text.f (n : Int) : Option ByteArray := some ⟨#[]⟩
theorem Text.calls (n : Int) (r : ByteArray) (w : World) (h : Text.f n = some r) : Calls Try.prog 75 #[.pointer none, .int .i64 n] w fun e w' => e = .returned (.string r) ∧ Drawn0 w w' := by
  obtain rfl := Option.some.inj h
  go_enter Try.func75, Try.ntmps75
  go_wp2_with (first | (go_at_call 74; refine (Count.calls n 0 _ rfl).mono ?_; rintro e w' ⟨rfl, ⟨nd, rfl⟩⟩) | (go_at_call 86; refine (take.calls 0 ⟨#[]⟩ _ rfl).mono ?_; rintro e w' ⟨rfl, ⟨nd, rfl⟩⟩))
  go_ret
  exact ⟨rfl, by repeat (first | exact Drawn0.refl _ | apply Drawn0.step)⟩
def Left.f : Option Int := some 0
theorem Left.calls (r : Int) (w : World) (h : Left.f = some r) : Calls Try.prog 73 #[.pointer none] w fun e w' => e = .returned (.int .i64 r) ∧ Drawn0 w w' := by
  obtain rfl := Option.some.inj h
  go_enter Try.func73, Try.ntmps73
  go_wp2
  go_ret
  exact ⟨rfl, by repeat (first | exact Drawn0.refl _ | apply Drawn0.step)⟩
def Err.f : Option Int := some 1
theorem Err.calls (r : Int) (w : World) (h : Err.f = some r) : Calls Try.prog 77 #[.pointer none] w fun e w' => e = .returned (.int .i64 r) ∧ Drawn0 w w' := by
  obtain rfl := Option.some.inj h
  go_enter Try.func77, Try.ntmps77
  go_wp2
  go_ret
  exact ⟨rfl, by repeat (first | exact Drawn0.refl _ | apply Drawn0.step)⟩
end Go.Proofs.Ytchgpcgolgcfdaa.NilR
