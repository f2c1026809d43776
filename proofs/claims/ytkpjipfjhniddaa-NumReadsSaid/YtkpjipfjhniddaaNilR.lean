/- The reader's methods of a nil reader: what each call tells, by hand. -/
import Derived.Test.YtkpjipfjhniddaaProg
import Derived.Test.YtkpjipfjhniddaaWWords
import Derived.Test.YtkpjipfjhniddaaWMore
import Derived.Test.YtkpjipfjhniddaaWLast
import Derived.KernelRfl
namespace Go.Proofs.Ytkpjipfjhniddaa.NilR
set_option linter.unusedVariables false
open Go Go.RowKit Go.Proofs.YtkpjipfjhniddaaW.PrintWords Go.Proofs.YtkpjipfjhniddaaW.PrintLast Go.Proofs.YtkpjipfjhniddaaW.PrintMore
theorem off (w : World) : Calls Try.prog 77 #[.pointer none] w fun e w' => e = .returned (.bool true) ∧ Drawn0 w w' := by
  go_enter Try.func77, Try.ntmps77
  go_wp2
  go_ret
  exact ⟨rfl, Drawn0.refl _⟩
def Fail.f (n : Int) : Option Unit := some ()
theorem Fail.calls (n : Int) {r : Unit} (w : World) (h : Fail.f n = some r) : Calls Try.prog 47 #[.pointer none, .int .i64 n] w fun e w' => e = .returned (.tuple #[]) ∧ Drawn0 w w' := by
  obtain rfl := Option.some.inj h
  go_enter Try.func47, Try.ntmps47
  go_wp2_with (first | (go_at_call 77; refine (off _).mono ?_; rintro e w' ⟨rfl, ⟨nd, rfl⟩⟩))
  first | go_end0 | ((try simp only [Exit.inBlock, Exit.then]); refine bodyPost_ret (results_none rfl _ _ _) rfl ?_)
  exact ⟨rfl, by repeat (first | exact Drawn0.refl _ | apply Drawn0.step)⟩
def Var.f : Option Int := some 0
theorem Var.calls (r : Int) (w : World) (h : Var.f = some r) : Calls Try.prog 48 #[.pointer none] w fun e w' => e = .returned (.int .u64 r) ∧ Drawn0 w w' := by
  obtain rfl := Option.some.inj h
  go_enter Try.func48, Try.ntmps48
  go_wp2_with (first | (go_at_call 77; refine (off _).mono ?_; rintro e w' ⟨rfl, ⟨nd, rfl⟩⟩))
  go_ret
  exact ⟨rfl, by repeat (first | exact Drawn0.refl _ | apply Drawn0.step)⟩
theorem zag (w : World) : Calls Try.prog 36 #[.int .u64 0] w fun e w' => e = .returned (.int .i64 0) ∧ Drawn0 w w' := by
  go_enter Try.func36, Try.ntmps36
  go_wp2
  go_ret
  exact ⟨by kernel_rfl, Drawn0.refl _⟩
def Int.f : Option Int := some 0
theorem Int.calls (r : Int) (w : World) (h : Int.f = some r) : Calls Try.prog 54 #[.pointer none] w fun e w' => e = .returned (.int .i64 r) ∧ Drawn0 w w' := by
  obtain rfl := Option.some.inj h
  go_enter Try.func54, Try.ntmps54
  go_wp2_with (first | (go_at_call 48; refine (Var.calls 0 _ rfl).mono ?_; rintro e w' ⟨rfl, ⟨nd, rfl⟩⟩) | (go_at_call 36; refine (zag _).mono ?_; rintro e w' ⟨rfl, ⟨nd, rfl⟩⟩))
  go_ret
  exact ⟨rfl, by repeat (first | exact Drawn0.refl _ | apply Drawn0.step)⟩
def Count.f (n : Int) : Option Int := some 0
theorem Count.calls (n : Int) (r : Int) (w : World) (h : Count.f n = some r) : Calls Try.prog 44 #[.pointer none, .int .i64 n] w fun e w' => e = .returned (.int .i64 r) ∧ Drawn0 w w' := by
  obtain rfl := Option.some.inj h
  go_enter Try.func44, Try.ntmps44
  go_wp2_with (first | (go_at_call 48; refine (Var.calls 0 _ rfl).mono ?_; rintro e w' ⟨rfl, ⟨nd, rfl⟩⟩) | (go_at_call 77; refine (off _).mono ?_; rintro e w' ⟨rfl, ⟨nd, rfl⟩⟩))
  go_ret
  exact ⟨rfl, by repeat (first | exact Drawn0.refl _ | apply Drawn0.step)⟩
def take.f (n : Int) : Option ByteArray := some ⟨#[]⟩
theorem take.calls (n : Int) (r : ByteArray) (w : World) (h : take.f n = some r) : Calls Try.prog 79 #[.pointer none, .int .i64 n] w fun e w' => e = .returned (.string r) ∧ Drawn0 w w' := by
  obtain rfl := Option.some.inj h
  go_enter Try.func79, Try.ntmps79
  go_wp2_with (first | (go_at_call 77; refine (off _).mono ?_; rintro e w' ⟨rfl, ⟨nd, rfl⟩⟩))
  go_ret
  exact ⟨rfl, by repeat (first | exact Drawn0.refl _ | apply Drawn0.step)⟩
def Text.f (n : Int) : Option ByteArray := some ⟨#[]⟩
theorem Text.calls (n : Int) (r : ByteArray) (w : World) (h : Text.f n = some r) : Calls Try.prog 49 #[.pointer none, .int .i64 n] w fun e w' => e = .returned (.string r) ∧ Drawn0 w w' := by
  obtain rfl := Option.some.inj h
  go_enter Try.func49, Try.ntmps49
  go_wp2_with (first | (go_at_call 44; refine (Count.calls n 0 _ rfl).mono ?_; rintro e w' ⟨rfl, ⟨nd, rfl⟩⟩) | (go_at_call 79; refine (take.calls 0 ⟨#[]⟩ _ rfl).mono ?_; rintro e w' ⟨rfl, ⟨nd, rfl⟩⟩))
  go_ret
  exact ⟨rfl, by repeat (first | exact Drawn0.refl _ | apply Drawn0.step)⟩
def Bool.f : Option Bool := some false
theorem Bool.calls (r : Bool) (w : World) (h : Bool.f = some r) : Calls Try.prog 50 #[.pointer none] w fun e w' => e = .returned (.bool r) ∧ Drawn0 w w' := by
  obtain rfl := Option.some.inj h
  go_enter Try.func50, Try.ntmps50
  go_wp2_with (first | (go_at_call 77; refine (off _).mono ?_; rintro e w' ⟨rfl, ⟨nd, rfl⟩⟩))
  go_ret
  exact ⟨rfl, by repeat (first | exact Drawn0.refl _ | apply Drawn0.step)⟩
def Fix.f (n : Int) : Option Int := some 0
theorem Fix.calls (n : Int) (r : Int) (w : World) (h : Fix.f n = some r) : Calls Try.prog 51 #[.pointer none, .int .i64 n] w fun e w' => e = .returned (.int .u64 r) ∧ Drawn0 w w' := by
  obtain rfl := Option.some.inj h
  go_enter Try.func51, Try.ntmps51
  go_wp2_with (first | (go_at_call 77; refine (off _).mono ?_; rintro e w' ⟨rfl, ⟨nd, rfl⟩⟩))
  go_ret
  exact ⟨rfl, by repeat (first | exact Drawn0.refl _ | apply Drawn0.step)⟩
def Left.f : Option Int := some 0
theorem Left.calls (r : Int) (w : World) (h : Left.f = some r) : Calls Try.prog 46 #[.pointer none] w fun e w' => e = .returned (.int .i64 r) ∧ Drawn0 w w' := by
  obtain rfl := Option.some.inj h
  go_enter Try.func46, Try.ntmps46
  go_wp2
  go_ret
  exact ⟨rfl, by repeat (first | exact Drawn0.refl _ | apply Drawn0.step)⟩
def Err.f : Option Int := some 1
theorem Err.calls (r : Int) (w : World) (h : Err.f = some r) : Calls Try.prog 45 #[.pointer none] w fun e w' => e = .returned (.int .i64 r) ∧ Drawn0 w w' := by
  obtain rfl := Option.some.inj h
  go_enter Try.func45, Try.ntmps45
  go_wp2
  go_ret
  exact ⟨rfl, by repeat (first | exact Drawn0.refl _ | apply Drawn0.step)⟩
def End.f : Option Int := some 1
theorem End.calls (r : Int) (w : World) (h : End.f = some r) : Calls Try.prog 52 #[.pointer none] w fun e w' => e = .returned (.int .i64 r) ∧ Drawn0 w w' := by
  obtain rfl := Option.some.inj h
  go_enter Try.func52, Try.ntmps52
  go_wp2_with (first | (go_at_call 45; refine (Err.calls 1 _ rfl).mono ?_; rintro e w' ⟨rfl, ⟨nd, rfl⟩⟩))
  go_ret
  exact ⟨rfl, by repeat (first | exact Drawn0.refl _ | apply Drawn0.step)⟩
end Go.Proofs.Ytkpjipfjhniddaa.NilR
