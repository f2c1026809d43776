/- The first call of bloom's chapter is true. -/
import Derived.Test.YtmfnnialhegjmaaPBlmx5
import Derived.Test.YtmfnnialhegjmaaPuBlm
namespace Go.Proofs.Ytmfnnialhegjmaa.PuBlm
open Go Go.RowKit Go.Proofs.Ytmfnnialhegjmaa.PBlm Go.Proofs.YtmfnnialhegjmaaW.PrintWords Go.Proofs.YtmfnnialhegjmaaW.PrintLast Go.Proofs.YtmfnnialhegjmaaW.PrintMore Go.Proofs.YtmfnnialhegjmaaW.Pu
theorem first_none : bloom_Make.f 60 10 3 ([] : List ByteArray) = some (⟨#[0, 0, 0, 0, 0, 0, 0, 0, 3]⟩, 0) := by decide +kernel
theorem first_one : bloom_Make.f 60 10 3 [(⟨#[97]⟩ : ByteArray)] = some (⟨#[4, 0, 0, 8, 0, 0, 16, 0, 3]⟩, 0) := by decide +kernel
theorem first_may : bloom_May.f 60 (⟨#[0, 0, 0, 0, 0, 0, 0, 0, 3]⟩ : ByteArray) (⟨#[97]⟩ : ByteArray) = some false := by decide +kernel
theorem first_may2 : bloom_May.f 60 (⟨#[4, 0, 0, 8, 0, 0, 16, 0, 3]⟩ : ByteArray) (⟨#[97]⟩ : ByteArray) = some true := by decide +kernel
theorem first_valid : bloom_Valid.f (⟨#[4, 0, 0, 8, 0, 0, 16, 0, 3]⟩ : ByteArray) = some true := by decide +kernel
theorem first_valid2 : bloom_Valid.f (⟨#[120]⟩ : ByteArray) = some false := by decide +kernel
theorem first_hash : bloom_Hash.f 10 (⟨#[]⟩ : ByteArray) 0 = some 2166202364 := by decide +kernel
theorem alive_ev : Ev (fun k => cornucopialaw9_alive.f k) true := by
  refine Ev.congr (fun k => by rw [cornucopialaw9_alive.f]) ?_
  refine Ev.bind (ev_at (fun k => bloom_Make.mono _ _ _ k) 60 first_none) (Ev.bind (ev_at (fun k => bloom_Make.mono _ _ _ k) 60 first_one) ?_)
  refine ev_pos rfl (ev_pos rfl (Ev.bind (ev_at (fun k => bloom_May.mono _ _ k) 60 first_may) (ev_neg (by simp) (ev_pos rfl ?_))))
  refine Ev.bind (ev_at (fun k => bloom_May.mono _ _ k) 60 first_may2) (ev_pos rfl (ev_call first_valid (ev_pos rfl (ev_call first_valid2 (ev_neg (by simp) ?_)))))
  exact Ev.bind (ev_at (fun k => bloom_Hash.mono _ _ k) 10 first_hash) (ev_const rfl)
end Go.Proofs.Ytmfnnialhegjmaa.PuBlm
