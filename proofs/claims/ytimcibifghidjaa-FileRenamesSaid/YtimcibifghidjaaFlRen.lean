/- FileRenames: a rename that was made for good has the new bytes. -/
import Derived.Test.YtimcibifghidjaaFs12
namespace Go.Proofs.Ytimcibifghidjaa.Fs
open Go Go.RowKit Go.Maps Go.Sort Go.Proofs.Ytimcibifghidjaa.PFil Go.Proofs.Ytimcibifghidjaa.FsM Go.Proofs.YtimcibifghidjaaW.PrintWords Go.Proofs.YtimcibifghidjaaW.PrintLast Go.Proofs.YtimcibifghidjaaW.PrintMore
set_option linter.unusedVariables false
set_option linter.unusedSimpArgs false
def tN : ByteArray := ⟨#[110]⟩
def tT : ByteArray := ⟨#[110, 126]⟩
set_option maxHeartbeats 8000000 in
set_option maxRecDepth 100000 in
theorem ren_sync (w : World) (old fresh : ByteArray) (dir : Int) (h1 : old.size ≤ 1000) (h2 : fresh.size ≤ 1000) :
    Calls Try.prog 7 #[.string old, .string fresh, .bool true, .int .i64 dir] w fun e w' => e = .returned (.bool true) ∧ Below w.heap.size w w' := by
  have HB := Aside0.mk (Below.refl w.heap.size w)
  have q0 : decide (1000 < (old.size : Int)) = false := decide_eq_false (by omega)
  have q1 : decide (1000 < (fresh.size : Int)) = false := decide_eq_false (by omega)
  go_enter Try.func7, Try.ntmps7
  go_wp2_with (first
    | (go_at_call 12; refine (q_new w _ HB.out).mono ?_; rintro e w_ ⟨g, rfl, ht⟩; have HT0 : Aside0 (St w w_ g (Q true 0 [] [] [] [])) := ⟨ht⟩; clear ht HB)
    | (go_at_call 13; refine (q_create HT0.out (by refine ⟨?_, ?_, ?_, ?_⟩ <;> simp) tN (by decide) (by decide) rfl).mono ?_; rintro e w_ ⟨rfl, b, hb, ht⟩; have HT1 : Aside0 (St w w_ g (Q true 1 [([110], b)] [] [⟨t0, tN, some b⟩] [⟨b, t0, 0⟩])) := ⟨ht⟩; clear HT0; clear ht)
    | (go_at_call 18; refine (q_append HT1.out (by refine ⟨?_, ?_, ?_, ?_⟩ <;> simp) tN old (by decide) ⟨b, t0, 0⟩ (by simp) (lk1 _ _) (by show t0.size + old.size ≤ _; have : t0.size = 0 := rfl; omega)).mono ?_; rintro e w_ ⟨rfl, ht⟩; have HT2 : Aside0 (St w w_ g (Q true 2 [([110], b)] [] [⟨t0, tN, some b⟩] [⟨b, old, 0⟩])) := ⟨ht.eq (by rw [rep1, app0]; rfl)⟩; clear HT1; clear ht)
    | (go_at_call 24; refine (q_sync HT2.out (by refine ⟨?_, ?_, ?_, ?_⟩ <;> simp) tN (by decide) ⟨b, old, 0⟩ (by simp) (lk1 _ _)).mono ?_; rintro e w_ ⟨rfl, ht⟩; have HT3 : Aside0 (St w w_ g (Q true 3 [([110], b)] [] [⟨t0, tN, some b⟩] [⟨b, old, old.size⟩])) := ⟨ht.eq (by rw [rep1]; rfl)⟩; clear HT2; clear ht)
    | (go_at_call 13; refine (q_create HT3.out (by refine ⟨?_, ?_, ?_, ?_⟩ <;> simp) tT (by decide) (by decide) rfl).mono ?_; rintro e w_ ⟨rfl, c, hc, ht⟩; have hcb : c ≠ b := (by simpa [blks] using hc); clear hc; have HT4 : Aside0 (St w w_ g (Q true 4 [([110], b), ([110, 126], c)] [] [⟨t0, tN, some b⟩, ⟨t0, tT, some c⟩] [⟨b, old, old.size⟩, ⟨c, t0, 0⟩])) := ⟨ht⟩; clear HT3; clear ht)
    | (go_at_call 18; refine (q_append HT4.out (by refine ⟨?_, ?_, ?_, ?_⟩ <;> simp) tT fresh (by decide) ⟨c, t0, 0⟩ (by simp) (by simp [lk, bs, tT]) (by show t0.size + fresh.size ≤ _; have : t0.size = 0 := rfl; omega)).mono ?_; rintro e w_ ⟨rfl, ht⟩; have HT5 : Aside0 (St w w_ g (Q true 5 [([110], b), ([110, 126], c)] [] [⟨t0, tN, some b⟩, ⟨t0, tT, some c⟩] [⟨b, old, old.size⟩, ⟨c, fresh, 0⟩])) := ⟨ht.eq (by rw [rep2b hcb, app0]; rfl)⟩; clear HT4; clear ht)
    | (go_at_call 24; refine (q_sync HT5.out (by refine ⟨?_, ?_, ?_, ?_⟩ <;> simp) tT (by decide) ⟨c, fresh, 0⟩ (by simp) (by simp [lk, bs, tT])).mono ?_; rintro e w_ ⟨rfl, ht⟩; have HT6 : Aside0 (St w w_ g (Q true 6 [([110], b), ([110, 126], c)] [] [⟨t0, tN, some b⟩, ⟨t0, tT, some c⟩] [⟨b, old, old.size⟩, ⟨c, fresh, fresh.size⟩])) := ⟨ht.eq (by rw [rep2b hcb]; rfl)⟩; clear HT5; clear ht)
    | (go_at_call 25; refine (q_syncdir HT6.out (by refine ⟨?_, ?_, ?_, ?_⟩ <;> simp)).mono ?_; rintro e w_ ⟨rfl, ht⟩; have HT7 : Aside0 (St w w_ g (Q true 7 [([110], b), ([110, 126], c)] [([110], b), ([110, 126], c)] [] [⟨b, old, old.size⟩, ⟨c, fresh, fresh.size⟩])) := ⟨ht⟩; clear HT6; clear ht)
    | (go_at_call 27; refine (q_rename HT7.out (by refine ⟨?_, ?_, ?_, ?_⟩ <;> simp) tT tN (by decide) (by decide) (by decide) (by decide) (by decide) c (by simp [lk, bs, tT])).mono ?_; rintro e w_ ⟨rfl, ht⟩; have HT8 : Aside0 (St w w_ g (Q true 8 [([110], c)] [([110], b), ([110, 126], c)] [⟨tT, tN, none⟩] [⟨b, old, old.size⟩, ⟨c, fresh, fresh.size⟩])) := ⟨ht⟩; clear HT7; clear ht)
    | (go_at_call 25; refine (q_syncdir HT8.out (by refine ⟨?_, ?_, ?_, ?_⟩ <;> simp)).mono ?_; rintro e w_ ⟨rfl, ht⟩; have HT9 : Aside0 (St w w_ g (Q true 9 [([110], c)] [([110], c)] [] [⟨b, old, old.size⟩, ⟨c, fresh, fresh.size⟩])) := ⟨ht⟩; clear HT8; clear ht)
    | (go_at_call 20; refine (q_read HT9.out tN (by decide) ⟨c, fresh, fresh.size⟩ (by simp) (lk1 _ _)).mono ?_; rintro e w_ ⟨rfl, rfl⟩)
    | (go_at_call 14; refine (q_crash HT9.out (by refine ⟨?_, ?_, ?_, ?_⟩ <;> simp) dir [] _ 0 (by decide) _ (row_none _ 0) (good_full (by intro x hx; simp at hx; rcases hx with rfl | rfl; exact ⟨rfl, by show old.size ≤ _; omega⟩; exact ⟨rfl, by show fresh.size ≤ _; omega⟩)) ([([110], c)]) (by simp [apL]) (by simp [okL]) (by intro q hq; simp at hq; (first | (rcases hq with rfl | rfl <;> simp) | (subst hq; simp))) ([⟨b, old, old.size⟩, ⟨c, fresh, fresh.size⟩]) (cuts_full _ _ _ _ (by intro x hx; simp at hx; rcases hx with rfl | rfl <;> rfl) (by simp [blks, hcb.symm]) (by intro q hq; simp at hq; (first | (rcases hq with rfl | rfl <;> simp [blks]) | (subst hq; simp [blks]))))).mono ?_; rintro e w_ ⟨rfl, ht, hk_⟩; have HT10 : Aside0 (St w w_ g (Q false 9 [([110], c)] [([110], c)] [] [⟨b, old, old.size⟩, ⟨c, fresh, fresh.size⟩])) := ⟨ht⟩; clear HT9; clear ht hk_)
    | (go_at_call 15; refine (q_restore HT10.out).mono ?_; rintro e w_ ⟨rfl, ht, hk_⟩; have HT11 : Aside0 (St w w_ g (Q true 9 [([110], c)] [([110], c)] [] [⟨b, old, old.size⟩, ⟨c, fresh, fresh.size⟩])) := ⟨ht⟩; clear HT10; clear ht hk_)
    | (go_at_call 20; refine (q_read HT11.out tN (by decide) ⟨c, fresh, fresh.size⟩ (by simp) (lk1 _ _)).mono ?_; rintro e w_ ⟨rfl, rfl⟩)
    | (go_at_call 11; refine (alive_calls _).mono ?_; rintro e w_ ⟨rfl, hb⟩; have HZ := Aside0.mk (below_step HT11.out.2 hb); clear hb))
  all_goals (go_ret; exact ⟨rfl, HZ.out⟩)
set_option maxHeartbeats 8000000 in
set_option maxRecDepth 100000 in
theorem ren_old (w : World) (old fresh : ByteArray) (dir : Int) (h1 : old.size ≤ 1000) (h2 : fresh.size ≤ 1000) (hk : partN dir 1 = 0) :
    Calls Try.prog 7 #[.string old, .string fresh, .bool false, .int .i64 dir] w fun e w' => e = .returned (.bool true) ∧ Below w.heap.size w w' := by
  have HB := Aside0.mk (Below.refl w.heap.size w)
  have q0 : decide (1000 < (old.size : Int)) = false := decide_eq_false (by omega)
  have q1 : decide (1000 < (fresh.size : Int)) = false := decide_eq_false (by omega)
  go_enter Try.func7, Try.ntmps7
  go_wp2_with (first
    | (go_at_call 12; refine (q_new w _ HB.out).mono ?_; rintro e w_ ⟨g, rfl, ht⟩; have HT0 : Aside0 (St w w_ g (Q true 0 [] [] [] [])) := ⟨ht⟩; clear ht HB)
    | (go_at_call 13; refine (q_create HT0.out (by refine ⟨?_, ?_, ?_, ?_⟩ <;> simp) tN (by decide) (by decide) rfl).mono ?_; rintro e w_ ⟨rfl, b, hb, ht⟩; have HT1 : Aside0 (St w w_ g (Q true 1 [([110], b)] [] [⟨t0, tN, some b⟩] [⟨b, t0, 0⟩])) := ⟨ht⟩; clear HT0; clear ht)
    | (go_at_call 18; refine (q_append HT1.out (by refine ⟨?_, ?_, ?_, ?_⟩ <;> simp) tN old (by decide) ⟨b, t0, 0⟩ (by simp) (lk1 _ _) (by show t0.size + old.size ≤ _; have : t0.size = 0 := rfl; omega)).mono ?_; rintro e w_ ⟨rfl, ht⟩; have HT2 : Aside0 (St w w_ g (Q true 2 [([110], b)] [] [⟨t0, tN, some b⟩] [⟨b, old, 0⟩])) := ⟨ht.eq (by rw [rep1, app0]; rfl)⟩; clear HT1; clear ht)
    | (go_at_call 24; refine (q_sync HT2.out (by refine ⟨?_, ?_, ?_, ?_⟩ <;> simp) tN (by decide) ⟨b, old, 0⟩ (by simp) (lk1 _ _)).mono ?_; rintro e w_ ⟨rfl, ht⟩; have HT3 : Aside0 (St w w_ g (Q true 3 [([110], b)] [] [⟨t0, tN, some b⟩] [⟨b, old, old.size⟩])) := ⟨ht.eq (by rw [rep1]; rfl)⟩; clear HT2; clear ht)
    | (go_at_call 13; refine (q_create HT3.out (by refine ⟨?_, ?_, ?_, ?_⟩ <;> simp) tT (by decide) (by decide) rfl).mono ?_; rintro e w_ ⟨rfl, c, hc, ht⟩; have hcb : c ≠ b := (by simpa [blks] using hc); clear hc; have HT4 : Aside0 (St w w_ g (Q true 4 [([110], b), ([110, 126], c)] [] [⟨t0, tN, some b⟩, ⟨t0, tT, some c⟩] [⟨b, old, old.size⟩, ⟨c, t0, 0⟩])) := ⟨ht⟩; clear HT3; clear ht)
    | (go_at_call 18; refine (q_append HT4.out (by refine ⟨?_, ?_, ?_, ?_⟩ <;> simp) tT fresh (by decide) ⟨c, t0, 0⟩ (by simp) (by simp [lk, bs, tT]) (by show t0.size + fresh.size ≤ _; have : t0.size = 0 := rfl; omega)).mono ?_; rintro e w_ ⟨rfl, ht⟩; have HT5 : Aside0 (St w w_ g (Q true 5 [([110], b), ([110, 126], c)] [] [⟨t0, tN, some b⟩, ⟨t0, tT, some c⟩] [⟨b, old, old.size⟩, ⟨c, fresh, 0⟩])) := ⟨ht.eq (by rw [rep2b hcb, app0]; rfl)⟩; clear HT4; clear ht)
    | (go_at_call 24; refine (q_sync HT5.out (by refine ⟨?_, ?_, ?_, ?_⟩ <;> simp) tT (by decide) ⟨c, fresh, 0⟩ (by simp) (by simp [lk, bs, tT])).mono ?_; rintro e w_ ⟨rfl, ht⟩; have HT6 : Aside0 (St w w_ g (Q true 6 [([110], b), ([110, 126], c)] [] [⟨t0, tN, some b⟩, ⟨t0, tT, some c⟩] [⟨b, old, old.size⟩, ⟨c, fresh, fresh.size⟩])) := ⟨ht.eq (by rw [rep2b hcb]; rfl)⟩; clear HT5; clear ht)
    | (go_at_call 25; refine (q_syncdir HT6.out (by refine ⟨?_, ?_, ?_, ?_⟩ <;> simp)).mono ?_; rintro e w_ ⟨rfl, ht⟩; have HT7 : Aside0 (St w w_ g (Q true 7 [([110], b), ([110, 126], c)] [([110], b), ([110, 126], c)] [] [⟨b, old, old.size⟩, ⟨c, fresh, fresh.size⟩])) := ⟨ht⟩; clear HT6; clear ht)
    | (go_at_call 27; refine (q_rename HT7.out (by refine ⟨?_, ?_, ?_, ?_⟩ <;> simp) tT tN (by decide) (by decide) (by decide) (by decide) (by decide) c (by simp [lk, bs, tT])).mono ?_; rintro e w_ ⟨rfl, ht⟩; have HT8 : Aside0 (St w w_ g (Q true 8 [([110], c)] [([110], b), ([110, 126], c)] [⟨tT, tN, none⟩] [⟨b, old, old.size⟩, ⟨c, fresh, fresh.size⟩])) := ⟨ht⟩; clear HT7; clear ht)
    | (go_at_call 20; refine (q_read HT8.out tN (by decide) ⟨c, fresh, fresh.size⟩ (by simp) (lk1 _ _)).mono ?_; rintro e w_ ⟨rfl, rfl⟩)
    | (go_at_call 14; refine (q_crash HT8.out (by refine ⟨?_, ?_, ?_, ?_⟩ <;> simp) dir [] _ 0 (by decide) _ (row_none _ 0) (good_full (by intro x hx; simp at hx; rcases hx with rfl | rfl; exact ⟨rfl, by show old.size ≤ _; omega⟩; exact ⟨rfl, by show fresh.size ≤ _; omega⟩)) ([([110], b), ([110, 126], c)]) (by rw [show ([⟨tT, tN, none⟩] : List Ch).length = 1 from rfl, hk]; rfl) (by rw [show ([⟨tT, tN, none⟩] : List Ch).length = 1 from rfl, hk]; trivial) (by intro q hq; simp at hq; (first | (rcases hq with rfl | rfl <;> simp) | (subst hq; simp))) ([⟨b, old, old.size⟩, ⟨c, fresh, fresh.size⟩]) (cuts_full _ _ _ _ (by intro x hx; simp at hx; rcases hx with rfl | rfl <;> rfl) (by simp [blks, hcb.symm]) (by intro q hq; simp at hq; (first | (rcases hq with rfl | rfl <;> simp [blks]) | (subst hq; simp [blks]))))).mono ?_; rintro e w_ ⟨rfl, ht, hk_⟩; have HT9 : Aside0 (St w w_ g (Q false 8 [([110], b), ([110, 126], c)] [([110], b), ([110, 126], c)] [] [⟨b, old, old.size⟩, ⟨c, fresh, fresh.size⟩])) := ⟨ht⟩; clear HT8; clear ht hk_)
    | (go_at_call 15; refine (q_restore HT9.out).mono ?_; rintro e w_ ⟨rfl, ht, hk_⟩; have HT10 : Aside0 (St w w_ g (Q true 8 [([110], b), ([110, 126], c)] [([110], b), ([110, 126], c)] [] [⟨b, old, old.size⟩, ⟨c, fresh, fresh.size⟩])) := ⟨ht⟩; clear HT9; clear ht hk_)
    | (go_at_call 20; refine (q_read HT10.out tN (by decide) ⟨b, old, old.size⟩ (by simp) (by simp [lk, bs, tN])).mono ?_; rintro e w_ ⟨rfl, rfl⟩)
    | (go_at_call 11; refine (alive_calls _).mono ?_; rintro e w_ ⟨rfl, hb⟩; have HZ := Aside0.mk (below_step HT10.out.2 hb); clear hb))
  all_goals (go_ret; exact ⟨rfl, HZ.out⟩)
set_option maxHeartbeats 8000000 in
set_option maxRecDepth 100000 in
theorem ren_new (w : World) (old fresh : ByteArray) (dir : Int) (h1 : old.size ≤ 1000) (h2 : fresh.size ≤ 1000) (hk : partN dir 1 = 1) :
    Calls Try.prog 7 #[.string old, .string fresh, .bool false, .int .i64 dir] w fun e w' => e = .returned (.bool true) ∧ Below w.heap.size w w' := by
  have HB := Aside0.mk (Below.refl w.heap.size w)
  have q0 : decide (1000 < (old.size : Int)) = false := decide_eq_false (by omega)
  have q1 : decide (1000 < (fresh.size : Int)) = false := decide_eq_false (by omega)
  go_enter Try.func7, Try.ntmps7
  go_wp2_with (first
    | (go_at_call 12; refine (q_new w _ HB.out).mono ?_; rintro e w_ ⟨g, rfl, ht⟩; have HT0 : Aside0 (St w w_ g (Q true 0 [] [] [] [])) := ⟨ht⟩; clear ht HB)
    | (go_at_call 13; refine (q_create HT0.out (by refine ⟨?_, ?_, ?_, ?_⟩ <;> simp) tN (by decide) (by decide) rfl).mono ?_; rintro e w_ ⟨rfl, b, hb, ht⟩; have HT1 : Aside0 (St w w_ g (Q true 1 [([110], b)] [] [⟨t0, tN, some b⟩] [⟨b, t0, 0⟩])) := ⟨ht⟩; clear HT0; clear ht)
    | (go_at_call 18; refine (q_append HT1.out (by refine ⟨?_, ?_, ?_, ?_⟩ <;> simp) tN old (by decide) ⟨b, t0, 0⟩ (by simp) (lk1 _ _) (by show t0.size + old.size ≤ _; have : t0.size = 0 := rfl; omega)).mono ?_; rintro e w_ ⟨rfl, ht⟩; have HT2 : Aside0 (St w w_ g (Q true 2 [([110], b)] [] [⟨t0, tN, some b⟩] [⟨b, old, 0⟩])) := ⟨ht.eq (by rw [rep1, app0]; rfl)⟩; clear HT1; clear ht)
    | (go_at_call 24; refine (q_sync HT2.out (by refine ⟨?_, ?_, ?_, ?_⟩ <;> simp) tN (by decide) ⟨b, old, 0⟩ (by simp) (lk1 _ _)).mono ?_; rintro e w_ ⟨rfl, ht⟩; have HT3 : Aside0 (St w w_ g (Q true 3 [([110], b)] [] [⟨t0, tN, some b⟩] [⟨b, old, old.size⟩])) := ⟨ht.eq (by rw [rep1]; rfl)⟩; clear HT2; clear ht)
    | (go_at_call 13; refine (q_create HT3.out (by refine ⟨?_, ?_, ?_, ?_⟩ <;> simp) tT (by decide) (by decide) rfl).mono ?_; rintro e w_ ⟨rfl, c, hc, ht⟩; have hcb : c ≠ b := (by simpa [blks] using hc); clear hc; have HT4 : Aside0 (St w w_ g (Q true 4 [([110], b), ([110, 126], c)] [] [⟨t0, tN, some b⟩, ⟨t0, tT, some c⟩] [⟨b, old, old.size⟩, ⟨c, t0, 0⟩])) := ⟨ht⟩; clear HT3; clear ht)
    | (go_at_call 18; refine (q_append HT4.out (by refine ⟨?_, ?_, ?_, ?_⟩ <;> simp) tT fresh (by decide) ⟨c, t0, 0⟩ (by simp) (by simp [lk, bs, tT]) (by show t0.size + fresh.size ≤ _; have : t0.size = 0 := rfl; omega)).mono ?_; rintro e w_ ⟨rfl, ht⟩; have HT5 : Aside0 (St w w_ g (Q true 5 [([110], b), ([110, 126], c)] [] [⟨t0, tN, some b⟩, ⟨t0, tT, some c⟩] [⟨b, old, old.size⟩, ⟨c, fresh, 0⟩])) := ⟨ht.eq (by rw [rep2b hcb, app0]; rfl)⟩; clear HT4; clear ht)
    | (go_at_call 24; refine (q_sync HT5.out (by refine ⟨?_, ?_, ?_, ?_⟩ <;> simp) tT (by decide) ⟨c, fresh, 0⟩ (by simp) (by simp [lk, bs, tT])).mono ?_; rintro e w_ ⟨rfl, ht⟩; have HT6 : Aside0 (St w w_ g (Q true 6 [([110], b), ([110, 126], c)] [] [⟨t0, tN, some b⟩, ⟨t0, tT, some c⟩] [⟨b, old, old.size⟩, ⟨c, fresh, fresh.size⟩])) := ⟨ht.eq (by rw [rep2b hcb]; rfl)⟩; clear HT5; clear ht)
    | (go_at_call 25; refine (q_syncdir HT6.out (by refine ⟨?_, ?_, ?_, ?_⟩ <;> simp)).mono ?_; rintro e w_ ⟨rfl, ht⟩; have HT7 : Aside0 (St w w_ g (Q true 7 [([110], b), ([110, 126], c)] [([110], b), ([110, 126], c)] [] [⟨b, old, old.size⟩, ⟨c, fresh, fresh.size⟩])) := ⟨ht⟩; clear HT6; clear ht)
    | (go_at_call 27; refine (q_rename HT7.out (by refine ⟨?_, ?_, ?_, ?_⟩ <;> simp) tT tN (by decide) (by decide) (by decide) (by decide) (by decide) c (by simp [lk, bs, tT])).mono ?_; rintro e w_ ⟨rfl, ht⟩; have HT8 : Aside0 (St w w_ g (Q true 8 [([110], c)] [([110], b), ([110, 126], c)] [⟨tT, tN, none⟩] [⟨b, old, old.size⟩, ⟨c, fresh, fresh.size⟩])) := ⟨ht⟩; clear HT7; clear ht)
    | (go_at_call 20; refine (q_read HT8.out tN (by decide) ⟨c, fresh, fresh.size⟩ (by simp) (lk1 _ _)).mono ?_; rintro e w_ ⟨rfl, rfl⟩)
    | (go_at_call 14; refine (q_crash HT8.out (by refine ⟨?_, ?_, ?_, ?_⟩ <;> simp) dir [] _ 0 (by decide) _ (row_none _ 0) (good_full (by intro x hx; simp at hx; rcases hx with rfl | rfl; exact ⟨rfl, by show old.size ≤ _; omega⟩; exact ⟨rfl, by show fresh.size ≤ _; omega⟩)) ([([110], c)]) (by rw [show ([⟨tT, tN, none⟩] : List Ch).length = 1 from rfl, hk]; rfl) (by rw [show ([⟨tT, tN, none⟩] : List Ch).length = 1 from rfl, hk]; exact ⟨⟨by decide, by decide, .inr ⟨by decide, c, by simp [lk, bs, tT]⟩⟩, trivial⟩) (by intro q hq; simp at hq; (first | (rcases hq with rfl | rfl <;> simp) | (subst hq; simp))) ([⟨b, old, old.size⟩, ⟨c, fresh, fresh.size⟩]) (cuts_full _ _ _ _ (by intro x hx; simp at hx; rcases hx with rfl | rfl <;> rfl) (by simp [blks, hcb.symm]) (by intro q hq; simp at hq; (first | (rcases hq with rfl | rfl <;> simp [blks]) | (subst hq; simp [blks]))))).mono ?_; rintro e w_ ⟨rfl, ht, hk_⟩; have HT9 : Aside0 (St w w_ g (Q false 8 [([110], c)] [([110], c)] [] [⟨b, old, old.size⟩, ⟨c, fresh, fresh.size⟩])) := ⟨ht⟩; clear HT8; clear ht hk_)
    | (go_at_call 15; refine (q_restore HT9.out).mono ?_; rintro e w_ ⟨rfl, ht, hk_⟩; have HT10 : Aside0 (St w w_ g (Q true 8 [([110], c)] [([110], c)] [] [⟨b, old, old.size⟩, ⟨c, fresh, fresh.size⟩])) := ⟨ht⟩; clear HT9; clear ht hk_)
    | (go_at_call 20; refine (q_read HT10.out tN (by decide) ⟨c, fresh, fresh.size⟩ (by simp) (lk1 _ _)).mono ?_; rintro e w_ ⟨rfl, rfl⟩)
    | (go_at_call 11; refine (alive_calls _).mono ?_; rintro e w_ ⟨rfl, hb⟩; have HZ := Aside0.mk (below_step HT10.out.2 hb); clear hb))
  all_goals (go_ret; exact ⟨rfl, HZ.out⟩)
set_option maxHeartbeats 8000000 in
set_option maxRecDepth 100000 in
theorem ren_big (w : World) (old fresh : ByteArray) (sync : Bool) (dir : Int) (h : ¬ (old.size ≤ 1000 ∧ fresh.size ≤ 1000)) :
    Calls Try.prog 7 #[.string old, .string fresh, .bool sync, .int .i64 dir] w fun e w' => e = .returned (.bool true) ∧ Below w.heap.size w w' := by
  by_cases h1 : old.size ≤ 1000
  · have q0 : decide (1000 < (old.size : Int)) = false := decide_eq_false (by omega)
    have q1 : decide (1000 < (fresh.size : Int)) = true := decide_eq_true (by omega)
    go_enter Try.func7, Try.ntmps7
    go_wp2_with (first | (go_at_call 11; refine (alive_calls _).mono ?_; rintro e w_ ⟨rfl, hb⟩))
    go_ret
    exact ⟨rfl, hb⟩
  · have q0 : decide (1000 < (old.size : Int)) = true := decide_eq_true (by omega)
    go_enter Try.func7, Try.ntmps7
    go_wp2_with (first | (go_at_call 11; refine (alive_calls _).mono ?_; rintro e w_ ⟨rfl, hb⟩))
    go_ret
    exact ⟨rfl, hb⟩
theorem renames_calls (w : World) (old fresh : ByteArray) (sync : Bool) (dir : Int) :
    Calls Try.prog 7 #[.string old, .string fresh, .bool sync, .int .i64 dir] w fun e w' => e = .returned (.bool true) ∧ Below w.heap.size w w' := by
  by_cases h : old.size ≤ 1000 ∧ fresh.size ≤ 1000
  · cases sync with
    | true => exact ren_sync w old fresh dir h.1 h.2
    | false =>
      have h1 := partN_le dir 1
      obtain hk | hk : partN dir 1 = 0 ∨ partN dir 1 = 1 := by omega
      · exact ren_old w old fresh dir h.1 h.2 hk
      · exact ren_new w old fresh dir h.1 h.2 hk
  · exact ren_big w old fresh sync dir h
end Go.Proofs.Ytimcibifghidjaa.Fs
