/- FileKeeps: what was synced is there behind a failure. -/
import Derived.Test.YtimcibifghidjaaFs12
import Derived.Test.YtimcibifghidjaaPFilx15
namespace Go.Proofs.Ytimcibifghidjaa.Fs
open Go Go.RowKit Go.Maps Go.Sort Go.Proofs.Ytimcibifghidjaa.PFil Go.Proofs.Ytimcibifghidjaa.FsM Go.Proofs.YtimcibifghidjaaW.PrintWords Go.Proofs.YtimcibifghidjaaW.PrintLast Go.Proofs.YtimcibifghidjaaW.PrintMore
set_option linter.unusedVariables false
set_option linter.unusedSimpArgs false
theorem same_l0 (l : List ByteArray) (hl : l.length ≤ 1000000) : ∀ n i : Nat, i + n = l.length → cornucopiabook_SameTexts.l0 (n + 1) l l (i : Int) = some true
  | 0, i, h => by
    unfold cornucopiabook_SameTexts.l0
    rw [if_neg (by omega)]
  | n + 1, i, h => by
    unfold cornucopiabook_SameTexts.l0
    rw [if_pos (by omega), if_pos (by omega), if_pos (by omega), if_pos rfl]
    have hw : wrap64 ((i : Int) + 1) = ((i + 1 : Nat) : Int) := by unfold wrap64; omega
    rw [hw]
    exact same_l0 l hl n (i + 1) (by omega)
theorem same_self (l : List ByteArray) (hl : l.length ≤ 1000000) : cornucopiabook_SameTexts.f (l.length + 1) l l = some true := by
  unfold cornucopiabook_SameTexts.f
  rw [if_pos rfl]
  exact same_l0 l hl l.length 0 (by omega)
theorem ks2 (b c : Nat) : ks [([97], b), ([98], c)] = [[97], [98]] := by
  show ([[97], [98]] : List K8).mergeSort (fun x y => decide (x ≤ y)) = [[97], [98]]
  exact List.mergeSort_of_pairwise (by decide)
theorem ks1 (k : K8) (b : Nat) : ks [(k, b)] = [k] := by simp [ks]
theorem fB2a (b c : Nat) (x y : ByteArray) (s u : Nat) : fB [⟨b, x, s⟩, ⟨c, y, u⟩] b = ⟨b, x, s⟩ := by simp [fB]
theorem fB2b {b c : Nat} (h : c ≠ b) (x y : ByteArray) (s u : Nat) : fB [⟨b, x, s⟩, ⟨c, y, u⟩] c = ⟨c, y, u⟩ := by simp [fB, Ne.symm h]
theorem keeps_b {b : Nat} (safe more sx : ByteArray) (keep : Int) (h : sx = (safe ++ more).extract 0 (safe.size + partN keep more.size)) : cutB [keep] 0 ⟨b, safe ++ more, safe.size⟩ = ⟨b, sx, sx.size⟩ := by
  have h1 := partN_le keep more.size
  have h2 : nOf [keep] 0 ⟨b, safe ++ more, safe.size⟩ = partN keep more.size := by
    unfold nOf
    rw [if_pos (by simp)]
    show partN keep ((safe ++ more).size - safe.size) = _
    rw [ByteArray.size_append, Nat.add_sub_cancel_left]
  unfold cutB
  rw [h2]
  have h3 : sx.size = safe.size + partN keep more.size := by
    rw [h, ByteArray.size_extract, ByteArray.size_append]
    omega
  rw [h3, ← h]
theorem keeps_c {c : Nat} (keep : Int) : cutB [keep] 1 ⟨c, t0, 0⟩ = ⟨c, t0, 0⟩ := cutB_full _ _ rfl
theorem keeps_cut0 {b c : Nat} (hcb : c ≠ b) (safe more sx : ByteArray) (keep : Int) (h : sx = (safe ++ more).extract 0 (safe.size + partN keep more.size)) : cuts [keep] [([97], b)] (ks [([97], b)]) ([([97], b)] : Dir).length [⟨b, safe ++ more, safe.size⟩, ⟨c, t0, 0⟩] = [⟨b, sx, sx.size⟩, ⟨c, t0, 0⟩] := by
  rw [ks1]
  show cut1 [keep] [([97], b)] 0 [97] [⟨b, safe ++ more, safe.size⟩, ⟨c, t0, 0⟩] = _
  unfold cut1
  rw [lk1]
  show rep _ (cutB [keep] 0 (fB _ b)) = _
  rw [fB2a, keeps_b safe more sx keep h, rep2a hcb]
theorem keeps_cut1 {b c : Nat} (hcb : c ≠ b) (safe more sx : ByteArray) (keep : Int) (h : sx = (safe ++ more).extract 0 (safe.size + partN keep more.size)) : cuts [keep] [([97], b), ([98], c)] (ks [([97], b), ([98], c)]) ([([97], b), ([98], c)] : Dir).length [⟨b, safe ++ more, safe.size⟩, ⟨c, t0, 0⟩] = [⟨b, sx, sx.size⟩, ⟨c, t0, 0⟩] := by
  rw [ks2]
  show cut1 [keep] [([97], b), ([98], c)] 1 [98] (cut1 [keep] [([97], b), ([98], c)] 0 [97] [⟨b, safe ++ more, safe.size⟩, ⟨c, t0, 0⟩]) = _
  have e0 : cut1 [keep] [([97], b), ([98], c)] 0 [97] [⟨b, safe ++ more, safe.size⟩, ⟨c, t0, 0⟩] = [⟨b, sx, sx.size⟩, ⟨c, t0, 0⟩] := by
    unfold cut1
    rw [show lk [([97], b), ([98], c)] [97] = some b by simp [lk]]
    show rep _ (cutB [keep] 0 (fB _ b)) = _
    rw [fB2a, keeps_b safe more sx keep h, rep2a hcb]
  rw [e0]
  unfold cut1
  rw [show lk [([97], b), ([98], c)] [98] = some c by simp [lk]]
  show rep _ (cutB [keep] 1 (fB _ c)) = _
  rw [fB2b hcb, keeps_c, rep2b hcb]
set_option maxHeartbeats 8000000 in
set_option maxRecDepth 100000 in
theorem keeps0 (w : World) (safe more : ByteArray) (dir keep : Int) (h1 : safe.size ≤ 3000) (h2 : more.size ≤ 3000) (hk : partN dir 1 = 0) :
    Calls Try.prog 6 #[.string safe, .string more, .int .i64 dir, .int .i64 keep] w fun e w' => e = .returned (.bool true) ∧ Below w.heap.size w w' := by
  have HB := Aside0.mk (Below.refl w.heap.size w)
  have q0 : decide (3000 < (safe.size : Int)) = false := decide_eq_false (by omega)
  have q1 : decide (3000 < (more.size : Int)) = false := decide_eq_false (by omega)
  obtain ⟨sx, hsx⟩ : ∃ sx : ByteArray, sx = (safe ++ more).extract 0 (safe.size + partN keep more.size) := ⟨_, rfl⟩
  have hpl := partN_le keep more.size
  have hss : sx.size = safe.size + partN keep more.size := by rw [hsx, ByteArray.size_extract, ByteArray.size_append]; omega
  have HSX := Aside0.mk hsx
  have hsx1 : safe.size ≤ sx.size := by omega
  have hsx2 : sx.size ≤ safe.size + more.size := by omega
  have hstr : ∀ W : World, (Instr.slice 9 (.string (safe ++ more)) none (some (.int .i64 (sx.size : Int))) none).run Try.prog W = .ok (.string sx) W := fun W => by
    rw [str_cut (safe ++ more) sx.size (by rw [ByteArray.size_append]; omega) W, hss, ← hsx]
  have q2 : decide ((sx.size : Int) < (safe.size : Int)) = false := decide_eq_false (by omega)
  have hwx : IntKind.i64.wrap ((safe.size : Int) + (more.size : Int)) = (safe.size : Int) + (more.size : Int) := by rw [IntKind.wrap_i64]; omega
  have q3 : decide ((safe.size : Int) + (more.size : Int) < (sx.size : Int)) = false := decide_eq_false (by omega)
  clear hsx hss hpl
  go_enter Try.func6, Try.ntmps6
  go_wp2_with (first
    | (go_at_call 12; refine (q_new w _ HB.out).mono ?_; rintro e w_ ⟨g, rfl, ht⟩; have HT0 : Aside0 (St w w_ g (Q true 0 [] [] [] [])) := ⟨ht⟩; clear ht HB)
    | (go_at_call 13; refine (q_create HT0.out (by refine ⟨?_, ?_, ?_, ?_⟩ <;> simp) tA (by decide) (by decide) rfl).mono ?_; rintro e w_ ⟨rfl, b, hb, ht⟩; have HT1 : Aside0 (St w w_ g (Q true 1 [([97], b)] [] [⟨t0, tA, some b⟩] [⟨b, t0, 0⟩])) := ⟨ht⟩; clear HT0; clear ht)
    | (go_at_call 18; refine (q_append HT1.out (by refine ⟨?_, ?_, ?_, ?_⟩ <;> simp) tA safe (by decide) ⟨b, t0, 0⟩ (by simp) (lk1 _ _) (by show t0.size + safe.size ≤ _; have : t0.size = 0 := rfl; omega)).mono ?_; rintro e w_ ⟨rfl, ht⟩; have HT2 : Aside0 (St w w_ g (Q true 2 [([97], b)] [] [⟨t0, tA, some b⟩] [⟨b, safe, 0⟩])) := ⟨ht.eq (by rw [rep1, app0]; rfl)⟩; clear HT1; clear ht)
    | (go_at_call 24; refine (q_sync HT2.out (by refine ⟨?_, ?_, ?_, ?_⟩ <;> simp) tA (by decide) ⟨b, safe, 0⟩ (by simp) (lk1 _ _)).mono ?_; rintro e w_ ⟨rfl, ht⟩; have HT3 : Aside0 (St w w_ g (Q true 3 [([97], b)] [] [⟨t0, tA, some b⟩] [⟨b, safe, safe.size⟩])) := ⟨ht.eq (by rw [rep1]; rfl)⟩; clear HT2; clear ht)
    | (go_at_call 25; refine (q_syncdir HT3.out (by refine ⟨?_, ?_, ?_, ?_⟩ <;> simp)).mono ?_; rintro e w_ ⟨rfl, ht⟩; have HT4 : Aside0 (St w w_ g (Q true 4 [([97], b)] [([97], b)] [] [⟨b, safe, safe.size⟩])) := ⟨ht⟩; clear HT3; clear ht)
    | (go_at_call 18; refine (q_append HT4.out (by refine ⟨?_, ?_, ?_, ?_⟩ <;> simp) tA more (by decide) ⟨b, safe, safe.size⟩ (by simp) (lk1 _ _) (by show safe.size + more.size ≤ _; omega)).mono ?_; rintro e w_ ⟨rfl, ht⟩; have HT5 : Aside0 (St w w_ g (Q true 5 [([97], b)] [([97], b)] [] [⟨b, safe ++ more, safe.size⟩])) := ⟨ht.eq (by rw [rep1]; rfl)⟩; clear HT4; clear ht)
    | (go_at_call 13; refine (q_create HT5.out (by refine ⟨?_, ?_, ?_, ?_⟩ <;> simp) tB (by decide) (by decide) rfl).mono ?_; rintro e w_ ⟨rfl, c, hc, ht⟩; have hcb : c ≠ b := (by simpa [blks] using hc); clear hc; have HT6 : Aside0 (St w w_ g (Q true 6 [([97], b), ([98], c)] [([97], b)] [⟨t0, tB, some c⟩] [⟨b, safe ++ more, safe.size⟩, ⟨c, t0, 0⟩])) := ⟨ht⟩; clear HT5; clear ht)
    | (go_at_call 14; refine (q_crash (HT6.out.below (below_alloc (Below.refl _ _) _)) (by refine ⟨?_, ?_, ?_, ?_⟩ <;> simp) dir [keep] _ 1 (by simp) _ (row_lit1 _ keep) (by intro x hx; simp at hx; rcases hx with rfl | rfl; exact ⟨by show safe.size ≤ (safe ++ more).size; rw [ByteArray.size_append]; omega, by show (safe ++ more).size ≤ _; rw [ByteArray.size_append]; omega⟩; exact ⟨Nat.zero_le _, by show t0.size ≤ _; decide⟩) ([([97], b)]) (by rw [show ([⟨t0, tB, some c⟩] : List Ch).length = 1 from rfl, hk]; rfl) (by rw [show ([⟨t0, tB, some c⟩] : List Ch).length = 1 from rfl, hk]; trivial) (by intro q hq; simp at hq; (first | (rcases hq with rfl | rfl <;> simp) | (subst hq; simp))) ([⟨b, sx, sx.size⟩, ⟨c, t0, 0⟩]) (keeps_cut0 hcb safe more sx keep HSX.out)).mono ?_; rintro e w_ ⟨rfl, ht, hk_⟩; have HT7 : Aside0 (St w w_ g (Q false 6 [([97], b)] [([97], b)] [] [⟨b, sx, sx.size⟩, ⟨c, t0, 0⟩])) := ⟨ht⟩; clear HT6; clear ht hk_)
    | (go_at_call 18; refine (s_append_off HT7.out rfl tA ⟨#[120]⟩).mono ?_; rintro e w_ ⟨rfl, ht⟩; have HT8 : Aside0 (St w w_ g (Q false 6 [([97], b)] [([97], b)] [] [⟨b, sx, sx.size⟩, ⟨c, t0, 0⟩])) := ⟨ht⟩; clear HT7; clear ht)
    | (go_at_call 15; refine (q_restore HT8.out).mono ?_; rintro e w_ ⟨rfl, ht, hk_⟩; have HT9 : Aside0 (St w w_ g (Q true 6 [([97], b)] [([97], b)] [] [⟨b, sx, sx.size⟩, ⟨c, t0, 0⟩])) := ⟨ht⟩; clear HT8; clear ht hk_)
    | (go_at_call 20; refine (q_read HT9.out tA (by decide) ⟨b, sx, sx.size⟩ (by simp) (by simp [lk, bs, tA])).mono ?_; rintro e w_ ⟨rfl, rfl⟩)
    | (go_at_call 16; refine (s_names HT9.out (Qk.ok (by refine ⟨?_, ?_, ?_, ?_⟩ <;> simp)) rfl).mono ?_; rintro e w_ ⟨⟨An, cn, rfl, hr⟩, hb, ht⟩; have HR := Aside0.mk hr; have HT10 : Aside0 (St w w_ g (Q true 6 [([97], b)] [([97], b)] [] [⟨b, sx, sx.size⟩, ⟨c, t0, 0⟩])) := ⟨ht⟩; clear HT9; clear ht hr hb)
    | (go_at_call 14; obtain ⟨⟨ma_, ms_, vp_, hfx_⟩, _⟩ := HT10.out.below (below_alloc (Below.refl _ _) (.cells #[.int .i64 0] 3)); refine (q_crash (HT10.out.below (below_alloc (Below.refl _ _) _)) (by refine ⟨?_, ?_, ?_, ?_⟩ <;> simp) 0 [0] _ 1 (by decide) _ (row_lit1 _ 0) (good_full (by intro x hx; simp at hx; rcases hx with rfl | rfl; exact ⟨rfl, by show sx.size ≤ _; omega⟩; exact ⟨rfl, by show t0.size ≤ _; decide⟩)) ([([97], b)]) (rfl) (trivial) (by intro q hq; simp at hq; (first | (rcases hq with rfl | rfl <;> simp) | (subst hq; simp))) ([⟨b, sx, sx.size⟩, ⟨c, t0, 0⟩]) (cuts_full _ _ _ _ (by intro x hx; simp at hx; rcases hx with rfl | rfl <;> rfl) (by simp [blks, hcb.symm]) (by intro q hq; simp at hq; (first | (rcases hq with rfl | rfl <;> simp [blks]) | (subst hq; simp [blks]))))).mono ?_; rintro e w_ ⟨rfl, ht, hk_⟩; have HR2 := Aside0.mk (row_keep Kd.string 9 (by decide) (by decide) hfx_ (Kd.R_step HR.out (fun k _ hlt => (below_alloc (Below.refl _ _) (.cells #[.int .i64 0] 3)).block k hlt)) _ hk_); have HT11 : Aside0 (St w w_ g (Q false 6 [([97], b)] [([97], b)] [] [⟨b, sx, sx.size⟩, ⟨c, t0, 0⟩])) := ⟨ht⟩; clear HT10; clear ht hk_ hfx_ HR)
    | (go_at_call 15; obtain ⟨⟨ma_, ms_, vp_, hfx_⟩, _⟩ := HT11.out; refine (q_restore HT11.out).mono ?_; rintro e w_ ⟨rfl, ht, hk_⟩; have HR3 := Aside0.mk (row_keep Kd.string 9 (by decide) (by decide) hfx_ HR2.out _ hk_); have HT12 : Aside0 (St w w_ g (Q true 6 [([97], b)] [([97], b)] [] [⟨b, sx, sx.size⟩, ⟨c, t0, 0⟩])) := ⟨ht⟩; clear HT11; clear ht hk_ hfx_ HR2)
    | (go_at_call 20; have := HR3; refine (q_read HT12.out tA (by decide) ⟨b, sx, sx.size⟩ (by simp) (by simp [lk, bs, tA])).mono ?_; rintro e w_ ⟨rfl, rfl⟩)
    | (go_at_call 11; refine (alive_calls _).mono ?_; rintro e w_ ⟨rfl, hb⟩; have HR4 := Aside0.mk (Kd.R_step HR3.out (fun k _ hlt => hb.block k hlt)); have HT13 : Aside0 (St w w_ g (Q true 6 [([97], b)] [([97], b)] [] [⟨b, sx, sx.size⟩, ⟨c, t0, 0⟩])) := ⟨HT12.out.below hb⟩; clear HT12; clear hb HR3)
    | (go_at_call 16; have := HR4; refine (s_names HT13.out (Qk.ok (by refine ⟨?_, ?_, ?_, ?_⟩ <;> simp)) rfl).mono ?_; rintro e w_ ⟨⟨An2, cn2, rfl, hr⟩, hb, ht⟩; have HS := Aside0.mk hr; have HR5 := Aside0.mk (Kd.R_step HR4.out (fun k _ hlt => hb.block k hlt)); have HT14 : Aside0 (St w w_ g (Q true 6 [([97], b)] [([97], b)] [] [⟨b, sx, sx.size⟩, ⟨c, t0, 0⟩])) := ⟨ht⟩; clear HT13; clear ht hr hb HR4)
    | (go_at_call 26; refine (cornucopiabook_SameTexts.calls _ _ _ _ _ _ _ true _ (Kd.R_reads' HR5.out).2.2 (Kd.R_reads' HR5.out).2.1 (Kd.R_reads' HS.out).2.2 (Kd.R_reads' HS.out).2.1 (same_self _ (by rw [nm_len]; simp [Q]))).mono ?_; rintro e w_ ⟨rfl, hdr⟩; have HZ := Aside0.mk (below_step HT14.out.2 hdr.below); clear hdr))
  all_goals (go_ret; exact ⟨rfl, HZ.out⟩)
set_option maxHeartbeats 8000000 in
set_option maxRecDepth 100000 in
theorem keeps1 (w : World) (safe more : ByteArray) (dir keep : Int) (h1 : safe.size ≤ 3000) (h2 : more.size ≤ 3000) (hk : partN dir 1 = 1) :
    Calls Try.prog 6 #[.string safe, .string more, .int .i64 dir, .int .i64 keep] w fun e w' => e = .returned (.bool true) ∧ Below w.heap.size w w' := by
  have HB := Aside0.mk (Below.refl w.heap.size w)
  have q0 : decide (3000 < (safe.size : Int)) = false := decide_eq_false (by omega)
  have q1 : decide (3000 < (more.size : Int)) = false := decide_eq_false (by omega)
  obtain ⟨sx, hsx⟩ : ∃ sx : ByteArray, sx = (safe ++ more).extract 0 (safe.size + partN keep more.size) := ⟨_, rfl⟩
  have hpl := partN_le keep more.size
  have hss : sx.size = safe.size + partN keep more.size := by rw [hsx, ByteArray.size_extract, ByteArray.size_append]; omega
  have HSX := Aside0.mk hsx
  have hsx1 : safe.size ≤ sx.size := by omega
  have hsx2 : sx.size ≤ safe.size + more.size := by omega
  have hstr : ∀ W : World, (Instr.slice 9 (.string (safe ++ more)) none (some (.int .i64 (sx.size : Int))) none).run Try.prog W = .ok (.string sx) W := fun W => by
    rw [str_cut (safe ++ more) sx.size (by rw [ByteArray.size_append]; omega) W, hss, ← hsx]
  have q2 : decide ((sx.size : Int) < (safe.size : Int)) = false := decide_eq_false (by omega)
  have hwx : IntKind.i64.wrap ((safe.size : Int) + (more.size : Int)) = (safe.size : Int) + (more.size : Int) := by rw [IntKind.wrap_i64]; omega
  have q3 : decide ((safe.size : Int) + (more.size : Int) < (sx.size : Int)) = false := decide_eq_false (by omega)
  clear hsx hss hpl
  go_enter Try.func6, Try.ntmps6
  go_wp2_with (first
    | (go_at_call 12; refine (q_new w _ HB.out).mono ?_; rintro e w_ ⟨g, rfl, ht⟩; have HT0 : Aside0 (St w w_ g (Q true 0 [] [] [] [])) := ⟨ht⟩; clear ht HB)
    | (go_at_call 13; refine (q_create HT0.out (by refine ⟨?_, ?_, ?_, ?_⟩ <;> simp) tA (by decide) (by decide) rfl).mono ?_; rintro e w_ ⟨rfl, b, hb, ht⟩; have HT1 : Aside0 (St w w_ g (Q true 1 [([97], b)] [] [⟨t0, tA, some b⟩] [⟨b, t0, 0⟩])) := ⟨ht⟩; clear HT0; clear ht)
    | (go_at_call 18; refine (q_append HT1.out (by refine ⟨?_, ?_, ?_, ?_⟩ <;> simp) tA safe (by decide) ⟨b, t0, 0⟩ (by simp) (lk1 _ _) (by show t0.size + safe.size ≤ _; have : t0.size = 0 := rfl; omega)).mono ?_; rintro e w_ ⟨rfl, ht⟩; have HT2 : Aside0 (St w w_ g (Q true 2 [([97], b)] [] [⟨t0, tA, some b⟩] [⟨b, safe, 0⟩])) := ⟨ht.eq (by rw [rep1, app0]; rfl)⟩; clear HT1; clear ht)
    | (go_at_call 24; refine (q_sync HT2.out (by refine ⟨?_, ?_, ?_, ?_⟩ <;> simp) tA (by decide) ⟨b, safe, 0⟩ (by simp) (lk1 _ _)).mono ?_; rintro e w_ ⟨rfl, ht⟩; have HT3 : Aside0 (St w w_ g (Q true 3 [([97], b)] [] [⟨t0, tA, some b⟩] [⟨b, safe, safe.size⟩])) := ⟨ht.eq (by rw [rep1]; rfl)⟩; clear HT2; clear ht)
    | (go_at_call 25; refine (q_syncdir HT3.out (by refine ⟨?_, ?_, ?_, ?_⟩ <;> simp)).mono ?_; rintro e w_ ⟨rfl, ht⟩; have HT4 : Aside0 (St w w_ g (Q true 4 [([97], b)] [([97], b)] [] [⟨b, safe, safe.size⟩])) := ⟨ht⟩; clear HT3; clear ht)
    | (go_at_call 18; refine (q_append HT4.out (by refine ⟨?_, ?_, ?_, ?_⟩ <;> simp) tA more (by decide) ⟨b, safe, safe.size⟩ (by simp) (lk1 _ _) (by show safe.size + more.size ≤ _; omega)).mono ?_; rintro e w_ ⟨rfl, ht⟩; have HT5 : Aside0 (St w w_ g (Q true 5 [([97], b)] [([97], b)] [] [⟨b, safe ++ more, safe.size⟩])) := ⟨ht.eq (by rw [rep1]; rfl)⟩; clear HT4; clear ht)
    | (go_at_call 13; refine (q_create HT5.out (by refine ⟨?_, ?_, ?_, ?_⟩ <;> simp) tB (by decide) (by decide) rfl).mono ?_; rintro e w_ ⟨rfl, c, hc, ht⟩; have hcb : c ≠ b := (by simpa [blks] using hc); clear hc; have HT6 : Aside0 (St w w_ g (Q true 6 [([97], b), ([98], c)] [([97], b)] [⟨t0, tB, some c⟩] [⟨b, safe ++ more, safe.size⟩, ⟨c, t0, 0⟩])) := ⟨ht⟩; clear HT5; clear ht)
    | (go_at_call 14; refine (q_crash (HT6.out.below (below_alloc (Below.refl _ _) _)) (by refine ⟨?_, ?_, ?_, ?_⟩ <;> simp) dir [keep] _ 1 (by simp) _ (row_lit1 _ keep) (by intro x hx; simp at hx; rcases hx with rfl | rfl; exact ⟨by show safe.size ≤ (safe ++ more).size; rw [ByteArray.size_append]; omega, by show (safe ++ more).size ≤ _; rw [ByteArray.size_append]; omega⟩; exact ⟨Nat.zero_le _, by show t0.size ≤ _; decide⟩) ([([97], b), ([98], c)]) (by rw [show ([⟨t0, tB, some c⟩] : List Ch).length = 1 from rfl, hk]; rfl) (by rw [show ([⟨t0, tB, some c⟩] : List Ch).length = 1 from rfl, hk]; exact ⟨⟨by show t0.size ≤ _; decide, by show tB.size ≤ _; decide, .inl ⟨rfl, by show bs tB ≠ []; decide, c, rfl⟩⟩, trivial⟩) (by intro q hq; simp at hq; (first | (rcases hq with rfl | rfl <;> simp) | (subst hq; simp))) ([⟨b, sx, sx.size⟩, ⟨c, t0, 0⟩]) (keeps_cut1 hcb safe more sx keep HSX.out)).mono ?_; rintro e w_ ⟨rfl, ht, hk_⟩; have HT7 : Aside0 (St w w_ g (Q false 6 [([97], b), ([98], c)] [([97], b), ([98], c)] [] [⟨b, sx, sx.size⟩, ⟨c, t0, 0⟩])) := ⟨ht⟩; clear HT6; clear ht hk_)
    | (go_at_call 18; refine (s_append_off HT7.out rfl tA ⟨#[120]⟩).mono ?_; rintro e w_ ⟨rfl, ht⟩; have HT8 : Aside0 (St w w_ g (Q false 6 [([97], b), ([98], c)] [([97], b), ([98], c)] [] [⟨b, sx, sx.size⟩, ⟨c, t0, 0⟩])) := ⟨ht⟩; clear HT7; clear ht)
    | (go_at_call 15; refine (q_restore HT8.out).mono ?_; rintro e w_ ⟨rfl, ht, hk_⟩; have HT9 : Aside0 (St w w_ g (Q true 6 [([97], b), ([98], c)] [([97], b), ([98], c)] [] [⟨b, sx, sx.size⟩, ⟨c, t0, 0⟩])) := ⟨ht⟩; clear HT8; clear ht hk_)
    | (go_at_call 20; refine (q_read HT9.out tA (by decide) ⟨b, sx, sx.size⟩ (by simp) (by simp [lk, bs, tA])).mono ?_; rintro e w_ ⟨rfl, rfl⟩)
    | (go_at_call 16; refine (s_names HT9.out (Qk.ok (by refine ⟨?_, ?_, ?_, ?_⟩ <;> simp)) rfl).mono ?_; rintro e w_ ⟨⟨An, cn, rfl, hr⟩, hb, ht⟩; have HR := Aside0.mk hr; have HT10 : Aside0 (St w w_ g (Q true 6 [([97], b), ([98], c)] [([97], b), ([98], c)] [] [⟨b, sx, sx.size⟩, ⟨c, t0, 0⟩])) := ⟨ht⟩; clear HT9; clear ht hr hb)
    | (go_at_call 14; obtain ⟨⟨ma_, ms_, vp_, hfx_⟩, _⟩ := HT10.out.below (below_alloc (Below.refl _ _) (.cells #[.int .i64 0] 3)); refine (q_crash (HT10.out.below (below_alloc (Below.refl _ _) _)) (by refine ⟨?_, ?_, ?_, ?_⟩ <;> simp) 0 [0] _ 1 (by decide) _ (row_lit1 _ 0) (good_full (by intro x hx; simp at hx; rcases hx with rfl | rfl; exact ⟨rfl, by show sx.size ≤ _; omega⟩; exact ⟨rfl, by show t0.size ≤ _; decide⟩)) ([([97], b), ([98], c)]) (rfl) (trivial) (by intro q hq; simp at hq; (first | (rcases hq with rfl | rfl <;> simp) | (subst hq; simp))) ([⟨b, sx, sx.size⟩, ⟨c, t0, 0⟩]) (cuts_full _ _ _ _ (by intro x hx; simp at hx; rcases hx with rfl | rfl <;> rfl) (by simp [blks, hcb.symm]) (by intro q hq; simp at hq; (first | (rcases hq with rfl | rfl <;> simp [blks]) | (subst hq; simp [blks]))))).mono ?_; rintro e w_ ⟨rfl, ht, hk_⟩; have HR2 := Aside0.mk (row_keep Kd.string 9 (by decide) (by decide) hfx_ (Kd.R_step HR.out (fun k _ hlt => (below_alloc (Below.refl _ _) (.cells #[.int .i64 0] 3)).block k hlt)) _ hk_); have HT11 : Aside0 (St w w_ g (Q false 6 [([97], b), ([98], c)] [([97], b), ([98], c)] [] [⟨b, sx, sx.size⟩, ⟨c, t0, 0⟩])) := ⟨ht⟩; clear HT10; clear ht hk_ hfx_ HR)
    | (go_at_call 15; obtain ⟨⟨ma_, ms_, vp_, hfx_⟩, _⟩ := HT11.out; refine (q_restore HT11.out).mono ?_; rintro e w_ ⟨rfl, ht, hk_⟩; have HR3 := Aside0.mk (row_keep Kd.string 9 (by decide) (by decide) hfx_ HR2.out _ hk_); have HT12 : Aside0 (St w w_ g (Q true 6 [([97], b), ([98], c)] [([97], b), ([98], c)] [] [⟨b, sx, sx.size⟩, ⟨c, t0, 0⟩])) := ⟨ht⟩; clear HT11; clear ht hk_ hfx_ HR2)
    | (go_at_call 20; have := HR3; refine (q_read HT12.out tA (by decide) ⟨b, sx, sx.size⟩ (by simp) (by simp [lk, bs, tA])).mono ?_; rintro e w_ ⟨rfl, rfl⟩)
    | (go_at_call 11; refine (alive_calls _).mono ?_; rintro e w_ ⟨rfl, hb⟩; have HR4 := Aside0.mk (Kd.R_step HR3.out (fun k _ hlt => hb.block k hlt)); have HT13 : Aside0 (St w w_ g (Q true 6 [([97], b), ([98], c)] [([97], b), ([98], c)] [] [⟨b, sx, sx.size⟩, ⟨c, t0, 0⟩])) := ⟨HT12.out.below hb⟩; clear HT12; clear hb HR3)
    | (go_at_call 16; have := HR4; refine (s_names HT13.out (Qk.ok (by refine ⟨?_, ?_, ?_, ?_⟩ <;> simp)) rfl).mono ?_; rintro e w_ ⟨⟨An2, cn2, rfl, hr⟩, hb, ht⟩; have HS := Aside0.mk hr; have HR5 := Aside0.mk (Kd.R_step HR4.out (fun k _ hlt => hb.block k hlt)); have HT14 : Aside0 (St w w_ g (Q true 6 [([97], b), ([98], c)] [([97], b), ([98], c)] [] [⟨b, sx, sx.size⟩, ⟨c, t0, 0⟩])) := ⟨ht⟩; clear HT13; clear ht hr hb HR4)
    | (go_at_call 26; refine (cornucopiabook_SameTexts.calls _ _ _ _ _ _ _ true _ (Kd.R_reads' HR5.out).2.2 (Kd.R_reads' HR5.out).2.1 (Kd.R_reads' HS.out).2.2 (Kd.R_reads' HS.out).2.1 (same_self _ (by rw [nm_len]; simp [Q]))).mono ?_; rintro e w_ ⟨rfl, hdr⟩; have HZ := Aside0.mk (below_step HT14.out.2 hdr.below); clear hdr))
  all_goals (go_ret; exact ⟨rfl, HZ.out⟩)
set_option maxHeartbeats 8000000 in
set_option maxRecDepth 100000 in
theorem keeps_big (w : World) (safe more : ByteArray) (dir keep : Int) (h : ¬ (safe.size ≤ 3000 ∧ more.size ≤ 3000)) :
    Calls Try.prog 6 #[.string safe, .string more, .int .i64 dir, .int .i64 keep] w fun e w' => e = .returned (.bool true) ∧ Below w.heap.size w w' := by
  by_cases h1 : safe.size ≤ 3000
  · have q0 : decide (3000 < (safe.size : Int)) = false := decide_eq_false (by omega)
    have q1 : decide (3000 < (more.size : Int)) = true := decide_eq_true (by omega)
    go_enter Try.func6, Try.ntmps6
    go_wp2_with (first | (go_at_call 11; refine (alive_calls _).mono ?_; rintro e w_ ⟨rfl, hb⟩))
    go_ret
    exact ⟨rfl, hb⟩
  · have q0 : decide (3000 < (safe.size : Int)) = true := decide_eq_true (by omega)
    go_enter Try.func6, Try.ntmps6
    go_wp2_with (first | (go_at_call 11; refine (alive_calls _).mono ?_; rintro e w_ ⟨rfl, hb⟩))
    go_ret
    exact ⟨rfl, hb⟩
theorem keeps_calls (w : World) (safe more : ByteArray) (dir keep : Int) :
    Calls Try.prog 6 #[.string safe, .string more, .int .i64 dir, .int .i64 keep] w fun e w' => e = .returned (.bool true) ∧ Below w.heap.size w w' := by
  by_cases h : safe.size ≤ 3000 ∧ more.size ≤ 3000
  · have h1 := partN_le dir 1
    obtain hk | hk : partN dir 1 = 0 ∨ partN dir 1 = 1 := by omega
    · exact keeps0 w safe more dir keep h.1 h.2 hk
    · exact keeps1 w safe more dir keep h.1 h.2 hk
  · exact keeps_big w safe more dir keep h
end Go.Proofs.Ytimcibifghidjaa.Fs
