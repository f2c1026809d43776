/- What a first small file system tells (chapter 4's first call). -/
import Derived.Test.YtimcibifghidjaaFs10
namespace Go.Proofs.Ytimcibifghidjaa.Fs
open Go Go.RowKit Go.Maps Go.Sort Go.Proofs.Ytimcibifghidjaa.PFil Go.Proofs.Ytimcibifghidjaa.FsM Go.Proofs.YtimcibifghidjaaW.PrintWords Go.Proofs.YtimcibifghidjaaW.PrintLast Go.Proofs.YtimcibifghidjaaW.PrintMore
set_option linter.unusedVariables false
set_option linter.unusedSimpArgs false
theorem St.eq {w0 V : World} {g : Nat} {S S' : Sy} (h : St w0 V g S) (e : S = S') : St w0 V g S' := e ▸ h
def tA : ByteArray := ⟨#[97]⟩
def tB : ByteArray := ⟨#[98]⟩
def t0 : ByteArray := ⟨#[]⟩
theorem rep1 (b : Nat) (d d' : ByteArray) (s s' : Nat) : rep [⟨b, d, s⟩] ⟨b, d', s'⟩ = [⟨b, d', s'⟩] := by simp [rep]
/-- An empty one. -/
def A0 (room : Int) : Sy := ⟨room, true, false, 0, false, 0, 0, [], [], [], []⟩
/-- One file with a name. -/
def A1 (room : Int) (b : Nat) (steps : Int) : Sy := ⟨room, true, false, 0, false, 0, steps, [([97], b)], [], [⟨t0, tA, some b⟩], [⟨b, t0, 0⟩]⟩
theorem a1_eq (b : Nat) : ({A0 0 with steps := min ((A0 0).steps + 1) 4611686018427387904, at_ := put (A0 0).at_ (bs tA) b, pend := (A0 0).pend ++ [⟨⟨#[]⟩, tA, some b⟩], bd := (A0 0).bd ++ [⟨b, ⟨#[]⟩, 0⟩]} : Sy) = A1 0 b 1 := rfl
/-- .. and the directory synced; bytes, of which some are synced. -/
def A2 (b : Nat) (d : ByteArray) (s : Nat) (steps : Int) : Sy := ⟨0, true, false, 0, false, 0, steps, [([97], b)], [([97], b)], [], [⟨b, d, s⟩]⟩
theorem a2_eq (b : Nat) : ({(badS (A1 0 b 1)).1 with steps := min ((A1 0 b 1).steps + 1) 4611686018427387904, sy := (A1 0 b 1).at_, pend := []} : Sy) = A2 b t0 0 2 := rfl
def xyz : ByteArray := ⟨#[120, 121, 122]⟩
theorem a3_eq (b : Nat) : ({(opS (A2 b t0 0 2)).1 with bd := rep (A2 b t0 0 2).bd ⟨b, t0 ++ xyz, 0⟩} : Sy) = A2 b xyz 0 3 := by
  rw [opS_no rfl]
  show (⟨0, true, false, 0, false, 0, min (2 + 1) 4611686018427387904, [([97], b)], [([97], b)], [], rep [⟨b, t0, 0⟩] ⟨b, t0 ++ xyz, 0⟩⟩ : Sy) = _
  rw [rep1, show t0 ++ xyz = xyz by decide +kernel]
  rfl
def A4 (b : Nat) : Sy := ⟨0, true, false, 0, false, 0, 4, [([98], b)], [([97], b)], [⟨tA, tB, none⟩], [⟨b, xyz, 0⟩]⟩
theorem a4_eq (b : Nat) : ({A2 b xyz 0 3 with steps := min ((A2 b xyz 0 3).steps + 1) 4611686018427387904, at_ := put (del (A2 b xyz 0 3).at_ (bs tA)) (bs tB) b, pend := (A2 b xyz 0 3).pend ++ [⟨tA, tB, none⟩]} : Sy) = A4 b := rfl
def A5 (b : Nat) : Sy := ⟨0, false, false, 0, false, 0, 4, [([97], b)], [([97], b)], [], [⟨b, ⟨#[120, 121]⟩, 2⟩]⟩
theorem fB1 (b : Nat) (d : ByteArray) (s : Nat) : fB [⟨b, d, s⟩] b = ⟨b, d, s⟩ := by simp [fB]
theorem a5_eq (b : Nat) : crS (A4 b) 0 [2] = A5 b := by
  have h1 : partN 0 (A4 b).pend.length = 0 := rfl
  unfold crS
  rw [h1]
  show (⟨0, false, false, 0, false, 0, 4, [([97], b)], [([97], b)], [], cuts [2] [([97], b)] (ks [([97], b)]) 1 [⟨b, xyz, 0⟩]⟩ : Sy) = _
  have h2 : ks [([97], b)] = [[97]] := by simp [ks]
  rw [h2, cuts, cuts, cut1]
  show (⟨0, false, false, 0, false, 0, 4, [([97], b)], [([97], b)], [], rep [⟨b, xyz, 0⟩] (cutB [2] 0 (fB [⟨b, xyz, 0⟩] b))⟩ : Sy) = _
  rw [fB1]
  have h3 : cutB [2] 0 ⟨b, xyz, 0⟩ = ⟨b, ⟨#[120, 121]⟩, 2⟩ := by
    have h4 : nOf [2] 0 ⟨b, xyz, 0⟩ = 2 := rfl
    unfold cutB
    rw [h4]
    have h5 : xyz.extract 0 2 = ⟨#[120, 121]⟩ := by decide +kernel
    simp [h5]
  rw [h3, rep1]
  rfl
theorem okk (S : Sy) (h1 : 0 ≤ S.steps ∧ S.steps ≤ 4611686018427387904) (h2 : S.fl ≤ 9223372036854775807) (h3 : S.bl ≤ 9223372036854775807) (h4 : S.at_.length ≤ 1000000) (h5 : S.sy.length + S.pend.length ≤ 1000000) : Okk S := ⟨h1, h2, h3, h4, h5⟩
theorem okA0 (r : Int) : Okk (A0 r) := ⟨by simp [A0], by simp [A0], by simp [A0], by simp [A0], by simp [A0]⟩
theorem okA1 (r : Int) (b : Nat) (n : Int) (h : 0 ≤ n ∧ n ≤ 4611686018427387904) : Okk (A1 r b n) := ⟨h, by simp [A1], by simp [A1], by simp [A1], by simp [A1]⟩
theorem okA2 (b : Nat) (d : ByteArray) (s : Nat) (n : Int) (h : 0 ≤ n ∧ n ≤ 4611686018427387904) : Okk (A2 b d s n) := ⟨h, by simp [A2], by simp [A2], by simp [A2], by simp [A2]⟩
theorem okA4 (b : Nat) : Okk (A4 b) := ⟨by simp [A4], by simp [A4], by simp [A4], by simp [A4], by simp [A4]⟩
/-- A row of one number that is made. -/
theorem row_lit1 (w : World) (n : Int) : (Kd.int .i64).R 3 (w.alloc (.cells #[.int .i64 n] 3)) w.heap.size (fun k => (Value.slice (some ⟨w.heap.size, 0, none⟩) ([n] : List Int).length 1).ownBlock = some k) (.slice (some ⟨w.heap.size, 0, none⟩) ([n] : List Int).length 1) [n] := by
  refine Kd.R_of_own (enc := Value.int .i64) ?_ (fun _ h => h)
  have h2 := World.ownsRow_lit (base := w.heap.size) (e := 3) (size := 1) w #[.int .i64 n] 1 (Nat.le_refl _) (by simp [maxLen]) (by simp)
  simpa [encs] using h2
theorem good4 (b : Nat) : Good (A4 b).bd := by
  intro x hx
  rw [show x = ⟨b, xyz, 0⟩ from by simpa [A4] using hx]
  exact ⟨Nat.zero_le _, by show xyz.size ≤ _; decide⟩
def A6 (b : Nat) : Sy := ⟨0, true, false, 0, false, 0, 4, [([97], b)], [([97], b)], [], [⟨b, ⟨#[120, 121]⟩, 2⟩]⟩
theorem okA6 (b : Nat) : Okk (A6 b) := ⟨by simp [A6], by simp [A6], by simp [A6], by simp [A6], by simp [A6]⟩
theorem nm1 (k : K8) (b : Nat) : nm [(k, b)] = [⟨k.toArray⟩] := by simp [nm, ks]
theorem lk1 (k : K8) (b : Nat) : lk [(k, b)] k = some b := by simp [lk]
set_option maxHeartbeats 8000000 in
set_option maxRecDepth 100000 in
theorem alive_calls (w : World) :
    Calls Try.prog 11 #[] w fun e w' => e = .returned (.bool true) ∧ Below w.heap.size w w' := by
  have HB := Aside0.mk (Below.refl w.heap.size w)
  go_enter Try.func11, Try.ntmps11
  go_wp2_with (first
    | (go_at_call 12; refine (s_new w _ HB.out 0).mono ?_; rintro e w1 ⟨g, rfl, ht⟩; have HT0 : Aside0 (St w w1 g (A0 0)) := ⟨ht⟩; clear ht HB)
    | (go_at_call 13; refine (s_create HT0.out (okA0 0) rfl rfl tA (by decide) (by decide) rfl).mono ?_; rintro e w2 ⟨rfl, b, hb, ht⟩; have HT1 : Aside0 (St w w2 g (A1 0 b 1)) := ⟨ht.eq (a1_eq b)⟩; clear ht hb HT0)
    | (go_at_call 25; refine (s_syncdir HT1.out (okA1 0 b 1 (by decide)) rfl rfl rfl).mono ?_; rintro e w3 ⟨rfl, ht⟩; have HT2 : Aside0 (St w w3 g (A2 b t0 0 2)) := ⟨ht.eq (a2_eq b)⟩; clear ht HT1)
    | (go_at_call 18; refine (s_append HT2.out (okA2 b t0 0 2 (by decide)) rfl (Int.le_refl 0) tA xyz (by decide) ⟨b, t0, 0⟩ (by simp [A2]) (lk1 _ _) (by show t0.size + xyz.size ≤ _; decide)).mono ?_; rintro e w4 ⟨rfl, ht⟩; have HT3 : Aside0 (St w w4 g (A2 b xyz 0 3)) := ⟨ht.eq (a3_eq b)⟩; rw [opS_no (S := A2 b t0 0 2) rfl]; clear ht HT2)
    | (go_at_call 27; refine (s_rename HT3.out (okA2 b xyz 0 3 (by decide)) rfl rfl tA tB (by decide) (by decide) (by decide) (by decide) (by decide) b (lk1 _ _)).mono ?_; rintro e w5 ⟨rfl, ht⟩; have HT4 : Aside0 (St w w5 g (A4 b)) := ⟨ht.eq (a4_eq b)⟩; clear ht HT3)
    | (go_at_call 14; refine (s_crash (HT4.out.below (below_alloc (Below.refl _ _) _)) (okA4 b) 0 [2] _ 1 (by decide) _ (row_lit1 w5 2) (good4 b) trivial (by intro p hp; rw [show p = ([97], b) from by simpa [A4, apL, partN] using hp]; simp)).mono ?_; rintro e w6 ⟨rfl, ht, _⟩; have HT5 : Aside0 (St w w6 g (A5 b)) := ⟨ht.eq (a5_eq b)⟩; clear ht HT4)
    | (go_at_call 15; refine (s_restore HT5.out).mono ?_; rintro e w7 ⟨rfl, ht, _⟩; have HT6 : Aside0 (St w w7 g (A6 b)) := ⟨ht⟩; clear ht HT5)
    | (go_at_call 16; refine (s_names HT6.out (okA6 b) rfl).mono ?_; rintro e w8 ⟨⟨An, cn, rfl, hr⟩, hb, ht⟩; have HT7 := Aside0.mk ht; rw [show nm (A6 b).at_ = [⟨#[97]⟩] from nm1 _ _] at hr; obtain ⟨ad, e0, hx0⟩ := Kd.at_string (Kd.R_reads' hr).2.2 0 (by decide) (by decide); subst e0; rw [show rdOf ByteArray.empty [(⟨#[97]⟩ : ByteArray)] 0 = ⟨#[97]⟩ from rfl, show ad.add (Int.toNat 0) = ad from by cases ad; simp [Addr.add]] at hx0; rw [show nm (A6 b).at_ = [⟨#[97]⟩] from nm1 _ _]; clear ht hb hr HT6)
    | (go_at_call 20; refine (s_read HT7.out rfl tA (by decide) ⟨b, ⟨#[120, 121]⟩, 2⟩ (by simp [A6]) (lk1 _ _)).mono ?_; rintro e w9 ⟨rfl, rfl⟩)
    | (go_at_call 21; refine (s_steps HT7.out).mono ?_; rintro e w10 ⟨rfl, rfl⟩; rw [show (A6 b).steps = 4 from rfl]))
  go_ret
  exact ⟨rfl, HT7.out.2⟩
end Go.Proofs.Ytimcibifghidjaa.Fs
