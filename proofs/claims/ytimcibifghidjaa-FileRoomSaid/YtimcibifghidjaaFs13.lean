/- Used of a file system: the sum over a map. -/
import Derived.Test.YtimcibifghidjaaFs10
namespace Go.Proofs.Ytimcibifghidjaa.Fs
open Go Go.RowKit Go.Maps Go.Sort Go.Proofs.Ytimcibifghidjaa.PFil Go.Proofs.Ytimcibifghidjaa.FsM Go.Proofs.YtimcibifghidjaaW.PrintWords Go.Proofs.YtimcibifghidjaaW.PrintLast Go.Proofs.YtimcibifghidjaaW.PrintMore
set_option linter.unusedVariables false
set_option linter.unusedSimpArgs false
def szOf (l : List Bd) (p : K8 × Nat) : Nat := (fB l p.2).d.size
def sumL (l : List Bd) (d : Dir) : Nat := (d.map (szOf l)).sum
/-- What is still to come. -/
def rest (left : Lit → Bool) (d : Dir) : Dir := d.filter fun p => left (ky p.1)
theorem same_ky (a b : K8) : (ky a).sameKey (ky b) = decide (a = b) := by
  by_cases h : a = b <;> simp [Lit.sameKey, ky, h]
theorem rest_step (l : List Bd) {d : Dir} (hn : (d.map (·.1)).Nodup) {left : Lit → Bool} {k : K8} {b : Nat} (hk : lk d k = some b) (hl : left (ky k) = true) : sumL l (rest left d) = szOf l (k, b) + sumL l (rest (fun z => left z && !z.sameKey (ky k)) d) := by
  induction d with
  | nil => cases hk
  | cons p r ih =>
    rw [List.map_cons, List.nodup_cons] at hn
    rw [lk] at hk
    unfold rest
    rw [List.filter_cons, List.filter_cons]
    show sumL l (if left (ky p.1) = true then p :: r.filter (fun p => left (ky p.1)) else r.filter (fun p => left (ky p.1))) = szOf l (k, b) + sumL l (if (left (ky p.1) && !(ky p.1).sameKey (ky k)) = true then p :: r.filter (fun p => left (ky p.1) && !(ky p.1).sameKey (ky k)) else r.filter (fun p => left (ky p.1) && !(ky p.1).sameKey (ky k)))
    by_cases e : p.1 = k
    · rw [if_pos e] at hk
      obtain rfl := Option.some.inj hk
      have hp : p = (k, p.2) := by rw [← e]
      have h1 : left (ky p.1) = true := by rw [e]; exact hl
      have h2 : (left (ky p.1) && !(ky p.1).sameKey (ky k)) = false := by rw [same_ky, e]; simp
      rw [h2, h1]
      simp only [if_true, Bool.false_eq_true, if_false]
      have h3 : r.filter (fun p => left (ky p.1) && !(ky p.1).sameKey (ky k)) = r.filter (fun p => left (ky p.1)) := by
        refine List.filter_congr fun q hq => ?_
        have : q.1 ≠ k := fun e2 => hn.1 (by rw [e, ← e2]; exact List.mem_map.2 ⟨q, hq, rfl⟩)
        rw [same_ky]
        simp [this]
      rw [h3]
      show (List.map (szOf l) (p :: _)).sum = _
      rw [List.map_cons, List.sum_cons, ← hp]
      rfl
    · rw [if_neg e] at hk
      have ih2 := ih hn.2 hk
      have h2 : (left (ky p.1) && !(ky p.1).sameKey (ky k)) = left (ky p.1) := by rw [same_ky]; simp [e]
      rw [h2]
      cases left (ky p.1) with
      | true =>
        simp only [if_true]
        show (List.map (szOf l) (p :: _)).sum = _ + (List.map (szOf l) (p :: _)).sum
        rw [List.map_cons, List.sum_cons, List.map_cons, List.sum_cons]
        have : (List.map (szOf l) (List.filter (fun p => left (ky p.1)) r)).sum = szOf l (k, b) + (List.map (szOf l) (List.filter (fun p => left (ky p.1) && !(ky p.1).sameKey (ky k)) r)).sum := ih2
        omega
      | false =>
        simp only [Bool.false_eq_true, if_false]
        exact ih2
theorem rest_all {d : Dir} {D : DataW Unit} (h : View D d) : rest (Maps.has D) d = d := by
  refine List.filter_eq_self.2 fun p hp => ?_
  rw [h.has, lk_of_mem h.nd hp]
  rfl
theorem rest_none {d : Dir} {left : Lit → Bool} (h : ∀ kl, left kl = false) : rest left d = [] := by
  refine List.filter_eq_nil_iff.2 fun p _ => ?_
  simp [h]
theorem invK (key : Value) (kl : Lit) (h : keyOf Try.prog 9 key = some kl) : ∃ x : ByteArray, key = .string x := by
  cases key <;> simp [keyOf, Try.underlying9, mapKey] at h
  exact ⟨_, rfl⟩
theorem keyS_inv {x : ByteArray} {kl : Lit} (h : keyOf Try.prog 9 (.string x) = some kl) : kl = ky (bs x) := by
  simp [keyOf, Try.underlying9, mapKey] at h
  exact h.2.symm
theorem invV (v : Value) (y : DataW Unit × List MemPlace) (h : RB v = some y) : ∃ c : Option Nat, v = pO c := by
  unfold RB at h
  split at h
  · exact ⟨none, rfl⟩
  · rename_i b
    exact ⟨some b, rfl⟩
  · cases h
theorem entry_inv {D : DataW Unit} {d : Dir} {x : ByteArray} {c : Option Nat} {kl : Lit} {y : DataW Unit × List MemPlace} (hV : View D d) (hkey : keyOf Try.prog 9 (.string x) = some kl) (hs : ∀ k, kl = ky k → (lk d k).isSome = true) (hR : RB (pO c) = some y) (hat : ∀ zd, D.atKey kl zd = y.1) : ∃ b, kl = ky (bs x) ∧ lk d (bs x) = some b ∧ c = some b := by
  obtain rfl := keyS_inv hkey
  obtain ⟨b, hb⟩ := Option.isSome_iff_exists.1 (hs (bs x) rfl)
  have h1 := hat dN
  rw [hV.at_, hb] at h1
  obtain ⟨y1, y2⟩ := y
  simp only at h1
  subst h1
  have h2 := RB_inv hR
  refine ⟨b, rfl, hb, ?_⟩
  cases c with
  | none => simp [pO, pB] at h2
  | some m =>
    have : m = b := by simpa [pO, pB] using h2
    rw [this]
set_option maxHeartbeats 8000000 in
set_option maxRecDepth 100000 in
theorem used_calls {w0 w : World} {g : Nat} {S : Sy} (h : St w0 w g S) (hz : sumL S.bd S.at_ ≤ 140737488355328) :
    Calls Try.prog 22 #[.pointer (some ⟨g, 0, none⟩)] w fun e w' => e = .returned (.int .i64 (sumL S.bd S.at_ : Int)) ∧ Below w.heap.size w w' := by
  obtain ⟨⟨ma, ms, vp, hf⟩, hb0⟩ := h
  obtain ⟨_, _, _, _, _, _, _, c7, _⟩ := hf.cells
  obtain ⟨D, ho, hv⟩ := hf.oa
  have HO := Aside0.mk ho
  have HV := Aside0.mk hv
  have HBD := Aside0.mk hf.bd
  have HIA := Aside0.mk hf.ia
  clear ho hv hf hb0
  go_enter Try.func22, Try.ntmps22
  go_wp2_with (first | (at_range; refine wpList_range_own _ rfl _ 52 rfl 9 58 law Try.underlying52 RB ma _ D rfl HO.out ?_; intro w1 hrg hg1 hs1; have HRG := Aside0.mk hrg; have HG1 := Aside0.mk (hg1 : w.grownBy w1 none); clear hrg hg1 hs1))
  have HALL := Aside0.mk (rest_all HV.out)
  have HB1 : Aside0 (Below w.heap.size w w1) := ⟨Below.grown (Below.refl _ w) HG1.out (Nat.le_refl _) (by simp)⟩
  go_frame
  go_loopw [3] (fun v3 w' => ∃ (left : Lit → Bool) (cnt acc : Nat), v3 = .int .i64 acc ∧ Aside0 (w'.ranges Try.prog 9 RB ma w.heap.size S.at_.length D left cnt) ∧ Aside0 (∀ k, left (ky k) = true → (lk S.at_ k).isSome = true) ∧ Aside0 (acc + sumL S.bd (rest left S.at_) = sumL S.bd S.at_) ∧ Aside0 (Below w.heap.size w w')) (fun _ wr => wr.rangeLeft ma w.heap.size)
  case atStart => exact ⟨_, _, 0, rfl, HRG, ⟨fun k hk => by rw [← HV.out.has]; exact hk⟩, ⟨by rw [HALL.out, Nat.zero_add]⟩, HB1⟩
  case round =>
    obtain ⟨left, cnt, acc, rfl, HR, HL, HS, HB⟩ := hrel
    clear HRG HG1 HB1
    go_wp2_with (first | (at_next; refine wpList_next_ranges _ rfl _ rfl 9 law RB Value.string pO invK invV ma w.heap.size _ D left cnt rfl HR.out ?hD ?hM; (case' hD => intro hc0 hl0; have HD0 := Aside0.mk hl0; clear hl0 hc0); (case' hM => intro x c kl y w2 cnt2 hkey hlk hRB hat hrg2 hlt hg2 hs2 hen; obtain ⟨b, rfl, hlb, rfl⟩ := entry_inv HV.out hkey (fun k e => HL.out k (e ▸ hlk)) hRB hat; have HST := Aside0.mk (rest_step S.bd HV.out.nd hlb hlk); have HR2 := Aside0.mk hrg2; have HB2 := Aside0.mk (Below.grown HB.out hg2 HB.out.size (fun k hk => by cases hk; exact Nat.le_refl _)); simp only [show pO (some b) = Value.pointer (some ⟨b, 0, none⟩) from rfl] at hen ⊢; obtain ⟨hxm, hxb⟩ := fB_mem (HIA.out _ (lk_mem hlb)); have hbk := HBD.out _ hxm; rw [hxb] at hbk; have y0 : w2.cell? ⟨b, 0, none⟩ = some (.string (fB S.bd b).d) := (blk_cell ((HB2.out.block b (blk_lt hbk)).trans hbk) 0).trans rfl; have hsz : szOf S.bd (bs x, b) = (fB S.bd b).d.size := rfl; have hsum := HS.out; rw [HST.out, hsz] at hsum; have hwa : IntKind.i64.wrap ((acc : Int) + ((fB S.bd b).d.size : Int)) = ((acc + (fB S.bd b).d.size : Nat) : Int) := (by rw [IntKind.wrap_i64]; omega); have HSM := Aside0.mk hsum; clear hkey hRB hat hg2 hs2 hsum hsz hbk)))
    case roundEnd => exact ⟨⟨_, cnt2, acc + (fB S.bd b).d.size, by rw [Int.natCast_add], HR2, ⟨fun k hk => HL.out k (by simp only [Bool.and_eq_true] at hk; exact hk.1)⟩, ⟨by have := HSM.out; omega⟩, HB2⟩, by rw [HR2.out.left_eq, HR.out.left_eq]; exact hlt⟩
    have hfin : acc = sumL S.bd S.at_ := by
      have h1 := HS.out
      rw [rest_none HD0.out] at h1
      simpa [sumL] using h1
    rw [← hfin]
    go_ret
    exact ⟨rfl, HB.out⟩
end Go.Proofs.Ytimcibifghidjaa.Fs
