/- Texts of this claim, put together and cut down to what is used (BT6). -/
import Derived.Laws.Cover1
import Derived.Test.YtchgpcgolgcfdaaGreatMgBT4
import Derived.Test.YtchgpcgolgcfdaaGreatMgBT5
section
namespace Go.Proofs.YtchgpcgolgcfdaaGreat.PNum
open Go.RowKit Go.Proofs.YtchgpcgolgcfdaaGreatW.PrintWords Go.Proofs.YtchgpcgolgcfdaaGreatW.PrintLast Go.Proofs.YtchgpcgolgcfdaaGreatW.PrintMore
attribute [local go_sem] max2_int min2_int max_two min_two max_three min_three max_four min_four
set_option linter.unusedVariables false
set_option linter.unusedSimpArgs false
set_option maxRecDepth 100000
set_option maxHeartbeats 16000000
def IsS206 (w0 W : World) (g : Nat) (f0 : ByteArray) (f1 : Int) : Prop := W.heap[g]? = some (.cells #[.string f0, .int .i64 f1] 206 (0, 0)) ∧ w0.heap.size ≤ g
theorem IsS206.grown {w0 W : World} {g : Nat} {f0 : ByteArray} {f1 : Int} {W1 : World} {row : Option Nat} (h : IsS206 w0 W g f0 f1) (hw : W.grownBy W1 row) (hne : some g ≠ row) : IsS206 w0 W1 g f0 f1 := by
 obtain ⟨hb, hg⟩ := h
 exact ⟨blk_grown hb hw hne, hg⟩
theorem IsS206.kept {w0 W : World} {g : Nat} {f0 : ByteArray} {f1 : Int} {W1 : World} {S : Nat → Prop} (h : IsS206 w0 W g f0 f1) (hk : Kept W W1 S) (hne : ¬ S g) : IsS206 w0 W1 g f0 f1 := by
 obtain ⟨hb, hg⟩ := h
 exact ⟨blk_kept hb hk hne, hg⟩
theorem IsS206.below {w0 W : World} {g : Nat} {f0 : ByteArray} {f1 : Int} {W1 : World} (h : IsS206 w0 W g f0 f1) (hw : Below W.heap.size W W1) : IsS206 w0 W1 g f0 f1 := h.grown (grown_of_below hw none) (by simp)
theorem IsS206.alloc {w0 W : World} {g : Nat} {f0 : ByteArray} {f1 : Int} (h : IsS206 w0 W g f0 f1) (o : Obj) : IsS206 w0 (W.alloc o) g f0 f1 := h.below (below_alloc (Below.refl _ _) o)
theorem IsS206.drewN {w0 W : World} {g : Nat} {f0 : ByteArray} {f1 : Int} (h : IsS206 w0 W g f0 f1) (m : Nat) : IsS206 w0 (W.drewN m) g f0 f1 := h
theorem IsS206.drew {w0 W : World} {g : Nat} {f0 : ByteArray} {f1 : Int} (h : IsS206 w0 W g f0 f1) : IsS206 w0 W.drew g f0 f1 := h
theorem IsS206.at_ {w0 W : World} {g : Nat} {f0 : ByteArray} {f1 : Int} {w' : World} {m : Nat} (hq : W.drewN m = w') (h : IsS206 w0 W g f0 f1) : IsS206 w0 w' g f0 f1 := by subst hq; exact IsS206.drewN h m
theorem IsS206.apart {w0 W : World} {g : Nat} {f0 : ByteArray} {f1 : Int} {α : Type} {d : Kd α} {e : Nat} {base : Nat} {ok : Nat → Prop} {v : Value} {xs : List α} (h : IsS206 w0 W g f0 f1) (ho : d.R e W base ok v xs) (ht : ∀ q, q ∈ e :: d.E → q ≠ 206) : d.R e W base (fun k => ok k ∧ k ≠ g) v xs := by
 obtain ⟨hb, hg⟩ := h
 exact Kd.R_types ho hb ht
theorem IsS206.own_ne {w0 W : World} {g : Nat} {f0 : ByteArray} {f1 : Int} {α : Type} {d : Kd α} {e : Nat} {base : Nat} {ok : Nat → Prop} {v : Value} {xs : List α} (h : IsS206 w0 W g f0 f1) (ho : d.R e W base ok v xs) (ht : e ≠ 206) : some g ≠ v.ownBlock := by
 obtain ⟨hb, hg⟩ := h
 exact Kd.R_ne ho hb ht
theorem IsS206.lt {w0 W : World} {g : Nat} {f0 : ByteArray} {f1 : Int} (h : IsS206 w0 W g f0 f1) : g < W.heap.size := by
 obtain ⟨hb, hg⟩ := h
 exact blk_lt hb
theorem IsS206.ge {w0 W : World} {g : Nat} {f0 : ByteArray} {f1 : Int} (h : IsS206 w0 W g f0 f1) : w0.heap.size ≤ g := by
 obtain ⟨hb, hg⟩ := h
 exact hg
theorem IsS206.ne_blk {w0 W : World} {g : Nat} {f0 : ByteArray} {f1 : Int} {a : Nat} {cs : Array Value} {t : TypeId} {fr : Nat × Nat} (h : IsS206 w0 W g f0 f1) (hb2 : W.heap[a]? = some (.cells cs t fr)) (ht : t ≠ 206) : g ≠ a := by
 obtain ⟨hb, hg⟩ := h
 rintro rfl
 rw [hb] at hb2
 injection hb2 with hb2
 injection hb2 with _ ht2
 exact ht ht2.symm
theorem IsS206.far {w0 W : World} {g : Nat} {f0 : ByteArray} {f1 : Int} {p : Addr} (h : IsS206 w0 W g f0 f1) (hne : g ≠ p.block) (u : Value) : IsS206 w0 (W.setCell p u) g f0 f1 := by
 obtain ⟨hb, hg⟩ := h
 exact ⟨blk_far hb hne u, hg⟩
theorem cellS206_0 {W : World} {g : Nat} {f0 : ByteArray} {f1 : Int} (h : W.heap[g]? = some (.cells #[.string f0, .int .i64 f1] 206 (0, 0))) : W.cell? ⟨g, 0, none⟩ = some (.string f0) := (blk_cell h 0).trans rfl
theorem IsS206.set_0 {w0 W : World} {g : Nat} {f0 : ByteArray} {f1 : Int} (h : IsS206 w0 W g f0 f1) (x : ByteArray) : IsS206 w0 (W.setCell ⟨g, 0, none⟩ (.string x)) g x f1 := by
 obtain ⟨hb, hg⟩ := h
 exact ⟨by simpa using blk_set hb 0 (.string x), hg⟩
theorem cellS206_1 {W : World} {g : Nat} {f0 : ByteArray} {f1 : Int} (h : W.heap[g]? = some (.cells #[.string f0, .int .i64 f1] 206 (0, 0))) : W.cell? ⟨g, 1, none⟩ = some (.int .i64 f1) := (blk_cell h 1).trans rfl
theorem IsS206.set_1 {w0 W : World} {g : Nat} {f0 : ByteArray} {f1 : Int} (h : IsS206 w0 W g f0 f1) (x : Int) : IsS206 w0 (W.setCell ⟨g, 1, none⟩ (.int .i64 x)) g f0 x := by
 obtain ⟨hb, hg⟩ := h
 exact ⟨by simpa using blk_set hb 1 (.int .i64 x), hg⟩
theorem IsS206.new (w0 W : World) (f0 : ByteArray) (f1 : Int) (hB : Below w0.heap.size w0 W) : IsS206 w0 (W.alloc (.cells #[.string f0, .int .i64 f1] 206)) W.heap.size f0 f1 := ⟨by simpa using heap_alloc_new W _, hB.size⟩
def num_NewReader.f (a0 : ByteArray) : Option (ByteArray × Int) := (strings_Clone.f a0).bind fun t => some (t, 0)
theorem num_NewReader.calls (a0 : ByteArray) (r1 : ByteArray) (r2 : Int) (w0 w : World) (hB : Below w0.heap.size w0 w) (h : num_NewReader.f a0 = some (r1, r2)) :
  Calls Tryz.prog 49 #[.string a0] w fun e w' => ∃ g_ : Nat, e = .returned (.pointer (some ⟨g_, 0, none⟩)) ∧ IsS206 w0 w' g_ r1 r2 ∧ Below w0.heap.size w0 w' ∧ Below w.heap.size w w' := by
 obtain ⟨t, ht, h⟩ := Option.bind_eq_some_iff.1 h
 simp only [Option.some.injEq, Prod.mk.injEq] at h
 obtain ⟨rfl, rfl⟩ := h
 go_enter Tryz.func49, Tryz.ntmps49
 go_wp2_with (go_at_call 99; refine (strings_Clone.calls a0 t _ ht).mono ?_; rintro e w1 ⟨rfl, hb⟩)
 have hB1 : Below w0.heap.size w0 w1 := below_step hB hb
 go_ret
 exact ⟨_, rfl, IsS206.new w0 w1 t 0 hB1, below_alloc hB1 _, below_alloc hb _⟩
def num_Reader_Err.f (s0_0 : ByteArray) (s0_1 : Int) : Option (Int × ByteArray × Int) := some (s0_1, s0_0, s0_1)
theorem num_Reader_Err.calls (g : Nat) (s0_0 : ByteArray) (s0_1 : Int) (r1 : Int) (r2 : ByteArray) (r3 : Int) (w0 w : World) (hI : IsS206 w0 w g s0_0 s0_1) (hB : Below w0.heap.size w0 w) (h : num_Reader_Err.f s0_0 s0_1 = some (r1, r2, r3)) :
  Calls Tryz.prog 52 #[.pointer (some ⟨g, 0, none⟩)] w fun e w' => e = .returned (.int .i64 r1) ∧ IsS206 w0 w' g r2 r3 ∧ Below w0.heap.size w0 w' ∧ KeepBut w w' g none := by
 have HI0 := a_k hI
 have HK := a_k (KeepBut.refl w g none)
 have HL := a_k hB.size
 clear hI
 have HW0 := a_k hB.size
 have HB := a_k hB
 clear hB
 have H : (some (s0_1, s0_0, s0_1)) = some (r1, r2, r3) := h
 clear h
 simp only [Option.some.injEq, Prod.mk.injEq] at H
 obtain ⟨rfl, rfl, rfl⟩ := H
 obtain ⟨HGz2, hgz2⟩ := HI0.out
 have hcz2_0 := cellS206_0 HGz2
 have hcz2_1 := cellS206_1 HGz2
 have hfz2_0 := blk_frozen HGz2 0
 have hfz2_1 := blk_frozen HGz2 1
 clear HGz2 hgz2
 go_enter Tryz.func52, Tryz.ntmps52
 go_wp2
 go_ret
 exact ⟨by first | rfl | (simp [*, errW_none, errW_some] <;> rfl), by repeat (first | (with_reducible first | exact HI0.out | apply IsS206.alloc | apply IsS206.drewN | apply IsS206.drew | apply IsS206.set_0 | apply IsS206.set_1) | exact HI0.out), by repeat (first | (with_reducible first | exact HB.out | apply b_a | apply b_n | apply b_d | refine below_set ?_ (IsS206.ge HI0.out)) | exact HB.out), by repeat (first | (with_reducible first | exact HK.out | apply KeepBut.set_ | apply keep_drewN | apply keep_drew | apply keep_alloc) | exact HK.out)⟩
def num_Reader_Left.f (s0_0 : ByteArray) (s0_1 : Int) : Option (Int × ByteArray × Int) := some ((s0_0.size : Int), s0_0, s0_1)
theorem num_Reader_Left.calls (g : Nat) (s0_0 : ByteArray) (s0_1 : Int) (r1 : Int) (r2 : ByteArray) (r3 : Int) (w0 w : World) (hI : IsS206 w0 w g s0_0 s0_1) (hB : Below w0.heap.size w0 w) (h : num_Reader_Left.f s0_0 s0_1 = some (r1, r2, r3)) :
  Calls Tryz.prog 53 #[.pointer (some ⟨g, 0, none⟩)] w fun e w' => e = .returned (.int .i64 r1) ∧ IsS206 w0 w' g r2 r3 ∧ Below w0.heap.size w0 w' ∧ KeepBut w w' g none := by
 have HI0 := a_k hI
 have HK := a_k (KeepBut.refl w g none)
 have HL := a_k hB.size
 clear hI
 have HW0 := a_k hB.size
 have HB := a_k hB
 clear hB
 have H : (some ((s0_0.size : Int), s0_0, s0_1)) = some (r1, r2, r3) := h
 clear h
 simp only [Option.some.injEq, Prod.mk.injEq] at H
 obtain ⟨rfl, rfl, rfl⟩ := H
 obtain ⟨HGz2, hgz2⟩ := HI0.out
 have hcz2_0 := cellS206_0 HGz2
 have hcz2_1 := cellS206_1 HGz2
 have hfz2_0 := blk_frozen HGz2 0
 have hfz2_1 := blk_frozen HGz2 1
 clear HGz2 hgz2
 go_enter Tryz.func53, Tryz.ntmps53
 go_wp2
 go_ret
 exact ⟨by first | rfl | (simp [*, errW_none, errW_some] <;> rfl), by repeat (first | (with_reducible first | exact HI0.out | apply IsS206.alloc | apply IsS206.drewN | apply IsS206.drew | apply IsS206.set_0 | apply IsS206.set_1) | exact HI0.out), by repeat (first | (with_reducible first | exact HB.out | apply b_a | apply b_n | apply b_d | refine below_set ?_ (IsS206.ge HI0.out)) | exact HB.out), by repeat (first | (with_reducible first | exact HK.out | apply KeepBut.set_ | apply keep_drewN | apply keep_drew | apply keep_alloc) | exact HK.out)⟩
def num_Reader_off.f (s0_0 : ByteArray) (s0_1 : Int) : Option (Bool × ByteArray × Int) := some ((s0_1 != 0), s0_0, s0_1)
theorem num_Reader_off.calls (g : Nat) (s0_0 : ByteArray) (s0_1 : Int) (r1 : Bool) (r2 : ByteArray) (r3 : Int) (w0 w : World) (hI : IsS206 w0 w g s0_0 s0_1) (hB : Below w0.heap.size w0 w) (h : num_Reader_off.f s0_0 s0_1 = some (r1, r2, r3)) :
  Calls Tryz.prog 234 #[.pointer (some ⟨g, 0, none⟩)] w fun e w' => e = .returned (.bool r1) ∧ IsS206 w0 w' g r2 r3 ∧ Below w0.heap.size w0 w' ∧ KeepBut w w' g none := by
 have HI0 := a_k hI
 have HK := a_k (KeepBut.refl w g none)
 have HL := a_k hB.size
 clear hI
 have HW0 := a_k hB.size
 have HB := a_k hB
 clear hB
 have H : (some ((s0_1 != 0), s0_0, s0_1)) = some (r1, r2, r3) := h
 clear h
 simp only [Option.some.injEq, Prod.mk.injEq] at H
 obtain ⟨rfl, rfl, rfl⟩ := H
 obtain ⟨HGz2, hgz2⟩ := HI0.out
 have hcz2_0 := cellS206_0 HGz2
 have hcz2_1 := cellS206_1 HGz2
 have hfz2_0 := blk_frozen HGz2 0
 have hfz2_1 := blk_frozen HGz2 1
 clear HGz2 hgz2
 go_enter Tryz.func234, Tryz.ntmps234
 go_wp2
 go_ret
 exact ⟨by first | rfl | (simp [*, errW_none, errW_some] <;> rfl), by repeat (first | (with_reducible first | exact HI0.out | apply IsS206.alloc | apply IsS206.drewN | apply IsS206.drew | apply IsS206.set_0 | apply IsS206.set_1) | exact HI0.out), by repeat (first | (with_reducible first | exact HB.out | apply b_a | apply b_n | apply b_d | refine below_set ?_ (IsS206.ge HI0.out)) | exact HB.out), by repeat (first | (with_reducible first | exact HK.out | apply KeepBut.set_ | apply keep_drewN | apply keep_drew | apply keep_alloc) | exact HK.out)⟩
def num_Reader_take.f (s0_0 : ByteArray) (s0_1 : Int) (a1 : Int) : Option (ByteArray × ByteArray × Int) := (num_Reader_off.f s0_0 s0_1).bind fun bt311 => (if bt311.1 = true then (some ((⟨#[]⟩ : ByteArray), bt311.2.1, bt311.2.2)) else (if a1 > (bt311.2.1.size : Int) then (some ((⟨#[]⟩ : ByteArray), bt311.2.1, 5)) else (if 0 ≤ a1 then (if a1 ≤ (bt311.2.1.size : Int) then (some (bt311.2.1.extract 0 (a1 : Int).toNat, bt311.2.1.extract (a1 : Int).toNat bt311.2.1.size, bt311.2.2)) else (none)) else (none))))
theorem num_Reader_take.calls (g : Nat) (s0_0 : ByteArray) (s0_1 : Int) (a1 : Int) (r1 : ByteArray) (r2 : ByteArray) (r3 : Int) (w0 w : World) (hI : IsS206 w0 w g s0_0 s0_1) (hB : Below w0.heap.size w0 w) (h : num_Reader_take.f s0_0 s0_1 a1 = some (r1, r2, r3)) :
  Calls Tryz.prog 232 #[.pointer (some ⟨g, 0, none⟩), .int .i64 a1] w fun e w' => e = .returned (.string r1) ∧ IsS206 w0 w' g r2 r3 ∧ Below w0.heap.size w0 w' ∧ KeepBut w w' g none := by
 have HI0 := a_k hI
 have HK := a_k (KeepBut.refl w g none)
 have HL := a_k hB.size
 clear hI
 have HW0 := a_k hB.size
 have HB := a_k hB
 clear hB
 have H : ((num_Reader_off.f s0_0 s0_1).bind fun bt311 => (if bt311.1 = true then (some ((⟨#[]⟩ : ByteArray), bt311.2.1, bt311.2.2)) else (if a1 > (bt311.2.1.size : Int) then (some ((⟨#[]⟩ : ByteArray), bt311.2.1, 5)) else (if 0 ≤ a1 then (if a1 ≤ (bt311.2.1.size : Int) then (some (bt311.2.1.extract 0 (a1 : Int).toNat, bt311.2.1.extract (a1 : Int).toNat bt311.2.1.size, bt311.2.2)) else (none)) else (none))))) = some (r1, r2, r3) := h
 clear h
 replace H := Option.bind_eq_some_iff.mp H
 obtain ⟨⟨t311, t312, t313⟩, A30, H⟩ := H
 replace H : (if t311 = true then (some ((⟨#[]⟩ : ByteArray), t312, t313)) else (if a1 > (t312.size : Int) then (some ((⟨#[]⟩ : ByteArray), t312, 5)) else (if 0 ≤ a1 then (if a1 ≤ (t312.size : Int) then (some (t312.extract 0 (a1 : Int).toNat, t312.extract (a1 : Int).toNat t312.size, t313)) else (none)) else (none)))) = some (r1, r2, r3) := H
 have A3 := a_k A30
 clear A30
 by_cases c4 : t311 = true
 ·subst c4
  have H1 : (some ((⟨#[]⟩ : ByteArray), t312, t313)) = some (r1, r2, r3) := by rw [if_pos rfl] at H; exact H
  clear H
  have H := H1
  clear H1
  simp only [Option.some.injEq, Prod.mk.injEq] at H
  obtain ⟨rfl, rfl, rfl⟩ := H
  go_enter Tryz.func232, Tryz.ntmps232
  go_wp2_with (first | ((with_reducible refine gate_callee (f := 234) rfl ?_); refine goesL_ (some 7) rfl rfl Tryz.func234 (by kernel_rfl) rfl #[.pointer (some ⟨g, 0, none⟩)] rfl (by (try simp only [m_a, m_c, m_n]); first | done | rfl | (simp only [List.length_drop, List.length_take]; rfl)) ?_; (with_reducible refine (num_Reader_off.calls g s0_0 s0_1 true t312 t313 w0 _ ?side1 ?side2 A3.out).mono ?_); (case side1 => repeat (first | (with_reducible first | exact HI0.out | apply IsS206.alloc | apply IsS206.drewN | apply IsS206.drew | apply IsS206.set_0 | apply IsS206.set_1) | exact HI0.out)); (case side2 => repeat (first | (with_reducible first | exact HB.out | apply b_a | apply b_n | apply b_d | refine below_set ?_ (IsS206.ge HI0.out)) | exact HB.out)); rintro e w5 ⟨rfl, hi, hb, hk⟩; refine ⟨_, rfl, ?_⟩; have n0_ := a_k (KeepBut.trans (by repeat (first | (with_reducible first | exact HK.out | apply KeepBut.set_ | apply keep_drewN | apply keep_drew | apply keep_alloc) | exact HK.out)) hk (.inl rfl)); have n1_ := a_k (hb); have n2_ := a_k (hi); clear HK; clear HB; clear HI0; have HK := n0_; have HB := n1_; have HI0 := n2_; clear n0_ n1_ n2_; (try clear hb); (try clear hb2); (try clear hk); (try clear hi)))
  go_ret
  exact ⟨by first | rfl | (simp [*, errW_none, errW_some] <;> rfl), by repeat (first | (with_reducible first | exact HI0.out | apply IsS206.alloc | apply IsS206.drewN | apply IsS206.drew | apply IsS206.set_0 | apply IsS206.set_1) | exact HI0.out), by repeat (first | (with_reducible first | exact HB.out | apply b_a | apply b_n | apply b_d | refine below_set ?_ (IsS206.ge HI0.out)) | exact HB.out), by repeat (first | (with_reducible first | exact HK.out | apply KeepBut.set_ | apply keep_drewN | apply keep_drew | apply keep_alloc) | exact HK.out)⟩
 ·replace c4 := Bool.eq_false_iff.mpr c4
  subst c4
  have H1 : (if a1 > (t312.size : Int) then (some ((⟨#[]⟩ : ByteArray), t312, 5)) else (if 0 ≤ a1 then (if a1 ≤ (t312.size : Int) then (some (t312.extract 0 (a1 : Int).toNat, t312.extract (a1 : Int).toNat t312.size, t313)) else (none)) else (none))) = some (r1, r2, r3) := by rw [if_neg (show ¬ (false = true) by decide)] at H; exact H
  clear H
  have H := H1
  clear H1
  by_cases c6 : a1 > (t312.size : Int)
  ·rw [if_pos c6] at H
   have c6b0 : decide ((t312.size : Int) < a1) = true := decide_eq_true c6
   clear c6
   simp only [Option.some.injEq, Prod.mk.injEq] at H
   obtain ⟨rfl, rfl, rfl⟩ := H
   go_enter Tryz.func232, Tryz.ntmps232
   go_wp2_with (first | ((with_reducible refine gate_callee (f := 234) rfl ?_); refine goesL_ (some 7) rfl rfl Tryz.func234 (by kernel_rfl) rfl #[.pointer (some ⟨g, 0, none⟩)] rfl (by (try simp only [m_a, m_c, m_n]); first | done | rfl | (simp only [List.length_drop, List.length_take]; rfl)) ?_; (with_reducible refine (num_Reader_off.calls g s0_0 s0_1 false t312 t313 w0 _ ?side1 ?side2 A3.out).mono ?_); (case side1 => repeat (first | (with_reducible first | exact HI0.out | apply IsS206.alloc | apply IsS206.drewN | apply IsS206.drew | apply IsS206.set_0 | apply IsS206.set_1) | exact HI0.out)); (case side2 => repeat (first | (with_reducible first | exact HB.out | apply b_a | apply b_n | apply b_d | refine below_set ?_ (IsS206.ge HI0.out)) | exact HB.out)); rintro e w7 ⟨rfl, hi, hb, hk⟩; refine ⟨_, rfl, ?_⟩; have n0_ := a_k (KeepBut.trans (by repeat (first | (with_reducible first | exact HK.out | apply KeepBut.set_ | apply keep_drewN | apply keep_drew | apply keep_alloc) | exact HK.out)) hk (.inl rfl)); have n1_ := a_k (hb); have n2_ := a_k (hi); clear HK; clear HB; clear HI0; have HK := n0_; have HB := n1_; have HI0 := n2_; clear n0_ n1_ n2_; (try clear hb); (try clear hb2); (try clear hk); (try clear hi); obtain ⟨HGz8, hgz8⟩ := HI0.out; have hcz8_0 := cellS206_0 HGz8; have hcz8_1 := cellS206_1 HGz8; have hfz8_0 := blk_frozen HGz8 0; have hfz8_1 := blk_frozen HGz8 1; clear HGz8 hgz8))
   go_ret
   exact ⟨by first | rfl | (simp [*, errW_none, errW_some] <;> rfl), by repeat (first | (with_reducible first | exact HI0.out | apply IsS206.alloc | apply IsS206.drewN | apply IsS206.drew | apply IsS206.set_0 | apply IsS206.set_1) | exact HI0.out), by repeat (first | (with_reducible first | exact HB.out | apply b_a | apply b_n | apply b_d | refine below_set ?_ (IsS206.ge HI0.out)) | exact HB.out), by repeat (first | (with_reducible first | exact HK.out | apply KeepBut.set_ | apply keep_drewN | apply keep_drew | apply keep_alloc) | exact HK.out)⟩
  ·rw [if_neg c6] at H
   have c6b0 : decide ((t312.size : Int) < a1) = false := decide_eq_false c6
   clear c6
   by_cases c9 : 0 ≤ a1
   ·rw [if_pos c9] at H
    have c9b0 := eq_true c9
    have c9b1 : decide (0 ≤ a1) = true := decide_eq_true c9
    clear c9
    by_cases c10 : a1 ≤ (t312.size : Int)
    ·rw [if_pos c10] at H
     have c10b0 := eq_true c10
     have c10b1 : decide (a1 ≤ (t312.size : Int)) = true := decide_eq_true c10
     clear c10
     have c11b0 := eq_true (of_decide_eq_true (by assumption) : 0 ≤ a1)
     have c12b0 := eq_true (of_decide_eq_true (by assumption) : a1 ≤ (t312.size : Int))
     simp only [Option.some.injEq, Prod.mk.injEq] at H
     obtain ⟨rfl, rfl, rfl⟩ := H
     go_enter Tryz.func232, Tryz.ntmps232
     go_wp2_with (first | ((with_reducible refine gate_callee (f := 234) rfl ?_); refine goesL_ (some 7) rfl rfl Tryz.func234 (by kernel_rfl) rfl #[.pointer (some ⟨g, 0, none⟩)] rfl (by (try simp only [m_a, m_c, m_n]); first | done | rfl) ?_; (with_reducible refine (num_Reader_off.calls g s0_0 s0_1 false t312 t313 w0 _ ?side1 ?side2 A3.out).mono ?_); (case side1 => repeat (first | (with_reducible first | exact HI0.out | apply IsS206.alloc | apply IsS206.drewN | apply IsS206.drew | apply IsS206.set_0 | apply IsS206.set_1) | exact HI0.out)); (case side2 => repeat (first | (with_reducible first | exact HB.out | apply b_a | apply b_n | apply b_d | refine below_set ?_ (IsS206.ge HI0.out)) | exact HB.out)); rintro e w13 ⟨rfl, hi, hb, hk⟩; refine ⟨_, rfl, ?_⟩; have n0_ := a_k (KeepBut.trans (by repeat (first | (with_reducible first | exact HK.out | apply KeepBut.set_ | apply keep_drewN | apply keep_drew | apply keep_alloc) | exact HK.out)) hk (.inl rfl)); have n1_ := a_k (hb); have n2_ := a_k (hi); clear HK; clear HB; clear HI0; have HK := n0_; have HB := n1_; have HI0 := n2_; clear n0_ n1_ n2_; (try clear hb); (try clear hb2); (try clear hk); (try clear hi); obtain ⟨HGz14, hgz14⟩ := HI0.out; have hcz14_0 := cellS206_0 HGz14; have hcz14_1 := cellS206_1 HGz14; have hfz14_0 := blk_frozen HGz14 0; have hfz14_1 := blk_frozen HGz14 1; clear HGz14 hgz14))
     go_ret
     exact ⟨by first | rfl | (simp [*, errW_none, errW_some] <;> rfl), by repeat (first | (with_reducible first | exact HI0.out | apply IsS206.alloc | apply IsS206.drewN | apply IsS206.drew | apply IsS206.set_0 | apply IsS206.set_1) | exact HI0.out), by repeat (first | (with_reducible first | exact HB.out | apply b_a | apply b_n | apply b_d | refine below_set ?_ (IsS206.ge HI0.out)) | exact HB.out), by repeat (first | (with_reducible first | exact HK.out | apply KeepBut.set_ | apply keep_drewN | apply keep_drew | apply keep_alloc) | exact HK.out)⟩
    ·rw [if_neg c10] at H
     exact absurd H (by simp)
   ·rw [if_neg c9] at H
    exact absurd H (by simp)
mutual
def num_number.l0 : Nat → ByteArray → Int → Int → Option (Int × ByteArray × Int)
 | 0, _, _, _ => none
 | k + 1, x0, x5, x6 => if x6 ≥ (x0.size : Int) then (some (0, (⟨#[]⟩ : ByteArray), 5)) else (if 0 ≤ x6 then (if x6 < (x0.size : Int) then (if x6 = 9 then (num_number.j1 k x0 x5 x6 (bt x0 x6) (decide ((bt x0 x6) > 1))) else (num_number.j1 k x0 x5 x6 (bt x0 x6) false)) else (none)) else (none))
def num_number.j1 : Nat → ByteArray → Int → Int → Int → Bool → Option (Int × ByteArray × Int)
 | 0, _, _, _, _, _ => none
 | k + 1, x0, x5, x6, x7, x22 => if x22 = true then (some (0, (⟨#[]⟩ : ByteArray), 4)) else (if 0 ≤ (wrap64 (7 * x6)) then (if (Go.bits .and .u8 x7 128) = 0 then (if x7 = 0 then (if x6 > 0 then (some (0, (⟨#[]⟩ : ByteArray), 4)) else (if 0 ≤ (wrap64 (x6 + 1)) then (if (wrap64 (x6 + 1)) ≤ (x0.size : Int) then (some (Go.bits .or .u64 x5 (shl .u64 (IntKind.u64.wrap (Go.bits .and .u8 x7 127)) (wrap64 (7 * x6))), x0.extract ((wrap64 (x6 + 1)) : Int).toNat x0.size, 0)) else (none)) else (none))) else (if 0 ≤ (wrap64 (x6 + 1)) then (if (wrap64 (x6 + 1)) ≤ (x0.size : Int) then (some (Go.bits .or .u64 x5 (shl .u64 (IntKind.u64.wrap (Go.bits .and .u8 x7 127)) (wrap64 (7 * x6))), x0.extract ((wrap64 (x6 + 1)) : Int).toNat x0.size, 0)) else (none)) else (none))) else (num_number.l0 k x0 (Go.bits .or .u64 x5 (shl .u64 (IntKind.u64.wrap (Go.bits .and .u8 x7 127)) (wrap64 (7 * x6)))) (wrap64 (x6 + 1)))) else (none))
end
def num_number.f (k : Nat) (a0 : ByteArray) : Option (Int × ByteArray × Int) := num_number.l0 k a0 0 0
theorem num_number.calls (k : Nat) (a0 : ByteArray) (r1 : Int) (r2 : ByteArray) (r3 : Int) (w : World) (h : num_number.f k a0 = some (r1, r2, r3)) :
  Calls Tryz.prog 235 #[.string a0] w fun e w' => e = .returned (.tuple #[.int .u64 r1, .string r2, .int .i64 r3]) ∧ Drawn0 w w' := by
 have H : (num_number.l0 k a0 0 0) = some (r1, r2, r3) := h
 clear h
 have H' := a_k H
 clear H
 go_enter Tryz.func235, Tryz.ntmps235
 go_wp2
 repeat (go_quiet (fail); try go_wp2)
 go_loopg [5, 6] k (fun kq v5 v6 w' => ∃ (x5_1 : Int) (x6_1 : Int), v5 = .int .u64 x5_1 ∧ v6 = .int .i64 x6_1 ∧ Aside0 (num_number.l0 kq a0 x5_1 x6_1 = some (r1, r2, r3)) ∧ Aside0 (kq ≤ k) ∧ Drawn0 w w')
 case atStart => exact ⟨(0), (0), (by first | rfl | (simp; done) | (simp [*]; done)), (by first | rfl | (simp; done) | (simp [*]; done)), H', ⟨Nat.le_refl _⟩, by repeat (first | exact Drawn0.refl _ | apply Drawn0.step)⟩
 case round =>
  clear H'
  obtain ⟨x5_1, x6_1, rfl, rfl, HA, HK1, ⟨m1, rfl⟩⟩ := hrel
  cases gk with
  | zero => exact absurd HA.out (by simp [num_number.l0])
  | succ k1 =>
   have H := HA.out
   clear HA
   simp only [num_number.l0] at H
   by_cases c2 : x6_1 ≥ (a0.size : Int)
   ·rw [if_pos c2] at H
    have c2b0 : decide ((a0.size : Int) ≤ x6_1) = true := decide_eq_true c2
    clear c2
    simp only [Option.some.injEq, Prod.mk.injEq] at H
    obtain ⟨rfl, rfl, rfl⟩ := H
    go_wp2
    repeat (go_quiet (fail); try go_wp2)
    go_ret3
    exact ⟨by first | rfl | (simp; done) | (simp [*]; done), by repeat (first | exact Drawn0.refl _ | apply Drawn0.step)⟩
   ·rw [if_neg c2] at H
    have c2b0 : decide ((a0.size : Int) ≤ x6_1) = false := decide_eq_false c2
    clear c2
    by_cases c3 : 0 ≤ x6_1
    ·rw [if_pos c3] at H
     have c3b0 : decide (0 ≤ x6_1) = true := decide_eq_true c3
     clear c3
     by_cases c4 : x6_1 < (a0.size : Int)
     ·rw [if_pos c4] at H
      have c4b0 : decide (x6_1 < (a0.size : Int)) = true := decide_eq_true c4
      clear c4
      have HC6 := a_k H
      clear H
      have p5 : 0 ≤ (x6_1 : Int) := of_decide_eq_true (by assumption)
      have q5 : x6_1 < (a0.size : Int) := of_decide_eq_true (by assumption)
      have hx5 := bt_at a0 x6_1
      replace p5 := eq_true p5
      replace q5 := eq_true q5
      go_upto_region 7 with (fail)
      repeat (go_quiet (fail); go_upto_region 7 with (fail))
      go_cut [22] (fun v22 wc => ∃ (kq : Nat) (x22_5 : Bool), v22 = .bool x22_5 ∧ Aside0 (num_number.j1 kq a0 x5_1 x6_1 (bt a0 x6_1) x22_5 = some (r1, r2, r3)) ∧ Aside0 (kq ≤ k1) ∧ Drawn0 w wc)
      case first =>
       have H := HC6.out
       clear HC6
       by_cases c7 : x6_1 = 9
       ·rw [if_pos c7] at H
        have c7b0 : (x6_1 == 9) = true := beq_iff_eq.mpr c7
        have c7b1 : (x6_1 != 9) = false := bne_eq_false_iff_eq.mpr c7
        clear c7
        (first | rw [c7b0] | (simp only [i64_w, i32_w]; rw [c7b0]) | skip)
        have H' := a_k H
        clear H
        go_wp2
        repeat (go_quiet (fail); try go_wp2)
        go_meet
        case rel => exact ⟨_, (decide ((bt a0 x6_1) > 1)), (by first | rfl | (simp; done) | (simp [*]; done)), H', ⟨by have := HK1.out; first | omega | exact Nat.le_refl _⟩, by repeat (first | exact Drawn0.refl _ | apply Drawn0.step)⟩
       ·rw [if_neg c7] at H
        have c7b0 : (x6_1 == 9) = false := beq_eq_false_iff_ne.mpr c7
        have c7b1 : (x6_1 != 9) = true := bne_iff_ne.mpr c7
        (first | rw [c7b0] | (simp only [i64_w, i32_w]; rw [c7b0]) | skip)
        have H' := a_k H
        clear H
        go_wp2
        repeat (go_quiet (fail); try go_wp2)
        go_meet
        case rel => exact ⟨_, (false), (by first | rfl | (simp; done) | (simp [*]; done)), H', ⟨by have := HK1.out; first | omega | exact Nat.le_refl _⟩, by repeat (first | exact Drawn0.refl _ | apply Drawn0.step)⟩
      case rest =>
       clear HC6
       try clear c2
       try clear c2b0
       try clear p2
       try clear c3
       try clear c3b0
       try clear c4
       try clear c4b0
       try clear p5
       try clear q5
       try clear hx5
       try clear c7
       try clear c7b0
       try clear c7b1
       try clear p5
       try clear q5
       obtain ⟨kq, x22_5, rfl, HA, HJ5, ⟨mc5, rfl⟩⟩ := hcut
       cases kq with
       | zero => exact absurd HA.out (by simp [num_number.j1])
       | succ kj5 =>
        have H := HA.out
        clear HA
        simp only [num_number.j1] at H
        by_cases c8 : x22_5 = true
        ·subst c8
         have H1 : (some (0, (⟨#[]⟩ : ByteArray), 4)) = some (r1, r2, r3) := by rw [if_pos rfl] at H; exact H
         clear H
         have H := H1
         clear H1
         simp only [Option.some.injEq, Prod.mk.injEq] at H
         obtain ⟨rfl, rfl, rfl⟩ := H
         go_wp2
         repeat (go_quiet (fail); try go_wp2)
         go_ret3
         exact ⟨by first | rfl | (simp; done) | (simp [*]; done), by repeat (first | exact Drawn0.refl _ | apply Drawn0.step)⟩
        ·replace c8 := Bool.eq_false_iff.mpr c8
         subst c8
         have H1 : (if 0 ≤ (wrap64 (7 * x6_1)) then (if (Go.bits .and .u8 (bt a0 x6_1) 128) = 0 then (if (bt a0 x6_1) = 0 then (if x6_1 > 0 then (some (0, (⟨#[]⟩ : ByteArray), 4)) else (if 0 ≤ (wrap64 (x6_1 + 1)) then (if (wrap64 (x6_1 + 1)) ≤ (a0.size : Int) then (some (Go.bits .or .u64 x5_1 (shl .u64 (IntKind.u64.wrap (Go.bits .and .u8 (bt a0 x6_1) 127)) (wrap64 (7 * x6_1))), a0.extract ((wrap64 (x6_1 + 1)) : Int).toNat a0.size, 0)) else (none)) else (none))) else (if 0 ≤ (wrap64 (x6_1 + 1)) then (if (wrap64 (x6_1 + 1)) ≤ (a0.size : Int) then (some (Go.bits .or .u64 x5_1 (shl .u64 (IntKind.u64.wrap (Go.bits .and .u8 (bt a0 x6_1) 127)) (wrap64 (7 * x6_1))), a0.extract ((wrap64 (x6_1 + 1)) : Int).toNat a0.size, 0)) else (none)) else (none))) else (num_number.l0 kj5 a0 (Go.bits .or .u64 x5_1 (shl .u64 (IntKind.u64.wrap (Go.bits .and .u8 (bt a0 x6_1) 127)) (wrap64 (7 * x6_1)))) (wrap64 (x6_1 + 1)))) else (none)) = some (r1, r2, r3) := by rw [if_neg (show ¬ (false = true) by decide)] at H; exact H
         clear H
         have H := H1
         clear H1
         obtain ⟨ji9, hji9⟩ : ∃ j_ : Int, (wrap64 (7 * x6_1)) = j_ := ⟨_, rfl⟩
         replace H : (if 0 ≤ (ji9) then (if (Go.bits .and .u8 (bt a0 x6_1) 128) = 0 then (if (bt a0 x6_1) = 0 then (if x6_1 > 0 then (some (0, (⟨#[]⟩ : ByteArray), 4)) else (if 0 ≤ (wrap64 (x6_1 + 1)) then (if (wrap64 (x6_1 + 1)) ≤ (a0.size : Int) then (some (Go.bits .or .u64 x5_1 (shl .u64 (IntKind.u64.wrap (Go.bits .and .u8 (bt a0 x6_1) 127)) (ji9)), a0.extract ((wrap64 (x6_1 + 1)) : Int).toNat a0.size, 0)) else (none)) else (none))) else (if 0 ≤ (wrap64 (x6_1 + 1)) then (if (wrap64 (x6_1 + 1)) ≤ (a0.size : Int) then (some (Go.bits .or .u64 x5_1 (shl .u64 (IntKind.u64.wrap (Go.bits .and .u8 (bt a0 x6_1) 127)) (ji9)), a0.extract ((wrap64 (x6_1 + 1)) : Int).toNat a0.size, 0)) else (none)) else (none))) else (num_number.l0 kj5 a0 (Go.bits .or .u64 x5_1 (shl .u64 (IntKind.u64.wrap (Go.bits .and .u8 (bt a0 x6_1) 127)) (ji9))) (wrap64 (x6_1 + 1)))) else (none)) = some (r1, r2, r3) := by first | (rw [hji9] at H; exact H) | (simp only [hji9] at H ⊢; exact H)
         have hji9w : (IntKind.i64.wrap (7 * x6_1)) = ji9 := (i64_w _).trans hji9
         by_cases c10 : 0 ≤ (ji9)
         ·rw [if_pos c10] at H
          have c10b0 := eq_true c10
          have c10b1 : decide (0 ≤ (ji9)) = true := decide_eq_true c10
          clear c10
          obtain ⟨ji11, hji11⟩ : ∃ j_ : Int, (shl .u64 (IntKind.u64.wrap (Go.bits .and .u8 (bt a0 x6_1) 127)) (ji9)) = j_ := ⟨_, rfl⟩
          replace H : (if (Go.bits .and .u8 (bt a0 x6_1) 128) = 0 then (if (bt a0 x6_1) = 0 then (if x6_1 > 0 then (some (0, (⟨#[]⟩ : ByteArray), 4)) else (if 0 ≤ (wrap64 (x6_1 + 1)) then (if (wrap64 (x6_1 + 1)) ≤ (a0.size : Int) then (some (Go.bits .or .u64 x5_1 (ji11), a0.extract ((wrap64 (x6_1 + 1)) : Int).toNat a0.size, 0)) else (none)) else (none))) else (if 0 ≤ (wrap64 (x6_1 + 1)) then (if (wrap64 (x6_1 + 1)) ≤ (a0.size : Int) then (some (Go.bits .or .u64 x5_1 (ji11), a0.extract ((wrap64 (x6_1 + 1)) : Int).toNat a0.size, 0)) else (none)) else (none))) else (num_number.l0 kj5 a0 (Go.bits .or .u64 x5_1 (ji11)) (wrap64 (x6_1 + 1)))) = some (r1, r2, r3) := by first | (rw [hji11] at H; exact H) | (simp only [hji11] at H ⊢; exact H)
          have hji11_ : (IntKind.u64.wrap ((IntKind.u64.wrap (Go.bits .and .u8 (bt a0 x6_1) 127)) * 2 ^ min (ji9).toNat 64)) = ji11 := hji11
          have hji11z : (ji9) ≤ 64 → (IntKind.u64.wrap ((IntKind.u64.wrap (Go.bits .and .u8 (bt a0 x6_1) 127)) * 2 ^ (ji9).toNat)) = ji11 := shl_small hji11
          by_cases c12 : (Go.bits .and .u8 (bt a0 x6_1) 128) = 0
          ·rw [if_pos c12] at H
           have c12b0 : ((Go.bits .and .u8 (bt a0 x6_1) 128) == 0) = true := beq_iff_eq.mpr c12
           have c12b1 : ((Go.bits .and .u8 (bt a0 x6_1) 128) != 0) = false := bne_eq_false_iff_eq.mpr c12
           clear c12
           by_cases c13 : (bt a0 x6_1) = 0
           ·rw [if_pos c13] at H
            have c13b0 : ((bt a0 x6_1) == 0) = true := beq_iff_eq.mpr c13
            have c13b1 : ((bt a0 x6_1) != 0) = false := bne_eq_false_iff_eq.mpr c13
            clear c13
            by_cases c14 : x6_1 > 0
            ·rw [if_pos c14] at H
             have c14b0 : decide (0 < x6_1) = true := decide_eq_true c14
             clear c14
             simp only [Option.some.injEq, Prod.mk.injEq] at H
             obtain ⟨rfl, rfl, rfl⟩ := H
             go_wp2
             repeat (go_quiet (fail); try go_wp2)
             go_ret3
             exact ⟨by first | rfl | (simp; done) | (simp only [← hji9, ← hji11] <;> (first | rfl | simp)) | (simp [*]; done), by repeat (first | exact Drawn0.refl _ | apply Drawn0.step)⟩
            ·rw [if_neg c14] at H
             have c14b0 : decide (0 < x6_1) = false := decide_eq_false c14
             clear c14
             obtain ⟨ji15, hji15⟩ : ∃ j_ : Int, (wrap64 (x6_1 + 1)) = j_ := ⟨_, rfl⟩
             replace H : (if 0 ≤ (ji15) then (if (ji15) ≤ (a0.size : Int) then (some (Go.bits .or .u64 x5_1 (ji11), a0.extract ((ji15) : Int).toNat a0.size, 0)) else (none)) else (none)) = some (r1, r2, r3) := by first | (rw [hji15] at H; exact H) | (simp only [hji15] at H ⊢; exact H)
             have hji15w : (IntKind.i64.wrap (x6_1 + 1)) = ji15 := (i64_w _).trans hji15
             by_cases c16 : 0 ≤ (ji15)
             ·rw [if_pos c16] at H
              have c16b0 := eq_true c16
              have c16b1 : decide (0 ≤ (ji15)) = true := decide_eq_true c16
              clear c16
              by_cases c17 : (ji15) ≤ (a0.size : Int)
              ·rw [if_pos c17] at H
               have c17b0 := eq_true c17
               have c17b1 : decide ((ji15) ≤ (a0.size : Int)) = true := decide_eq_true c17
               clear c17
               simp only [Option.some.injEq, Prod.mk.injEq] at H
               obtain ⟨rfl, rfl, rfl⟩ := H
               go_wp2
               repeat (go_quiet (fail); try go_wp2)
               go_ret3
               exact ⟨by first | rfl | (simp; done) | (simp only [← hji9, ← hji11, ← hji15] <;> (first | rfl | simp)) | (simp [*]; done), by repeat (first | exact Drawn0.refl _ | apply Drawn0.step)⟩
              ·rw [if_neg c17] at H
               exact absurd H (by simp)
             ·rw [if_neg c16] at H
              exact absurd H (by simp)
           ·rw [if_neg c13] at H
            have c13b0 : ((bt a0 x6_1) == 0) = false := beq_eq_false_iff_ne.mpr c13
            have c13b1 : ((bt a0 x6_1) != 0) = true := bne_iff_ne.mpr c13
            obtain ⟨ji18, hji18⟩ : ∃ j_ : Int, (wrap64 (x6_1 + 1)) = j_ := ⟨_, rfl⟩
            replace H : (if 0 ≤ (ji18) then (if (ji18) ≤ (a0.size : Int) then (some (Go.bits .or .u64 x5_1 (ji11), a0.extract ((ji18) : Int).toNat a0.size, 0)) else (none)) else (none)) = some (r1, r2, r3) := by first | (rw [hji18] at H; exact H) | (simp only [hji18] at H ⊢; exact H)
            have hji18w : (IntKind.i64.wrap (x6_1 + 1)) = ji18 := (i64_w _).trans hji18
            by_cases c19 : 0 ≤ (ji18)
            ·rw [if_pos c19] at H
             have c19b0 := eq_true c19
             have c19b1 : decide (0 ≤ (ji18)) = true := decide_eq_true c19
             clear c19
             by_cases c20 : (ji18) ≤ (a0.size : Int)
             ·rw [if_pos c20] at H
              have c20b0 := eq_true c20
              have c20b1 : decide ((ji18) ≤ (a0.size : Int)) = true := decide_eq_true c20
              clear c20
              simp only [Option.some.injEq, Prod.mk.injEq] at H
              obtain ⟨rfl, rfl, rfl⟩ := H
              go_wp2
              repeat (go_quiet (fail); try go_wp2)
              go_ret3
              exact ⟨by first | rfl | (simp; done) | (simp only [← hji9, ← hji11, ← hji18] <;> (first | rfl | simp)) | (simp [*]; done), by repeat (first | exact Drawn0.refl _ | apply Drawn0.step)⟩
             ·rw [if_neg c20] at H
              exact absurd H (by simp)
            ·rw [if_neg c19] at H
             exact absurd H (by simp)
          ·rw [if_neg c12] at H
           have c12b0 : ((Go.bits .and .u8 (bt a0 x6_1) 128) == 0) = false := beq_eq_false_iff_ne.mpr c12
           have c12b1 : ((Go.bits .and .u8 (bt a0 x6_1) 128) != 0) = true := bne_iff_ne.mpr c12
           have H' := a_k H
           clear H
           go_wp2
           repeat (go_quiet (fail); try go_wp2)
           go_roundg kj5
           case measure => have := HK1.out; have := HJ5.out; omega
           case rel => exact ⟨(Go.bits .or .u64 x5_1 (ji11)), (wrap64 (x6_1 + 1)), (by first | rfl | (simp; done) | (simp only [← hji11] <;> (first | rfl | simp)) | (simp [*]; done)), (by first | rfl | (simp; done) | (simp [*]; done)), H', ⟨by have := HK1.out; have := HJ5.out; omega⟩, by repeat (first | exact Drawn0.refl _ | apply Drawn0.step)⟩
         ·rw [if_neg c10] at H
          exact absurd H (by simp)
     ·rw [if_neg c4] at H
      exact absurd H (by simp)
    ·rw [if_neg c3] at H
     exact absurd H (by simp)
def num_Reader_Var.f (k : Nat) (s0_0 : ByteArray) (s0_1 : Int) : Option (Int × ByteArray × Int) := (num_Reader_off.f s0_0 s0_1).bind fun bt314 => (if bt314.1 = true then (some (0, bt314.2.1, bt314.2.2)) else ((num_number.f k bt314.2.1).bind fun bt317 => (if bt317.2.2 = 0 then (some (bt317.1, bt317.2.1, bt314.2.2)) else (some (0, bt314.2.1, bt317.2.2)))))
theorem num_Reader_Var.calls (k : Nat) (g : Nat) (s0_0 : ByteArray) (s0_1 : Int) (r1 : Int) (r2 : ByteArray) (r3 : Int) (w0 w : World) (hI : IsS206 w0 w g s0_0 s0_1) (hB : Below w0.heap.size w0 w) (h : num_Reader_Var.f k s0_0 s0_1 = some (r1, r2, r3)) :
  Calls Tryz.prog 172 #[.pointer (some ⟨g, 0, none⟩)] w fun e w' => e = .returned (.int .u64 r1) ∧ IsS206 w0 w' g r2 r3 ∧ Below w0.heap.size w0 w' ∧ KeepBut w w' g none := by
 have HI0 := a_k hI
 have HK := a_k (KeepBut.refl w g none)
 have HL := a_k hB.size
 clear hI
 have HW0 := a_k hB.size
 have HB := a_k hB
 clear hB
 have H : ((num_Reader_off.f s0_0 s0_1).bind fun bt314 => (if bt314.1 = true then (some (0, bt314.2.1, bt314.2.2)) else ((num_number.f k bt314.2.1).bind fun bt317 => (if bt317.2.2 = 0 then (some (bt317.1, bt317.2.1, bt314.2.2)) else (some (0, bt314.2.1, bt317.2.2)))))) = some (r1, r2, r3) := h
 clear h
 replace H := Option.bind_eq_some_iff.mp H
 obtain ⟨⟨t314, t315, t316⟩, A20, H⟩ := H
 replace H : (if t314 = true then (some (0, t315, t316)) else ((num_number.f k t315).bind fun bt317 => (if bt317.2.2 = 0 then (some (bt317.1, bt317.2.1, t316)) else (some (0, t315, bt317.2.2))))) = some (r1, r2, r3) := H
 have A2 := a_k A20
 clear A20
 by_cases c3 : t314 = true
 ·subst c3
  have H1 : (some (0, t315, t316)) = some (r1, r2, r3) := by rw [if_pos rfl] at H; exact H
  clear H
  have H := H1
  clear H1
  simp only [Option.some.injEq, Prod.mk.injEq] at H
  obtain ⟨rfl, rfl, rfl⟩ := H
  go_enter Tryz.func172, Tryz.ntmps172
  go_wp2_with (first | ((with_reducible refine gate_callee (f := 234) rfl ?_); refine goesL_ (some 7) rfl rfl Tryz.func234 (by kernel_rfl) rfl #[.pointer (some ⟨g, 0, none⟩)] rfl (by (try simp only [m_a, m_c, m_n]); first | done | rfl) ?_; (with_reducible refine (num_Reader_off.calls g s0_0 s0_1 true t315 t316 w0 _ ?side1 ?side2 A2.out).mono ?_); (case side1 => repeat (first | (with_reducible first | exact HI0.out | apply IsS206.alloc | apply IsS206.drewN | apply IsS206.drew | apply IsS206.set_0 | apply IsS206.set_1) | exact HI0.out)); (case side2 => repeat (first | (with_reducible first | exact HB.out | apply b_a | apply b_n | apply b_d | refine below_set ?_ (IsS206.ge HI0.out)) | exact HB.out)); rintro e w4 ⟨rfl, hi, hb, hk⟩; refine ⟨_, rfl, ?_⟩; have n0_ := a_k (KeepBut.trans (by repeat (first | (with_reducible first | exact HK.out | apply KeepBut.set_ | apply keep_drewN | apply keep_drew | apply keep_alloc) | exact HK.out)) hk (.inl rfl)); have n1_ := a_k (hb); have n2_ := a_k (hi); clear HK; clear HB; clear HI0; have HK := n0_; have HB := n1_; have HI0 := n2_; clear n0_ n1_ n2_; (try clear hb); (try clear hb2); (try clear hk); (try clear hi)))
  go_ret
  exact ⟨by first | rfl | (simp [*, errW_none, errW_some] <;> rfl), by repeat (first | (with_reducible first | exact HI0.out | apply IsS206.alloc | apply IsS206.drewN | apply IsS206.drew | apply IsS206.set_0 | apply IsS206.set_1) | exact HI0.out), by repeat (first | (with_reducible first | exact HB.out | apply b_a | apply b_n | apply b_d | refine below_set ?_ (IsS206.ge HI0.out)) | exact HB.out), by repeat (first | (with_reducible first | exact HK.out | apply KeepBut.set_ | apply keep_drewN | apply keep_drew | apply keep_alloc) | exact HK.out)⟩
 ·replace c3 := Bool.eq_false_iff.mpr c3
  subst c3
  have H1 : ((num_number.f k t315).bind fun bt317 => (if bt317.2.2 = 0 then (some (bt317.1, bt317.2.1, t316)) else (some (0, t315, bt317.2.2)))) = some (r1, r2, r3) := by rw [if_neg (show ¬ (false = true) by decide)] at H; exact H
  clear H
  have H := H1
  clear H1
  replace H := Option.bind_eq_some_iff.mp H
  obtain ⟨⟨t317, t318, t319⟩, A50, H⟩ := H
  replace H : (if t319 = 0 then (some (t317, t318, t316)) else (some (0, t315, t319))) = some (r1, r2, r3) := H
  have A5 := a_k A50
  clear A50
  by_cases c6 : t319 = 0
  ·rw [if_pos c6] at H
   have c6b0 : (t319 == 0) = true := beq_iff_eq.mpr c6
   have c6b1 : (t319 != 0) = false := bne_eq_false_iff_eq.mpr c6
   clear c6
   simp only [Option.some.injEq, Prod.mk.injEq] at H
   obtain ⟨rfl, rfl, rfl⟩ := H
   go_enter Tryz.func172, Tryz.ntmps172
   go_wp2_with (first | ((with_reducible refine gate_callee (f := 234) rfl ?_); refine goesL_ (some 7) rfl rfl Tryz.func234 (by kernel_rfl) rfl #[.pointer (some ⟨g, 0, none⟩)] rfl (by (try simp only [m_a, m_c, m_n]); first | done | rfl) ?_; (with_reducible refine (num_Reader_off.calls g s0_0 s0_1 false t315 t316 w0 _ ?side1 ?side2 A2.out).mono ?_); (case side1 => repeat (first | (with_reducible first | exact HI0.out | apply IsS206.alloc | apply IsS206.drewN | apply IsS206.drew | apply IsS206.set_0 | apply IsS206.set_1) | exact HI0.out)); (case side2 => repeat (first | (with_reducible first | exact HB.out | apply b_a | apply b_n | apply b_d | refine below_set ?_ (IsS206.ge HI0.out)) | exact HB.out)); rintro e w7 ⟨rfl, hi, hb, hk⟩; refine ⟨_, rfl, ?_⟩; have n0_ := a_k (KeepBut.trans (by repeat (first | (with_reducible first | exact HK.out | apply KeepBut.set_ | apply keep_drewN | apply keep_drew | apply keep_alloc) | exact HK.out)) hk (.inl rfl)); have n1_ := a_k (hb); have n2_ := a_k (hi); clear HK; clear HB; clear HI0; have HK := n0_; have HB := n1_; have HI0 := n2_; clear n0_ n1_ n2_; (try clear hb); (try clear hb2); (try clear hk); (try clear hi); obtain ⟨HGz8, hgz8⟩ := HI0.out; have hcz8_0 := cellS206_0 HGz8; have hcz8_1 := cellS206_1 HGz8; have hfz8_0 := blk_frozen HGz8 0; have hfz8_1 := blk_frozen HGz8 1; clear HGz8 hgz8) | ((with_reducible refine gate_callee (f := 235) rfl ?_); refine goesL_ (some 13) rfl rfl Tryz.func235 (by kernel_rfl) rfl #[.string t315] rfl (by (try simp only [m_a, m_c, m_n]); first | done | rfl) ?_; (with_reducible refine (num_number.calls k t315 t317 t318 t319 _ A5.out).mono ?_); rintro e w' ⟨rfl, ⟨nd, rfl⟩⟩; refine ⟨_, rfl, ?_⟩; (try (rw [drewN_self w7]; generalize hq_ : World.drewN w7 _ = w7; have n0_ : Aside0 (IsS206 w0 w7 g t315 t316) := ⟨by rw [← hq_]; exact (by repeat (first | (with_reducible first | exact HI0.out | apply IsS206.alloc | apply IsS206.drewN | apply IsS206.drew | apply IsS206.set_0 | apply IsS206.set_1) | exact HI0.out))⟩; have n1_ : Aside0 (KeepBut w w7 g none) := ⟨by rw [← hq_]; exact (by repeat (first | (with_reducible first | exact HK.out | apply KeepBut.set_ | apply keep_drewN | apply keep_drew | apply keep_alloc) | exact HK.out))⟩; have n2_ : Aside0 (Below w0.heap.size w0 w7) := ⟨by rw [← hq_]; exact (by repeat (first | (with_reducible first | exact HB.out | apply b_a | apply b_n | apply b_d | refine below_set ?_ (IsS206.ge HI0.out)) | exact HB.out))⟩; clear HI0 HK HB hq_; have HI0 := n0_; have HK := n1_; have HB := n2_; clear n0_ n1_ n2_; obtain ⟨HGz9, hgz9⟩ := HI0.out; have hcz9_0 := cellS206_0 HGz9; have hcz9_1 := cellS206_1 HGz9; have hfz9_0 := blk_frozen HGz9 0; have hfz9_1 := blk_frozen HGz9 1; clear HGz9 hgz9))))
   go_ret
   exact ⟨by first | rfl | (simp [*, errW_none, errW_some] <;> rfl), by repeat (first | (with_reducible first | exact HI0.out | apply IsS206.alloc | apply IsS206.drewN | apply IsS206.drew | apply IsS206.set_0 | apply IsS206.set_1) | exact HI0.out), by repeat (first | (with_reducible first | exact HB.out | apply b_a | apply b_n | apply b_d | refine below_set ?_ (IsS206.ge HI0.out)) | exact HB.out), by repeat (first | (with_reducible first | exact HK.out | apply KeepBut.set_ | apply keep_drewN | apply keep_drew | apply keep_alloc) | exact HK.out)⟩
  ·rw [if_neg c6] at H
   have c6b0 : (t319 == 0) = false := beq_eq_false_iff_ne.mpr c6
   have c6b1 : (t319 != 0) = true := bne_iff_ne.mpr c6
   simp only [Option.some.injEq, Prod.mk.injEq] at H
   obtain ⟨rfl, rfl, rfl⟩ := H
   go_enter Tryz.func172, Tryz.ntmps172
   go_wp2_with (first | ((with_reducible refine gate_callee (f := 234) rfl ?_); refine goesL_ (some 7) rfl rfl Tryz.func234 (by kernel_rfl) rfl #[.pointer (some ⟨g, 0, none⟩)] rfl (by (try simp only [m_a, m_c, m_n]); first | done | rfl) ?_; (with_reducible refine (num_Reader_off.calls g s0_0 s0_1 false t315 t316 w0 _ ?side1 ?side2 A2.out).mono ?_); (case side1 => repeat (first | (with_reducible first | exact HI0.out | apply IsS206.alloc | apply IsS206.drewN | apply IsS206.drew | apply IsS206.set_0 | apply IsS206.set_1) | exact HI0.out)); (case side2 => repeat (first | (with_reducible first | exact HB.out | apply b_a | apply b_n | apply b_d | refine below_set ?_ (IsS206.ge HI0.out)) | exact HB.out)); rintro e w10 ⟨rfl, hi, hb, hk⟩; refine ⟨_, rfl, ?_⟩; have n0_ := a_k (KeepBut.trans (by repeat (first | (with_reducible first | exact HK.out | apply KeepBut.set_ | apply keep_drewN | apply keep_drew | apply keep_alloc) | exact HK.out)) hk (.inl rfl)); have n1_ := a_k (hb); have n2_ := a_k (hi); clear HK; clear HB; clear HI0; have HK := n0_; have HB := n1_; have HI0 := n2_; clear n0_ n1_ n2_; (try clear hb); (try clear hb2); (try clear hk); (try clear hi); obtain ⟨HGz11, hgz11⟩ := HI0.out; have hcz11_0 := cellS206_0 HGz11; have hcz11_1 := cellS206_1 HGz11; have hfz11_0 := blk_frozen HGz11 0; have hfz11_1 := blk_frozen HGz11 1; clear HGz11 hgz11) | ((with_reducible refine gate_callee (f := 235) rfl ?_); refine goesL_ (some 13) rfl rfl Tryz.func235 (by kernel_rfl) rfl #[.string t315] rfl (by (try simp only [m_a, m_c, m_n]); first | done | rfl) ?_; (with_reducible refine (num_number.calls k t315 t317 t318 t319 _ A5.out).mono ?_); rintro e w' ⟨rfl, ⟨nd, rfl⟩⟩; refine ⟨_, rfl, ?_⟩; (try (rw [drewN_self w10]; generalize hq_ : World.drewN w10 _ = w10; have n0_ : Aside0 (IsS206 w0 w10 g t315 t316) := ⟨by rw [← hq_]; exact (by repeat (first | (with_reducible first | exact HI0.out | apply IsS206.alloc | apply IsS206.drewN | apply IsS206.drew | apply IsS206.set_0 | apply IsS206.set_1) | exact HI0.out))⟩; have n1_ : Aside0 (KeepBut w w10 g none) := ⟨by rw [← hq_]; exact (by repeat (first | (with_reducible first | exact HK.out | apply KeepBut.set_ | apply keep_drewN | apply keep_drew | apply keep_alloc) | exact HK.out))⟩; have n2_ : Aside0 (Below w0.heap.size w0 w10) := ⟨by rw [← hq_]; exact (by repeat (first | (with_reducible first | exact HB.out | apply b_a | apply b_n | apply b_d | refine below_set ?_ (IsS206.ge HI0.out)) | exact HB.out))⟩; clear HI0 HK HB hq_; have HI0 := n0_; have HK := n1_; have HB := n2_; clear n0_ n1_ n2_; obtain ⟨HGz12, hgz12⟩ := HI0.out; have hcz12_0 := cellS206_0 HGz12; have hcz12_1 := cellS206_1 HGz12; have hfz12_0 := blk_frozen HGz12 0; have hfz12_1 := blk_frozen HGz12 1; clear HGz12 hgz12))))
   go_ret
   exact ⟨by first | rfl | (simp [*, errW_none, errW_some] <;> rfl), by repeat (first | (with_reducible first | exact HI0.out | apply IsS206.alloc | apply IsS206.drewN | apply IsS206.drew | apply IsS206.set_0 | apply IsS206.set_1) | exact HI0.out), by repeat (first | (with_reducible first | exact HB.out | apply b_a | apply b_n | apply b_d | refine below_set ?_ (IsS206.ge HI0.out)) | exact HB.out), by repeat (first | (with_reducible first | exact HK.out | apply KeepBut.set_ | apply keep_drewN | apply keep_drew | apply keep_alloc) | exact HK.out)⟩
def num_Reader_Count.f (k : Nat) (s0_0 : ByteArray) (s0_1 : Int) (a1 : Int) : Option (Int × ByteArray × Int) := (num_Reader_Var.f k s0_0 s0_1).bind fun bt320 => ((num_Reader_off.f bt320.2.1 bt320.2.2).bind fun bt323 => (if bt323.1 = true then (some (0, bt323.2.1, bt323.2.2)) else (if a1 < 0 then (some (0, bt323.2.1, 2)) else (if bt320.1 > (IntKind.u64.wrap (a1)) then (some (0, bt323.2.1, 2)) else (some (wrap64 (bt320.1), bt323.2.1, bt323.2.2))))))
theorem num_Reader_Count.calls (k : Nat) (g : Nat) (s0_0 : ByteArray) (s0_1 : Int) (a1 : Int) (r1 : Int) (r2 : ByteArray) (r3 : Int) (w0 w : World) (hI : IsS206 w0 w g s0_0 s0_1) (hB : Below w0.heap.size w0 w) (h : num_Reader_Count.f k s0_0 s0_1 a1 = some (r1, r2, r3)) :
  Calls Tryz.prog 233 #[.pointer (some ⟨g, 0, none⟩), .int .i64 a1] w fun e w' => e = .returned (.int .i64 r1) ∧ IsS206 w0 w' g r2 r3 ∧ Below w0.heap.size w0 w' ∧ KeepBut w w' g none := by
 have HI0 := a_k hI
 have HK := a_k (KeepBut.refl w g none)
 have HL := a_k hB.size
 clear hI
 have HW0 := a_k hB.size
 have HB := a_k hB
 clear hB
 have H : ((num_Reader_Var.f k s0_0 s0_1).bind fun bt320 => ((num_Reader_off.f bt320.2.1 bt320.2.2).bind fun bt323 => (if bt323.1 = true then (some (0, bt323.2.1, bt323.2.2)) else (if a1 < 0 then (some (0, bt323.2.1, 2)) else (if bt320.1 > (IntKind.u64.wrap (a1)) then (some (0, bt323.2.1, 2)) else (some (wrap64 (bt320.1), bt323.2.1, bt323.2.2))))))) = some (r1, r2, r3) := h
 clear h
 replace H := Option.bind_eq_some_iff.mp H
 obtain ⟨⟨t320, t321, t322⟩, A30, H⟩ := H
 replace H : ((num_Reader_off.f t321 t322).bind fun bt323 => (if bt323.1 = true then (some (0, bt323.2.1, bt323.2.2)) else (if a1 < 0 then (some (0, bt323.2.1, 2)) else (if t320 > (IntKind.u64.wrap (a1)) then (some (0, bt323.2.1, 2)) else (some (wrap64 (t320), bt323.2.1, bt323.2.2)))))) = some (r1, r2, r3) := H
 have A3 := a_k A30
 clear A30
 replace H := Option.bind_eq_some_iff.mp H
 obtain ⟨⟨t323, t324, t325⟩, A40, H⟩ := H
 replace H : (if t323 = true then (some (0, t324, t325)) else (if a1 < 0 then (some (0, t324, 2)) else (if t320 > (IntKind.u64.wrap (a1)) then (some (0, t324, 2)) else (some (wrap64 (t320), t324, t325))))) = some (r1, r2, r3) := H
 have A4 := a_k A40
 clear A40
 by_cases c5 : t323 = true
 ·subst c5
  have H1 : (some (0, t324, t325)) = some (r1, r2, r3) := by rw [if_pos rfl] at H; exact H
  clear H
  have H := H1
  clear H1
  simp only [Option.some.injEq, Prod.mk.injEq] at H
  obtain ⟨rfl, rfl, rfl⟩ := H
  go_enter Tryz.func233, Tryz.ntmps233
  go_wp2_with (first | ((with_reducible refine gate_callee (f := 172) rfl ?_); refine goesL_ (some 7) rfl rfl Tryz.func172 (by kernel_rfl) rfl #[.pointer (some ⟨g, 0, none⟩)] rfl (by (try simp only [m_a, m_c, m_n]); first | done | rfl) ?_; (with_reducible refine (num_Reader_Var.calls k g s0_0 s0_1 t320 t321 t322 w0 _ ?side1 ?side2 A3.out).mono ?_); (case side1 => repeat (first | (with_reducible first | exact HI0.out | apply IsS206.alloc | apply IsS206.drewN | apply IsS206.drew | apply IsS206.set_0 | apply IsS206.set_1) | exact HI0.out)); (case side2 => repeat (first | (with_reducible first | exact HB.out | apply b_a | apply b_n | apply b_d | refine below_set ?_ (IsS206.ge HI0.out)) | exact HB.out)); rintro e w6 ⟨rfl, hi, hb, hk⟩; refine ⟨_, rfl, ?_⟩; have n0_ := a_k (KeepBut.trans (by repeat (first | (with_reducible first | exact HK.out | apply KeepBut.set_ | apply keep_drewN | apply keep_drew | apply keep_alloc) | exact HK.out)) hk (.inl rfl)); have n1_ := a_k (hb); have n2_ := a_k (hi); clear HK; clear HB; clear HI0; have HK := n0_; have HB := n1_; have HI0 := n2_; clear n0_ n1_ n2_; (try clear hb); (try clear hb2); (try clear hk); (try clear hi)) | ((with_reducible refine gate_callee (f := 234) rfl ?_); refine goesL_ (some 9) rfl rfl Tryz.func234 (by kernel_rfl) rfl #[.pointer (some ⟨g, 0, none⟩)] rfl (by (try simp only [m_a, m_c, m_n]); first | done | rfl) ?_; (with_reducible refine (num_Reader_off.calls g t321 t322 true t324 t325 w0 _ ?side1 ?side2 A4.out).mono ?_); (case side1 => repeat (first | (with_reducible first | exact HI0.out | apply IsS206.alloc | apply IsS206.drewN | apply IsS206.drew | apply IsS206.set_0 | apply IsS206.set_1) | exact HI0.out)); (case side2 => repeat (first | (with_reducible first | exact HB.out | apply b_a | apply b_n | apply b_d | refine below_set ?_ (IsS206.ge HI0.out)) | exact HB.out)); rintro e w7 ⟨rfl, hi, hb, hk⟩; refine ⟨_, rfl, ?_⟩; have n0_ := a_k (KeepBut.trans (by repeat (first | (with_reducible first | exact HK.out | apply KeepBut.set_ | apply keep_drewN | apply keep_drew | apply keep_alloc) | exact HK.out)) hk (.inl rfl)); have n1_ := a_k (hb); have n2_ := a_k (hi); clear HK; clear HB; clear HI0; have HK := n0_; have HB := n1_; have HI0 := n2_; clear n0_ n1_ n2_; (try clear hb); (try clear hb2); (try clear hk); (try clear hi)))
  go_ret
  exact ⟨by first | rfl | (simp [*, errW_none, errW_some] <;> rfl), by repeat (first | (with_reducible first | exact HI0.out | apply IsS206.alloc | apply IsS206.drewN | apply IsS206.drew | apply IsS206.set_0 | apply IsS206.set_1) | exact HI0.out), by repeat (first | (with_reducible first | exact HB.out | apply b_a | apply b_n | apply b_d | refine below_set ?_ (IsS206.ge HI0.out)) | exact HB.out), by repeat (first | (with_reducible first | exact HK.out | apply KeepBut.set_ | apply keep_drewN | apply keep_drew | apply keep_alloc) | exact HK.out)⟩
 ·replace c5 := Bool.eq_false_iff.mpr c5
  subst c5
  have H1 : (if a1 < 0 then (some (0, t324, 2)) else (if t320 > (IntKind.u64.wrap (a1)) then (some (0, t324, 2)) else (some (wrap64 (t320), t324, t325)))) = some (r1, r2, r3) := by rw [if_neg (show ¬ (false = true) by decide)] at H; exact H
  clear H
  have H := H1
  clear H1
  by_cases c8 : a1 < 0
  ·rw [if_pos c8] at H
   have c8b0 : decide (a1 < 0) = true := decide_eq_true c8
   clear c8
   simp only [Option.some.injEq, Prod.mk.injEq] at H
   obtain ⟨rfl, rfl, rfl⟩ := H
   go_enter Tryz.func233, Tryz.ntmps233
   go_wp2_with (first | ((with_reducible refine gate_callee (f := 172) rfl ?_); refine goesL_ (some 7) rfl rfl Tryz.func172 (by kernel_rfl) rfl #[.pointer (some ⟨g, 0, none⟩)] rfl (by (try simp only [m_a, m_c, m_n]); first | done | rfl) ?_; (with_reducible refine (num_Reader_Var.calls k g s0_0 s0_1 t320 t321 t322 w0 _ ?side1 ?side2 A3.out).mono ?_); (case side1 => repeat (first | (with_reducible first | exact HI0.out | apply IsS206.alloc | apply IsS206.drewN | apply IsS206.drew | apply IsS206.set_0 | apply IsS206.set_1) | exact HI0.out)); (case side2 => repeat (first | (with_reducible first | exact HB.out | apply b_a | apply b_n | apply b_d | refine below_set ?_ (IsS206.ge HI0.out)) | exact HB.out)); rintro e w9 ⟨rfl, hi, hb, hk⟩; refine ⟨_, rfl, ?_⟩; have n0_ := a_k (KeepBut.trans (by repeat (first | (with_reducible first | exact HK.out | apply KeepBut.set_ | apply keep_drewN | apply keep_drew | apply keep_alloc) | exact HK.out)) hk (.inl rfl)); have n1_ := a_k (hb); have n2_ := a_k (hi); clear HK; clear HB; clear HI0; have HK := n0_; have HB := n1_; have HI0 := n2_; clear n0_ n1_ n2_; (try clear hb); (try clear hb2); (try clear hk); (try clear hi)) | ((with_reducible refine gate_callee (f := 234) rfl ?_); refine goesL_ (some 9) rfl rfl Tryz.func234 (by kernel_rfl) rfl #[.pointer (some ⟨g, 0, none⟩)] rfl (by (try simp only [m_a, m_c, m_n]); first | done | rfl) ?_; (with_reducible refine (num_Reader_off.calls g t321 t322 false t324 t325 w0 _ ?side1 ?side2 A4.out).mono ?_); (case side1 => repeat (first | (with_reducible first | exact HI0.out | apply IsS206.alloc | apply IsS206.drewN | apply IsS206.drew | apply IsS206.set_0 | apply IsS206.set_1) | exact HI0.out)); (case side2 => repeat (first | (with_reducible first | exact HB.out | apply b_a | apply b_n | apply b_d | refine below_set ?_ (IsS206.ge HI0.out)) | exact HB.out)); rintro e w10 ⟨rfl, hi, hb, hk⟩; refine ⟨_, rfl, ?_⟩; have n0_ := a_k (KeepBut.trans (by repeat (first | (with_reducible first | exact HK.out | apply KeepBut.set_ | apply keep_drewN | apply keep_drew | apply keep_alloc) | exact HK.out)) hk (.inl rfl)); have n1_ := a_k (hb); have n2_ := a_k (hi); clear HK; clear HB; clear HI0; have HK := n0_; have HB := n1_; have HI0 := n2_; clear n0_ n1_ n2_; (try clear hb); (try clear hb2); (try clear hk); (try clear hi); obtain ⟨HGz11, hgz11⟩ := HI0.out; have hcz11_0 := cellS206_0 HGz11; have hcz11_1 := cellS206_1 HGz11; have hfz11_0 := blk_frozen HGz11 0; have hfz11_1 := blk_frozen HGz11 1; clear HGz11 hgz11))
   go_ret
   exact ⟨by first | rfl | (simp [*, errW_none, errW_some] <;> rfl), by repeat (first | (with_reducible first | exact HI0.out | apply IsS206.alloc | apply IsS206.drewN | apply IsS206.drew | apply IsS206.set_0 | apply IsS206.set_1) | exact HI0.out), by repeat (first | (with_reducible first | exact HB.out | apply b_a | apply b_n | apply b_d | refine below_set ?_ (IsS206.ge HI0.out)) | exact HB.out), by repeat (first | (with_reducible first | exact HK.out | apply KeepBut.set_ | apply keep_drewN | apply keep_drew | apply keep_alloc) | exact HK.out)⟩
  ·rw [if_neg c8] at H
   have c8b0 : decide (a1 < 0) = false := decide_eq_false c8
   clear c8
   by_cases c12 : t320 > (IntKind.u64.wrap (a1))
   ·rw [if_pos c12] at H
    have c12b0 : decide ((IntKind.u64.wrap (a1)) < t320) = true := decide_eq_true c12
    clear c12
    simp only [Option.some.injEq, Prod.mk.injEq] at H
    obtain ⟨rfl, rfl, rfl⟩ := H
    go_enter Tryz.func233, Tryz.ntmps233
    go_wp2_with (first | ((with_reducible refine gate_callee (f := 172) rfl ?_); refine goesL_ (some 7) rfl rfl Tryz.func172 (by kernel_rfl) rfl #[.pointer (some ⟨g, 0, none⟩)] rfl (by (try simp only [m_a, m_c, m_n]); first | done | rfl) ?_; (with_reducible refine (num_Reader_Var.calls k g s0_0 s0_1 t320 t321 t322 w0 _ ?side1 ?side2 A3.out).mono ?_); (case side1 => repeat (first | (with_reducible first | exact HI0.out | apply IsS206.alloc | apply IsS206.drewN | apply IsS206.drew | apply IsS206.set_0 | apply IsS206.set_1) | exact HI0.out)); (case side2 => repeat (first | (with_reducible first | exact HB.out | apply b_a | apply b_n | apply b_d | refine below_set ?_ (IsS206.ge HI0.out)) | exact HB.out)); rintro e w13 ⟨rfl, hi, hb, hk⟩; refine ⟨_, rfl, ?_⟩; have n0_ := a_k (KeepBut.trans (by repeat (first | (with_reducible first | exact HK.out | apply KeepBut.set_ | apply keep_drewN | apply keep_drew | apply keep_alloc) | exact HK.out)) hk (.inl rfl)); have n1_ := a_k (hb); have n2_ := a_k (hi); clear HK; clear HB; clear HI0; have HK := n0_; have HB := n1_; have HI0 := n2_; clear n0_ n1_ n2_; (try clear hb); (try clear hb2); (try clear hk); (try clear hi)) | ((with_reducible refine gate_callee (f := 234) rfl ?_); refine goesL_ (some 9) rfl rfl Tryz.func234 (by kernel_rfl) rfl #[.pointer (some ⟨g, 0, none⟩)] rfl (by (try simp only [m_a, m_c, m_n]); first | done | rfl) ?_; (with_reducible refine (num_Reader_off.calls g t321 t322 false t324 t325 w0 _ ?side1 ?side2 A4.out).mono ?_); (case side1 => repeat (first | (with_reducible first | exact HI0.out | apply IsS206.alloc | apply IsS206.drewN | apply IsS206.drew | apply IsS206.set_0 | apply IsS206.set_1) | exact HI0.out)); (case side2 => repeat (first | (with_reducible first | exact HB.out | apply b_a | apply b_n | apply b_d | refine below_set ?_ (IsS206.ge HI0.out)) | exact HB.out)); rintro e w14 ⟨rfl, hi, hb, hk⟩; refine ⟨_, rfl, ?_⟩; have n0_ := a_k (KeepBut.trans (by repeat (first | (with_reducible first | exact HK.out | apply KeepBut.set_ | apply keep_drewN | apply keep_drew | apply keep_alloc) | exact HK.out)) hk (.inl rfl)); have n1_ := a_k (hb); have n2_ := a_k (hi); clear HK; clear HB; clear HI0; have HK := n0_; have HB := n1_; have HI0 := n2_; clear n0_ n1_ n2_; (try clear hb); (try clear hb2); (try clear hk); (try clear hi); obtain ⟨HGz15, hgz15⟩ := HI0.out; have hcz15_0 := cellS206_0 HGz15; have hcz15_1 := cellS206_1 HGz15; have hfz15_0 := blk_frozen HGz15 0; have hfz15_1 := blk_frozen HGz15 1; clear HGz15 hgz15))
    go_ret
    exact ⟨by first | rfl | (simp [*, errW_none, errW_some] <;> rfl), by repeat (first | (with_reducible first | exact HI0.out | apply IsS206.alloc | apply IsS206.drewN | apply IsS206.drew | apply IsS206.set_0 | apply IsS206.set_1) | exact HI0.out), by repeat (first | (with_reducible first | exact HB.out | apply b_a | apply b_n | apply b_d | refine below_set ?_ (IsS206.ge HI0.out)) | exact HB.out), by repeat (first | (with_reducible first | exact HK.out | apply KeepBut.set_ | apply keep_drewN | apply keep_drew | apply keep_alloc) | exact HK.out)⟩
   ·rw [if_neg c12] at H
    have c12b0 : decide ((IntKind.u64.wrap (a1)) < t320) = false := decide_eq_false c12
    clear c12
    simp only [Option.some.injEq, Prod.mk.injEq] at H
    obtain ⟨rfl, rfl, rfl⟩ := H
    go_enter Tryz.func233, Tryz.ntmps233
    go_wp2_with (first | ((with_reducible refine gate_callee (f := 172) rfl ?_); refine goesL_ (some 7) rfl rfl Tryz.func172 (by kernel_rfl) rfl #[.pointer (some ⟨g, 0, none⟩)] rfl (by (try simp only [m_a, m_c, m_n]); first | done | rfl) ?_; (with_reducible refine (num_Reader_Var.calls k g s0_0 s0_1 t320 t321 t322 w0 _ ?side1 ?side2 A3.out).mono ?_); (case side1 => repeat (first | (with_reducible first | exact HI0.out | apply IsS206.alloc | apply IsS206.drewN | apply IsS206.drew | apply IsS206.set_0 | apply IsS206.set_1) | exact HI0.out)); (case side2 => repeat (first | (with_reducible first | exact HB.out | apply b_a | apply b_n | apply b_d | refine below_set ?_ (IsS206.ge HI0.out)) | exact HB.out)); rintro e w16 ⟨rfl, hi, hb, hk⟩; refine ⟨_, rfl, ?_⟩; have n0_ := a_k (KeepBut.trans (by repeat (first | (with_reducible first | exact HK.out | apply KeepBut.set_ | apply keep_drewN | apply keep_drew | apply keep_alloc) | exact HK.out)) hk (.inl rfl)); have n1_ := a_k (hb); have n2_ := a_k (hi); clear HK; clear HB; clear HI0; have HK := n0_; have HB := n1_; have HI0 := n2_; clear n0_ n1_ n2_; (try clear hb); (try clear hb2); (try clear hk); (try clear hi)) | ((with_reducible refine gate_callee (f := 234) rfl ?_); refine goesL_ (some 9) rfl rfl Tryz.func234 (by kernel_rfl) rfl #[.pointer (some ⟨g, 0, none⟩)] rfl (by (try simp only [m_a, m_c, m_n]); first | done | rfl) ?_; (with_reducible refine (num_Reader_off.calls g t321 t322 false t324 t325 w0 _ ?side1 ?side2 A4.out).mono ?_); (case side1 => repeat (first | (with_reducible first | exact HI0.out | apply IsS206.alloc | apply IsS206.drewN | apply IsS206.drew | apply IsS206.set_0 | apply IsS206.set_1) | exact HI0.out)); (case side2 => repeat (first | (with_reducible first | exact HB.out | apply b_a | apply b_n | apply b_d | refine below_set ?_ (IsS206.ge HI0.out)) | exact HB.out)); rintro e w17 ⟨rfl, hi, hb, hk⟩; refine ⟨_, rfl, ?_⟩; have n0_ := a_k (KeepBut.trans (by repeat (first | (with_reducible first | exact HK.out | apply KeepBut.set_ | apply keep_drewN | apply keep_drew | apply keep_alloc) | exact HK.out)) hk (.inl rfl)); have n1_ := a_k (hb); have n2_ := a_k (hi); clear HK; clear HB; clear HI0; have HK := n0_; have HB := n1_; have HI0 := n2_; clear n0_ n1_ n2_; (try clear hb); (try clear hb2); (try clear hk); (try clear hi)))
    go_ret
    exact ⟨by first | rfl | (simp [*, errW_none, errW_some] <;> rfl), by repeat (first | (with_reducible first | exact HI0.out | apply IsS206.alloc | apply IsS206.drewN | apply IsS206.drew | apply IsS206.set_0 | apply IsS206.set_1) | exact HI0.out), by repeat (first | (with_reducible first | exact HB.out | apply b_a | apply b_n | apply b_d | refine below_set ?_ (IsS206.ge HI0.out)) | exact HB.out), by repeat (first | (with_reducible first | exact HK.out | apply KeepBut.set_ | apply keep_drewN | apply keep_drew | apply keep_alloc) | exact HK.out)⟩
def num_Reader_Text.f (k : Nat) (s0_0 : ByteArray) (s0_1 : Int) (a1 : Int) : Option (ByteArray × ByteArray × Int) := (num_Reader_Count.f k s0_0 s0_1 a1).bind fun bt326 => ((num_Reader_take.f bt326.2.1 bt326.2.2 bt326.1).bind fun bt329 => (some (bt329.1, bt329.2.1, bt329.2.2)))
theorem num_Reader_Text.calls (k : Nat) (g : Nat) (s0_0 : ByteArray) (s0_1 : Int) (a1 : Int) (r1 : ByteArray) (r2 : ByteArray) (r3 : Int) (w0 w : World) (hI : IsS206 w0 w g s0_0 s0_1) (hB : Below w0.heap.size w0 w) (h : num_Reader_Text.f k s0_0 s0_1 a1 = some (r1, r2, r3)) :
  Calls Tryz.prog 171 #[.pointer (some ⟨g, 0, none⟩), .int .i64 a1] w fun e w' => e = .returned (.string r1) ∧ IsS206 w0 w' g r2 r3 ∧ Below w0.heap.size w0 w' ∧ KeepBut w w' g none := by
 have HI0 := a_k hI
 have HK := a_k (KeepBut.refl w g none)
 have HL := a_k hB.size
 clear hI
 have HW0 := a_k hB.size
 have HB := a_k hB
 clear hB
 have H : ((num_Reader_Count.f k s0_0 s0_1 a1).bind fun bt326 => ((num_Reader_take.f bt326.2.1 bt326.2.2 bt326.1).bind fun bt329 => (some (bt329.1, bt329.2.1, bt329.2.2)))) = some (r1, r2, r3) := h
 clear h
 replace H := Option.bind_eq_some_iff.mp H
 obtain ⟨⟨t326, t327, t328⟩, A30, H⟩ := H
 replace H : ((num_Reader_take.f t327 t328 t326).bind fun bt329 => (some (bt329.1, bt329.2.1, bt329.2.2))) = some (r1, r2, r3) := H
 have A3 := a_k A30
 clear A30
 replace H := Option.bind_eq_some_iff.mp H
 obtain ⟨⟨t329, t330, t331⟩, A40, H⟩ := H
 replace H : (some (t329, t330, t331)) = some (r1, r2, r3) := H
 have A4 := a_k A40
 clear A40
 simp only [Option.some.injEq, Prod.mk.injEq] at H
 obtain ⟨rfl, rfl, rfl⟩ := H
 go_enter Tryz.func171, Tryz.ntmps171
 go_wp2_with (first | ((with_reducible refine gate_callee (f := 233) rfl ?_); refine goesL_ (some 8) rfl rfl Tryz.func233 (by kernel_rfl) rfl #[.pointer (some ⟨g, 0, none⟩), .int .i64 a1] rfl (by (try simp only [m_a, m_c, m_n]); first | done | rfl) ?_; (with_reducible refine (num_Reader_Count.calls k g s0_0 s0_1 a1 t326 t327 t328 w0 _ ?side1 ?side2 A3.out).mono ?_); (case side1 => repeat (first | (with_reducible first | exact HI0.out | apply IsS206.alloc | apply IsS206.drewN | apply IsS206.drew | apply IsS206.set_0 | apply IsS206.set_1) | exact HI0.out)); (case side2 => repeat (first | (with_reducible first | exact HB.out | apply b_a | apply b_n | apply b_d | refine below_set ?_ (IsS206.ge HI0.out)) | exact HB.out)); rintro e w5 ⟨rfl, hi, hb, hk⟩; refine ⟨_, rfl, ?_⟩; have n0_ := a_k (KeepBut.trans (by repeat (first | (with_reducible first | exact HK.out | apply KeepBut.set_ | apply keep_drewN | apply keep_drew | apply keep_alloc) | exact HK.out)) hk (.inl rfl)); have n1_ := a_k (hb); have n2_ := a_k (hi); clear HK; clear HB; clear HI0; have HK := n0_; have HB := n1_; have HI0 := n2_; clear n0_ n1_ n2_; (try clear hb); (try clear hb2); (try clear hk); (try clear hi)) | ((with_reducible refine gate_callee (f := 232) rfl ?_); refine goesL_ (some 9) rfl rfl Tryz.func232 (by kernel_rfl) rfl #[.pointer (some ⟨g, 0, none⟩), .int .i64 t326] rfl (by (try simp only [m_a, m_c, m_n]); first | done | rfl) ?_; (with_reducible refine (num_Reader_take.calls g t327 t328 t326 t329 t330 t331 w0 _ ?side1 ?side2 A4.out).mono ?_); (case side1 => repeat (first | (with_reducible first | exact HI0.out | apply IsS206.alloc | apply IsS206.drewN | apply IsS206.drew | apply IsS206.set_0 | apply IsS206.set_1) | exact HI0.out)); (case side2 => repeat (first | (with_reducible first | exact HB.out | apply b_a | apply b_n | apply b_d | refine below_set ?_ (IsS206.ge HI0.out)) | exact HB.out)); rintro e w6 ⟨rfl, hi, hb, hk⟩; refine ⟨_, rfl, ?_⟩; have n0_ := a_k (KeepBut.trans (by repeat (first | (with_reducible first | exact HK.out | apply KeepBut.set_ | apply keep_drewN | apply keep_drew | apply keep_alloc) | exact HK.out)) hk (.inl rfl)); have n1_ := a_k (hb); have n2_ := a_k (hi); clear HK; clear HB; clear HI0; have HK := n0_; have HB := n1_; have HI0 := n2_; clear n0_ n1_ n2_; (try clear hb); (try clear hb2); (try clear hk); (try clear hi)))
 go_ret
 exact ⟨by first | rfl | (simp [*, errW_none, errW_some] <;> rfl), by repeat (first | (with_reducible first | exact HI0.out | apply IsS206.alloc | apply IsS206.drewN | apply IsS206.drew | apply IsS206.set_0 | apply IsS206.set_1) | exact HI0.out), by repeat (first | (with_reducible first | exact HB.out | apply b_a | apply b_n | apply b_d | refine below_set ?_ (IsS206.ge HI0.out)) | exact HB.out), by repeat (first | (with_reducible first | exact HK.out | apply KeepBut.set_ | apply keep_drewN | apply keep_drew | apply keep_alloc) | exact HK.out)⟩
mutual
def block_versions.l0 : Nat → List (S32) → ByteArray → ByteArray → Int → Option ((List (S32)) × Bool)
 | 0, _, _, _, _ => none
 | k + 1, x4, x5, x335000, x335001 => (num_Reader_Left.f x335000 x335001).bind fun bt335 => (if bt335.1 > 0 then ((num_Reader_Count.f k bt335.2.1 bt335.2.2 (x5.size : Int)).bind fun bt338 => ((num_Reader_Text.f k bt338.2.1 bt338.2.2 300).bind fun bt341 => ((num_Reader_Var.f k bt341.2.1 bt341.2.2).bind fun bt344 => ((num_Reader_Var.f k bt344.2.1 bt344.2.2).bind fun bt348 => (if bt348.1 ≤ 2 then (block_versions.j1 k x4 x5 bt338.1 bt341.1 bt348.2.1 bt348.2.2 (⟨#[]⟩ : ByteArray) bt344.1 (wrap64 (bt348.1)) (⟨#[]⟩ : ByteArray)) else (block_versions.j1 k x4 x5 bt338.1 bt341.1 bt348.2.1 bt348.2.2 (⟨#[]⟩ : ByteArray) bt344.1 0 (⟨#[]⟩ : ByteArray))))))) else (some (x4, true)))
def block_versions.j1 : Nat → List (S32) → ByteArray → Int → ByteArray → ByteArray → Int → ByteArray → Int → Int → ByteArray → Option ((List (S32)) × Bool)
 | 0, _, _, _, _, _, _, _, _, _, _ => none
 | k + 1, x4, x5, x7, x8, x335000, x335001, x348000, x348001, x348002, x348003 => (num_Reader_Text.f k x335000 x335001 60000).bind fun bt351 => ((strings_Clone.f bt351.1).bind fun t354 => ((num_Reader_Err.f bt351.2.1 bt351.2.2).bind fun bt355 => (if bt355.1 = 0 then (if 0 ≤ x7 then (if x7 ≤ (x5.size : Int) then (if (x5.extract 0 (x7 : Int).toNat).size + x8.size ≤ 9223372036854775807 then (if x4.length < 2932031007402 then (block_versions.l0 k (x4 ++ [(⟨(x5.extract 0 (x7 : Int).toNat) ++ x8, x348001, x348002, t354⟩ : S32)]) ((x5.extract 0 (x7 : Int).toNat) ++ x8) bt355.2.1 bt355.2.2) else (none)) else (none)) else (none)) else (none)) else (some (([] : List (S32)), false)))))
end
def block_versions.f (k : Nat) (a0 : ByteArray) : Option ((List (S32)) × Bool) := (num_NewReader.f a0).bind fun bt332 => (block_versions.l0 k ([] : List (S32)) (⟨#[]⟩ : ByteArray) bt332.1 bt332.2)
theorem block_versions.calls (k : Nat) (a0 : ByteArray) (r1 : List (S32)) (r2 : Bool) (w : World) (h : block_versions.f k a0 = some (r1, r2)) :
  Calls Tryz.prog 195 #[.string a0] w fun e w' => ∃ v0_ : Value, e = .returned (.tuple #[v0_, .bool r2]) ∧ Kd.R k32 32 w' w.heap.size (fun _ => True) v0_ r1 ∧ Below w.heap.size w w' := by
 have hu32 := Tryz.underlying32
 have HB := a_k (Below.refl w.heap.size w)
 have H : ((num_NewReader.f a0).bind fun bt332 => (block_versions.l0 k ([] : List (S32)) (⟨#[]⟩ : ByteArray) bt332.1 bt332.2)) = some (r1, r2) := h
 clear h
 replace H := Option.bind_eq_some_iff.mp H
 obtain ⟨⟨t332, t333⟩, A20, H⟩ := H
 replace H : (block_versions.l0 k ([] : List (S32)) (⟨#[]⟩ : ByteArray) t332 t333) = some (r1, r2) := H
 have A2 := a_k A20
 clear A20
 have H' := a_k H
 clear H
 go_enter Tryz.func195, Tryz.ntmps195
 go_wp2_with (first | ((with_reducible refine gate_callee (f := 49) rfl ?_); refine goesL_ (some 12) rfl rfl Tryz.func49 (by kernel_rfl) rfl #[.string a0] rfl (by (try simp only [m_a, m_c, m_n]); first | done | rfl) ?_; (with_reducible refine (num_NewReader.calls a0 t332 t333 w _ ?side1 A2.out).mono ?_); (case side1 => repeat (first | exact HB.out | apply b_a | apply b_n | apply b_d)); rintro e w3 ⟨g334, rfl, hi, hb, hb2⟩; refine ⟨_, rfl, ?_⟩; have n0_ := a_k (hb); have n1_ := a_k (hi); clear HB; have HB := n0_; have HI334 := n1_; clear n0_ n1_; (try clear hb); (try clear hb2); (try clear hk); (try clear hi)))
 go_loopg [4, 5] k (fun kq v4 v5 w' => ∃ (x4_1 : List (S32)) (x5_1 : ByteArray) (x335000_1 : ByteArray) (x335001_1 : Int), v5 = .string x5_1 ∧ Aside0 (block_versions.l0 kq x4_1 x5_1 x335000_1 x335001_1 = some (r1, r2)) ∧ Aside0 (kq ≤ k) ∧ Aside0 (Kd.R k32 32 w' w.heap.size (fun _ => True) v4 x4_1) ∧ Aside0 (IsS206 w w' g334 x335000_1 x335001_1) ∧ Aside0 (Below w.heap.size w w'))
 case atStart => exact ⟨(([] : List (S32))), ((⟨#[]⟩ : ByteArray)), (t332), (t333), (by first | rfl | (simp; done) | (simp [*]; done)), H', ⟨Nat.le_refl _⟩, ⟨by first | exact Kd.R_nil _ _ _ _ _ | exact Kd.N_nil _ _ _ _ _ | exact Kd.V_nil _ _ _ _ _ | exact Kd.Q_nil _ _ _ _ _ | exact Kd.S_nil _ _ _ _ _⟩, ⟨by repeat (first | (with_reducible first | exact HI334.out | apply IsS206.alloc | apply IsS206.drewN | apply IsS206.drew | apply IsS206.set_0 | apply IsS206.set_1) | exact HI334.out)⟩, ⟨by repeat (first | (with_reducible first | exact HB.out | apply b_a | apply b_n | apply b_d | refine below_set ?_ (IsS206.ge HI334.out)) | exact HB.out)⟩⟩
 case round =>
  clear H'
  try clear c1
  try clear p2
  obtain ⟨x4_1, x5_1, x335000_1, x335001_1, rfl, HA, HK1, HO_4, HI334, HB⟩ := hrel
  cases gk with
  | zero => exact absurd HA.out (by simp [block_versions.l0])
  | succ k1 =>
   have H := HA.out
   clear HA
   simp only [block_versions.l0] at H
   replace H := Option.bind_eq_some_iff.mp H
   obtain ⟨⟨t335, t336, t337⟩, A40, H⟩ := H
   replace H : (if t335 > 0 then ((num_Reader_Count.f k1 t336 t337 (x5_1.size : Int)).bind fun bt338 => ((num_Reader_Text.f k1 bt338.2.1 bt338.2.2 300).bind fun bt341 => ((num_Reader_Var.f k1 bt341.2.1 bt341.2.2).bind fun bt344 => ((num_Reader_Var.f k1 bt344.2.1 bt344.2.2).bind fun bt348 => (if bt348.1 ≤ 2 then (block_versions.j1 k1 x4_1 x5_1 bt338.1 bt341.1 bt348.2.1 bt348.2.2 (⟨#[]⟩ : ByteArray) bt344.1 (wrap64 (bt348.1)) (⟨#[]⟩ : ByteArray)) else (block_versions.j1 k1 x4_1 x5_1 bt338.1 bt341.1 bt348.2.1 bt348.2.2 (⟨#[]⟩ : ByteArray) bt344.1 0 (⟨#[]⟩ : ByteArray))))))) else (some (x4_1, true))) = some (r1, r2) := H
   have A4 := a_k A40
   clear A40
   by_cases c5 : t335 > 0
   ·rw [if_pos c5] at H
    have c5b0 : decide (0 < t335) = true := decide_eq_true c5
    clear c5
    replace H := Option.bind_eq_some_iff.mp H
    obtain ⟨⟨t338, t339, t340⟩, A60, H⟩ := H
    replace H : ((num_Reader_Text.f k1 t339 t340 300).bind fun bt341 => ((num_Reader_Var.f k1 bt341.2.1 bt341.2.2).bind fun bt344 => ((num_Reader_Var.f k1 bt344.2.1 bt344.2.2).bind fun bt348 => (if bt348.1 ≤ 2 then (block_versions.j1 k1 x4_1 x5_1 t338 bt341.1 bt348.2.1 bt348.2.2 (⟨#[]⟩ : ByteArray) bt344.1 (wrap64 (bt348.1)) (⟨#[]⟩ : ByteArray)) else (block_versions.j1 k1 x4_1 x5_1 t338 bt341.1 bt348.2.1 bt348.2.2 (⟨#[]⟩ : ByteArray) bt344.1 0 (⟨#[]⟩ : ByteArray)))))) = some (r1, r2) := H
    have A6 := a_k A60
    clear A60
    replace H := Option.bind_eq_some_iff.mp H
    obtain ⟨⟨t341, t342, t343⟩, A70, H⟩ := H
    replace H : ((num_Reader_Var.f k1 t342 t343).bind fun bt344 => ((num_Reader_Var.f k1 bt344.2.1 bt344.2.2).bind fun bt348 => (if bt348.1 ≤ 2 then (block_versions.j1 k1 x4_1 x5_1 t338 t341 bt348.2.1 bt348.2.2 (⟨#[]⟩ : ByteArray) bt344.1 (wrap64 (bt348.1)) (⟨#[]⟩ : ByteArray)) else (block_versions.j1 k1 x4_1 x5_1 t338 t341 bt348.2.1 bt348.2.2 (⟨#[]⟩ : ByteArray) bt344.1 0 (⟨#[]⟩ : ByteArray))))) = some (r1, r2) := H
    have A7 := a_k A70
    clear A70
    replace H := Option.bind_eq_some_iff.mp H
    obtain ⟨⟨t344, t345, t346⟩, A80, H⟩ := H
    replace H : ((num_Reader_Var.f k1 t345 t346).bind fun bt348 => (if bt348.1 ≤ 2 then (block_versions.j1 k1 x4_1 x5_1 t338 t341 bt348.2.1 bt348.2.2 (⟨#[]⟩ : ByteArray) t344 (wrap64 (bt348.1)) (⟨#[]⟩ : ByteArray)) else (block_versions.j1 k1 x4_1 x5_1 t338 t341 bt348.2.1 bt348.2.2 (⟨#[]⟩ : ByteArray) t344 0 (⟨#[]⟩ : ByteArray)))) = some (r1, r2) := H
    have A8 := a_k A80
    clear A80
    replace H := Option.bind_eq_some_iff.mp H
    obtain ⟨⟨t348, t349, t350⟩, A90, H⟩ := H
    replace H : (if t348 ≤ 2 then (block_versions.j1 k1 x4_1 x5_1 t338 t341 t349 t350 (⟨#[]⟩ : ByteArray) t344 (wrap64 (t348)) (⟨#[]⟩ : ByteArray)) else (block_versions.j1 k1 x4_1 x5_1 t338 t341 t349 t350 (⟨#[]⟩ : ByteArray) t344 0 (⟨#[]⟩ : ByteArray))) = some (r1, r2) := H
    have A9 := a_k A90
    clear A90
    have HC10 := a_k H
    clear H
    go_upto_if 28 with (first | ((with_reducible refine gate_callee (f := 53) rfl ?_); refine goesL_ (some 14) rfl rfl Tryz.func53 (by kernel_rfl) rfl #[.pointer (some ⟨g334, 0, none⟩)] rfl (by (try simp only [m_a, m_c, m_n]); first | done | rfl) ?_; (with_reducible refine (num_Reader_Left.calls g334 x335000_1 x335001_1 t335 t336 t337 w _ ?side1 ?side2 A4.out).mono ?_); (case side1 => repeat (first | (with_reducible first | exact HI334.out | apply IsS206.alloc | apply IsS206.drewN | apply IsS206.drew | apply IsS206.set_0 | apply IsS206.set_1) | exact HI334.out)); (case side2 => repeat (first | (with_reducible first | exact HB.out | apply b_a | apply b_n | apply b_d | refine below_set ?_ (IsS206.ge HI334.out)) | exact HB.out)); rintro e w11 ⟨rfl, hi, hb, hk⟩; refine ⟨_, rfl, ?_⟩; have n0_ := a_k (Kd.R_mono (Kd.R_keep (IsS206.apart (show IsS206 w _ g334 x335000_1 x335001_1 from by repeat (first | (with_reducible first | exact HI334.out | apply IsS206.alloc | apply IsS206.drewN | apply IsS206.drew | apply IsS206.set_0 | apply IsS206.set_1) | exact HI334.out)) (by (with_reducible repeat (first | apply Kd.R_alloc | apply Kd.R_drewN | apply Kd.R_drew)); exact HO_4.out) (by decide)) hk (fun _ h => h.2)) (fun _ h => h.1)); have n1_ := a_k (hb); have n2_ := a_k (hi); clear HO_4; clear HB; clear HI334; have HO_4 := n0_; have HB := n1_; have HI334 := n2_; clear n0_ n1_ n2_; (try clear hb); (try clear hb2); (try clear hk); (try clear hi)) | ((with_reducible refine gate_callee (f := 233) rfl ?_); refine goesL_ (some 19) rfl rfl Tryz.func233 (by kernel_rfl) rfl #[.pointer (some ⟨g334, 0, none⟩), .int .i64 (x5_1.size : Int)] rfl (by (try simp only [m_a, m_c, m_n]); first | done | rfl) ?_; (with_reducible refine (num_Reader_Count.calls k1 g334 t336 t337 (x5_1.size : Int) t338 t339 t340 w _ ?side1 ?side2 A6.out).mono ?_); (case side1 => repeat (first | (with_reducible first | exact HI334.out | apply IsS206.alloc | apply IsS206.drewN | apply IsS206.drew | apply IsS206.set_0 | apply IsS206.set_1) | exact HI334.out)); (case side2 => repeat (first | (with_reducible first | exact HB.out | apply b_a | apply b_n | apply b_d | refine below_set ?_ (IsS206.ge HI334.out)) | exact HB.out)); rintro e w12 ⟨rfl, hi, hb, hk⟩; refine ⟨_, rfl, ?_⟩; have n0_ := a_k (Kd.R_mono (Kd.R_keep (IsS206.apart (show IsS206 w _ g334 t336 t337 from by repeat (first | (with_reducible first | exact HI334.out | apply IsS206.alloc | apply IsS206.drewN | apply IsS206.drew | apply IsS206.set_0 | apply IsS206.set_1) | exact HI334.out)) (by (with_reducible repeat (first | apply Kd.R_alloc | apply Kd.R_drewN | apply Kd.R_drew)); exact HO_4.out) (by decide)) hk (fun _ h => h.2)) (fun _ h => h.1)); have n1_ := a_k (hb); have n2_ := a_k (hi); clear HO_4; clear HB; clear HI334; have HO_4 := n0_; have HB := n1_; have HI334 := n2_; clear n0_ n1_ n2_; (try clear hb); (try clear hb2); (try clear hk); (try clear hi)) | ((with_reducible refine gate_callee (f := 171) rfl ?_); refine goesL_ (some 21) rfl rfl Tryz.func171 (by kernel_rfl) rfl #[.pointer (some ⟨g334, 0, none⟩), .int .i64 300] rfl (by (try simp only [m_a, m_c, m_n]); first | done | rfl) ?_; (with_reducible refine (num_Reader_Text.calls k1 g334 t339 t340 300 t341 t342 t343 w _ ?side1 ?side2 A7.out).mono ?_); (case side1 => repeat (first | (with_reducible first | exact HI334.out | apply IsS206.alloc | apply IsS206.drewN | apply IsS206.drew | apply IsS206.set_0 | apply IsS206.set_1) | exact HI334.out)); (case side2 => repeat (first | (with_reducible first | exact HB.out | apply b_a | apply b_n | apply b_d | refine below_set ?_ (IsS206.ge HI334.out)) | exact HB.out)); rintro e w13 ⟨rfl, hi, hb, hk⟩; refine ⟨_, rfl, ?_⟩; have n0_ := a_k (Kd.R_mono (Kd.R_keep (IsS206.apart (show IsS206 w _ g334 t339 t340 from by repeat (first | (with_reducible first | exact HI334.out | apply IsS206.alloc | apply IsS206.drewN | apply IsS206.drew | apply IsS206.set_0 | apply IsS206.set_1) | exact HI334.out)) (by (with_reducible repeat (first | apply Kd.R_alloc | apply Kd.R_drewN | apply Kd.R_drew)); exact HO_4.out) (by decide)) hk (fun _ h => h.2)) (fun _ h => h.1)); have n1_ := a_k (hb); have n2_ := a_k (hi); clear HO_4; clear HB; clear HI334; have HO_4 := n0_; have HB := n1_; have HI334 := n2_; clear n0_ n1_ n2_; (try clear hb); (try clear hb2); (try clear hk); (try clear hi)) | ((with_reducible refine gate_callee (f := 172) rfl ?_); refine goesL_ (some 23) rfl rfl Tryz.func172 (by kernel_rfl) rfl #[.pointer (some ⟨g334, 0, none⟩)] rfl (by (try simp only [m_a, m_c, m_n]); first | done | rfl) ?_; (with_reducible refine (num_Reader_Var.calls k1 g334 t342 t343 t344 t345 t346 w _ ?side1 ?side2 A8.out).mono ?_); (case side1 => repeat (first | (with_reducible first | exact HI334.out | apply IsS206.alloc | apply IsS206.drewN | apply IsS206.drew | apply IsS206.set_0 | apply IsS206.set_1) | exact HI334.out)); (case side2 => repeat (first | (with_reducible first | exact HB.out | apply b_a | apply b_n | apply b_d | refine below_set ?_ (IsS206.ge HI334.out)) | exact HB.out)); rintro e w14 ⟨rfl, hi, hb, hk⟩; refine ⟨_, rfl, ?_⟩; have n0_ := a_k (Kd.R_mono (Kd.R_keep (IsS206.apart (show IsS206 w _ g334 t342 t343 from by repeat (first | (with_reducible first | exact HI334.out | apply IsS206.alloc | apply IsS206.drewN | apply IsS206.drew | apply IsS206.set_0 | apply IsS206.set_1) | exact HI334.out)) (by (with_reducible repeat (first | apply Kd.R_alloc | apply Kd.R_drewN | apply Kd.R_drew)); exact HO_4.out) (by decide)) hk (fun _ h => h.2)) (fun _ h => h.1)); have n1_ := a_k (hb); have n2_ := a_k (hi); clear HO_4; clear HB; clear HI334; have HO_4 := n0_; have HB := n1_; have HI334 := n2_; clear n0_ n1_ n2_; (try clear hb); (try clear hb2); (try clear hk); (try clear hi)) | ((with_reducible refine gate_dst (N := 9) rfl ?_); refine box_event ?hg (N := 9) ?hd (cs := #[.string (⟨#[]⟩ : ByteArray), .int .u64 0, .int .i64 0, .string (⟨#[]⟩ : ByteArray)]) (t := 32) ?hr ?_; (case hd => rfl); (case hg => rfl); (case hr => first | (go_simp; done) | (go_simp; rfl)); intro gb347 hg w15 hbox hb; have n0_ := a_k (Kd.R_below (Kd.R_elderB (by (with_reducible repeat (first | apply Kd.R_alloc | apply Kd.R_drewN | apply Kd.R_drew)); exact HO_4.out) gb347 (Nat.le_of_eq hg.symm)) hb); have n1_ := a_k (IsS206.below (by repeat (first | (with_reducible first | exact HI334.out | apply IsS206.alloc | apply IsS206.drewN | apply IsS206.drew | apply IsS206.set_0 | apply IsS206.set_1) | exact HI334.out)) hb); have n2_ := a_k (below_step (by repeat (first | (with_reducible first | exact HB.out | apply b_a | apply b_n | apply b_d | refine below_set ?_ (IsS206.ge HI334.out)) | exact HB.out)) hb); have n3_ := a_k (hbox); have n4_ := a_k ((by rw [hg]; exact (below_size (by repeat (first | (with_reducible first | exact HB.out | apply b_a | apply b_n | apply b_d | refine below_set ?_ (IsS206.ge HI334.out)) | exact HB.out))) : w.heap.size ≤ gb347)); have n5_ := a_k ((by rw [hg]; exact (below_size (by repeat (first | (with_reducible first | exact HB.out | apply b_a | apply b_n | apply b_d | refine below_set ?_ (IsS206.ge HI334.out)) | exact HB.out))) : w.heap.size ≤ gb347)); have n6_ := a_k ((by rw [hg]; exact Nat.ne_of_lt (IsS206.lt (show IsS206 w _ g334 t345 t346 from by repeat (first | (with_reducible first | exact HI334.out | apply IsS206.alloc | apply IsS206.drewN | apply IsS206.drew | apply IsS206.set_0 | apply IsS206.set_1) | exact HI334.out))) : g334 ≠ gb347)); have n7_ := a_k ((by rw [hg]; exact Nat.ne_of_gt (IsS206.lt (show IsS206 w _ g334 t345 t346 from by repeat (first | (with_reducible first | exact HI334.out | apply IsS206.alloc | apply IsS206.drewN | apply IsS206.drew | apply IsS206.set_0 | apply IsS206.set_1) | exact HI334.out))) : gb347 ≠ g334)); clear HO_4; clear HI334; clear HB; have HO_4 := n0_; have HI334 := n1_; have HB := n2_; have BK347 := n3_; have GW347 := n4_; have GE347 := n5_; have NB334_347 := n6_; have NB347_334 := n7_; clear n0_ n1_ n2_ n3_ n4_ n5_ n6_ n7_; clear hb hbox hg; have hnb16 := NB347_334.out; have hnc16 := NB334_347.out; have hcz17_0 : w15.cell? ⟨gb347, 0, none⟩ = some (.string (⟨#[]⟩ : ByteArray)) := (blk_cell BK347.out 0).trans rfl; have hcz17_1 : w15.cell? ⟨gb347, 1, none⟩ = some (.int .u64 0) := (blk_cell BK347.out 1).trans rfl; have hcz17_2 : w15.cell? ⟨gb347, 2, none⟩ = some (.int .i64 0) := (blk_cell BK347.out 2).trans rfl; have hcz17_3 : w15.cell? ⟨gb347, 3, none⟩ = some (.string (⟨#[]⟩ : ByteArray)) := (blk_cell BK347.out 3).trans rfl; have hfz17_0 := blk_frozen BK347.out 0; have hfz17_1 := blk_frozen BK347.out 1; have hfz17_2 := blk_frozen BK347.out 2; have hfz17_3 := blk_frozen BK347.out 3) | ((with_reducible refine gate_callee (f := 172) rfl ?_); refine goesL_ (some 26) rfl rfl Tryz.func172 (by kernel_rfl) rfl #[.pointer (some ⟨g334, 0, none⟩)] rfl (by (try simp only [m_a, m_c, m_n]); first | done | rfl) ?_; (with_reducible refine (num_Reader_Var.calls k1 g334 t345 t346 t348 t349 t350 w _ ?side1 ?side2 A9.out).mono ?_); (case side1 => repeat (first | (with_reducible first | exact HI334.out | apply IsS206.alloc | apply IsS206.drewN | apply IsS206.drew | apply IsS206.set_0 | apply IsS206.set_1 | refine IsS206.far ?_ NB334_347.out _) | exact HI334.out)); (case side2 => repeat (first | (with_reducible first | exact HB.out | apply b_a | apply b_n | apply b_d | refine below_set ?_ (IsS206.ge HI334.out) | refine below_set ?_ GE347.out) | exact HB.out)); rintro e w18 ⟨rfl, hi, hb, hk⟩; refine ⟨_, rfl, ?_⟩; have n0_ := a_k (Kd.R_mono (Kd.R_keep (IsS206.apart (show IsS206 w _ g334 t345 t346 from by repeat (first | (with_reducible first | exact HI334.out | apply IsS206.alloc | apply IsS206.drewN | apply IsS206.drew | apply IsS206.set_0 | apply IsS206.set_1 | refine IsS206.far ?_ NB334_347.out _) | exact HI334.out)) (by (with_reducible repeat (first | apply Kd.R_alloc | apply Kd.R_drewN | apply Kd.R_drew)); exact (Kd.R_mono (Kd.R_far (p := ⟨gb347, 3, none⟩) (Kd.R_far (p := ⟨gb347, 2, none⟩) (Kd.R_far (p := ⟨gb347, 1, none⟩) (Kd.R_far (p := ⟨gb347, 0, none⟩) (Kd.R_mono HO_4.out (fun k_ hk => (⟨hk, hk.2⟩ : _ ∧ k_ ≠ gb347))) (fun _ hk => hk.2) (.string (⟨#[]⟩ : ByteArray))) (fun _ hk => hk.2) (.int .u64 t344)) (fun _ hk => hk.2) (.int .i64 0)) (fun _ hk => hk.2) (.string (⟨#[]⟩ : ByteArray))) (fun _ h_ => h_.1))) (by decide)) hk (fun _ h => h.2)) (fun _ h => h.1)); have n1_ := a_k (KeepBut.blk hk (g' := gb347) (o := .cells #[.string (⟨#[]⟩ : ByteArray), .int .u64 t344, .int .i64 0, .string (⟨#[]⟩ : ByteArray)] 32 (0, 0)) (by (with_reducible repeat (first | refine blk_drewN ?_ _ | refine blk_drew ?_ | refine blk_alloc ?_ _)); refine blk_put (cs := #[.string (⟨#[]⟩ : ByteArray), .int .u64 t344, .int .i64 0, .string (⟨#[]⟩ : ByteArray)]) ?_ 3 _ rfl; (with_reducible repeat (first | refine blk_drewN ?_ _ | refine blk_drew ?_ | refine blk_alloc ?_ _)); refine blk_put (cs := #[.string (⟨#[]⟩ : ByteArray), .int .u64 t344, .int .i64 0, .string (⟨#[]⟩ : ByteArray)]) ?_ 2 _ rfl; (with_reducible repeat (first | refine blk_drewN ?_ _ | refine blk_drew ?_ | refine blk_alloc ?_ _)); refine blk_put (cs := #[.string (⟨#[]⟩ : ByteArray), .int .u64 0, .int .i64 0, .string (⟨#[]⟩ : ByteArray)]) ?_ 1 _ rfl; (with_reducible repeat (first | refine blk_drewN ?_ _ | refine blk_drew ?_ | refine blk_alloc ?_ _)); refine blk_put (cs := #[.string (⟨#[]⟩ : ByteArray), .int .u64 0, .int .i64 0, .string (⟨#[]⟩ : ByteArray)]) ?_ 0 _ rfl; (with_reducible repeat (first | refine blk_drewN ?_ _ | refine blk_drew ?_ | refine blk_alloc ?_ _)); exact BK347.out) NB347_334.out (by simp)); have n2_ := a_k (hb); have n3_ := a_k (hi); clear HO_4; clear BK347; clear HB; clear HI334; have HO_4 := n0_; have BK347 := n1_; have HB := n2_; have HI334 := n3_; clear n0_ n1_ n2_ n3_; (try clear hb); (try clear hb2); (try clear hk); (try clear hi)))
    (try simp only [Act.put, l_s, l_0, l_1])
    go_cut [] (fun wc => ∃ (kq : Nat) (x348002_9 : Int), Aside0 (block_versions.j1 kq x4_1 x5_1 t338 t341 t349 t350 (⟨#[]⟩ : ByteArray) t344 x348002_9 (⟨#[]⟩ : ByteArray) = some (r1, r2)) ∧ Aside0 (kq ≤ k1) ∧ Aside0 (Kd.R k32 32 wc w.heap.size (fun k_ => k_ ≠ gb347) u4 x4_1) ∧ Aside0 (wc.heap[gb347]? = some (.cells #[.string (⟨#[]⟩ : ByteArray), .int .u64 t344, .int .i64 x348002_9, .string (⟨#[]⟩ : ByteArray)] 32 (0, 0))) ∧ Aside0 (IsS206 w wc g334 t349 t350) ∧ Aside0 (Below w.heap.size w wc))
    case first =>
     have H := HC10.out
     clear HC10
     by_cases c19 : t348 ≤ 2
     ·rw [if_pos c19] at H
      have c19b0 : decide (t348 ≤ 2) = true := decide_eq_true c19
      clear c19
      (first | rw [c19b0] | (simp only [i64_w, i32_w]; rw [c19b0]) | skip)
      have H' := a_k H
      clear H
      have hnb20 := NB347_334.out
      have hnc20 := NB334_347.out
      have hcz21_0 : w18.cell? ⟨gb347, 0, none⟩ = some (.string (⟨#[]⟩ : ByteArray)) := (blk_cell BK347.out 0).trans rfl
      have hcz21_1 : w18.cell? ⟨gb347, 1, none⟩ = some (.int .u64 t344) := (blk_cell BK347.out 1).trans rfl
      have hcz21_2 : w18.cell? ⟨gb347, 2, none⟩ = some (.int .i64 0) := (blk_cell BK347.out 2).trans rfl
      have hcz21_3 : w18.cell? ⟨gb347, 3, none⟩ = some (.string (⟨#[]⟩ : ByteArray)) := (blk_cell BK347.out 3).trans rfl
      have hfz21_0 := blk_frozen BK347.out 0
      have hfz21_1 := blk_frozen BK347.out 1
      have hfz21_2 := blk_frozen BK347.out 2
      have hfz21_3 := blk_frozen BK347.out 3
      go_wp2
      go_meet
      case rel => exact ⟨_, (wrap64 (t348)), H', ⟨by have := HK1.out; first | omega | exact Nat.le_refl _⟩, ⟨by (with_reducible repeat (first | apply Kd.R_alloc | apply Kd.R_drewN | apply Kd.R_drew)); exact Kd.R_mono (Kd.R_far (p := ⟨gb347, 2, none⟩) (Kd.R_mono HO_4.out (fun k_ hk => (⟨hk, hk.2⟩ : _ ∧ k_ ≠ gb347))) (fun _ hk => hk.2) (.int .i64 (wrap64 (t348)))) (fun _ hk => hk.1.2)⟩, ⟨by (with_reducible repeat (first | refine blk_drewN ?_ _ | refine blk_drew ?_ | refine blk_alloc ?_ _)); refine blk_put (cs := #[.string (⟨#[]⟩ : ByteArray), .int .u64 t344, .int .i64 0, .string (⟨#[]⟩ : ByteArray)]) ?_ 2 _ rfl; (with_reducible repeat (first | refine blk_drewN ?_ _ | refine blk_drew ?_ | refine blk_alloc ?_ _)); exact BK347.out⟩, ⟨by repeat (first | (with_reducible first | exact HI334.out | apply IsS206.alloc | apply IsS206.drewN | apply IsS206.drew | apply IsS206.set_0 | apply IsS206.set_1 | refine IsS206.far ?_ NB334_347.out _) | exact HI334.out)⟩, ⟨by repeat (first | (with_reducible first | exact HB.out | apply b_a | apply b_n | apply b_d | refine below_set ?_ (IsS206.ge HI334.out) | refine below_set ?_ GE347.out) | exact HB.out)⟩⟩
     ·rw [if_neg c19] at H
      have c19b0 : decide (t348 ≤ 2) = false := decide_eq_false c19
      clear c19
      (first | rw [c19b0] | (simp only [i64_w, i32_w]; rw [c19b0]) | skip)
      have H' := a_k H
      clear H
      go_wp2
      go_meet
      case rel => exact ⟨_, (0), H', ⟨by have := HK1.out; first | omega | exact Nat.le_refl _⟩, ⟨by (with_reducible repeat (first | apply Kd.R_alloc | apply Kd.R_drewN | apply Kd.R_drew)); exact Kd.R_mono HO_4.out (fun _ hk => hk.2)⟩, ⟨by (with_reducible repeat (first | refine blk_drewN ?_ _ | refine blk_drew ?_ | refine blk_alloc ?_ _)); exact BK347.out⟩, ⟨by repeat (first | (with_reducible first | exact HI334.out | apply IsS206.alloc | apply IsS206.drewN | apply IsS206.drew | apply IsS206.set_0 | apply IsS206.set_1 | refine IsS206.far ?_ NB334_347.out _) | exact HI334.out)⟩, ⟨by repeat (first | (with_reducible first | exact HB.out | apply b_a | apply b_n | apply b_d | refine below_set ?_ (IsS206.ge HI334.out) | refine below_set ?_ GE347.out) | exact HB.out)⟩⟩
    case rest =>
     clear HC10
     try clear c1
     try clear c2
     try clear p2
     try clear c4
     try clear c5
     try clear c5b0
     try clear p6
     try clear c16
     try clear c17
     try clear c19
     try clear c19b0
     try clear c20
     try clear hcz17_0
     try clear hcz17_1
     try clear hcz17_2
     try clear hcz17_3
     try clear hcz21_0
     try clear hcz21_1
     try clear hcz21_2
     try clear hcz21_3
     try clear hfz17_0
     try clear hfz17_1
     try clear hfz17_2
     try clear hfz17_3
     try clear hfz21_0
     try clear hfz21_1
     try clear hfz21_2
     try clear hfz21_3
     try clear p2
     obtain ⟨kq, x348002_9, HA, HJ9, HO_4, BK347, HI334, HB⟩ := hcut
     cases kq with
     | zero => exact absurd HA.out (by simp [block_versions.j1])
     | succ kj9 =>
      have H := HA.out
      clear HA
      simp only [block_versions.j1] at H
      replace H := Option.bind_eq_some_iff.mp H
      obtain ⟨⟨t351, t352, t353⟩, A220, H⟩ := H
      replace H : ((strings_Clone.f t351).bind fun t354 => ((num_Reader_Err.f t352 t353).bind fun bt355 => (if bt355.1 = 0 then (if 0 ≤ t338 then (if t338 ≤ (x5_1.size : Int) then (if (x5_1.extract 0 (t338 : Int).toNat).size + t341.size ≤ 9223372036854775807 then (if x4_1.length < 2932031007402 then (block_versions.l0 kj9 (x4_1 ++ [(⟨(x5_1.extract 0 (t338 : Int).toNat) ++ t341, t344, x348002_9, t354⟩ : S32)]) ((x5_1.extract 0 (t338 : Int).toNat) ++ t341) bt355.2.1 bt355.2.2) else (none)) else (none)) else (none)) else (none)) else (some (([] : List (S32)), false))))) = some (r1, r2) := H
      have A22 := a_k A220
      clear A220
      replace H := Option.bind_eq_some_iff.mp H
      obtain ⟨t354, A230, H⟩ := H
      replace H : ((num_Reader_Err.f t352 t353).bind fun bt355 => (if bt355.1 = 0 then (if 0 ≤ t338 then (if t338 ≤ (x5_1.size : Int) then (if (x5_1.extract 0 (t338 : Int).toNat).size + t341.size ≤ 9223372036854775807 then (if x4_1.length < 2932031007402 then (block_versions.l0 kj9 (x4_1 ++ [(⟨(x5_1.extract 0 (t338 : Int).toNat) ++ t341, t344, x348002_9, t354⟩ : S32)]) ((x5_1.extract 0 (t338 : Int).toNat) ++ t341) bt355.2.1 bt355.2.2) else (none)) else (none)) else (none)) else (none)) else (some (([] : List (S32)), false)))) = some (r1, r2) := H
      have A23 := a_k A230
      clear A230
      replace H := Option.bind_eq_some_iff.mp H
      obtain ⟨⟨t355, t356, t357⟩, A240, H⟩ := H
      replace H : (if t355 = 0 then (if 0 ≤ t338 then (if t338 ≤ (x5_1.size : Int) then (if (x5_1.extract 0 (t338 : Int).toNat).size + t341.size ≤ 9223372036854775807 then (if x4_1.length < 2932031007402 then (block_versions.l0 kj9 (x4_1 ++ [(⟨(x5_1.extract 0 (t338 : Int).toNat) ++ t341, t344, x348002_9, t354⟩ : S32)]) ((x5_1.extract 0 (t338 : Int).toNat) ++ t341) t356 t357) else (none)) else (none)) else (none)) else (none)) else (some (([] : List (S32)), false))) = some (r1, r2) := H
      have A24 := a_k A240
      clear A240
      by_cases c25 : t355 = 0
      ·rw [if_pos c25] at H
       have c25b0 : (t355 == 0) = true := beq_iff_eq.mpr c25
       have c25b1 : (t355 != 0) = false := bne_eq_false_iff_eq.mpr c25
       clear c25
       by_cases c26 : 0 ≤ t338
       ·rw [if_pos c26] at H
        have c26b0 := eq_true c26
        have c26b1 : decide (0 ≤ t338) = true := decide_eq_true c26
        clear c26
        by_cases c27 : t338 ≤ (x5_1.size : Int)
        ·rw [if_pos c27] at H
         have c27b0 := eq_true c27
         have c27b1 : decide (t338 ≤ (x5_1.size : Int)) = true := decide_eq_true c27
         clear c27
         by_cases c28 : (x5_1.extract 0 (t338 : Int).toNat).size + t341.size ≤ 9223372036854775807
         ·rw [if_pos c28] at H
          have c28b0 := eq_true c28
          have c28b1 : decide ((x5_1.extract 0 (t338 : Int).toNat).size + t341.size ≤ 9223372036854775807) = true := decide_eq_true c28
          try have c28b2 : (9223372036854775807 < (x5_1.extract 0 (t338 : Int).toNat).size + t341.size) = False := eq_false (Nat.not_lt.2 c28)
          (try (have c28b7 := c28b0; simp only [ByteArray.size_extract, ByteArray.size_append, Nat.sub_zero] at c28b7))
          (try (have c28b8 := c28b2; simp only [ByteArray.size_extract, ByteArray.size_append, Nat.sub_zero] at c28b8))
          (try (have c28m_ : (t338 : Int).toNat ≤ x5_1.size := (by have z_ := of_decide_eq_true (show decide (t338 ≤ (x5_1.size : Int)) = true by assumption); omega); (try rw [Nat.min_eq_left c28m_] at c28b7); (try rw [Nat.min_eq_left c28m_] at c28b8); clear c28m_))
          clear c28
          by_cases c29 : x4_1.length < 2932031007402
          ·rw [if_pos c29] at H
           have LMc29 := a_k c29
           clear c29
           obtain ⟨y358, hy358⟩ : ∃ y_ : List (S32), y_ = (x4_1 ++ [(⟨(x5_1.extract 0 (t338 : Int).toNat) ++ t341, t344, x348002_9, t354⟩ : S32)]) := ⟨_, rfl⟩
           replace H : (block_versions.l0 kj9 y358 ((x5_1.extract 0 (t338 : Int).toNat) ++ t341) t356 t357) = some (r1, r2) := by first | (rw [hy358]; with_reducible exact H) | (have H2_ := (Option.bind_some _ _).symm.trans H; rw [hy358]; with_reducible exact H2_) | (have H2_ := (Option.bind_some _ _).symm.trans H; with_reducible exact H2_) | with_reducible exact H | (rw [hy358]; exact H) | exact H
           have Ny358 := a_k hy358
           clear hy358
           have H' := a_k H
           clear H
           go_wp2_with (first | ((with_reducible refine gate_callee (f := 171) rfl ?_); refine goesL_ (some 33) rfl rfl Tryz.func171 (by kernel_rfl) rfl #[.pointer (some ⟨g334, 0, none⟩), .int .i64 60000] rfl (by (try simp only [m_a, m_c, m_n]); first | done | rfl) ?_; (with_reducible refine (num_Reader_Text.calls kj9 g334 t349 t350 60000 t351 t352 t353 w _ ?side1 ?side2 A22.out).mono ?_); (case side1 => repeat (first | (with_reducible first | exact HI334.out | apply IsS206.alloc | apply IsS206.drewN | apply IsS206.drew | apply IsS206.set_0 | apply IsS206.set_1 | refine IsS206.far ?_ NB334_347.out _) | exact HI334.out)); (case side2 => repeat (first | (with_reducible first | exact HB.out | apply b_a | apply b_n | apply b_d | refine below_set ?_ (IsS206.ge HI334.out) | refine below_set ?_ GE347.out) | exact HB.out)); rintro e w30 ⟨rfl, hi, hb, hk⟩; refine ⟨_, rfl, ?_⟩; have n0_ := a_k (Kd.R_mono (Kd.R_keep (IsS206.apart (show IsS206 w _ g334 t349 t350 from by repeat (first | (with_reducible first | exact HI334.out | apply IsS206.alloc | apply IsS206.drewN | apply IsS206.drew | apply IsS206.set_0 | apply IsS206.set_1 | refine IsS206.far ?_ NB334_347.out _) | exact HI334.out)) (by (with_reducible repeat (first | apply Kd.R_alloc | apply Kd.R_drewN | apply Kd.R_drew)); exact HO_4.out) (by decide)) hk (fun _ h => h.2)) (fun _ h => h.1)); have n1_ := a_k (KeepBut.blk hk (g' := gb347) (o := .cells #[.string (⟨#[]⟩ : ByteArray), .int .u64 t344, .int .i64 x348002_9, .string (⟨#[]⟩ : ByteArray)] 32 (0, 0)) (by (with_reducible repeat (first | refine blk_drewN ?_ _ | refine blk_drew ?_ | refine blk_alloc ?_ _)); exact BK347.out) NB347_334.out (by simp)); have n2_ := a_k (hb); have n3_ := a_k (hi); clear HO_4; clear BK347; clear HB; clear HI334; have HO_4 := n0_; have BK347 := n1_; have HB := n2_; have HI334 := n3_; clear n0_ n1_ n2_ n3_; (try clear hb); (try clear hb2); (try clear hk); (try clear hi)) | ((with_reducible refine gate_callee (f := 99) rfl ?_); refine goesL_ (some 34) rfl rfl Tryz.func99 (by kernel_rfl) rfl #[.string t351] rfl (by (try simp only [m_a, m_c, m_n]); first | done | rfl) ?_; (with_reducible refine (strings_Clone.calls t351 t354 _ A23.out).mono ?_); rintro e w31 ⟨rfl, hb⟩; refine ⟨_, rfl, ?_⟩; have n0_ := a_k (Kd.R_below (by (with_reducible repeat (first | apply Kd.R_alloc | apply Kd.R_drewN | apply Kd.R_drew)); exact HO_4.out) hb); have n1_ := a_k (blk_below (g := gb347) (o := .cells #[.string (⟨#[]⟩ : ByteArray), .int .u64 t344, .int .i64 x348002_9, .string (⟨#[]⟩ : ByteArray)] 32 (0, 0)) (by (with_reducible repeat (first | refine blk_drewN ?_ _ | refine blk_drew ?_ | refine blk_alloc ?_ _)); exact BK347.out) hb); have n2_ := a_k (IsS206.below (by repeat (first | (with_reducible first | exact HI334.out | apply IsS206.alloc | apply IsS206.drewN | apply IsS206.drew | apply IsS206.set_0 | apply IsS206.set_1 | refine IsS206.far ?_ NB334_347.out _) | exact HI334.out)) hb); have n3_ := a_k (below_step (by repeat (first | (with_reducible first | exact HB.out | apply b_a | apply b_n | apply b_d | refine below_set ?_ (IsS206.ge HI334.out) | refine below_set ?_ GE347.out) | exact HB.out)) hb); clear HO_4; clear BK347; clear HI334; clear HB; have HO_4 := n0_; have BK347 := n1_; have HI334 := n2_; have HB := n3_; clear n0_ n1_ n2_ n3_; (try clear hb); (try clear hb2); (try clear hk); (try clear hi); have hnb32 := NB347_334.out; have hnc32 := NB334_347.out; have hcz33_0 : w31.cell? ⟨gb347, 0, none⟩ = some (.string (⟨#[]⟩ : ByteArray)) := (blk_cell BK347.out 0).trans rfl; have hcz33_1 : w31.cell? ⟨gb347, 1, none⟩ = some (.int .u64 t344) := (blk_cell BK347.out 1).trans rfl; have hcz33_2 : w31.cell? ⟨gb347, 2, none⟩ = some (.int .i64 x348002_9) := (blk_cell BK347.out 2).trans rfl; have hcz33_3 : w31.cell? ⟨gb347, 3, none⟩ = some (.string (⟨#[]⟩ : ByteArray)) := (blk_cell BK347.out 3).trans rfl; have hfz33_0 := blk_frozen BK347.out 0; have hfz33_1 := blk_frozen BK347.out 1; have hfz33_2 := blk_frozen BK347.out 2; have hfz33_3 := blk_frozen BK347.out 3) | ((with_reducible refine gate_callee (f := 52) rfl ?_); refine goesL_ (some 37) rfl rfl Tryz.func52 (by kernel_rfl) rfl #[.pointer (some ⟨g334, 0, none⟩)] rfl (by (try simp only [m_a, m_c, m_n]); first | done | rfl) ?_; (with_reducible refine (num_Reader_Err.calls g334 t352 t353 t355 t356 t357 w _ ?side1 ?side2 A24.out).mono ?_); (case side1 => repeat (first | (with_reducible first | exact HI334.out | apply IsS206.alloc | apply IsS206.drewN | apply IsS206.drew | apply IsS206.set_0 | apply IsS206.set_1 | refine IsS206.far ?_ NB334_347.out _) | exact HI334.out)); (case side2 => repeat (first | (with_reducible first | exact HB.out | apply b_a | apply b_n | apply b_d | refine below_set ?_ (IsS206.ge HI334.out) | refine below_set ?_ GE347.out) | exact HB.out)); rintro e w34 ⟨rfl, hi, hb, hk⟩; refine ⟨_, rfl, ?_⟩; have n0_ := a_k (Kd.R_mono (Kd.R_keep (IsS206.apart (show IsS206 w _ g334 t352 t353 from by repeat (first | (with_reducible first | exact HI334.out | apply IsS206.alloc | apply IsS206.drewN | apply IsS206.drew | apply IsS206.set_0 | apply IsS206.set_1 | refine IsS206.far ?_ NB334_347.out _) | exact HI334.out)) (by (with_reducible repeat (first | apply Kd.R_alloc | apply Kd.R_drewN | apply Kd.R_drew)); exact (Kd.R_mono (Kd.R_far (p := ⟨gb347, 3, none⟩) (Kd.R_mono HO_4.out (fun k_ hk => (⟨hk, hk⟩ : _ ∧ k_ ≠ gb347))) (fun _ hk => hk.2) (.string t354)) (fun _ h_ => h_.1))) (by decide)) hk (fun _ h => h.2)) (fun _ h => h.1)); have n1_ := a_k (KeepBut.blk hk (g' := gb347) (o := .cells #[.string (⟨#[]⟩ : ByteArray), .int .u64 t344, .int .i64 x348002_9, .string t354] 32 (0, 0)) (by (with_reducible repeat (first | refine blk_drewN ?_ _ | refine blk_drew ?_ | refine blk_alloc ?_ _)); refine blk_put (cs := #[.string (⟨#[]⟩ : ByteArray), .int .u64 t344, .int .i64 x348002_9, .string (⟨#[]⟩ : ByteArray)]) ?_ 3 _ rfl; (with_reducible repeat (first | refine blk_drewN ?_ _ | refine blk_drew ?_ | refine blk_alloc ?_ _)); exact BK347.out) NB347_334.out (by simp)); have n2_ := a_k (hb); have n3_ := a_k (hi); clear HO_4; clear BK347; clear HB; clear HI334; have HO_4 := n0_; have BK347 := n1_; have HB := n2_; have HI334 := n3_; clear n0_ n1_ n2_ n3_; (try clear hb); (try clear hb2); (try clear hk); (try clear hi); have hcz35_0 : w34.cell? ⟨gb347, 0, none⟩ = some (.string (⟨#[]⟩ : ByteArray)) := (blk_cell BK347.out 0).trans rfl; have hcz35_1 : w34.cell? ⟨gb347, 1, none⟩ = some (.int .u64 t344) := (blk_cell BK347.out 1).trans rfl; have hcz35_2 : w34.cell? ⟨gb347, 2, none⟩ = some (.int .i64 x348002_9) := (blk_cell BK347.out 2).trans rfl; have hcz35_3 : w34.cell? ⟨gb347, 3, none⟩ = some (.string t354) := (blk_cell BK347.out 3).trans rfl; have hfz35_0 := blk_frozen BK347.out 0; have hfz35_1 := blk_frozen BK347.out 1; have hfz35_2 := blk_frozen BK347.out 2; have hfz35_3 := blk_frozen BK347.out 3) | ((with_reducible refine gate_builtin (b := .append) (xs := #[.tmp 47, .tmp 49]) rfl ?_); at_builtin; refine Kd.R_append k32 (w0 := w) w.heap.size rfl (.tmp 47) (.tmp 49) 22 32 (.agg #[(.string ⟨#[]⟩), (.int .u64 0), (.int .i64 0), (.string ⟨#[]⟩)]) 48 rfl Tryz.underlying22 info32 rfl (by decide) (by omega) u4 x4_1 (⟨(x5_1.extract 0 (t338 : Int).toNat) ++ t341, t344, x348002_9, t354⟩ : S32) [.string ((x5_1.extract 0 (t338 : Int).toNat) ++ t341), .int .u64 t344, .int .i64 x348002_9, .string t354] (fun k_ => k_ ≠ gb347) (fun _ => False) rfl (by first | (go_simp; done) | (go_simp; rfl)) ?aP (fun _ hk => hk.elim) ?aF ?aO ?aB ?aS ?aL ?_; (case aP => exact k32_mkM _ _ _ (⟨(x5_1.extract 0 (t338 : Int).toNat) ++ t341, t344, x348002_9, t354⟩ : S32)); (case aB => exact (by repeat (first | (with_reducible first | exact HB.out | apply b_a | apply b_n | apply b_d | refine below_set ?_ (IsS206.ge HI334.out) | refine below_set ?_ GE347.out) | exact HB.out))); (case aF => exact (fun k_ hk => Kd.freshB (g := gb347) (o := .cells #[.string ((x5_1.extract 0 (t338 : Int).toNat) ++ t341), .int .u64 t344, .int .i64 x348002_9, .string t354] 32 (0, 0)) (by (with_reducible repeat (first | refine blk_drewN ?_ _ | refine blk_drew ?_ | refine blk_alloc ?_ _)); refine blk_put (cs := #[.string (⟨#[]⟩ : ByteArray), .int .u64 t344, .int .i64 x348002_9, .string t354]) ?_ 0 _ rfl; (with_reducible repeat (first | refine blk_drewN ?_ _ | refine blk_drew ?_ | refine blk_alloc ?_ _)); exact BK347.out) k_ hk)); (case aO => exact (by (with_reducible repeat (first | apply Kd.R_alloc | apply Kd.R_drewN | apply Kd.R_drew)); exact Kd.R_mono (Kd.R_far (p := ⟨gb347, 0, none⟩) (Kd.R_mono HO_4.out (fun k_ hk => (⟨hk, hk⟩ : _ ∧ k_ ≠ gb347))) (fun _ hk => hk.2) (.string ((x5_1.extract 0 (t338 : Int).toNat) ++ t341))) (fun _ hk => hk.1))); (case aS => exact (below_size (by repeat (first | (with_reducible first | exact HB.out | apply b_a | apply b_n | apply b_d | refine below_set ?_ (IsS206.ge HI334.out) | refine below_set ?_ GE347.out) | exact HB.out)))); (case aL => have := LMc29.out; omega); intro v359 w36 ho hb hg hat; rw [← Ny358.out] at ho; have n0_ := a_k (blk_grown (g := gb347) (o := .cells #[.string ((x5_1.extract 0 (t338 : Int).toNat) ++ t341), .int .u64 t344, .int .i64 x348002_9, .string t354] 32 (0, 0)) (by (with_reducible repeat (first | refine blk_drewN ?_ _ | refine blk_drew ?_ | refine blk_alloc ?_ _)); refine blk_put (cs := #[.string (⟨#[]⟩ : ByteArray), .int .u64 t344, .int .i64 x348002_9, .string t354]) ?_ 0 _ rfl; (with_reducible repeat (first | refine blk_drewN ?_ _ | refine blk_drew ?_ | refine blk_alloc ?_ _)); exact BK347.out) hg (Kd.R_away HO_4.out (fun _ hk => hk))); have n1_ := a_k (IsS206.grown (IsS206.far (p := ⟨gb347, 0, none⟩) HI334.out NB334_347.out (.string ((x5_1.extract 0 (t338 : Int).toNat) ++ t341))) hg (IsS206.own_ne HI334.out HO_4.out (by decide))); have n2_ := a_k (hb); have n3_ := a_k (ho); clear BK347; clear HI334; clear HB; clear HO_4; have BK347 := n0_; have HI334 := n1_; have HB := n2_; have HO360 := n3_; clear n0_ n1_ n2_ n3_; clear ho hb hg hat))
           go_roundg kj9
           case measure => have := HK1.out; have := HJ9.out; omega
           case rel => exact ⟨(y358), ((x5_1.extract 0 (t338 : Int).toNat) ++ t341), (t356), (t357), (by first | rfl | (simp; done) | (simp [*]; done)), H', ⟨by have := HK1.out; have := HJ9.out; omega⟩, ⟨by (with_reducible repeat (first | apply Kd.R_alloc | apply Kd.R_drewN | apply Kd.R_drew)); exact Kd.R_mono HO360.out (fun _ hk => trivial)⟩, ⟨by repeat (first | (with_reducible first | exact HI334.out | apply IsS206.alloc | apply IsS206.drewN | apply IsS206.drew | apply IsS206.set_0 | apply IsS206.set_1 | refine IsS206.far ?_ NB334_347.out _) | exact HI334.out)⟩, ⟨by repeat (first | (with_reducible first | exact HB.out | apply b_a | apply b_n | apply b_d | refine below_set ?_ (IsS206.ge HI334.out) | refine below_set ?_ GE347.out) | exact HB.out)⟩⟩
          ·rw [if_neg c29] at H
           exact absurd H (by simp)
         ·rw [if_neg c28] at H
          exact absurd H (by simp)
        ·rw [if_neg c27] at H
         exact absurd H (by simp)
       ·rw [if_neg c26] at H
        exact absurd H (by simp)
      ·rw [if_neg c25] at H
       have c25b0 : (t355 == 0) = false := beq_eq_false_iff_ne.mpr c25
       have c25b1 : (t355 != 0) = true := bne_iff_ne.mpr c25
       simp only [Option.some.injEq, Prod.mk.injEq] at H
       obtain ⟨rfl, rfl⟩ := H
       go_wp2_with (first | ((with_reducible refine gate_callee (f := 171) rfl ?_); refine goesL_ (some 33) rfl rfl Tryz.func171 (by kernel_rfl) rfl #[.pointer (some ⟨g334, 0, none⟩), .int .i64 60000] rfl (by (try simp only [m_a, m_c, m_n]); first | done | rfl) ?_; (with_reducible refine (num_Reader_Text.calls kj9 g334 t349 t350 60000 t351 t352 t353 w _ ?side1 ?side2 A22.out).mono ?_); (case side1 => repeat (first | (with_reducible first | exact HI334.out | apply IsS206.alloc | apply IsS206.drewN | apply IsS206.drew | apply IsS206.set_0 | apply IsS206.set_1 | refine IsS206.far ?_ NB334_347.out _) | exact HI334.out)); (case side2 => repeat (first | (with_reducible first | exact HB.out | apply b_a | apply b_n | apply b_d | refine below_set ?_ (IsS206.ge HI334.out) | refine below_set ?_ GE347.out) | exact HB.out)); rintro e w37 ⟨rfl, hi, hb, hk⟩; refine ⟨_, rfl, ?_⟩; have n0_ := a_k (Kd.R_mono (Kd.R_keep (IsS206.apart (show IsS206 w _ g334 t349 t350 from by repeat (first | (with_reducible first | exact HI334.out | apply IsS206.alloc | apply IsS206.drewN | apply IsS206.drew | apply IsS206.set_0 | apply IsS206.set_1 | refine IsS206.far ?_ NB334_347.out _) | exact HI334.out)) (by (with_reducible repeat (first | apply Kd.R_alloc | apply Kd.R_drewN | apply Kd.R_drew)); exact HO_4.out) (by decide)) hk (fun _ h => h.2)) (fun _ h => h.1)); have n1_ := a_k (KeepBut.blk hk (g' := gb347) (o := .cells #[.string (⟨#[]⟩ : ByteArray), .int .u64 t344, .int .i64 x348002_9, .string (⟨#[]⟩ : ByteArray)] 32 (0, 0)) (by (with_reducible repeat (first | refine blk_drewN ?_ _ | refine blk_drew ?_ | refine blk_alloc ?_ _)); exact BK347.out) NB347_334.out (by simp)); have n2_ := a_k (hb); have n3_ := a_k (hi); clear HO_4; clear BK347; clear HB; clear HI334; have HO_4 := n0_; have BK347 := n1_; have HB := n2_; have HI334 := n3_; clear n0_ n1_ n2_ n3_; (try clear hb); (try clear hb2); (try clear hk); (try clear hi)) | ((with_reducible refine gate_callee (f := 99) rfl ?_); refine goesL_ (some 34) rfl rfl Tryz.func99 (by kernel_rfl) rfl #[.string t351] rfl (by (try simp only [m_a, m_c, m_n]); first | done | rfl) ?_; (with_reducible refine (strings_Clone.calls t351 t354 _ A23.out).mono ?_); rintro e w38 ⟨rfl, hb⟩; refine ⟨_, rfl, ?_⟩; have n0_ := a_k (Kd.R_below (by (with_reducible repeat (first | apply Kd.R_alloc | apply Kd.R_drewN | apply Kd.R_drew)); exact HO_4.out) hb); have n1_ := a_k (blk_below (g := gb347) (o := .cells #[.string (⟨#[]⟩ : ByteArray), .int .u64 t344, .int .i64 x348002_9, .string (⟨#[]⟩ : ByteArray)] 32 (0, 0)) (by (with_reducible repeat (first | refine blk_drewN ?_ _ | refine blk_drew ?_ | refine blk_alloc ?_ _)); exact BK347.out) hb); have n2_ := a_k (IsS206.below (by repeat (first | (with_reducible first | exact HI334.out | apply IsS206.alloc | apply IsS206.drewN | apply IsS206.drew | apply IsS206.set_0 | apply IsS206.set_1 | refine IsS206.far ?_ NB334_347.out _) | exact HI334.out)) hb); have n3_ := a_k (below_step (by repeat (first | (with_reducible first | exact HB.out | apply b_a | apply b_n | apply b_d | refine below_set ?_ (IsS206.ge HI334.out) | refine below_set ?_ GE347.out) | exact HB.out)) hb); clear HO_4; clear BK347; clear HI334; clear HB; have HO_4 := n0_; have BK347 := n1_; have HI334 := n2_; have HB := n3_; clear n0_ n1_ n2_ n3_; (try clear hb); (try clear hb2); (try clear hk); (try clear hi); have hnb39 := NB347_334.out; have hnc39 := NB334_347.out; have hcz40_0 : w38.cell? ⟨gb347, 0, none⟩ = some (.string (⟨#[]⟩ : ByteArray)) := (blk_cell BK347.out 0).trans rfl; have hcz40_1 : w38.cell? ⟨gb347, 1, none⟩ = some (.int .u64 t344) := (blk_cell BK347.out 1).trans rfl; have hcz40_2 : w38.cell? ⟨gb347, 2, none⟩ = some (.int .i64 x348002_9) := (blk_cell BK347.out 2).trans rfl; have hcz40_3 : w38.cell? ⟨gb347, 3, none⟩ = some (.string (⟨#[]⟩ : ByteArray)) := (blk_cell BK347.out 3).trans rfl; have hfz40_0 := blk_frozen BK347.out 0; have hfz40_1 := blk_frozen BK347.out 1; have hfz40_2 := blk_frozen BK347.out 2; have hfz40_3 := blk_frozen BK347.out 3) | ((with_reducible refine gate_callee (f := 52) rfl ?_); refine goesL_ (some 37) rfl rfl Tryz.func52 (by kernel_rfl) rfl #[.pointer (some ⟨g334, 0, none⟩)] rfl (by (try simp only [m_a, m_c, m_n]); first | done | rfl) ?_; (with_reducible refine (num_Reader_Err.calls g334 t352 t353 t355 t356 t357 w _ ?side1 ?side2 A24.out).mono ?_); (case side1 => repeat (first | (with_reducible first | exact HI334.out | apply IsS206.alloc | apply IsS206.drewN | apply IsS206.drew | apply IsS206.set_0 | apply IsS206.set_1 | refine IsS206.far ?_ NB334_347.out _) | exact HI334.out)); (case side2 => repeat (first | (with_reducible first | exact HB.out | apply b_a | apply b_n | apply b_d | refine below_set ?_ (IsS206.ge HI334.out) | refine below_set ?_ GE347.out) | exact HB.out)); rintro e w41 ⟨rfl, hi, hb, hk⟩; refine ⟨_, rfl, ?_⟩; have n0_ := a_k (Kd.R_mono (Kd.R_keep (IsS206.apart (show IsS206 w _ g334 t352 t353 from by repeat (first | (with_reducible first | exact HI334.out | apply IsS206.alloc | apply IsS206.drewN | apply IsS206.drew | apply IsS206.set_0 | apply IsS206.set_1 | refine IsS206.far ?_ NB334_347.out _) | exact HI334.out)) (by (with_reducible repeat (first | apply Kd.R_alloc | apply Kd.R_drewN | apply Kd.R_drew)); exact (Kd.R_mono (Kd.R_far (p := ⟨gb347, 3, none⟩) (Kd.R_mono HO_4.out (fun k_ hk => (⟨hk, hk⟩ : _ ∧ k_ ≠ gb347))) (fun _ hk => hk.2) (.string t354)) (fun _ h_ => h_.1))) (by decide)) hk (fun _ h => h.2)) (fun _ h => h.1)); have n1_ := a_k (KeepBut.blk hk (g' := gb347) (o := .cells #[.string (⟨#[]⟩ : ByteArray), .int .u64 t344, .int .i64 x348002_9, .string t354] 32 (0, 0)) (by (with_reducible repeat (first | refine blk_drewN ?_ _ | refine blk_drew ?_ | refine blk_alloc ?_ _)); refine blk_put (cs := #[.string (⟨#[]⟩ : ByteArray), .int .u64 t344, .int .i64 x348002_9, .string (⟨#[]⟩ : ByteArray)]) ?_ 3 _ rfl; (with_reducible repeat (first | refine blk_drewN ?_ _ | refine blk_drew ?_ | refine blk_alloc ?_ _)); exact BK347.out) NB347_334.out (by simp)); have n2_ := a_k (hb); have n3_ := a_k (hi); clear HO_4; clear BK347; clear HB; clear HI334; have HO_4 := n0_; have BK347 := n1_; have HB := n2_; have HI334 := n3_; clear n0_ n1_ n2_ n3_; (try clear hb); (try clear hb2); (try clear hk); (try clear hi)))
       go_ret2
       exact ⟨_, by first | rfl | (simp [*, errW_none, errW_some] <;> rfl), by first | exact Kd.R_nil _ _ _ _ _ | exact Kd.N_nil _ _ _ _ _ | exact Kd.V_nil _ _ _ _ _ | exact Kd.Q_nil _ _ _ _ _ | exact Kd.S_nil _ _ _ _ _, by repeat (first | (with_reducible first | exact HB.out | apply b_a | apply b_n | apply b_d | refine below_set ?_ (IsS206.ge HI334.out) | refine below_set ?_ GE347.out) | exact HB.out)⟩
   ·rw [if_neg c5] at H
    have c5b0 : decide (0 < t335) = false := decide_eq_false c5
    clear c5
    simp only [Option.some.injEq, Prod.mk.injEq] at H
    obtain ⟨rfl, rfl⟩ := H
    go_wp2_with (first | ((with_reducible refine gate_callee (f := 53) rfl ?_); refine goesL_ (some 14) rfl rfl Tryz.func53 (by kernel_rfl) rfl #[.pointer (some ⟨g334, 0, none⟩)] rfl (by (try simp only [m_a, m_c, m_n]); first | done | rfl) ?_; (with_reducible refine (num_Reader_Left.calls g334 x335000_1 x335001_1 t335 t336 t337 w _ ?side1 ?side2 A4.out).mono ?_); (case side1 => repeat (first | (with_reducible first | exact HI334.out | apply IsS206.alloc | apply IsS206.drewN | apply IsS206.drew | apply IsS206.set_0 | apply IsS206.set_1) | exact HI334.out)); (case side2 => repeat (first | (with_reducible first | exact HB.out | apply b_a | apply b_n | apply b_d | refine below_set ?_ (IsS206.ge HI334.out)) | exact HB.out)); rintro e w42 ⟨rfl, hi, hb, hk⟩; refine ⟨_, rfl, ?_⟩; have n0_ := a_k (Kd.R_mono (Kd.R_keep (IsS206.apart (show IsS206 w _ g334 x335000_1 x335001_1 from by repeat (first | (with_reducible first | exact HI334.out | apply IsS206.alloc | apply IsS206.drewN | apply IsS206.drew | apply IsS206.set_0 | apply IsS206.set_1) | exact HI334.out)) (by (with_reducible repeat (first | apply Kd.R_alloc | apply Kd.R_drewN | apply Kd.R_drew)); exact HO_4.out) (by decide)) hk (fun _ h => h.2)) (fun _ h => h.1)); have n1_ := a_k (hb); have n2_ := a_k (hi); clear HO_4; clear HB; clear HI334; have HO_4 := n0_; have HB := n1_; have HI334 := n2_; clear n0_ n1_ n2_; (try clear hb); (try clear hb2); (try clear hk); (try clear hi)))
    go_ret2
    exact ⟨_, by first | rfl | (simp [*, errW_none, errW_some] <;> rfl), by (with_reducible repeat (first | apply Kd.R_alloc | apply Kd.R_drewN | apply Kd.R_drew)); exact HO_4.out, by repeat (first | (with_reducible first | exact HB.out | apply b_a | apply b_n | apply b_d | refine below_set ?_ (IsS206.ge HI334.out)) | exact HB.out)⟩
def sum_Open.f (k : Nat) (a0 : ByteArray) : Option (ByteArray × Int) := if (wrap64 ((a0.size : Int) - 4)) < 0 then (some ((⟨#[]⟩ : ByteArray), 5)) else ((sum_get.f k a0 (wrap64 ((a0.size : Int) - 4))).bind fun t305 => (if 0 ≤ (wrap64 ((a0.size : Int) - 4)) then (if (wrap64 ((a0.size : Int) - 4)) ≤ (a0.size : Int) then ((sum_Crc.f k (([a0.extract 0 ((wrap64 ((a0.size : Int) - 4)) : Int).toNat] : List ByteArray))).bind fun t309 => (if t305 = t309 then ((strings_Clone.f (a0.extract 0 ((wrap64 ((a0.size : Int) - 4)) : Int).toNat)).bind fun t310 => (some (t310, 0))) else (some ((⟨#[]⟩ : ByteArray), 6)))) else (none)) else (none)))
def sum_Open.T4 : Bool × List (List Nat × List Nat) := (true, [([], []), ([], []), ([0, 1], [0, 1]), ([], []), ([], []), ([3, 4], [3, 4]), ([5], [5]), ([6, 2], [6]), ([2, 7], [2, 7]), ([8, 7], [8])])
def sum_Open.B4 : List Nat := [0, 0, 3, 0, 0, 24, 56, 127, 255, 511]
theorem sum_Open.tab4 : rtab .any (opsOf Tryz.f193 4) = sum_Open.T4 := by kernel_rfl
theorem sum_Open.bits4 : waitsOk sum_Open.T4.2 sum_Open.B4 = true := by kernel_rfl
theorem sum_Open.calls (k : Nat) (a0 : ByteArray) (r1 : ByteArray) (r2 : Int) (w : World) (h : sum_Open.f k a0 = some (r1, r2)) :
  Calls Tryz.prog 193 #[.string a0] w fun e w' => e = .returned (.tuple #[.string r1, .int .i64 r2]) ∧ Below w.heap.size w w' := by
 have HB := a_k (Below.refl w.heap.size w)
 have H : (if (wrap64 ((a0.size : Int) - 4)) < 0 then (some ((⟨#[]⟩ : ByteArray), 5)) else ((sum_get.f k a0 (wrap64 ((a0.size : Int) - 4))).bind fun t305 => (if 0 ≤ (wrap64 ((a0.size : Int) - 4)) then (if (wrap64 ((a0.size : Int) - 4)) ≤ (a0.size : Int) then ((sum_Crc.f k (([a0.extract 0 ((wrap64 ((a0.size : Int) - 4)) : Int).toNat] : List ByteArray))).bind fun t309 => (if t305 = t309 then ((strings_Clone.f (a0.extract 0 ((wrap64 ((a0.size : Int) - 4)) : Int).toNat)).bind fun t310 => (some (t310, 0))) else (some ((⟨#[]⟩ : ByteArray), 6)))) else (none)) else (none)))) = some (r1, r2) := h
 clear h
 by_cases c2 : (wrap64 ((a0.size : Int) - 4)) < 0
 ·rw [if_pos c2] at H
  have c2b0 : decide ((wrap64 ((a0.size : Int) - 4)) < 0) = true := decide_eq_true c2
  clear c2
  simp only [Option.some.injEq, Prod.mk.injEq] at H
  obtain ⟨rfl, rfl⟩ := H
  go_enter Tryz.func193, Tryz.ntmps193
  go_wp2
  go_ret2
  exact ⟨by first | rfl | (simp [*, errW_none, errW_some] <;> rfl), by repeat (first | exact HB.out | apply b_a | apply b_n | apply b_d)⟩
 ·rw [if_neg c2] at H
  have c2b0 : decide ((wrap64 ((a0.size : Int) - 4)) < 0) = false := decide_eq_false c2
  clear c2
  replace H := Option.bind_eq_some_iff.mp H
  obtain ⟨t305, A30, H⟩ := H
  replace H : (if 0 ≤ (wrap64 ((a0.size : Int) - 4)) then (if (wrap64 ((a0.size : Int) - 4)) ≤ (a0.size : Int) then ((sum_Crc.f k (([a0.extract 0 ((wrap64 ((a0.size : Int) - 4)) : Int).toNat] : List ByteArray))).bind fun t309 => (if t305 = t309 then ((strings_Clone.f (a0.extract 0 ((wrap64 ((a0.size : Int) - 4)) : Int).toNat)).bind fun t310 => (some (t310, 0))) else (some ((⟨#[]⟩ : ByteArray), 6)))) else (none)) else (none)) = some (r1, r2) := H
  have A3 := a_k A30
  clear A30
  obtain ⟨ji4, hji4⟩ : ∃ j_ : Int, (wrap64 ((a0.size : Int) - 4)) = j_ := ⟨_, rfl⟩
  replace H : (if 0 ≤ (ji4) then (if (ji4) ≤ (a0.size : Int) then ((sum_Crc.f k (([a0.extract 0 ((ji4) : Int).toNat] : List ByteArray))).bind fun t309 => (if t305 = t309 then ((strings_Clone.f (a0.extract 0 ((ji4) : Int).toNat)).bind fun t310 => (some (t310, 0))) else (some ((⟨#[]⟩ : ByteArray), 6)))) else (none)) else (none)) = some (r1, r2) := by first | (rw [hji4] at H; exact H) | (simp only [hji4] at H ⊢; exact H)
  (try rw [hji4] at c2b0)
  (try rw [hji4] at A3)
  have hji4w : (IntKind.i64.wrap ((a0.size : Int) - 4)) = ji4 := (i64_w _).trans hji4
  by_cases c5 : 0 ≤ (ji4)
  ·rw [if_pos c5] at H
   have c5b0 := eq_true c5
   have c5b1 : decide (0 ≤ (ji4)) = true := decide_eq_true c5
   clear c5
   by_cases c6 : (ji4) ≤ (a0.size : Int)
   ·rw [if_pos c6] at H
    have c6b0 := eq_true c6
    have c6b1 : decide ((ji4) ≤ (a0.size : Int)) = true := decide_eq_true c6
    clear c6
    obtain ⟨y306, hy306⟩ : ∃ y_ : List ByteArray, y_ = (([a0.extract 0 ((ji4) : Int).toNat] : List ByteArray)) := ⟨_, rfl⟩
    replace H : ((sum_Crc.f k y306).bind fun t309 => (if t305 = t309 then ((strings_Clone.f (a0.extract 0 ((ji4) : Int).toNat)).bind fun t310 => (some (t310, 0))) else (some ((⟨#[]⟩ : ByteArray), 6)))) = some (r1, r2) := by first | (rw [hy306]; with_reducible exact H) | (have H2_ := (Option.bind_some _ _).symm.trans H; rw [hy306]; with_reducible exact H2_) | (have H2_ := (Option.bind_some _ _).symm.trans H; with_reducible exact H2_) | with_reducible exact H | (rw [hy306]; exact H) | exact H
    have Ny306 := a_k hy306
    clear hy306
    replace H := Option.bind_eq_some_iff.mp H
    obtain ⟨t309, A70, H⟩ := H
    replace H : (if t305 = t309 then ((strings_Clone.f (a0.extract 0 ((ji4) : Int).toNat)).bind fun t310 => (some (t310, 0))) else (some ((⟨#[]⟩ : ByteArray), 6))) = some (r1, r2) := H
    have A7 := a_k A70
    clear A70
    by_cases c8 : t305 = t309
    ·rw [if_pos c8] at H
     have c8b0 : (t305 == t309) = true := beq_iff_eq.mpr c8
     have c8b1 : (t305 != t309) = false := bne_eq_false_iff_eq.mpr c8
     clear c8
     have c9b0 := eq_true (of_decide_eq_true (by assumption) : 0 ≤ (ji4))
     have c10b0 := eq_true (of_decide_eq_true (by assumption) : (ji4) ≤ (a0.size : Int))
     replace H := Option.bind_eq_some_iff.mp H
     obtain ⟨t310, A110, H⟩ := H
     replace H : (some (t310, 0)) = some (r1, r2) := H
     have A11 := a_k A110
     clear A110
     simp only [Option.some.injEq, Prod.mk.injEq] at H
     obtain ⟨rfl, rfl⟩ := H
     go_enter Tryz.func193, Tryz.ntmps193
     try go_wp2
     have n0_ := a_k (below_drew1 HB.out)
     clear HB
     have HB := n0_
     clear n0_
     refine start_ (n := 10) (S := fun w' => True) (ds := []) #[Z,Z,Z,Z,Z,Z,Z,Z,Z,Z] (by kernel_rfl) rfl rfl trivial (fun hHeld => ?_); refine with_tabW sum_Open.tab4 sum_Open.bits4 (fun HT_ HW_ => ?_)
     generalize w.drew = w12 at HB hHeld ⊢
     refine pure_ (i := 0) (N := some 12) (v := ?_) (a' := ?_) #[J,Z,Z,Z,Z,Z,Z,Z,Z,Z] rfl rfl (any_of HT_.out (by kernel_rfl)) (fun _ _ _ h => h) (Or.inl ⟨by rfl, ?_⟩) ?_ ?_
     rotate_left
     ·intro w'
      go_simp
      with_reducible rfl
     rotate_left
     ·simp only [Act.put, l_s, l_0, l_1, i64_w, i32_w]
      rfl
     refine pure_ (i := 1) (N := some 13) (v := ?_) (a' := ?_) #[J,J,Z,Z,Z,Z,Z,Z,Z,Z] rfl rfl (any_of HT_.out (by kernel_rfl)) (fun _ _ _ h => h) (Or.inl ⟨by rfl, ?_⟩) ?_ ?_
     rotate_left
     ·intro w'
      go_simp
      with_reducible rfl
     rotate_left
     ·simp only [Act.put, l_s, l_0, l_1, i64_w, i32_w]
      rfl
     refine pure_ (i := 3) (N := some 15) (v := ?_) (a' := ?_) #[J,J,Z,J,Z,Z,Z,Z,Z,Z] rfl rfl (any_of HT_.out (by kernel_rfl)) (fun _ _ _ h => h) (Or.inl ⟨by rfl, ?_⟩) ?_ ?_
     rotate_left
     ·intro w'
      go_simp
      with_reducible rfl
     rotate_left
     ·simp only [Act.put, l_s, l_0, l_1, i64_w, i32_w]
      rfl
     refine pure_ (i := 4) (N := some 16) (v := ?_) (a' := ?_) #[J,J,Z,J,J,Z,Z,Z,Z,Z] rfl rfl (any_of HT_.out (by kernel_rfl)) (fun _ _ _ h => h) (Or.inl ⟨by rfl, ?_⟩) ?_ ?_
     rotate_left
     ·intro w'
      go_simp
      with_reducible rfl
     rotate_left
     ·simp only [Act.put, l_s, l_0, l_1, i64_w, i32_w]
      rfl
     refine pure_ (i := 5) (N := some 17) (v := ?_) (a' := ?_) #[J,J,Z,J,J,J,Z,Z,Z,Z] rfl rfl (any_of HT_.out (by kernel_rfl)) (fun _ _ _ h => h) (Or.inl ⟨by rfl, ?_⟩) ?_ ?_
     rotate_left
     ·intro w'
      go_simp
      with_reducible rfl
     rotate_left
     ·simp only [Act.put, l_s, l_0, l_1, i64_w, i32_w]
      rfl
     refine join_ (σ := Value) 3 #[J,J,J,J,J,J,J,Z,Z,Z] (fun s_ => [(14, .int .u32 t305), (18, s_)]) (fun s_ w' => (Kd.R Kd.string 9 w' w.heap.size (fun _ => True) s_ y306) ∧ (Below w.heap.size w w')) ?_ ?_
     rotate_left
     ·intro hCont
      refine two_ (i := 2) (j := 6) (Ni := some 14) (Nj := some 18) #[J,J,J,J,J,J,Z,Z,Z,Z] #[J,J,Z,J,J,J,J,Z,Z,Z] rfl rfl rfl rfl (two_of HT_.out (by kernel_rfl)) (by decide) (by decide) (fun K hK => ?_) (fun K hK => ?_)
      ·skip
       refine goes_ Tryz.func244 (by kernel_rfl) rfl #[.string a0, .int .i64 ji4] (by rfl) rfl rfl (by (try simp only [m_a, m_c, m_n]); first | done | (simp only [hji4]; rfl) | rfl | (simp only [List.length_drop, List.length_take]; rfl)) ?_
       with_reducible refine (sum_get.calls k a0 ji4 t305 _ A3.out).mono ?_
       rintro e w' ⟨rfl, ⟨nd, rfl⟩⟩
       refine ⟨_, rfl, ?_⟩
       refine hK.out _ _ trivial (fun hHeld => ?_)
       clear hK K
       refine norm_ (a' := ?_) ?_ ?_
       rotate_left
       ·show Act.put _ (some 14) _ = _
        simp only [Act.put, l_s, l_0, l_1, i64_w, i32_w]
        rfl
       refine one_ (i := 6) (N := some 18) #[J,J,J,J,J,J,J,Z,Z,Z] rfl rfl (one_of HT_.out (by kernel_rfl)) (by decide) (fun K hK => ?_)
       refine Kd.R_lit_step Kd.string _ 9 ?hg (N := 18) ?hd (xs := ([a0.extract 0 ((ji4) : Int).toNat] : List ByteArray)) (inner := [.string (a0.extract 0 ((ji4) : Int).toNat)]) (ok := fun _ => True) (okp := fun _ => True) ?hr ?hp (fun _ hk => hk) trivial (Below.refl _ _) (Nat.le_refl _) (by simp) ?_; (case hd => rfl); (case hg => rfl); (case hr => first | (go_simp; done) | (go_simp; rfl)); (case hp => exact (Reps.one (show Kd.M Kd.string _ _ _ (a0.extract 0 ((ji4) : Int).toNat) [.string (a0.extract 0 ((ji4) : Int).toNat)] from rfl) (Reps.none _ _)))
       intro v307 w13 ho14 hb hg_ hnew_
       clear hg_ hnew_
       (first | rw [← Ny306.out] at ho14 | (simp only [Int.reduceToNat] at ho14; rw [← Ny306.out] at ho14))
       have n0_ := a_k (Kd.R_lower ho14 (below_size (by repeat (first | exact HB.out | apply b_a | apply b_n | apply b_d))))
       have n1_ := a_k (below_step (by repeat (first | exact HB.out | apply b_a | apply b_n | apply b_d)) hb)
       clear HB
       have HO308 := n0_
       have HB := n1_
       clear n0_ n1_
       clear hb ho14
       refine hK.out _ _ trivial (fun hHeld => ?_)
       clear hK K
       refine norm_ (a' := ?_) ?_ ?_
       rotate_left
       ·show Act.put _ (some 18) _ = _
        simp only [Act.put, l_s, l_0, l_1, i64_w, i32_w]
        rfl
       exact norm_ (by simp only [putAll, Act.put, List.setIfInBounds_toArray, List.set_cons_zero, List.set_cons_succ]) (hCont (v307) _ ⟨(by (with_reducible repeat (first | apply Kd.R_alloc | apply Kd.R_drewN | apply Kd.R_drew)); exact HO308.out), (by repeat (first | exact HB.out | apply b_a | apply b_n | apply b_d))⟩)
      ·skip
       refine Kd.R_lit_step Kd.string _ 9 ?hg (N := 18) ?hd (xs := ([a0.extract 0 ((ji4) : Int).toNat] : List ByteArray)) (inner := [.string (a0.extract 0 ((ji4) : Int).toNat)]) (ok := fun _ => True) (okp := fun _ => True) ?hr ?hp (fun _ hk => hk) trivial (Below.refl _ _) (Nat.le_refl _) (by simp) ?_; (case hd => rfl); (case hg => rfl); (case hr => first | (go_simp; done) | (go_simp; rfl)); (case hp => exact (Reps.one (show Kd.M Kd.string _ _ _ (a0.extract 0 ((ji4) : Int).toNat) [.string (a0.extract 0 ((ji4) : Int).toNat)] from rfl) (Reps.none _ _)))
       intro v307 w13 ho14 hb hg_ hnew_
       clear hg_ hnew_
       (first | rw [← Ny306.out] at ho14 | (simp only [Int.reduceToNat] at ho14; rw [← Ny306.out] at ho14))
       have n0_ := a_k (Kd.R_lower ho14 (below_size (by repeat (first | exact HB.out | apply b_a | apply b_n | apply b_d))))
       have n1_ := a_k (below_step (by repeat (first | exact HB.out | apply b_a | apply b_n | apply b_d)) hb)
       clear HB
       have HO308 := n0_
       have HB := n1_
       clear n0_ n1_
       clear hb ho14
       refine hK.out _ _ trivial (fun hHeld => ?_)
       clear hK K
       refine norm_ (a' := ?_) ?_ ?_
       rotate_left
       ·show Act.put _ (some 18) _ = _
        simp only [Act.put, l_s, l_0, l_1, i64_w, i32_w]
        rfl
       refine one_ (i := 2) (N := some 14) #[J,J,J,J,J,J,J,Z,Z,Z] rfl rfl (one_of HT_.out (by kernel_rfl)) (by decide) (fun K hK => ?_)
       refine goes_ Tryz.func244 (by kernel_rfl) rfl #[.string a0, .int .i64 ji4] (by rfl) rfl rfl (by (try simp only [m_a, m_c, m_n]); first | done | (simp only [hji4]; rfl) | rfl | (simp only [List.length_drop, List.length_take]; rfl)) ?_
       with_reducible refine (sum_get.calls k a0 ji4 t305 _ A3.out).mono ?_
       rintro e w' ⟨rfl, ⟨nd, rfl⟩⟩
       refine ⟨_, rfl, ?_⟩
       refine hK.out _ _ trivial (fun hHeld => ?_)
       clear hK K
       refine norm_ (a' := ?_) ?_ ?_
       rotate_left
       ·show Act.put _ (some 14) _ = _
        simp only [Act.put, l_s, l_0, l_1, i64_w, i32_w]
        rfl
       exact norm_ (by simp only [putAll, Act.put, List.setIfInBounds_toArray, List.set_cons_zero, List.set_cons_succ]) (hCont (v307) _ ⟨(by (with_reducible repeat (first | apply Kd.R_alloc | apply Kd.R_drewN | apply Kd.R_drew)); exact HO308.out), (by repeat (first | exact HB.out | apply b_a | apply b_n | apply b_d))⟩)
     rintro v307 w15 ⟨h0_, h1_⟩
     have n0_ : Aside0 (Kd.R Kd.string 9 w15 w.heap.size (fun _ => True) v307 y306) := ⟨h0_⟩
     have n1_ : Aside0 (Below w.heap.size w w15) := ⟨h1_⟩
     clear HB
     clear h0_ h1_
     have HO308 := n0_
     have HB := n1_
     clear n0_ n1_
     have hHeld := trivial
     obtain ⟨Ao16, co16, eo16⟩ := Kd.R_slice HO308.out
     (first | subst eo16 | (injection eo16 with f1_ f2_ f3_; have f4_ := f1_.symm; have f5_ := f3_.symm; clear f1_ f2_ f3_; subst f4_; subst f5_))
     refine norm_ (a' := ?_) ?_ ?_
     rotate_left
     ·simp only [putAll, Act.put, List.setIfInBounds_toArray, List.set_cons_zero, List.set_cons_succ]
      rfl
     refine one_ (i := 7) (N := some 19) #[J,J,J,J,J,J,J,J,Z,Z] rfl rfl (one_of HT_.out (by kernel_rfl)) (by decide) (fun K hK => ?_)
     refine goes_ Tryz.func243 (by kernel_rfl) rfl #[.slice Ao16 y306.length co16] (by rfl) rfl rfl (by (try simp only [m_a, m_c, m_n]); first | done | rfl) ?_
     with_reducible refine (sum_Crc.calls k _ _ y306 t309 _ ?side1 ?side2 A7.out).mono ?_
     (case side1 => repeat (first | exact (Kd.R_reads' HO308.out).2.2 | (with_reducible refine Kd.C_alloc ?_ _) | (with_reducible refine Kd.C_drewN ?_ _) | (with_reducible refine Kd.C_drew ?_)))
     (case side2 => exact (Kd.R_reads' HO308.out).2.1)
     rintro e w' ⟨rfl, ⟨nd, rfl⟩⟩
     refine ⟨_, rfl, ?_⟩
     refine hK.out _ _ trivial (fun hHeld => ?_)
     clear hK K
     refine norm_ (a' := ?_) ?_ ?_
     rotate_left
     ·show Act.put _ (some 19) _ = _
      simp only [Act.put, l_s, l_0, l_1, i64_w, i32_w]
      rfl
     refine pure_ (i := 8) (N := some 20) (v := ?_) (a' := ?_) #[J,J,J,J,J,J,J,J,J,Z] rfl rfl (any_of HT_.out (by kernel_rfl)) (fun _ _ _ h => h) (Or.inl ⟨by rfl, ?_⟩) ?_ ?_
     rotate_left
     ·intro w'
      go_simp
      with_reducible rfl
     rotate_left
     ·simp only [Act.put, l_s, l_0, l_1, i64_w, i32_w]
      rfl
     refine pure_ (i := 9) (N := some 11) (v := ?_) (a' := ?_) #[J,J,J,J,J,J,J,J,J,J] rfl rfl (any_of HT_.out (by kernel_rfl)) (fun _ _ _ h => h) (Or.inl ⟨by rfl, ?_⟩) ?_ ?_
     rotate_left
     ·intro w'
      go_simp
      with_reducible rfl
     rotate_left
     ·simp only [Act.put, l_s, l_0, l_1, i64_w, i32_w]
      rfl
     refine done_ (done_of HT_.out (by kernel_rfl)) ?_
     try go_wp2_with (first | ((with_reducible refine gate_callee (f := 99) rfl ?_); refine goesL_ (some 24) rfl rfl Tryz.func99 (by kernel_rfl) rfl #[.string (a0.extract 0 ((ji4) : Int).toNat)] rfl (by (try simp only [m_a, m_c, m_n]); first | done | (simp only [hji4]; rfl) | rfl | (simp only [List.length_drop, List.length_take]; rfl)) ?_; (with_reducible refine (strings_Clone.calls (a0.extract 0 ((ji4) : Int).toNat) t310 _ A11.out).mono ?_); rintro e w17 ⟨rfl, hb⟩; refine ⟨_, rfl, ?_⟩; have n0_ := a_k (Kd.R_below (by (with_reducible repeat (first | apply Kd.R_alloc | apply Kd.R_drewN | apply Kd.R_drew)); exact HO308.out) hb); have n1_ := a_k (below_step (by repeat (first | exact HB.out | apply b_a | apply b_n | apply b_d)) hb); clear HO308; clear HB; have HO308 := n0_; have HB := n1_; clear n0_ n1_; (try clear hb); (try clear hb2); (try clear hk); (try clear hi)))
     go_ret2
     exact ⟨by first | rfl | (simp [errW_none, errW_some] <;> rfl) | (simp only [← hji4]; first | rfl | (simp [errW_none, errW_some] <;> rfl)) | (simp [*, errW_none, errW_some] <;> rfl), by repeat (first | exact HB.out | apply b_a | apply b_n | apply b_d)⟩
    ·rw [if_neg c8] at H
     have c8b0 : (t305 == t309) = false := beq_eq_false_iff_ne.mpr c8
     have c8b1 : (t305 != t309) = true := bne_iff_ne.mpr c8
     simp only [Option.some.injEq, Prod.mk.injEq] at H
     obtain ⟨rfl, rfl⟩ := H
     go_enter Tryz.func193, Tryz.ntmps193
     try go_wp2
     have n0_ := a_k (below_drew1 HB.out)
     clear HB
     have HB := n0_
     clear n0_
     refine start_ (n := 10) (S := fun w' => True) (ds := []) #[Z,Z,Z,Z,Z,Z,Z,Z,Z,Z] (by kernel_rfl) rfl rfl trivial (fun hHeld => ?_); refine with_tabW sum_Open.tab4 sum_Open.bits4 (fun HT_ HW_ => ?_)
     generalize w.drew = w18 at HB hHeld ⊢
     refine pure_ (i := 0) (N := some 12) (v := ?_) (a' := ?_) #[J,Z,Z,Z,Z,Z,Z,Z,Z,Z] rfl rfl (any_of HT_.out (by kernel_rfl)) (fun _ _ _ h => h) (Or.inl ⟨by rfl, ?_⟩) ?_ ?_
     rotate_left
     ·intro w'
      go_simp
      with_reducible rfl
     rotate_left
     ·simp only [Act.put, l_s, l_0, l_1, i64_w, i32_w]
      rfl
     refine pure_ (i := 1) (N := some 13) (v := ?_) (a' := ?_) #[J,J,Z,Z,Z,Z,Z,Z,Z,Z] rfl rfl (any_of HT_.out (by kernel_rfl)) (fun _ _ _ h => h) (Or.inl ⟨by rfl, ?_⟩) ?_ ?_
     rotate_left
     ·intro w'
      go_simp
      with_reducible rfl
     rotate_left
     ·simp only [Act.put, l_s, l_0, l_1, i64_w, i32_w]
      rfl
     refine pure_ (i := 3) (N := some 15) (v := ?_) (a' := ?_) #[J,J,Z,J,Z,Z,Z,Z,Z,Z] rfl rfl (any_of HT_.out (by kernel_rfl)) (fun _ _ _ h => h) (Or.inl ⟨by rfl, ?_⟩) ?_ ?_
     rotate_left
     ·intro w'
      go_simp
      with_reducible rfl
     rotate_left
     ·simp only [Act.put, l_s, l_0, l_1, i64_w, i32_w]
      rfl
     refine pure_ (i := 4) (N := some 16) (v := ?_) (a' := ?_) #[J,J,Z,J,J,Z,Z,Z,Z,Z] rfl rfl (any_of HT_.out (by kernel_rfl)) (fun _ _ _ h => h) (Or.inl ⟨by rfl, ?_⟩) ?_ ?_
     rotate_left
     ·intro w'
      go_simp
      with_reducible rfl
     rotate_left
     ·simp only [Act.put, l_s, l_0, l_1, i64_w, i32_w]
      rfl
     refine pure_ (i := 5) (N := some 17) (v := ?_) (a' := ?_) #[J,J,Z,J,J,J,Z,Z,Z,Z] rfl rfl (any_of HT_.out (by kernel_rfl)) (fun _ _ _ h => h) (Or.inl ⟨by rfl, ?_⟩) ?_ ?_
     rotate_left
     ·intro w'
      go_simp
      with_reducible rfl
     rotate_left
     ·simp only [Act.put, l_s, l_0, l_1, i64_w, i32_w]
      rfl
     refine join_ (σ := Value) 3 #[J,J,J,J,J,J,J,Z,Z,Z] (fun s_ => [(14, .int .u32 t305), (18, s_)]) (fun s_ w' => (Kd.R Kd.string 9 w' w.heap.size (fun _ => True) s_ y306) ∧ (Below w.heap.size w w')) ?_ ?_
     rotate_left
     ·intro hCont
      refine two_ (i := 2) (j := 6) (Ni := some 14) (Nj := some 18) #[J,J,J,J,J,J,Z,Z,Z,Z] #[J,J,Z,J,J,J,J,Z,Z,Z] rfl rfl rfl rfl (two_of HT_.out (by kernel_rfl)) (by decide) (by decide) (fun K hK => ?_) (fun K hK => ?_)
      ·skip
       refine goes_ Tryz.func244 (by kernel_rfl) rfl #[.string a0, .int .i64 ji4] (by rfl) rfl rfl (by (try simp only [m_a, m_c, m_n]); first | done | (simp only [hji4]; rfl) | rfl | (simp only [List.length_drop, List.length_take]; rfl)) ?_
       with_reducible refine (sum_get.calls k a0 ji4 t305 _ A3.out).mono ?_
       rintro e w' ⟨rfl, ⟨nd, rfl⟩⟩
       refine ⟨_, rfl, ?_⟩
       refine hK.out _ _ trivial (fun hHeld => ?_)
       clear hK K
       refine norm_ (a' := ?_) ?_ ?_
       rotate_left
       ·show Act.put _ (some 14) _ = _
        simp only [Act.put, l_s, l_0, l_1, i64_w, i32_w]
        rfl
       refine one_ (i := 6) (N := some 18) #[J,J,J,J,J,J,J,Z,Z,Z] rfl rfl (one_of HT_.out (by kernel_rfl)) (by decide) (fun K hK => ?_)
       refine Kd.R_lit_step Kd.string _ 9 ?hg (N := 18) ?hd (xs := ([a0.extract 0 ((ji4) : Int).toNat] : List ByteArray)) (inner := [.string (a0.extract 0 ((ji4) : Int).toNat)]) (ok := fun _ => True) (okp := fun _ => True) ?hr ?hp (fun _ hk => hk) trivial (Below.refl _ _) (Nat.le_refl _) (by simp) ?_; (case hd => rfl); (case hg => rfl); (case hr => first | (go_simp; done) | (go_simp; rfl)); (case hp => exact (Reps.one (show Kd.M Kd.string _ _ _ (a0.extract 0 ((ji4) : Int).toNat) [.string (a0.extract 0 ((ji4) : Int).toNat)] from rfl) (Reps.none _ _)))
       intro v307 w19 ho20 hb hg_ hnew_
       clear hg_ hnew_
       (first | rw [← Ny306.out] at ho20 | (simp only [Int.reduceToNat] at ho20; rw [← Ny306.out] at ho20))
       have n0_ := a_k (Kd.R_lower ho20 (below_size (by repeat (first | exact HB.out | apply b_a | apply b_n | apply b_d))))
       have n1_ := a_k (below_step (by repeat (first | exact HB.out | apply b_a | apply b_n | apply b_d)) hb)
       clear HB
       have HO308 := n0_
       have HB := n1_
       clear n0_ n1_
       clear hb ho20
       refine hK.out _ _ trivial (fun hHeld => ?_)
       clear hK K
       refine norm_ (a' := ?_) ?_ ?_
       rotate_left
       ·show Act.put _ (some 18) _ = _
        simp only [Act.put, l_s, l_0, l_1, i64_w, i32_w]
        rfl
       exact norm_ (by simp only [putAll, Act.put, List.setIfInBounds_toArray, List.set_cons_zero, List.set_cons_succ]) (hCont (v307) _ ⟨(by (with_reducible repeat (first | apply Kd.R_alloc | apply Kd.R_drewN | apply Kd.R_drew)); exact HO308.out), (by repeat (first | exact HB.out | apply b_a | apply b_n | apply b_d))⟩)
      ·skip
       refine Kd.R_lit_step Kd.string _ 9 ?hg (N := 18) ?hd (xs := ([a0.extract 0 ((ji4) : Int).toNat] : List ByteArray)) (inner := [.string (a0.extract 0 ((ji4) : Int).toNat)]) (ok := fun _ => True) (okp := fun _ => True) ?hr ?hp (fun _ hk => hk) trivial (Below.refl _ _) (Nat.le_refl _) (by simp) ?_; (case hd => rfl); (case hg => rfl); (case hr => first | (go_simp; done) | (go_simp; rfl)); (case hp => exact (Reps.one (show Kd.M Kd.string _ _ _ (a0.extract 0 ((ji4) : Int).toNat) [.string (a0.extract 0 ((ji4) : Int).toNat)] from rfl) (Reps.none _ _)))
       intro v307 w19 ho20 hb hg_ hnew_
       clear hg_ hnew_
       (first | rw [← Ny306.out] at ho20 | (simp only [Int.reduceToNat] at ho20; rw [← Ny306.out] at ho20))
       have n0_ := a_k (Kd.R_lower ho20 (below_size (by repeat (first | exact HB.out | apply b_a | apply b_n | apply b_d))))
       have n1_ := a_k (below_step (by repeat (first | exact HB.out | apply b_a | apply b_n | apply b_d)) hb)
       clear HB
       have HO308 := n0_
       have HB := n1_
       clear n0_ n1_
       clear hb ho20
       refine hK.out _ _ trivial (fun hHeld => ?_)
       clear hK K
       refine norm_ (a' := ?_) ?_ ?_
       rotate_left
       ·show Act.put _ (some 18) _ = _
        simp only [Act.put, l_s, l_0, l_1, i64_w, i32_w]
        rfl
       refine one_ (i := 2) (N := some 14) #[J,J,J,J,J,J,J,Z,Z,Z] rfl rfl (one_of HT_.out (by kernel_rfl)) (by decide) (fun K hK => ?_)
       refine goes_ Tryz.func244 (by kernel_rfl) rfl #[.string a0, .int .i64 ji4] (by rfl) rfl rfl (by (try simp only [m_a, m_c, m_n]); first | done | (simp only [hji4]; rfl) | rfl | (simp only [List.length_drop, List.length_take]; rfl)) ?_
       with_reducible refine (sum_get.calls k a0 ji4 t305 _ A3.out).mono ?_
       rintro e w' ⟨rfl, ⟨nd, rfl⟩⟩
       refine ⟨_, rfl, ?_⟩
       refine hK.out _ _ trivial (fun hHeld => ?_)
       clear hK K
       refine norm_ (a' := ?_) ?_ ?_
       rotate_left
       ·show Act.put _ (some 14) _ = _
        simp only [Act.put, l_s, l_0, l_1, i64_w, i32_w]
        rfl
       exact norm_ (by simp only [putAll, Act.put, List.setIfInBounds_toArray, List.set_cons_zero, List.set_cons_succ]) (hCont (v307) _ ⟨(by (with_reducible repeat (first | apply Kd.R_alloc | apply Kd.R_drewN | apply Kd.R_drew)); exact HO308.out), (by repeat (first | exact HB.out | apply b_a | apply b_n | apply b_d))⟩)
     rintro v307 w21 ⟨h0_, h1_⟩
     have n0_ : Aside0 (Kd.R Kd.string 9 w21 w.heap.size (fun _ => True) v307 y306) := ⟨h0_⟩
     have n1_ : Aside0 (Below w.heap.size w w21) := ⟨h1_⟩
     clear HB
     clear h0_ h1_
     have HO308 := n0_
     have HB := n1_
     clear n0_ n1_
     have hHeld := trivial
     obtain ⟨Ao22, co22, eo22⟩ := Kd.R_slice HO308.out
     (first | subst eo22 | (injection eo22 with f1_ f2_ f3_; have f4_ := f1_.symm; have f5_ := f3_.symm; clear f1_ f2_ f3_; subst f4_; subst f5_))
     refine norm_ (a' := ?_) ?_ ?_
     rotate_left
     ·simp only [putAll, Act.put, List.setIfInBounds_toArray, List.set_cons_zero, List.set_cons_succ]
      rfl
     refine one_ (i := 7) (N := some 19) #[J,J,J,J,J,J,J,J,Z,Z] rfl rfl (one_of HT_.out (by kernel_rfl)) (by decide) (fun K hK => ?_)
     refine goes_ Tryz.func243 (by kernel_rfl) rfl #[.slice Ao22 y306.length co22] (by rfl) rfl rfl (by (try simp only [m_a, m_c, m_n]); first | done | rfl) ?_
     with_reducible refine (sum_Crc.calls k _ _ y306 t309 _ ?side1 ?side2 A7.out).mono ?_
     (case side1 => repeat (first | exact (Kd.R_reads' HO308.out).2.2 | (with_reducible refine Kd.C_alloc ?_ _) | (with_reducible refine Kd.C_drewN ?_ _) | (with_reducible refine Kd.C_drew ?_)))
     (case side2 => exact (Kd.R_reads' HO308.out).2.1)
     rintro e w' ⟨rfl, ⟨nd, rfl⟩⟩
     refine ⟨_, rfl, ?_⟩
     refine hK.out _ _ trivial (fun hHeld => ?_)
     clear hK K
     refine norm_ (a' := ?_) ?_ ?_
     rotate_left
     ·show Act.put _ (some 19) _ = _
      simp only [Act.put, l_s, l_0, l_1, i64_w, i32_w]
      rfl
     refine pure_ (i := 8) (N := some 20) (v := ?_) (a' := ?_) #[J,J,J,J,J,J,J,J,J,Z] rfl rfl (any_of HT_.out (by kernel_rfl)) (fun _ _ _ h => h) (Or.inl ⟨by rfl, ?_⟩) ?_ ?_
     rotate_left
     ·intro w'
      go_simp
      with_reducible rfl
     rotate_left
     ·simp only [Act.put, l_s, l_0, l_1, i64_w, i32_w]
      rfl
     refine pure_ (i := 9) (N := some 11) (v := ?_) (a' := ?_) #[J,J,J,J,J,J,J,J,J,J] rfl rfl (any_of HT_.out (by kernel_rfl)) (fun _ _ _ h => h) (Or.inl ⟨by rfl, ?_⟩) ?_ ?_
     rotate_left
     ·intro w'
      go_simp
      with_reducible rfl
     rotate_left
     ·simp only [Act.put, l_s, l_0, l_1, i64_w, i32_w]
      rfl
     refine done_ (done_of HT_.out (by kernel_rfl)) ?_
     try go_wp2
     go_ret2
     exact ⟨by first | rfl | (simp [errW_none, errW_some] <;> rfl) | (simp only [← hji4]; first | rfl | (simp [errW_none, errW_some] <;> rfl)) | (simp [*, errW_none, errW_some] <;> rfl), by repeat (first | exact HB.out | apply b_a | apply b_n | apply b_d)⟩
   ·rw [if_neg c6] at H
    exact absurd H (by simp)
  ·rw [if_neg c5] at H
   exact absurd H (by simp)
def block_Get.f (k : Nat) (a0 : ByteArray) : Option ((List (S32)) × Int) := (sum_Open.f k a0).bind fun bt361 => (if bt361.2 = 0 then (if (wrap64 ((bt361.1.size : Int) - 4)) < 0 then (some (([] : List (S32)), 4)) else ((num_Unfix.f k bt361.1 (wrap64 ((bt361.1.size : Int) - 4)) 4).bind fun bt363 => (if bt363.1 > (IntKind.u64.wrap (wrap64 (Int.tdiv (wrap64 ((bt361.1.size : Int) - 4)) 4))) then (some (([] : List (S32)), 4)) else (if 0 ≤ (wrap64 ((wrap64 ((bt361.1.size : Int) - 4)) - (wrap64 ((wrap64 (bt363.1)) * 4)))) then (if (wrap64 ((wrap64 ((bt361.1.size : Int) - 4)) - (wrap64 ((wrap64 (bt363.1)) * 4)))) ≤ (bt361.1.size : Int) then ((block_versions.f k (bt361.1.extract 0 ((wrap64 ((wrap64 ((bt361.1.size : Int) - 4)) - (wrap64 ((wrap64 (bt363.1)) * 4)))) : Int).toNat)).bind fun bt365 => ((block_Put.f k bt365.1).bind fun bt369 => (if bt365.2 = true then (if bt369.2 = 0 then (if bt369.1.toList = a0.toList then (some (bt365.1, 0)) else (some (([] : List (S32)), 4))) else (some (([] : List (S32)), 4))) else (some (([] : List (S32)), 4))))) else (none)) else (none))))) else (some (([] : List (S32)), bt361.2)))
theorem block_Get.calls (k : Nat) (a0 : ByteArray) (r1 : List (S32)) (r2 : Int) (w : World) (h : block_Get.f k a0 = some (r1, r2)) :
  Calls Tryz.prog 77 #[.string a0] w fun e w' => ∃ v0_ : Value, e = .returned (.tuple #[v0_, .int .i64 r2]) ∧ Kd.R k32 32 w' w.heap.size (fun _ => True) v0_ r1 ∧ Below w.heap.size w w' := by
 have HB := a_k (Below.refl w.heap.size w)
 have H : ((sum_Open.f k a0).bind fun bt361 => (if bt361.2 = 0 then (if (wrap64 ((bt361.1.size : Int) - 4)) < 0 then (some (([] : List (S32)), 4)) else ((num_Unfix.f k bt361.1 (wrap64 ((bt361.1.size : Int) - 4)) 4).bind fun bt363 => (if bt363.1 > (IntKind.u64.wrap (wrap64 (Int.tdiv (wrap64 ((bt361.1.size : Int) - 4)) 4))) then (some (([] : List (S32)), 4)) else (if 0 ≤ (wrap64 ((wrap64 ((bt361.1.size : Int) - 4)) - (wrap64 ((wrap64 (bt363.1)) * 4)))) then (if (wrap64 ((wrap64 ((bt361.1.size : Int) - 4)) - (wrap64 ((wrap64 (bt363.1)) * 4)))) ≤ (bt361.1.size : Int) then ((block_versions.f k (bt361.1.extract 0 ((wrap64 ((wrap64 ((bt361.1.size : Int) - 4)) - (wrap64 ((wrap64 (bt363.1)) * 4)))) : Int).toNat)).bind fun bt365 => ((block_Put.f k bt365.1).bind fun bt369 => (if bt365.2 = true then (if bt369.2 = 0 then (if bt369.1.toList = a0.toList then (some (bt365.1, 0)) else (some (([] : List (S32)), 4))) else (some (([] : List (S32)), 4))) else (some (([] : List (S32)), 4))))) else (none)) else (none))))) else (some (([] : List (S32)), bt361.2)))) = some (r1, r2) := h
 clear h
 replace H := Option.bind_eq_some_iff.mp H
 obtain ⟨⟨t361, t362⟩, A20, H⟩ := H
 replace H : (if t362 = 0 then (if (wrap64 ((t361.size : Int) - 4)) < 0 then (some (([] : List (S32)), 4)) else ((num_Unfix.f k t361 (wrap64 ((t361.size : Int) - 4)) 4).bind fun bt363 => (if bt363.1 > (IntKind.u64.wrap (wrap64 (Int.tdiv (wrap64 ((t361.size : Int) - 4)) 4))) then (some (([] : List (S32)), 4)) else (if 0 ≤ (wrap64 ((wrap64 ((t361.size : Int) - 4)) - (wrap64 ((wrap64 (bt363.1)) * 4)))) then (if (wrap64 ((wrap64 ((t361.size : Int) - 4)) - (wrap64 ((wrap64 (bt363.1)) * 4)))) ≤ (t361.size : Int) then ((block_versions.f k (t361.extract 0 ((wrap64 ((wrap64 ((t361.size : Int) - 4)) - (wrap64 ((wrap64 (bt363.1)) * 4)))) : Int).toNat)).bind fun bt365 => ((block_Put.f k bt365.1).bind fun bt369 => (if bt365.2 = true then (if bt369.2 = 0 then (if bt369.1.toList = a0.toList then (some (bt365.1, 0)) else (some (([] : List (S32)), 4))) else (some (([] : List (S32)), 4))) else (some (([] : List (S32)), 4))))) else (none)) else (none))))) else (some (([] : List (S32)), t362))) = some (r1, r2) := H
 have A2 := a_k A20
 clear A20
 by_cases c3 : t362 = 0
 ·rw [if_pos c3] at H
  have c3b0 : (t362 == 0) = true := beq_iff_eq.mpr c3
  have c3b1 : (t362 != 0) = false := bne_eq_false_iff_eq.mpr c3
  clear c3
  by_cases c4 : (wrap64 ((t361.size : Int) - 4)) < 0
  ·rw [if_pos c4] at H
   have c4b0 : decide ((wrap64 ((t361.size : Int) - 4)) < 0) = true := decide_eq_true c4
   clear c4
   simp only [Option.some.injEq, Prod.mk.injEq] at H
   obtain ⟨rfl, rfl⟩ := H
   go_enter Tryz.func77, Tryz.ntmps77
   go_wp2_with (first | ((with_reducible refine gate_callee (f := 193) rfl ?_); refine goesL_ (some 15) rfl rfl Tryz.func193 (by kernel_rfl) rfl #[.string a0] rfl (by (try simp only [m_a, m_c, m_n]); first | done | rfl) ?_; (with_reducible refine (sum_Open.calls k a0 t361 t362 _ A2.out).mono ?_); rintro e w5 ⟨rfl, hb⟩; refine ⟨_, rfl, ?_⟩; have n0_ := a_k (below_step (by repeat (first | exact HB.out | apply b_a | apply b_n | apply b_d)) hb); clear HB; have HB := n0_; clear n0_; (try clear hb); (try clear hb2); (try clear hk); (try clear hi)))
   go_ret2
   exact ⟨_, by first | rfl | (simp [*, errW_none, errW_some] <;> rfl), by first | exact Kd.R_nil _ _ _ _ _ | exact Kd.N_nil _ _ _ _ _ | exact Kd.V_nil _ _ _ _ _ | exact Kd.Q_nil _ _ _ _ _ | exact Kd.S_nil _ _ _ _ _, by repeat (first | exact HB.out | apply b_a | apply b_n | apply b_d)⟩
  ·rw [if_neg c4] at H
   have c4b0 : decide ((wrap64 ((t361.size : Int) - 4)) < 0) = false := decide_eq_false c4
   clear c4
   replace H := Option.bind_eq_some_iff.mp H
   obtain ⟨⟨t363, t364⟩, A60, H⟩ := H
   replace H : (if t363 > (IntKind.u64.wrap (wrap64 (Int.tdiv (wrap64 ((t361.size : Int) - 4)) 4))) then (some (([] : List (S32)), 4)) else (if 0 ≤ (wrap64 ((wrap64 ((t361.size : Int) - 4)) - (wrap64 ((wrap64 (t363)) * 4)))) then (if (wrap64 ((wrap64 ((t361.size : Int) - 4)) - (wrap64 ((wrap64 (t363)) * 4)))) ≤ (t361.size : Int) then ((block_versions.f k (t361.extract 0 ((wrap64 ((wrap64 ((t361.size : Int) - 4)) - (wrap64 ((wrap64 (t363)) * 4)))) : Int).toNat)).bind fun bt365 => ((block_Put.f k bt365.1).bind fun bt369 => (if bt365.2 = true then (if bt369.2 = 0 then (if bt369.1.toList = a0.toList then (some (bt365.1, 0)) else (some (([] : List (S32)), 4))) else (some (([] : List (S32)), 4))) else (some (([] : List (S32)), 4))))) else (none)) else (none))) = some (r1, r2) := H
   have A6 := a_k A60
   clear A60
   by_cases c7 : t363 > (IntKind.u64.wrap (wrap64 (Int.tdiv (wrap64 ((t361.size : Int) - 4)) 4)))
   ·rw [if_pos c7] at H
    have c7b0 : decide ((IntKind.u64.wrap (wrap64 (Int.tdiv (wrap64 ((t361.size : Int) - 4)) 4))) < t363) = true := decide_eq_true c7
    clear c7
    simp only [Option.some.injEq, Prod.mk.injEq] at H
    obtain ⟨rfl, rfl⟩ := H
    go_enter Tryz.func77, Tryz.ntmps77
    go_wp2_with (first | ((with_reducible refine gate_callee (f := 193) rfl ?_); refine goesL_ (some 15) rfl rfl Tryz.func193 (by kernel_rfl) rfl #[.string a0] rfl (by (try simp only [m_a, m_c, m_n]); first | done | rfl) ?_; (with_reducible refine (sum_Open.calls k a0 t361 t362 _ A2.out).mono ?_); rintro e w8 ⟨rfl, hb⟩; refine ⟨_, rfl, ?_⟩; have n0_ := a_k (below_step (by repeat (first | exact HB.out | apply b_a | apply b_n | apply b_d)) hb); clear HB; have HB := n0_; clear n0_; (try clear hb); (try clear hb2); (try clear hk); (try clear hi)) | ((with_reducible refine gate_callee (f := 194) rfl ?_); refine goesL_ (some 29) rfl rfl Tryz.func194 (by kernel_rfl) rfl #[.string t361, .int .i64 (wrap64 ((t361.size : Int) - 4)), .int .i64 4] rfl (by (try simp only [m_a, m_c, m_n]); first | done | rfl) ?_; (with_reducible refine (num_Unfix.calls k t361 (wrap64 ((t361.size : Int) - 4)) 4 t363 t364 _ A6.out).mono ?_); rintro e w' ⟨rfl, ⟨nd, rfl⟩⟩; refine ⟨_, rfl, ?_⟩))
    go_ret2
    exact ⟨_, by first | rfl | (simp [*, errW_none, errW_some] <;> rfl), by first | exact Kd.R_nil _ _ _ _ _ | exact Kd.N_nil _ _ _ _ _ | exact Kd.V_nil _ _ _ _ _ | exact Kd.Q_nil _ _ _ _ _ | exact Kd.S_nil _ _ _ _ _, by repeat (first | exact HB.out | apply b_a | apply b_n | apply b_d)⟩
   ·rw [if_neg c7] at H
    have c7b0 : decide ((IntKind.u64.wrap (wrap64 (Int.tdiv (wrap64 ((t361.size : Int) - 4)) 4))) < t363) = false := decide_eq_false c7
    clear c7
    obtain ⟨ji9, hji9⟩ : ∃ j_ : Int, (wrap64 ((wrap64 ((t361.size : Int) - 4)) - (wrap64 ((wrap64 (t363)) * 4)))) = j_ := ⟨_, rfl⟩
    replace H : (if 0 ≤ (ji9) then (if (ji9) ≤ (t361.size : Int) then ((block_versions.f k (t361.extract 0 ((ji9) : Int).toNat)).bind fun bt365 => ((block_Put.f k bt365.1).bind fun bt369 => (if bt365.2 = true then (if bt369.2 = 0 then (if bt369.1.toList = a0.toList then (some (bt365.1, 0)) else (some (([] : List (S32)), 4))) else (some (([] : List (S32)), 4))) else (some (([] : List (S32)), 4))))) else (none)) else (none)) = some (r1, r2) := by first | (rw [hji9] at H; exact H) | (simp only [hji9] at H ⊢; exact H)
    (try rw [hji9] at A2)
    (try rw [hji9] at A6)
    have hji9w : (IntKind.i64.wrap ((wrap64 ((t361.size : Int) - 4)) - (wrap64 ((wrap64 (t363)) * 4)))) = ji9 := (i64_w _).trans hji9
    by_cases c10 : 0 ≤ (ji9)
    ·rw [if_pos c10] at H
     have c10b0 := eq_true c10
     have c10b1 : decide (0 ≤ (ji9)) = true := decide_eq_true c10
     clear c10
     by_cases c11 : (ji9) ≤ (t361.size : Int)
     ·rw [if_pos c11] at H
      have c11b0 := eq_true c11
      have c11b1 : decide ((ji9) ≤ (t361.size : Int)) = true := decide_eq_true c11
      clear c11
      replace H := Option.bind_eq_some_iff.mp H
      obtain ⟨⟨t365, t366⟩, A120, H⟩ := H
      replace H : ((block_Put.f k t365).bind fun bt369 => (if t366 = true then (if bt369.2 = 0 then (if bt369.1.toList = a0.toList then (some (t365, 0)) else (some (([] : List (S32)), 4))) else (some (([] : List (S32)), 4))) else (some (([] : List (S32)), 4)))) = some (r1, r2) := H
      have A12 := a_k A120
      clear A120
      replace H := Option.bind_eq_some_iff.mp H
      obtain ⟨⟨t369, t370⟩, A130, H⟩ := H
      replace H : (if t366 = true then (if t370 = 0 then (if t369.toList = a0.toList then (some (t365, 0)) else (some (([] : List (S32)), 4))) else (some (([] : List (S32)), 4))) else (some (([] : List (S32)), 4))) = some (r1, r2) := H
      have A13 := a_k A130
      clear A130
      by_cases c14 : t366 = true
      ·subst c14
       have H1 : (if t370 = 0 then (if t369.toList = a0.toList then (some (t365, 0)) else (some (([] : List (S32)), 4))) else (some (([] : List (S32)), 4))) = some (r1, r2) := by rw [if_pos rfl] at H; exact H
       clear H
       have H := H1
       clear H1
       by_cases c15 : t370 = 0
       ·rw [if_pos c15] at H
        have c15b0 : (t370 == 0) = true := beq_iff_eq.mpr c15
        have c15b1 : (t370 != 0) = false := bne_eq_false_iff_eq.mpr c15
        clear c15
        by_cases c16 : t369.toList = a0.toList
        ·rw [if_pos c16] at H
         have c16b0 : (t369.toList == a0.toList) = true := beq_iff_eq.mpr c16
         have c16b1 : (t369.toList != a0.toList) = false := bne_eq_false_iff_eq.mpr c16
         clear c16
         simp only [Option.some.injEq, Prod.mk.injEq] at H
         obtain ⟨rfl, rfl⟩ := H
         go_enter Tryz.func77, Tryz.ntmps77
         go_wp2_with (first | ((with_reducible refine gate_callee (f := 193) rfl ?_); refine goesL_ (some 15) rfl rfl Tryz.func193 (by kernel_rfl) rfl #[.string a0] rfl (by (try simp only [m_a, m_c, m_n]); first | done | rfl) ?_; (with_reducible refine (sum_Open.calls k a0 t361 t362 _ A2.out).mono ?_); rintro e w17 ⟨rfl, hb⟩; refine ⟨_, rfl, ?_⟩; have n0_ := a_k (below_step (by repeat (first | exact HB.out | apply b_a | apply b_n | apply b_d)) hb); clear HB; have HB := n0_; clear n0_; (try clear hb); (try clear hb2); (try clear hk); (try clear hi)) | ((with_reducible refine gate_callee (f := 194) rfl ?_); refine goesL_ (some 29) rfl rfl Tryz.func194 (by kernel_rfl) rfl #[.string t361, .int .i64 (wrap64 ((t361.size : Int) - 4)), .int .i64 4] rfl (by (try simp only [m_a, m_c, m_n]); first | done | rfl) ?_; (with_reducible refine (num_Unfix.calls k t361 (wrap64 ((t361.size : Int) - 4)) 4 t363 t364 _ A6.out).mono ?_); rintro e w' ⟨rfl, ⟨nd, rfl⟩⟩; refine ⟨_, rfl, ?_⟩) | ((with_reducible refine gate_callee (f := 195) rfl ?_); refine goesL_ (some 45) rfl rfl Tryz.func195 (by kernel_rfl) rfl #[.string (t361.extract 0 ((ji9) : Int).toNat)] rfl (by (try simp only [m_a, m_c, m_n]); first | done | (simp only [hji9]; rfl) | rfl | (simp only [List.length_drop, List.length_take]; rfl)) ?_; (with_reducible refine (block_versions.calls k (t361.extract 0 ((ji9) : Int).toNat) t365 true _ A12.out).mono ?_); rintro e w18 ⟨v367, rfl, ho0, hb⟩; refine ⟨_, rfl, ?_⟩; have n0_ := a_k (Kd.R_lower ho0 (below_size (by repeat (first | exact HB.out | apply b_a | apply b_n | apply b_d)))); have n1_ := a_k (below_step (by repeat (first | exact HB.out | apply b_a | apply b_n | apply b_d)) hb); clear HB; have HO368 := n0_; have HB := n1_; clear n0_ n1_; (try clear hb); (try clear hb2); (try clear hk); (try clear hi); (try clear ho0); obtain ⟨Ao19, co19, eo19⟩ := Kd.R_slice HO368.out; subst eo19) | ((with_reducible refine gate_callee (f := 75) rfl ?_); refine goesL_ (some 50) rfl rfl Tryz.func75 (by kernel_rfl) rfl #[.slice Ao19 t365.length co19] rfl (by (try simp only [m_a, m_c, m_n]); first | done | rfl) ?_; (with_reducible refine (block_Put.calls k _ _ t365 t369 t370 _ ?side1 ?side2 A13.out).mono ?_); (case side1 => repeat (first | exact (Kd.R_reads' HO368.out).2.2 | (with_reducible refine Kd.C_alloc ?_ _) | (with_reducible refine Kd.C_drewN ?_ _) | (with_reducible refine Kd.C_drew ?_))); (case side2 => exact (Kd.R_reads' HO368.out).2.1); rintro e w20 ⟨rfl, hb⟩; refine ⟨_, rfl, ?_⟩; have n0_ := a_k (Kd.R_below (by (with_reducible repeat (first | apply Kd.R_alloc | apply Kd.R_drewN | apply Kd.R_drew)); exact HO368.out) hb); have n1_ := a_k (below_step (by repeat (first | exact HB.out | apply b_a | apply b_n | apply b_d)) hb); clear HO368; clear HB; have HO368 := n0_; have HB := n1_; clear n0_ n1_; (try clear hb); (try clear hb2); (try clear hk); (try clear hi)))
         go_ret2
         exact ⟨_, by first | rfl | (simp [errW_none, errW_some] <;> rfl) | (simp only [← hji9]; first | rfl | (simp [errW_none, errW_some] <;> rfl)) | (simp [*, errW_none, errW_some] <;> rfl), by (with_reducible repeat (first | apply Kd.R_alloc | apply Kd.R_drewN | apply Kd.R_drew)); exact HO368.out, by repeat (first | exact HB.out | apply b_a | apply b_n | apply b_d)⟩
        ·rw [if_neg c16] at H
         have c16b0 : (t369.toList == a0.toList) = false := beq_eq_false_iff_ne.mpr c16
         have c16b1 : (t369.toList != a0.toList) = true := bne_iff_ne.mpr c16
         simp only [Option.some.injEq, Prod.mk.injEq] at H
         obtain ⟨rfl, rfl⟩ := H
         go_enter Tryz.func77, Tryz.ntmps77
         go_wp2_with (first | ((with_reducible refine gate_callee (f := 193) rfl ?_); refine goesL_ (some 15) rfl rfl Tryz.func193 (by kernel_rfl) rfl #[.string a0] rfl (by (try simp only [m_a, m_c, m_n]); first | done | rfl) ?_; (with_reducible refine (sum_Open.calls k a0 t361 t362 _ A2.out).mono ?_); rintro e w21 ⟨rfl, hb⟩; refine ⟨_, rfl, ?_⟩; have n0_ := a_k (below_step (by repeat (first | exact HB.out | apply b_a | apply b_n | apply b_d)) hb); clear HB; have HB := n0_; clear n0_; (try clear hb); (try clear hb2); (try clear hk); (try clear hi)) | ((with_reducible refine gate_callee (f := 194) rfl ?_); refine goesL_ (some 29) rfl rfl Tryz.func194 (by kernel_rfl) rfl #[.string t361, .int .i64 (wrap64 ((t361.size : Int) - 4)), .int .i64 4] rfl (by (try simp only [m_a, m_c, m_n]); first | done | rfl) ?_; (with_reducible refine (num_Unfix.calls k t361 (wrap64 ((t361.size : Int) - 4)) 4 t363 t364 _ A6.out).mono ?_); rintro e w' ⟨rfl, ⟨nd, rfl⟩⟩; refine ⟨_, rfl, ?_⟩) | ((with_reducible refine gate_callee (f := 195) rfl ?_); refine goesL_ (some 45) rfl rfl Tryz.func195 (by kernel_rfl) rfl #[.string (t361.extract 0 ((ji9) : Int).toNat)] rfl (by (try simp only [m_a, m_c, m_n]); first | done | (simp only [hji9]; rfl) | rfl | (simp only [List.length_drop, List.length_take]; rfl)) ?_; (with_reducible refine (block_versions.calls k (t361.extract 0 ((ji9) : Int).toNat) t365 true _ A12.out).mono ?_); rintro e w22 ⟨v367, rfl, ho0, hb⟩; refine ⟨_, rfl, ?_⟩; have n0_ := a_k (Kd.R_lower ho0 (below_size (by repeat (first | exact HB.out | apply b_a | apply b_n | apply b_d)))); have n1_ := a_k (below_step (by repeat (first | exact HB.out | apply b_a | apply b_n | apply b_d)) hb); clear HB; have HO368 := n0_; have HB := n1_; clear n0_ n1_; (try clear hb); (try clear hb2); (try clear hk); (try clear hi); (try clear ho0); obtain ⟨Ao23, co23, eo23⟩ := Kd.R_slice HO368.out; subst eo23) | ((with_reducible refine gate_callee (f := 75) rfl ?_); refine goesL_ (some 50) rfl rfl Tryz.func75 (by kernel_rfl) rfl #[.slice Ao23 t365.length co23] rfl (by (try simp only [m_a, m_c, m_n]); first | done | rfl) ?_; (with_reducible refine (block_Put.calls k _ _ t365 t369 t370 _ ?side1 ?side2 A13.out).mono ?_); (case side1 => repeat (first | exact (Kd.R_reads' HO368.out).2.2 | (with_reducible refine Kd.C_alloc ?_ _) | (with_reducible refine Kd.C_drewN ?_ _) | (with_reducible refine Kd.C_drew ?_))); (case side2 => exact (Kd.R_reads' HO368.out).2.1); rintro e w24 ⟨rfl, hb⟩; refine ⟨_, rfl, ?_⟩; have n0_ := a_k (Kd.R_below (by (with_reducible repeat (first | apply Kd.R_alloc | apply Kd.R_drewN | apply Kd.R_drew)); exact HO368.out) hb); have n1_ := a_k (below_step (by repeat (first | exact HB.out | apply b_a | apply b_n | apply b_d)) hb); clear HO368; clear HB; have HO368 := n0_; have HB := n1_; clear n0_ n1_; (try clear hb); (try clear hb2); (try clear hk); (try clear hi)))
         go_ret2
         exact ⟨_, by first | rfl | (simp [errW_none, errW_some] <;> rfl) | (simp only [← hji9]; first | rfl | (simp [errW_none, errW_some] <;> rfl)) | (simp [*, errW_none, errW_some] <;> rfl), by first | exact Kd.R_nil _ _ _ _ _ | exact Kd.N_nil _ _ _ _ _ | exact Kd.V_nil _ _ _ _ _ | exact Kd.Q_nil _ _ _ _ _ | exact Kd.S_nil _ _ _ _ _, by repeat (first | exact HB.out | apply b_a | apply b_n | apply b_d)⟩
       ·rw [if_neg c15] at H
        have c15b0 : (t370 == 0) = false := beq_eq_false_iff_ne.mpr c15
        have c15b1 : (t370 != 0) = true := bne_iff_ne.mpr c15
        simp only [Option.some.injEq, Prod.mk.injEq] at H
        obtain ⟨rfl, rfl⟩ := H
        go_enter Tryz.func77, Tryz.ntmps77
        go_wp2_with (first | ((with_reducible refine gate_callee (f := 193) rfl ?_); refine goesL_ (some 15) rfl rfl Tryz.func193 (by kernel_rfl) rfl #[.string a0] rfl (by (try simp only [m_a, m_c, m_n]); first | done | rfl) ?_; (with_reducible refine (sum_Open.calls k a0 t361 t362 _ A2.out).mono ?_); rintro e w25 ⟨rfl, hb⟩; refine ⟨_, rfl, ?_⟩; have n0_ := a_k (below_step (by repeat (first | exact HB.out | apply b_a | apply b_n | apply b_d)) hb); clear HB; have HB := n0_; clear n0_; (try clear hb); (try clear hb2); (try clear hk); (try clear hi)) | ((with_reducible refine gate_callee (f := 194) rfl ?_); refine goesL_ (some 29) rfl rfl Tryz.func194 (by kernel_rfl) rfl #[.string t361, .int .i64 (wrap64 ((t361.size : Int) - 4)), .int .i64 4] rfl (by (try simp only [m_a, m_c, m_n]); first | done | rfl) ?_; (with_reducible refine (num_Unfix.calls k t361 (wrap64 ((t361.size : Int) - 4)) 4 t363 t364 _ A6.out).mono ?_); rintro e w' ⟨rfl, ⟨nd, rfl⟩⟩; refine ⟨_, rfl, ?_⟩) | ((with_reducible refine gate_callee (f := 195) rfl ?_); refine goesL_ (some 45) rfl rfl Tryz.func195 (by kernel_rfl) rfl #[.string (t361.extract 0 ((ji9) : Int).toNat)] rfl (by (try simp only [m_a, m_c, m_n]); first | done | (simp only [hji9]; rfl) | rfl | (simp only [List.length_drop, List.length_take]; rfl)) ?_; (with_reducible refine (block_versions.calls k (t361.extract 0 ((ji9) : Int).toNat) t365 true _ A12.out).mono ?_); rintro e w26 ⟨v367, rfl, ho0, hb⟩; refine ⟨_, rfl, ?_⟩; have n0_ := a_k (Kd.R_lower ho0 (below_size (by repeat (first | exact HB.out | apply b_a | apply b_n | apply b_d)))); have n1_ := a_k (below_step (by repeat (first | exact HB.out | apply b_a | apply b_n | apply b_d)) hb); clear HB; have HO368 := n0_; have HB := n1_; clear n0_ n1_; (try clear hb); (try clear hb2); (try clear hk); (try clear hi); (try clear ho0); obtain ⟨Ao27, co27, eo27⟩ := Kd.R_slice HO368.out; subst eo27) | ((with_reducible refine gate_callee (f := 75) rfl ?_); refine goesL_ (some 50) rfl rfl Tryz.func75 (by kernel_rfl) rfl #[.slice Ao27 t365.length co27] rfl (by (try simp only [m_a, m_c, m_n]); first | done | rfl) ?_; (with_reducible refine (block_Put.calls k _ _ t365 t369 t370 _ ?side1 ?side2 A13.out).mono ?_); (case side1 => repeat (first | exact (Kd.R_reads' HO368.out).2.2 | (with_reducible refine Kd.C_alloc ?_ _) | (with_reducible refine Kd.C_drewN ?_ _) | (with_reducible refine Kd.C_drew ?_))); (case side2 => exact (Kd.R_reads' HO368.out).2.1); rintro e w28 ⟨rfl, hb⟩; refine ⟨_, rfl, ?_⟩; have n0_ := a_k (Kd.R_below (by (with_reducible repeat (first | apply Kd.R_alloc | apply Kd.R_drewN | apply Kd.R_drew)); exact HO368.out) hb); have n1_ := a_k (below_step (by repeat (first | exact HB.out | apply b_a | apply b_n | apply b_d)) hb); clear HO368; clear HB; have HO368 := n0_; have HB := n1_; clear n0_ n1_; (try clear hb); (try clear hb2); (try clear hk); (try clear hi)))
        go_ret2
        exact ⟨_, by first | rfl | (simp [errW_none, errW_some] <;> rfl) | (simp only [← hji9]; first | rfl | (simp [errW_none, errW_some] <;> rfl)) | (simp [*, errW_none, errW_some] <;> rfl), by first | exact Kd.R_nil _ _ _ _ _ | exact Kd.N_nil _ _ _ _ _ | exact Kd.V_nil _ _ _ _ _ | exact Kd.Q_nil _ _ _ _ _ | exact Kd.S_nil _ _ _ _ _, by repeat (first | exact HB.out | apply b_a | apply b_n | apply b_d)⟩
      ·replace c14 := Bool.eq_false_iff.mpr c14
       subst c14
       have H1 : (some (([] : List (S32)), 4)) = some (r1, r2) := by rw [if_neg (show ¬ (false = true) by decide)] at H; exact H
       clear H
       have H := H1
       clear H1
       simp only [Option.some.injEq, Prod.mk.injEq] at H
       obtain ⟨rfl, rfl⟩ := H
       go_enter Tryz.func77, Tryz.ntmps77
       go_wp2_with (first | ((with_reducible refine gate_callee (f := 193) rfl ?_); refine goesL_ (some 15) rfl rfl Tryz.func193 (by kernel_rfl) rfl #[.string a0] rfl (by (try simp only [m_a, m_c, m_n]); first | done | rfl) ?_; (with_reducible refine (sum_Open.calls k a0 t361 t362 _ A2.out).mono ?_); rintro e w29 ⟨rfl, hb⟩; refine ⟨_, rfl, ?_⟩; have n0_ := a_k (below_step (by repeat (first | exact HB.out | apply b_a | apply b_n | apply b_d)) hb); clear HB; have HB := n0_; clear n0_; (try clear hb); (try clear hb2); (try clear hk); (try clear hi)) | ((with_reducible refine gate_callee (f := 194) rfl ?_); refine goesL_ (some 29) rfl rfl Tryz.func194 (by kernel_rfl) rfl #[.string t361, .int .i64 (wrap64 ((t361.size : Int) - 4)), .int .i64 4] rfl (by (try simp only [m_a, m_c, m_n]); first | done | rfl) ?_; (with_reducible refine (num_Unfix.calls k t361 (wrap64 ((t361.size : Int) - 4)) 4 t363 t364 _ A6.out).mono ?_); rintro e w' ⟨rfl, ⟨nd, rfl⟩⟩; refine ⟨_, rfl, ?_⟩) | ((with_reducible refine gate_callee (f := 195) rfl ?_); refine goesL_ (some 45) rfl rfl Tryz.func195 (by kernel_rfl) rfl #[.string (t361.extract 0 ((ji9) : Int).toNat)] rfl (by (try simp only [m_a, m_c, m_n]); first | done | (simp only [hji9]; rfl) | rfl | (simp only [List.length_drop, List.length_take]; rfl)) ?_; (with_reducible refine (block_versions.calls k (t361.extract 0 ((ji9) : Int).toNat) t365 false _ A12.out).mono ?_); rintro e w30 ⟨v367, rfl, ho0, hb⟩; refine ⟨_, rfl, ?_⟩; have n0_ := a_k (Kd.R_lower ho0 (below_size (by repeat (first | exact HB.out | apply b_a | apply b_n | apply b_d)))); have n1_ := a_k (below_step (by repeat (first | exact HB.out | apply b_a | apply b_n | apply b_d)) hb); clear HB; have HO368 := n0_; have HB := n1_; clear n0_ n1_; (try clear hb); (try clear hb2); (try clear hk); (try clear hi); (try clear ho0); obtain ⟨Ao31, co31, eo31⟩ := Kd.R_slice HO368.out; subst eo31) | ((with_reducible refine gate_callee (f := 75) rfl ?_); refine goesL_ (some 50) rfl rfl Tryz.func75 (by kernel_rfl) rfl #[.slice Ao31 t365.length co31] rfl (by (try simp only [m_a, m_c, m_n]); first | done | rfl) ?_; (with_reducible refine (block_Put.calls k _ _ t365 t369 t370 _ ?side1 ?side2 A13.out).mono ?_); (case side1 => repeat (first | exact (Kd.R_reads' HO368.out).2.2 | (with_reducible refine Kd.C_alloc ?_ _) | (with_reducible refine Kd.C_drewN ?_ _) | (with_reducible refine Kd.C_drew ?_))); (case side2 => exact (Kd.R_reads' HO368.out).2.1); rintro e w32 ⟨rfl, hb⟩; refine ⟨_, rfl, ?_⟩; have n0_ := a_k (Kd.R_below (by (with_reducible repeat (first | apply Kd.R_alloc | apply Kd.R_drewN | apply Kd.R_drew)); exact HO368.out) hb); have n1_ := a_k (below_step (by repeat (first | exact HB.out | apply b_a | apply b_n | apply b_d)) hb); clear HO368; clear HB; have HO368 := n0_; have HB := n1_; clear n0_ n1_; (try clear hb); (try clear hb2); (try clear hk); (try clear hi)))
       go_ret2
       exact ⟨_, by first | rfl | (simp [errW_none, errW_some] <;> rfl) | (simp only [← hji9]; first | rfl | (simp [errW_none, errW_some] <;> rfl)) | (simp [*, errW_none, errW_some] <;> rfl), by first | exact Kd.R_nil _ _ _ _ _ | exact Kd.N_nil _ _ _ _ _ | exact Kd.V_nil _ _ _ _ _ | exact Kd.Q_nil _ _ _ _ _ | exact Kd.S_nil _ _ _ _ _, by repeat (first | exact HB.out | apply b_a | apply b_n | apply b_d)⟩
     ·rw [if_neg c11] at H
      exact absurd H (by simp)
    ·rw [if_neg c10] at H
     exact absurd H (by simp)
 ·rw [if_neg c3] at H
  have c3b0 : (t362 == 0) = false := beq_eq_false_iff_ne.mpr c3
  have c3b1 : (t362 != 0) = true := bne_iff_ne.mpr c3
  simp only [Option.some.injEq, Prod.mk.injEq] at H
  obtain ⟨rfl, rfl⟩ := H
  go_enter Tryz.func77, Tryz.ntmps77
  go_wp2_with (first | ((with_reducible refine gate_callee (f := 193) rfl ?_); refine goesL_ (some 15) rfl rfl Tryz.func193 (by kernel_rfl) rfl #[.string a0] rfl (by (try simp only [m_a, m_c, m_n]); first | done | rfl) ?_; (with_reducible refine (sum_Open.calls k a0 t361 t362 _ A2.out).mono ?_); rintro e w33 ⟨rfl, hb⟩; refine ⟨_, rfl, ?_⟩; have n0_ := a_k (below_step (by repeat (first | exact HB.out | apply b_a | apply b_n | apply b_d)) hb); clear HB; have HB := n0_; clear n0_; (try clear hb); (try clear hb2); (try clear hk); (try clear hi)))
  go_ret2
  exact ⟨_, by first | rfl | (simp [*, errW_none, errW_some] <;> rfl), by first | exact Kd.R_nil _ _ _ _ _ | exact Kd.N_nil _ _ _ _ _ | exact Kd.V_nil _ _ _ _ _ | exact Kd.Q_nil _ _ _ _ _ | exact Kd.S_nil _ _ _ _ _, by repeat (first | exact HB.out | apply b_a | apply b_n | apply b_d)⟩
mutual
def cornucopiaref1_Fix.j0 : Nat → Int → Int → Bool → Option (ByteArray × Int)
 | 0, _, _, _ => none
 | k + 1, x0, x1, x13 => if x13 = true then (some ((⟨#[]⟩ : ByteArray), 1)) else (if 0 ≤ x1 then (if (x1 : Int).toNat ≤ 281474976710656 then (cornucopiaref1_Fix.l0 k x0 (List.replicate (x1 : Int).toNat 0) (wrap64 (x1 - 1))) else (none)) else (none))
def cornucopiaref1_Fix.l0 : Nat → Int → List Int → Int → Option (ByteArray × Int)
 | 0, _, _, _ => none
 | k + 1, x0, x6, x7 => if x7 ≥ 0 then (if 0 ≤ x7 then (if x7 < (x6.length : Int) then (cornucopiaref1_Fix.l0 k (IntKind.u64.wrap (Int.tdiv x0 256)) (x6.set (x7 : Int).toNat ((Int.tmod x0 256) % 256)) (wrap64 (x7 - 1))) else (none)) else (none)) else (if x0 > 0 then (some ((⟨#[]⟩ : ByteArray), 1)) else (some (strOfNums x6, 0)))
end
def cornucopiaref1_Fix.f (k : Nat) (a0 : Int) (a1 : Int) : Option (ByteArray × Int) := if a1 < 1 then (cornucopiaref1_Fix.j0 k a0 a1 true) else (cornucopiaref1_Fix.j0 k a0 a1 (decide (a1 > 8)))
theorem cornucopiaref1_Fix.calls (k : Nat) (a0 : Int) (a1 : Int) (r1 : ByteArray) (r2 : Int) (w : World) (h : cornucopiaref1_Fix.f k a0 a1 = some (r1, r2)) :
  Calls Tryz.prog 191 #[.int .u64 a0, .int .i64 a1] w fun e w' => e = .returned (.tuple #[.string r1, .int .i64 r2]) ∧ Below w.heap.size w w' := by
 have HB := a_k (Below.refl w.heap.size w)
 have H : (if a1 < 1 then (cornucopiaref1_Fix.j0 k a0 a1 true) else (cornucopiaref1_Fix.j0 k a0 a1 (decide (a1 > 8)))) = some (r1, r2) := h
 clear h
 have HC3 := a_k H
 clear H
 go_enter Tryz.func191, Tryz.ntmps191
 go_upto_region 1 with (fail)
 go_cut [13] (fun v13 wc => ∃ (kq : Nat) (x13_2 : Bool), v13 = .bool x13_2 ∧ Aside0 (cornucopiaref1_Fix.j0 kq a0 a1 x13_2 = some (r1, r2)) ∧ Aside0 (kq ≤ k) ∧ Aside0 (Below w.heap.size w wc))
 case first =>
  have H := HC3.out
  clear HC3
  by_cases c4 : a1 < 1
  ·rw [if_pos c4] at H
   have c4b0 : decide (a1 < 1) = true := decide_eq_true c4
   clear c4
   (first | rw [c4b0] | (simp only [i64_w, i32_w]; rw [c4b0]) | skip)
   have H' := a_k H
   clear H
   go_wp2
   go_meet
   case rel => exact ⟨_, (true), (by first | rfl | (simp; done) | (simp [*]; done)), H', ⟨by first | omega | exact Nat.le_refl _⟩, ⟨by repeat (first | exact HB.out | apply b_a | apply b_n | apply b_d)⟩⟩
  ·rw [if_neg c4] at H
   have c4b0 : decide (a1 < 1) = false := decide_eq_false c4
   clear c4
   (first | rw [c4b0] | (simp only [i64_w, i32_w]; rw [c4b0]) | skip)
   have H' := a_k H
   clear H
   go_wp2
   go_meet
   case rel => exact ⟨_, (decide (a1 > 8)), (by first | rfl | (simp; done) | (simp [*]; done)), H', ⟨by first | omega | exact Nat.le_refl _⟩, ⟨by repeat (first | exact HB.out | apply b_a | apply b_n | apply b_d)⟩⟩
 case rest =>
  clear HC3
  try clear c1
  try clear p2
  try clear c4
  try clear c4b0
  obtain ⟨kq, x13_2, rfl, HA, HJ2, HB⟩ := hcut
  cases kq with
  | zero => exact absurd HA.out (by simp [cornucopiaref1_Fix.j0])
  | succ kj2 =>
   have H := HA.out
   clear HA
   simp only [cornucopiaref1_Fix.j0] at H
   by_cases c5 : x13_2 = true
   ·subst c5
    have H1 : (some ((⟨#[]⟩ : ByteArray), 1)) = some (r1, r2) := by rw [if_pos rfl] at H; exact H
    clear H
    have H := H1
    clear H1
    simp only [Option.some.injEq, Prod.mk.injEq] at H
    obtain ⟨rfl, rfl⟩ := H
    go_wp2
    go_ret2
    exact ⟨by first | rfl | (simp [*, errW_none, errW_some] <;> rfl), by repeat (first | exact HB.out | apply b_a | apply b_n | apply b_d)⟩
   ·replace c5 := Bool.eq_false_iff.mpr c5
    subst c5
    have H1 : (if 0 ≤ a1 then (if (a1 : Int).toNat ≤ 281474976710656 then (cornucopiaref1_Fix.l0 kj2 a0 (List.replicate (a1 : Int).toNat 0) (wrap64 (a1 - 1))) else (none)) else (none)) = some (r1, r2) := by rw [if_neg (show ¬ (false = true) by decide)] at H; exact H
    clear H
    have H := H1
    clear H1
    by_cases c6 : 0 ≤ a1
    ·rw [if_pos c6] at H
     have c6b0 := eq_true c6
     have c6b1 : decide (0 ≤ a1) = true := decide_eq_true c6
     clear c6
     by_cases c7 : (a1 : Int).toNat ≤ 281474976710656
     ·rw [if_pos c7] at H
      have c7b0 := eq_true c7
      have c7b1 : decide ((a1 : Int).toNat ≤ 281474976710656) = true := decide_eq_true c7
      clear c7
      obtain ⟨y397, hy397⟩ : ∃ y_ : List Int, y_ = (List.replicate (a1 : Int).toNat 0) := ⟨_, rfl⟩
      replace H : (cornucopiaref1_Fix.l0 kj2 a0 y397 (wrap64 (a1 - 1))) = some (r1, r2) := by first | (rw [hy397]; with_reducible exact H) | (have H2_ := (Option.bind_some _ _).symm.trans H; rw [hy397]; with_reducible exact H2_) | (have H2_ := (Option.bind_some _ _).symm.trans H; with_reducible exact H2_) | with_reducible exact H | (rw [hy397]; exact H) | exact H
      have Ny397 := a_k hy397
      clear hy397
      have H' := a_k H
      clear H
      go_wp2_with (first | ((with_reducible refine gate_dst (N := 15) rfl ?_); refine Kd.R_make (Kd.int .u8) _ 5 rfl (N := 15) rfl 219 _ _ rfl a1 rfl rfl Tryz.underlying219 (.int .u8 0) 1 info5 rfl (by decide) (by omega) 0 (ok := fun _ => True) (okp := fun _ => True) rfl (fun _ hk => hk) trivial (of_decide_eq_true (by assumption)) (Nat.le_trans (Nat.mul_le_mul_right _ (of_decide_eq_true (by assumption) : a1.toNat ≤ 281474976710656)) (by omega)) (Below.refl _ _) (Nat.le_refl _) ?_; intro v398 w8 ho9 hb hg_ hnew_; clear hg_ hnew_; (first | rw [← Ny397.out] at ho9 | (simp only [Int.reduceToNat] at ho9; rw [← Ny397.out] at ho9)); have n0_ := a_k (Kd.R_lower ho9 (below_size (by repeat (first | exact HB.out | apply b_a | apply b_n | apply b_d)))); have n1_ := a_k (below_step (by repeat (first | exact HB.out | apply b_a | apply b_n | apply b_d)) hb); clear HB; have HO399 := n0_; have HB := n1_; clear n0_ n1_; clear hb ho9))
      go_loopg [0, 7] kj2 (fun kq v0 v7 w' => ∃ (x0_2 : Int) (x6_2 : List Int) (x7_2 : Int), v0 = .int .u64 x0_2 ∧ v7 = .int .i64 x7_2 ∧ Aside0 (cornucopiaref1_Fix.l0 kq x0_2 x6_2 x7_2 = some (r1, r2)) ∧ Aside0 (kq ≤ kj2) ∧ Aside0 (Kd.R (Kd.int .u8) 5 w' w.heap.size (fun _ => True) v398 x6_2) ∧ Aside0 (Below w.heap.size w w'))
      case atStart => exact ⟨(a0), (y397), (wrap64 (a1 - 1)), (by first | rfl | (simp; done) | (simp [*]; done)), (by first | rfl | (simp; done) | (simp [*]; done)), H', ⟨Nat.le_refl _⟩, ⟨by (with_reducible repeat (first | apply Kd.R_alloc | apply Kd.R_drewN | apply Kd.R_drew)); exact HO399.out⟩, ⟨by repeat (first | exact HB.out | apply b_a | apply b_n | apply b_d)⟩⟩
      case round =>
       clear H'
       try clear c1
       try clear p2
       try clear c4
       try clear c4b0
       try clear c5
       try clear c6
       try clear c6b0
       try clear c6b1
       try clear p6
       try clear c7
       try clear c7b0
       try clear c7b1
       try clear p2
       obtain ⟨x0_2, x6_2, x7_2, rfl, rfl, HA, HK2, HO_6, HB⟩ := hrel
       cases gk with
       | zero => exact absurd HA.out (by simp [cornucopiaref1_Fix.l0])
       | succ k2 =>
        have H := HA.out
        clear HA
        simp only [cornucopiaref1_Fix.l0] at H
        by_cases c10 : x7_2 ≥ 0
        ·rw [if_pos c10] at H
         have c10b0 : decide (0 ≤ x7_2) = true := decide_eq_true c10
         clear c10
         by_cases c11 : 0 ≤ x7_2
         ·rw [if_pos c11] at H
          have c11b0 : decide (0 ≤ x7_2) = true := decide_eq_true c11
          clear c11
          by_cases c12 : x7_2 < (x6_2.length : Int)
          ·rw [if_pos c12] at H
           have c12b0 : decide (x7_2 < (x6_2.length : Int)) = true := decide_eq_true c12
           clear c12
           obtain ⟨y400, hy400⟩ : ∃ y_ : List Int, y_ = (x6_2.set (x7_2 : Int).toNat ((Int.tmod x0_2 256) % 256)) := ⟨_, rfl⟩
           replace H : (cornucopiaref1_Fix.l0 k2 (IntKind.u64.wrap (Int.tdiv x0_2 256)) y400 (wrap64 (x7_2 - 1))) = some (r1, r2) := by first | (rw [hy400]; with_reducible exact H) | (have H2_ := (Option.bind_some _ _).symm.trans H; rw [hy400]; with_reducible exact H2_) | (have H2_ := (Option.bind_some _ _).symm.trans H; with_reducible exact H2_) | with_reducible exact H | (rw [hy400]; exact H) | exact H
           have Ny400 := a_k hy400
           clear hy400
           have H' := a_k H
           clear H
           have p13 : 0 ≤ (x7_2 : Int) := of_decide_eq_true (by assumption)
           have q13 : (x7_2 : Int) < ((x6_2.length : Int) : Int) := of_decide_eq_true (by assumption)
           obtain ⟨go13, co13, eo13, gb13, gl13, cl13, HG13⟩ := Kd.R_form HO_6.out (by omega)
           (first | cases eo13 | (injection eo13 with ea_ en_ ec_; (first | subst ea_ | (injection ea_ with ea_; subst ea_)); subst ec_; clear en_))
           have GB13 := a_k gb13
           have GG13 := a_k HG13
           clear gb13 gl13 HG13
           obtain ⟨hx13_0, hf13_0⟩ := Kd.R_celln 0 HO_6.out (x7_2 : Int) p13 q13
           replace p13 := eq_true p13
           replace q13 := eq_true q13
           have HP14 := Kd.R_putg HO_6.out (x7_2 : Int) ((Int.tmod x0_2 256) % 256)
           go_wp2_with (first | ((with_reducible refine gate_store (t := 5) (p := 27) rfl ?_); refine store_event (t := 5) (p := 27) (v := ?vo_w15) (w1 := (wr.setCell ⟨go13, (x7_2 : Int).toNat, none⟩ (.int .u8 ((Int.tmod x0_2 256) % 256)))) ?hg ?ho ?hn ?hr ?_; (case ho => rfl); (case hg => rfl); (case hn => rfl); (case hr => first | (go_simp; done) | (go_simp; rfl)); intro w15 hw; have hg : wr.grownBy w15 (some go13) := (by rw [hw]; exact HP14.2); have hp_ : Kd.R (Kd.int .u8) 5 w15 w.heap.size (fun _ => True) (.slice (some ⟨go13, 0, none⟩) x6_2.length co13) y400 := (by rw [hw, Ny400.out]; exact HP14.1); clear HP14; have n0_ := a_k (hp_); have n1_ := a_k ((by rw [hw]; exact below_set (HB.out) GB13.out : Below w.heap.size w w15)); clear HO_6; clear HB; have HO_6 := n0_; have HB := n1_; clear n0_ n1_; clear hg hw hp_))
           go_roundg k2
           case measure => have := HJ2.out; have := HK2.out; omega
           case rel => exact ⟨(IntKind.u64.wrap (Int.tdiv x0_2 256)), (y400), (wrap64 (x7_2 - 1)), (by first | rfl | (simp; done) | (simp [*]; done)), (by first | rfl | (simp; done) | (simp [*]; done)), H', ⟨by have := HJ2.out; have := HK2.out; omega⟩, ⟨by (with_reducible repeat (first | apply Kd.R_alloc | apply Kd.R_drewN | apply Kd.R_drew)); exact HO_6.out⟩, ⟨by repeat (first | exact HB.out | apply b_a | apply b_n | apply b_d)⟩⟩
          ·rw [if_neg c12] at H
           exact absurd H (by simp)
         ·rw [if_neg c11] at H
          exact absurd H (by simp)
        ·rw [if_neg c10] at H
         have c10b0 : decide (0 ≤ x7_2) = false := decide_eq_false c10
         clear c10
         by_cases c16 : x0_2 > 0
         ·rw [if_pos c16] at H
          have c16b0 : decide (0 < x0_2) = true := decide_eq_true c16
          clear c16
          simp only [Option.some.injEq, Prod.mk.injEq] at H
          obtain ⟨rfl, rfl⟩ := H
          go_wp2
          go_ret2
          exact ⟨by first | rfl | (simp [*, errW_none, errW_some] <;> rfl), by repeat (first | exact HB.out | apply b_a | apply b_n | apply b_d)⟩
         ·rw [if_neg c16] at H
          have c16b0 : decide (0 < x0_2) = false := decide_eq_false c16
          clear c16
          simp only [Option.some.injEq, Prod.mk.injEq] at H
          obtain ⟨rfl, rfl⟩ := H
          have hcv17 := own_string (P := Tryz.prog) Tryz.underlying219 Tryz.underlying5 Tryz.underlying9 (Kd.own_of_R HO_6.out)
          go_wp2
          go_ret2
          exact ⟨by first | rfl | (simp [*, errW_none, errW_some] <;> rfl), by repeat (first | exact HB.out | apply b_a | apply b_n | apply b_d)⟩
     ·rw [if_neg c7] at H
      exact absurd H (by simp)
    ·rw [if_neg c6] at H
     exact absurd H (by simp)
def cornucopiaref1_fix.f (k : Nat) (a0 : Int) (a1 : Int) : Option (ByteArray) := (cornucopiaref1_Fix.f k a0 a1).bind fun bt401 => (some bt401.1)
theorem cornucopiaref1_fix.calls (k : Nat) (a0 : Int) (a1 : Int) (r : ByteArray) (w : World) (h : cornucopiaref1_fix.f k a0 a1 = some r) :
  Calls Tryz.prog 182 #[.int .u64 a0, .int .i64 a1] w fun e w' => e = .returned (.string r) ∧ Below w.heap.size w w' := by
 have HB := a_k (Below.refl w.heap.size w)
 have H : ((cornucopiaref1_Fix.f k a0 a1).bind fun bt401 => (some bt401.1)) = some r := h
 clear h
 replace H := Option.bind_eq_some_iff.mp H
 obtain ⟨⟨t401, t402⟩, A30, H⟩ := H
 replace H : (some t401) = some r := H
 have A3 := a_k A30
 clear A30
 obtain rfl := Option.some.inj H
 go_enter Tryz.func182, Tryz.ntmps182
 go_wp2_with (first | ((with_reducible refine gate_callee (f := 191) rfl ?_); refine goesL_ (some 10) rfl rfl Tryz.func191 (by kernel_rfl) rfl #[.int .u64 a0, .int .i64 a1] rfl (by (try simp only [m_a, m_c, m_n]); first | done | rfl) ?_; (with_reducible refine (cornucopiaref1_Fix.calls k a0 a1 t401 t402 _ A3.out).mono ?_); rintro e w4 ⟨rfl, hb⟩; refine ⟨_, rfl, ?_⟩; have n0_ := a_k (below_step (by repeat (first | exact HB.out | apply b_a | apply b_n | apply b_d)) hb); clear HB; have HB := n0_; clear n0_; (try clear hb); (try clear hb2); (try clear hk); (try clear hi)))
 go_ret
 exact ⟨by first | rfl | (simp [*, errW_none, errW_some] <;> rfl), by repeat (first | exact HB.out | apply b_a | apply b_n | apply b_d)⟩
mutual
def cornucopiaref1_Crc.l0 : Nat → ByteArray → Int → Int → Option (Int)
 | 0, _, _, _ => none
 | k + 1, x0, x3, x4 => if x4 < (x0.size : Int) then (if 0 ≤ x4 then (cornucopiaref1_Crc.l1 k x0 (Go.bits .xor .u32 x3 ((bt x0 x4) % 4294967296)) x4 0) else (none)) else (some (Go.bits .xor .u32 x3 4294967295))
def cornucopiaref1_Crc.l1 : Nat → ByteArray → Int → Int → Int → Option (Int)
 | 0, _, _, _, _ => none
 | k + 1, x0, x3, x4, x5 => if x5 < 8 then (if (Int.tmod x3 2) = 1 then (cornucopiaref1_Crc.l1 k x0 (Go.bits .xor .u32 ((Int.tdiv x3 2) % 4294967296) 2197175160) x4 (wrap64 (x5 + 1))) else (cornucopiaref1_Crc.l1 k x0 ((Int.tdiv x3 2) % 4294967296) x4 (wrap64 (x5 + 1)))) else (cornucopiaref1_Crc.l0 k x0 x3 (wrap64 (x4 + 1)))
end
def cornucopiaref1_Crc.f (k : Nat) (a0 : ByteArray) : Option (Int) := cornucopiaref1_Crc.l0 k a0 4294967295 0
theorem cornucopiaref1_Crc.calls (k : Nat) (a0 : ByteArray) (r : Int) (w : World) (h : cornucopiaref1_Crc.f k a0 = some r) :
  Calls Tryz.prog 183 #[.string a0] w fun e w' => e = .returned (.int .u32 r) ∧ Drawn0 w w' := by
 have H : (cornucopiaref1_Crc.l0 k a0 4294967295 0) = some r := h
 clear h
 have H' := a_k H
 clear H
 go_enter Tryz.func183, Tryz.ntmps183
 go_wp2
 go_loopg [3, 4] k (fun kq v3 v4 w' => ∃ (x3_1 : Int) (x4_1 : Int), v3 = .int .u32 x3_1 ∧ v4 = .int .i64 x4_1 ∧ Aside0 (cornucopiaref1_Crc.l0 kq a0 x3_1 x4_1 = some r) ∧ Aside0 (kq ≤ k) ∧ Drawn0 w w')
 case atStart => exact ⟨(4294967295), (0), (by first | rfl | (simp; done) | (simp [*]; done)), (by first | rfl | (simp; done) | (simp [*]; done)), H', ⟨Nat.le_refl _⟩, by repeat (first | exact Drawn0.refl _ | apply Drawn0.step)⟩
 case round =>
  clear H'
  try clear c1
  obtain ⟨x3_1, x4_1, rfl, rfl, HA, HK1, ⟨m1, rfl⟩⟩ := hrel
  cases gk with
  | zero => exact absurd HA.out (by simp [cornucopiaref1_Crc.l0])
  | succ k1 =>
   have H := HA.out
   clear HA
   simp only [cornucopiaref1_Crc.l0] at H
   by_cases c2 : x4_1 < (a0.size : Int)
   ·rw [if_pos c2] at H
    have c2b0 : decide (x4_1 < (a0.size : Int)) = true := decide_eq_true c2
    clear c2
    by_cases c3 : 0 ≤ x4_1
    ·rw [if_pos c3] at H
     have c3b0 : decide (0 ≤ x4_1) = true := decide_eq_true c3
     clear c3
     have H' := a_k H
     clear H
     have p4 : 0 ≤ (x4_1 : Int) := of_decide_eq_true (by assumption)
     have q4 : x4_1 < (a0.size : Int) := of_decide_eq_true (by assumption)
     have hx4 := bt_at a0 x4_1
     replace p4 := eq_true p4
     replace q4 := eq_true q4
     go_wp2
     go_loopg [3, 5] k1 (fun kq v3 v5 w' => ∃ (x3_2 : Int) (x5_2 : Int), v3 = .int .u32 x3_2 ∧ v5 = .int .i64 x5_2 ∧ Aside0 (cornucopiaref1_Crc.l1 kq a0 x3_2 x4_1 x5_2 = some r) ∧ Aside0 (kq ≤ k1) ∧ Drawn0 w w')
     case atStart => exact ⟨(Go.bits .xor .u32 x3_1 ((bt a0 x4_1) % 4294967296)), (0), (by first | rfl | (simp; done) | (simp [*]; done)), (by first | rfl | (simp; done) | (simp [*]; done)), H', ⟨Nat.le_refl _⟩, by repeat (first | exact Drawn0.refl _ | apply Drawn0.step)⟩
     case round =>
      clear H'
      try clear c1
      try clear c2
      try clear c2b0
      try clear p2
      try clear c3
      try clear c3b0
      try clear p4
      try clear q4
      try clear hx4
      try clear p4
      try clear q4
      obtain ⟨x3_2, x5_2, rfl, rfl, HA, HK2, ⟨m2, rfl⟩⟩ := hrel
      cases gk with
      | zero => exact absurd HA.out (by simp [cornucopiaref1_Crc.l1])
      | succ k2 =>
       have H := HA.out
       clear HA
       simp only [cornucopiaref1_Crc.l1] at H
       by_cases c5 : x5_2 < 8
       ·rw [if_pos c5] at H
        have c5b0 : decide (x5_2 < 8) = true := decide_eq_true c5
        clear c5
        by_cases c6 : (Int.tmod x3_2 2) = 1
        ·rw [if_pos c6] at H
         have c6b0 : ((Int.tmod x3_2 2) == 1) = true := beq_iff_eq.mpr c6
         have c6b1 : ((Int.tmod x3_2 2) != 1) = false := bne_eq_false_iff_eq.mpr c6
         clear c6
         have H' := a_k H
         clear H
         go_wp2
         go_roundg k2
         case measure => have := HK1.out; have := HK2.out; omega
         case rel => exact ⟨(Go.bits .xor .u32 ((Int.tdiv x3_2 2) % 4294967296) 2197175160), (wrap64 (x5_2 + 1)), (by first | rfl | (simp; done) | (simp [*]; done)), (by first | rfl | (simp; done) | (simp [*]; done)), H', ⟨by have := HK1.out; have := HK2.out; omega⟩, by repeat (first | exact Drawn0.refl _ | apply Drawn0.step)⟩
        ·rw [if_neg c6] at H
         have c6b0 : ((Int.tmod x3_2 2) == 1) = false := beq_eq_false_iff_ne.mpr c6
         have c6b1 : ((Int.tmod x3_2 2) != 1) = true := bne_iff_ne.mpr c6
         have H' := a_k H
         clear H
         go_wp2
         go_roundg k2
         case measure => have := HK1.out; have := HK2.out; omega
         case rel => exact ⟨((Int.tdiv x3_2 2) % 4294967296), (wrap64 (x5_2 + 1)), (by first | rfl | (simp; done) | (simp [*]; done)), (by first | rfl | (simp; done) | (simp [*]; done)), H', ⟨by have := HK1.out; have := HK2.out; omega⟩, by repeat (first | exact Drawn0.refl _ | apply Drawn0.step)⟩
       ·rw [if_neg c5] at H
        have c5b0 : decide (x5_2 < 8) = false := decide_eq_false c5
        clear c5
        have H' := a_k H
        clear H
        go_wp2
        go_roundg k2
        case measure => have := HK1.out; have := HK2.out; omega
        case rel => exact ⟨(x3_2), (wrap64 (x4_1 + 1)), (by first | rfl | (simp; done) | (simp [*]; done)), (by first | rfl | (simp; done) | (simp [*]; done)), H', ⟨by have := HK1.out; have := HK2.out; omega⟩, by repeat (first | exact Drawn0.refl _ | apply Drawn0.step)⟩
    ·rw [if_neg c3] at H
     exact absurd H (by simp)
   ·rw [if_neg c2] at H
    have c2b0 : decide (x4_1 < (a0.size : Int)) = false := decide_eq_false c2
    clear c2
    obtain rfl := Option.some.inj H
    go_wp2
    go_ret
    exact ⟨by first | rfl | (simp; done) | (simp [*]; done), by repeat (first | exact Drawn0.refl _ | apply Drawn0.step)⟩
def cornucopiaref1_Seal.f (k : Nat) (a0 : ByteArray) : Option (ByteArray) := (cornucopiaref1_Crc.f k a0).bind fun t403 => ((cornucopiaref1_fix.f k (IntKind.u64.wrap (t403)) 4).bind fun t404 => (if a0.size + t404.size ≤ 9223372036854775807 then (some (a0 ++ t404)) else (none)))
theorem cornucopiaref1_Seal.calls (k : Nat) (a0 : ByteArray) (r : ByteArray) (w : World) (h : cornucopiaref1_Seal.f k a0 = some r) :
  Calls Tryz.prog 74 #[.string a0] w fun e w' => e = .returned (.string r) ∧ Below w.heap.size w w' := by
 have HB := a_k (Below.refl w.heap.size w)
 have H : ((cornucopiaref1_Crc.f k a0).bind fun t403 => ((cornucopiaref1_fix.f k (IntKind.u64.wrap (t403)) 4).bind fun t404 => (if a0.size + t404.size ≤ 9223372036854775807 then (some (a0 ++ t404)) else (none)))) = some r := h
 clear h
 replace H := Option.bind_eq_some_iff.mp H
 obtain ⟨t403, A20, H⟩ := H
 replace H : ((cornucopiaref1_fix.f k (IntKind.u64.wrap (t403)) 4).bind fun t404 => (if a0.size + t404.size ≤ 9223372036854775807 then (some (a0 ++ t404)) else (none))) = some r := H
 have A2 := a_k A20
 clear A20
 replace H := Option.bind_eq_some_iff.mp H
 obtain ⟨t404, A30, H⟩ := H
 replace H : (if a0.size + t404.size ≤ 9223372036854775807 then (some (a0 ++ t404)) else (none)) = some r := H
 have A3 := a_k A30
 clear A30
 by_cases c4 : a0.size + t404.size ≤ 9223372036854775807
 ·rw [if_pos c4] at H
  have c4b0 := eq_true c4
  have c4b1 : decide (a0.size + t404.size ≤ 9223372036854775807) = true := decide_eq_true c4
  try have c4b2 : (9223372036854775807 < a0.size + t404.size) = False := eq_false (Nat.not_lt.2 c4)
  clear c4
  obtain rfl := Option.some.inj H
  go_enter Tryz.func74, Tryz.ntmps74
  go_wp2_with (first | ((with_reducible refine gate_callee (f := 183) rfl ?_); refine goesL_ (some 5) rfl rfl Tryz.func183 (by kernel_rfl) rfl #[.string a0] rfl (by (try simp only [m_a, m_c, m_n]); first | done | rfl) ?_; (with_reducible refine (cornucopiaref1_Crc.calls k a0 t403 _ A2.out).mono ?_); rintro e w' ⟨rfl, ⟨nd, rfl⟩⟩; refine ⟨_, rfl, ?_⟩) | ((with_reducible refine gate_callee (f := 182) rfl ?_); refine goesL_ (some 7) rfl rfl Tryz.func182 (by kernel_rfl) rfl #[.int .u64 (IntKind.u64.wrap (t403)), .int .i64 4] rfl (by (try simp only [m_a, m_c, m_n]); first | done | rfl) ?_; (with_reducible refine (cornucopiaref1_fix.calls k (IntKind.u64.wrap (t403)) 4 t404 _ A3.out).mono ?_); rintro e w5 ⟨rfl, hb⟩; refine ⟨_, rfl, ?_⟩; have n0_ := a_k (below_step (by repeat (first | exact HB.out | apply b_a | apply b_n | apply b_d)) hb); clear HB; have HB := n0_; clear n0_; (try clear hb); (try clear hb2); (try clear hk); (try clear hi)))
  go_ret
  exact ⟨by first | rfl | (simp [*, errW_none, errW_some] <;> rfl), by repeat (first | exact HB.out | apply b_a | apply b_n | apply b_d)⟩
 ·rw [if_neg c4] at H
  exact absurd H (by simp)
def cornucopiaref5_Shared.l0 : Nat → ByteArray → ByteArray → Int → Option (Int)
 | 0, _, _, _ => none
 | k + 1, x0, x1, x5 => if x5 < (x0.size : Int) then (if x5 < (x1.size : Int) then (if 0 ≤ x5 then (if (bt x0 x5) = (bt x1 x5) then (cornucopiaref5_Shared.l0 k x0 x1 (wrap64 (x5 + 1))) else (some x5)) else (none)) else (some x5)) else (some x5)
def cornucopiaref5_Shared.f (k : Nat) (a0 : ByteArray) (a1 : ByteArray) : Option (Int) := cornucopiaref5_Shared.l0 k a0 a1 0
theorem cornucopiaref5_Shared.calls (k : Nat) (a0 : ByteArray) (a1 : ByteArray) (r : Int) (w : World) (h : cornucopiaref5_Shared.f k a0 a1 = some r) :
  Calls Tryz.prog 81 #[.string a0, .string a1] w fun e w' => e = .returned (.int .i64 r) ∧ Drawn0 w w' := by
 have H : (cornucopiaref5_Shared.l0 k a0 a1 0) = some r := h
 clear h
 have H' := a_k H
 clear H
 go_enter Tryz.func81, Tryz.ntmps81
 go_wp2
 repeat (go_quiet (fail); try go_wp2)
 go_loopg [5] k (fun kq v5 w' => ∃ (x5_1 : Int), v5 = .int .i64 x5_1 ∧ Aside0 (cornucopiaref5_Shared.l0 kq a0 a1 x5_1 = some r) ∧ Aside0 (kq ≤ k) ∧ Drawn0 w w')
 case atStart => exact ⟨(0), (by first | rfl | (simp; done) | (simp [*]; done)), H', ⟨Nat.le_refl _⟩, by repeat (first | exact Drawn0.refl _ | apply Drawn0.step)⟩
 case round =>
  clear H'
  try clear p2
  obtain ⟨x5_1, rfl, HA, HK1, ⟨m1, rfl⟩⟩ := hrel
  cases gk with
  | zero => exact absurd HA.out (by simp [cornucopiaref5_Shared.l0])
  | succ k1 =>
   have H := HA.out
   clear HA
   simp only [cornucopiaref5_Shared.l0] at H
   by_cases c3 : x5_1 < (a0.size : Int)
   ·rw [if_pos c3] at H
    have c3b0 : decide (x5_1 < (a0.size : Int)) = true := decide_eq_true c3
    clear c3
    by_cases c4 : x5_1 < (a1.size : Int)
    ·rw [if_pos c4] at H
     have c4b0 : decide (x5_1 < (a1.size : Int)) = true := decide_eq_true c4
     clear c4
     by_cases c5 : 0 ≤ x5_1
     ·rw [if_pos c5] at H
      have c5b0 : decide (0 ≤ x5_1) = true := decide_eq_true c5
      clear c5
      by_cases c8 : (bt a0 x5_1) = (bt a1 x5_1)
      ·rw [if_pos c8] at H
       have c8b0 : ((bt a0 x5_1) == (bt a1 x5_1)) = true := beq_iff_eq.mpr c8
       have c8b1 : ((bt a0 x5_1) != (bt a1 x5_1)) = false := bne_eq_false_iff_eq.mpr c8
       clear c8
       have H' := a_k H
       clear H
       have p6 : 0 ≤ (x5_1 : Int) := of_decide_eq_true (by assumption)
       have q6 : x5_1 < (a0.size : Int) := of_decide_eq_true (by assumption)
       have hx6 := bt_at a0 x5_1
       replace p6 := eq_true p6
       replace q6 := eq_true q6
       have p7 : 0 ≤ (x5_1 : Int) := of_decide_eq_true (by assumption)
       have q7 : x5_1 < (a1.size : Int) := of_decide_eq_true (by assumption)
       have hx7 := bt_at a1 x5_1
       replace p7 := eq_true p7
       replace q7 := eq_true q7
       go_wp2
       repeat (go_quiet (fail); try go_wp2)
       go_roundg k1
       case measure => have := HK1.out; omega
       case rel => exact ⟨(wrap64 (x5_1 + 1)), (by first | rfl | (simp; done) | (simp [*]; done)), H', ⟨by have := HK1.out; omega⟩, by repeat (first | exact Drawn0.refl _ | apply Drawn0.step)⟩
      ·rw [if_neg c8] at H
       have c8b0 : ((bt a0 x5_1) == (bt a1 x5_1)) = false := beq_eq_false_iff_ne.mpr c8
       have c8b1 : ((bt a0 x5_1) != (bt a1 x5_1)) = true := bne_iff_ne.mpr c8
       obtain rfl := Option.some.inj H
       have p6 : 0 ≤ (x5_1 : Int) := of_decide_eq_true (by assumption)
       have q6 : x5_1 < (a0.size : Int) := of_decide_eq_true (by assumption)
       have hx6 := bt_at a0 x5_1
       replace p6 := eq_true p6
       replace q6 := eq_true q6
       have p7 : 0 ≤ (x5_1 : Int) := of_decide_eq_true (by assumption)
       have q7 : x5_1 < (a1.size : Int) := of_decide_eq_true (by assumption)
       have hx7 := bt_at a1 x5_1
       replace p7 := eq_true p7
       replace q7 := eq_true q7
       go_wp2
       repeat (go_quiet (fail); try go_wp2)
       go_ret
       exact ⟨by first | rfl | (simp; done) | (simp [*]; done), by repeat (first | exact Drawn0.refl _ | apply Drawn0.step)⟩
     ·rw [if_neg c5] at H
      exact absurd H (by simp)
    ·rw [if_neg c4] at H
     have c4b0 : decide (x5_1 < (a1.size : Int)) = false := decide_eq_false c4
     clear c4
     obtain rfl := Option.some.inj H
     go_wp2
     repeat (go_quiet (fail); try go_wp2)
     go_ret
     exact ⟨by first | rfl | (simp; done) | (simp [*]; done), by repeat (first | exact Drawn0.refl _ | apply Drawn0.step)⟩
   ·rw [if_neg c3] at H
    have c3b0 : decide (x5_1 < (a0.size : Int)) = false := decide_eq_false c3
    clear c3
    obtain rfl := Option.some.inj H
    go_wp2
    repeat (go_quiet (fail); try go_wp2)
    go_ret
    exact ⟨by first | rfl | (simp; done) | (simp [*]; done), by repeat (first | exact Drawn0.refl _ | apply Drawn0.step)⟩
end Go.Proofs.YtchgpcgolgcfdaaGreat.PNum
end
