/- A walk, written by a program of this session out of the translation (a printed Lean function, and that the Go code comes to its answer). Lean checks it. -/
import Derived.Test.YtkpjipfjhniddaaPNumx0
import Derived.Test.YtkpjipfjhniddaaPNumx2
import Derived.Test.YtkpjipfjhniddaaPNumx3
import Derived.Test.YtkpjipfjhniddaaPNumx4
import Derived.Test.YtkpjipfjhniddaaPNumx5
import Derived.Test.YtkpjipfjhniddaaPNumx6
namespace Go.Proofs.Ytkpjipfjhniddaa.PNum
open Go.RowKit Go.Proofs.YtkpjipfjhniddaaW.PrintWords Go.Proofs.YtkpjipfjhniddaaW.PrintLast Go.Proofs.YtkpjipfjhniddaaW.PrintMore
attribute [local go_sem] max2_int min2_int max_two min_two max_three min_three max_four min_four   -- for this text's walks alone
set_option linter.unusedVariables false
set_option linter.unusedSimpArgs false

/-! ### num_Reader_End: function 52 -/
def num_Reader_End.f (s0_0 : ByteArray) (s0_1 : Int) : Option (Int × ByteArray × Int) := (num_Reader_Err.f s0_0 s0_1).bind fun bt119 => (if bt119.1 = 0 then (if bt119.2.1.toList = ([] : List UInt8) then (some (0, bt119.2.1, bt119.2.2)) else (some (4, bt119.2.1, bt119.2.2))) else (some (bt119.1, bt119.2.1, bt119.2.2)))
set_option maxHeartbeats 8000000 in
set_option maxRecDepth 100000 in
theorem num_Reader_End.calls (g : Nat) (s0_0 : ByteArray) (s0_1 : Int) (r1 : Int) (r2 : ByteArray) (r3 : Int) (w0 w : World) (hI : IsS72 w0 w g s0_0 s0_1) (hB : Below w0.heap.size w0 w) (h : num_Reader_End.f s0_0 s0_1 = some (r1, r2, r3)) :
    Calls Try.prog 52 #[.pointer (some ⟨g, 0, none⟩)] w fun e w' => e = .returned (.int .i64 r1) ∧ IsS72 w0 w' g r2 r3 ∧ Below w0.heap.size w0 w' ∧ KeepBut w w' g none := by
  have HI0 := Aside0.mk hI
  have HK := Aside0.mk (KeepBut.refl w g none)
  have HL := Aside0.mk hB.size
  clear hI
  have HW0 := Aside0.mk hB.size
  have HB := Aside0.mk hB
  clear hB
  have H : ((num_Reader_Err.f s0_0 s0_1).bind fun bt119 => (if bt119.1 = 0 then (if bt119.2.1.toList = ([] : List UInt8) then (some (0, bt119.2.1, bt119.2.2)) else (some (4, bt119.2.1, bt119.2.2))) else (some (bt119.1, bt119.2.1, bt119.2.2)))) = some (r1, r2, r3) := h
  clear h
  replace H := Option.bind_eq_some_iff.mp H
  obtain ⟨⟨t119, t120, t121⟩, A20, H⟩ := H
  replace H : (if t119 = 0 then (if t120.toList = ([] : List UInt8) then (some (0, t120, t121)) else (some (4, t120, t121))) else (some (t119, t120, t121))) = some (r1, r2, r3) := H
  have A2 := Aside0.mk A20
  clear A20
  by_cases c3 : t119 = 0
  · rw [if_pos c3] at H
    have c3b0 : (t119 == 0) = true := beq_iff_eq.mpr c3
    have c3b1 : (t119 != 0) = false := bne_eq_false_iff_eq.mpr c3
    clear c3
    by_cases c4 : t120.toList = ([] : List UInt8)
    · rw [if_pos c4] at H
      have c4b0 : (t120.toList == ([] : List UInt8)) = true := beq_iff_eq.mpr c4
      have c4b1 : (t120.toList != ([] : List UInt8)) = false := bne_eq_false_iff_eq.mpr c4
      clear c4
      simp only [Option.some.injEq, Prod.mk.injEq] at H
      obtain ⟨rfl, rfl, rfl⟩ := H
      go_enter Try.func52, Try.ntmps52
      go_wp2_with (first | ((with_reducible refine gate_callee (f := 45) rfl ?_); refine goesL_ (some 5) rfl rfl Try.func45 (by kernel_rfl) rfl #[.pointer (some ⟨g, 0, none⟩)] rfl (by (try simp only [List.map_toArray, List.map_cons, List.map_nil]); first | done | rfl | (simp only [List.length_drop, List.length_take]; rfl)) ?_; (with_reducible refine (num_Reader_Err.calls g s0_0 s0_1 t119 t120 t121 w0 _ ?side1 ?side2 A2.out).mono ?_); (case side1 => repeat (first | (with_reducible first | exact HI0.out | apply IsS72.alloc | apply IsS72.drewN | apply IsS72.drew | apply IsS72.set_0 | apply IsS72.set_1) | exact HI0.out)); (case side2 => repeat (first | (with_reducible first | exact HB.out | apply below_alloc | apply pw_below_drewN | apply below_drew1 | refine below_set ?_ (IsS72.ge HI0.out)) | exact HB.out)); rintro e w5 ⟨rfl, hi, hb, hk⟩; refine ⟨_, rfl, ?_⟩; have n0_ := Aside0.mk (KeepBut.trans (by repeat (first | (with_reducible first | exact HK.out | apply KeepBut.set_ | apply keep_drewN | apply keep_drew | apply keep_alloc) | exact HK.out)) hk (.inl rfl)); have n1_ := Aside0.mk (hb); have n2_ := Aside0.mk (hi); clear HK; clear HB; clear HI0; have HK := n0_; have HB := n1_; have HI0 := n2_; clear n0_ n1_ n2_; (try clear hb); (try clear hb2); (try clear hk); (try clear hi); obtain ⟨HGz6, hgz6⟩ := HI0.out; have hcz6_0 := cellS72_0 HGz6; have hcz6_1 := cellS72_1 HGz6; have hfz6_0 := blk_frozen HGz6 0; have hfz6_1 := blk_frozen HGz6 1; clear HGz6 hgz6))
      go_ret
      exact ⟨by first | rfl | (simp [errW_none, errW_some] <;> rfl) | (simp [*, errW_none, errW_some] <;> rfl), by repeat (first | (with_reducible first | exact HI0.out | apply IsS72.alloc | apply IsS72.drewN | apply IsS72.drew | apply IsS72.set_0 | apply IsS72.set_1) | exact HI0.out), by repeat (first | (with_reducible first | exact HB.out | apply below_alloc | apply pw_below_drewN | apply below_drew1 | refine below_set ?_ (IsS72.ge HI0.out)) | exact HB.out), by repeat (first | (with_reducible first | exact HK.out | apply KeepBut.set_ | apply keep_drewN | apply keep_drew | apply keep_alloc) | exact HK.out)⟩
    · rw [if_neg c4] at H
      have c4b0 : (t120.toList == ([] : List UInt8)) = false := beq_eq_false_iff_ne.mpr c4
      have c4b1 : (t120.toList != ([] : List UInt8)) = true := bne_iff_ne.mpr c4
      simp only [Option.some.injEq, Prod.mk.injEq] at H
      obtain ⟨rfl, rfl, rfl⟩ := H
      go_enter Try.func52, Try.ntmps52
      go_wp2_with (first | ((with_reducible refine gate_callee (f := 45) rfl ?_); refine goesL_ (some 5) rfl rfl Try.func45 (by kernel_rfl) rfl #[.pointer (some ⟨g, 0, none⟩)] rfl (by (try simp only [List.map_toArray, List.map_cons, List.map_nil]); first | done | rfl | (simp only [List.length_drop, List.length_take]; rfl)) ?_; (with_reducible refine (num_Reader_Err.calls g s0_0 s0_1 t119 t120 t121 w0 _ ?side1 ?side2 A2.out).mono ?_); (case side1 => repeat (first | (with_reducible first | exact HI0.out | apply IsS72.alloc | apply IsS72.drewN | apply IsS72.drew | apply IsS72.set_0 | apply IsS72.set_1) | exact HI0.out)); (case side2 => repeat (first | (with_reducible first | exact HB.out | apply below_alloc | apply pw_below_drewN | apply below_drew1 | refine below_set ?_ (IsS72.ge HI0.out)) | exact HB.out)); rintro e w7 ⟨rfl, hi, hb, hk⟩; refine ⟨_, rfl, ?_⟩; have n0_ := Aside0.mk (KeepBut.trans (by repeat (first | (with_reducible first | exact HK.out | apply KeepBut.set_ | apply keep_drewN | apply keep_drew | apply keep_alloc) | exact HK.out)) hk (.inl rfl)); have n1_ := Aside0.mk (hb); have n2_ := Aside0.mk (hi); clear HK; clear HB; clear HI0; have HK := n0_; have HB := n1_; have HI0 := n2_; clear n0_ n1_ n2_; (try clear hb); (try clear hb2); (try clear hk); (try clear hi); obtain ⟨HGz8, hgz8⟩ := HI0.out; have hcz8_0 := cellS72_0 HGz8; have hcz8_1 := cellS72_1 HGz8; have hfz8_0 := blk_frozen HGz8 0; have hfz8_1 := blk_frozen HGz8 1; clear HGz8 hgz8))
      go_ret
      exact ⟨by first | rfl | (simp [errW_none, errW_some] <;> rfl) | (simp [*, errW_none, errW_some] <;> rfl), by repeat (first | (with_reducible first | exact HI0.out | apply IsS72.alloc | apply IsS72.drewN | apply IsS72.drew | apply IsS72.set_0 | apply IsS72.set_1) | exact HI0.out), by repeat (first | (with_reducible first | exact HB.out | apply below_alloc | apply pw_below_drewN | apply below_drew1 | refine below_set ?_ (IsS72.ge HI0.out)) | exact HB.out), by repeat (first | (with_reducible first | exact HK.out | apply KeepBut.set_ | apply keep_drewN | apply keep_drew | apply keep_alloc) | exact HK.out)⟩
  · rw [if_neg c3] at H
    have c3b0 : (t119 == 0) = false := beq_eq_false_iff_ne.mpr c3
    have c3b1 : (t119 != 0) = true := bne_iff_ne.mpr c3
    simp only [Option.some.injEq, Prod.mk.injEq] at H
    obtain ⟨rfl, rfl, rfl⟩ := H
    go_enter Try.func52, Try.ntmps52
    go_wp2_with (first | ((with_reducible refine gate_callee (f := 45) rfl ?_); refine goesL_ (some 5) rfl rfl Try.func45 (by kernel_rfl) rfl #[.pointer (some ⟨g, 0, none⟩)] rfl (by (try simp only [List.map_toArray, List.map_cons, List.map_nil]); first | done | rfl | (simp only [List.length_drop, List.length_take]; rfl)) ?_; (with_reducible refine (num_Reader_Err.calls g s0_0 s0_1 t119 t120 t121 w0 _ ?side1 ?side2 A2.out).mono ?_); (case side1 => repeat (first | (with_reducible first | exact HI0.out | apply IsS72.alloc | apply IsS72.drewN | apply IsS72.drew | apply IsS72.set_0 | apply IsS72.set_1) | exact HI0.out)); (case side2 => repeat (first | (with_reducible first | exact HB.out | apply below_alloc | apply pw_below_drewN | apply below_drew1 | refine below_set ?_ (IsS72.ge HI0.out)) | exact HB.out)); rintro e w9 ⟨rfl, hi, hb, hk⟩; refine ⟨_, rfl, ?_⟩; have n0_ := Aside0.mk (KeepBut.trans (by repeat (first | (with_reducible first | exact HK.out | apply KeepBut.set_ | apply keep_drewN | apply keep_drew | apply keep_alloc) | exact HK.out)) hk (.inl rfl)); have n1_ := Aside0.mk (hb); have n2_ := Aside0.mk (hi); clear HK; clear HB; clear HI0; have HK := n0_; have HB := n1_; have HI0 := n2_; clear n0_ n1_ n2_; (try clear hb); (try clear hb2); (try clear hk); (try clear hi)))
    go_ret
    exact ⟨by first | rfl | (simp [errW_none, errW_some] <;> rfl) | (simp [*, errW_none, errW_some] <;> rfl), by repeat (first | (with_reducible first | exact HI0.out | apply IsS72.alloc | apply IsS72.drewN | apply IsS72.drew | apply IsS72.set_0 | apply IsS72.set_1) | exact HI0.out), by repeat (first | (with_reducible first | exact HB.out | apply below_alloc | apply pw_below_drewN | apply below_drew1 | refine below_set ?_ (IsS72.ge HI0.out)) | exact HB.out), by repeat (first | (with_reducible first | exact HK.out | apply KeepBut.set_ | apply keep_drewN | apply keep_drew | apply keep_alloc) | exact HK.out)⟩

/-! ### cornucopialaw1_alive: function 21 -/
def cornucopialaw1_alive.f (k : Nat)  : Option (Bool) := (num_Fix.f k 258 2).bind fun bt122 => ((num_Unfix.f k (⟨#[120, 1, 2]⟩ : ByteArray) 1 2).bind fun bt124 => ((num_NewReader.f (⟨#[172, 2]⟩ : ByteArray)).bind fun bt126 => (if bt122.2 = 0 then (if bt122.1.toList = ([1, 2] : List UInt8) then (if bt124.2 = 0 then (if bt124.1 = 258 then ((num_Var.f k (([0, 300] : List Int))).bind fun t132 => (if t132.toList = ([0, 172, 2] : List UInt8) then ((num_Zig.f (-1)).bind fun t133 => (if t133 = 1 then ((num_Zag.f 4).bind fun t134 => (if t134 = 2 then ((num_Reader_Var.f k bt126.1 bt126.2).bind fun bt135 => (if bt135.1 = 300 then ((num_Reader_End.f bt135.2.1 bt135.2.2).bind fun bt138 => (if bt138.1 = 0 then ((num_Digits.f (-7)).bind fun t141 => (some (t141.toList == ([45, 55] : List UInt8)))) else (none))) else (none))) else (none))) else (none))) else (none))) else (none)) else (none)) else (none)) else (none))))
theorem cornucopialaw1_alive.mono : ∀ k, LeO (cornucopialaw1_alive.f k ) (cornucopialaw1_alive.f (k + 1) ) := by
  intro  k
  unfold cornucopialaw1_alive.f
  repeat' first
      | (with_reducible exact num_Fix.mono _ _ _)
      | (with_reducible exact num_Reader_Var.mono _ _ _)
      | (with_reducible exact num_Unfix.mono _ _ _ _)
      | (with_reducible exact num_Var.mono _ _)
      | (with_reducible exact LeO.refl _)
      | (with_reducible exact LeO.none _)
      | (with_reducible refine LeO.ite ?_ ?_)
      | (with_reducible refine LeO.bind ?_ (fun _ => ?_))
      | exact num_Fix.mono _ _ _
      | exact num_Reader_Var.mono _ _ _
      | exact num_Unfix.mono _ _ _ _
      | exact num_Var.mono _ _
      | exact LeO.none _
      | refine LeO.ite ?_ ?_
      | refine LeO.bind ?_ (fun _ => ?_)
set_option maxHeartbeats 8000000 in
set_option maxRecDepth 100000 in
theorem cornucopialaw1_alive.calls (k : Nat)  (r : Bool) (w : World) (h : cornucopialaw1_alive.f k  = some r) :
    Calls Try.prog 21 #[] w fun e w' => e = .returned (.bool r) ∧ Below w.heap.size w w' := by
  have HB := Aside0.mk (Below.refl w.heap.size w)
  have H : ((num_Fix.f k 258 2).bind fun bt122 => ((num_Unfix.f k (⟨#[120, 1, 2]⟩ : ByteArray) 1 2).bind fun bt124 => ((num_NewReader.f (⟨#[172, 2]⟩ : ByteArray)).bind fun bt126 => (if bt122.2 = 0 then (if bt122.1.toList = ([1, 2] : List UInt8) then (if bt124.2 = 0 then (if bt124.1 = 258 then ((num_Var.f k (([0, 300] : List Int))).bind fun t132 => (if t132.toList = ([0, 172, 2] : List UInt8) then ((num_Zig.f (-1)).bind fun t133 => (if t133 = 1 then ((num_Zag.f 4).bind fun t134 => (if t134 = 2 then ((num_Reader_Var.f k bt126.1 bt126.2).bind fun bt135 => (if bt135.1 = 300 then ((num_Reader_End.f bt135.2.1 bt135.2.2).bind fun bt138 => (if bt138.1 = 0 then ((num_Digits.f (-7)).bind fun t141 => (some (t141.toList == ([45, 55] : List UInt8)))) else (none))) else (none))) else (none))) else (none))) else (none))) else (none)) else (none)) else (none)) else (none))))) = some r := h
  clear h
  replace H := Option.bind_eq_some_iff.mp H
  obtain ⟨⟨t122, t123⟩, A10, H⟩ := H
  replace H : ((num_Unfix.f k (⟨#[120, 1, 2]⟩ : ByteArray) 1 2).bind fun bt124 => ((num_NewReader.f (⟨#[172, 2]⟩ : ByteArray)).bind fun bt126 => (if t123 = 0 then (if t122.toList = ([1, 2] : List UInt8) then (if bt124.2 = 0 then (if bt124.1 = 258 then ((num_Var.f k (([0, 300] : List Int))).bind fun t132 => (if t132.toList = ([0, 172, 2] : List UInt8) then ((num_Zig.f (-1)).bind fun t133 => (if t133 = 1 then ((num_Zag.f 4).bind fun t134 => (if t134 = 2 then ((num_Reader_Var.f k bt126.1 bt126.2).bind fun bt135 => (if bt135.1 = 300 then ((num_Reader_End.f bt135.2.1 bt135.2.2).bind fun bt138 => (if bt138.1 = 0 then ((num_Digits.f (-7)).bind fun t141 => (some (t141.toList == ([45, 55] : List UInt8)))) else (none))) else (none))) else (none))) else (none))) else (none))) else (none)) else (none)) else (none)) else (none)))) = some r := H
  have A1 := Aside0.mk A10
  clear A10
  replace H := Option.bind_eq_some_iff.mp H
  obtain ⟨⟨t124, t125⟩, A20, H⟩ := H
  replace H : ((num_NewReader.f (⟨#[172, 2]⟩ : ByteArray)).bind fun bt126 => (if t123 = 0 then (if t122.toList = ([1, 2] : List UInt8) then (if t125 = 0 then (if t124 = 258 then ((num_Var.f k (([0, 300] : List Int))).bind fun t132 => (if t132.toList = ([0, 172, 2] : List UInt8) then ((num_Zig.f (-1)).bind fun t133 => (if t133 = 1 then ((num_Zag.f 4).bind fun t134 => (if t134 = 2 then ((num_Reader_Var.f k bt126.1 bt126.2).bind fun bt135 => (if bt135.1 = 300 then ((num_Reader_End.f bt135.2.1 bt135.2.2).bind fun bt138 => (if bt138.1 = 0 then ((num_Digits.f (-7)).bind fun t141 => (some (t141.toList == ([45, 55] : List UInt8)))) else (none))) else (none))) else (none))) else (none))) else (none))) else (none)) else (none)) else (none)) else (none))) = some r := H
  have A2 := Aside0.mk A20
  clear A20
  replace H := Option.bind_eq_some_iff.mp H
  obtain ⟨⟨t126, t127⟩, A30, H⟩ := H
  replace H : (if t123 = 0 then (if t122.toList = ([1, 2] : List UInt8) then (if t125 = 0 then (if t124 = 258 then ((num_Var.f k (([0, 300] : List Int))).bind fun t132 => (if t132.toList = ([0, 172, 2] : List UInt8) then ((num_Zig.f (-1)).bind fun t133 => (if t133 = 1 then ((num_Zag.f 4).bind fun t134 => (if t134 = 2 then ((num_Reader_Var.f k t126 t127).bind fun bt135 => (if bt135.1 = 300 then ((num_Reader_End.f bt135.2.1 bt135.2.2).bind fun bt138 => (if bt138.1 = 0 then ((num_Digits.f (-7)).bind fun t141 => (some (t141.toList == ([45, 55] : List UInt8)))) else (none))) else (none))) else (none))) else (none))) else (none))) else (none)) else (none)) else (none)) else (none)) = some r := H
  have A3 := Aside0.mk A30
  clear A30
  by_cases c4 : t123 = 0
  · rw [if_pos c4] at H
    have c4b0 : (t123 == 0) = true := beq_iff_eq.mpr c4
    have c4b1 : (t123 != 0) = false := bne_eq_false_iff_eq.mpr c4
    clear c4
    by_cases c5 : t122.toList = ([1, 2] : List UInt8)
    · rw [if_pos c5] at H
      have c5b0 : (t122.toList == ([1, 2] : List UInt8)) = true := beq_iff_eq.mpr c5
      have c5b1 : (t122.toList != ([1, 2] : List UInt8)) = false := bne_eq_false_iff_eq.mpr c5
      clear c5
      by_cases c6 : t125 = 0
      · rw [if_pos c6] at H
        have c6b0 : (t125 == 0) = true := beq_iff_eq.mpr c6
        have c6b1 : (t125 != 0) = false := bne_eq_false_iff_eq.mpr c6
        clear c6
        by_cases c7 : t124 = 258
        · rw [if_pos c7] at H
          have c7b0 : (t124 == 258) = true := beq_iff_eq.mpr c7
          have c7b1 : (t124 != 258) = false := bne_eq_false_iff_eq.mpr c7
          clear c7
          obtain ⟨y129, hy129⟩ : ∃ y_ : List Int, y_ = (([0, 300] : List Int)) := ⟨_, rfl⟩
          replace H : ((num_Var.f k y129).bind fun t132 => (if t132.toList = ([0, 172, 2] : List UInt8) then ((num_Zig.f (-1)).bind fun t133 => (if t133 = 1 then ((num_Zag.f 4).bind fun t134 => (if t134 = 2 then ((num_Reader_Var.f k t126 t127).bind fun bt135 => (if bt135.1 = 300 then ((num_Reader_End.f bt135.2.1 bt135.2.2).bind fun bt138 => (if bt138.1 = 0 then ((num_Digits.f (-7)).bind fun t141 => (some (t141.toList == ([45, 55] : List UInt8)))) else (none))) else (none))) else (none))) else (none))) else (none))) = some r := by first | (rw [hy129]; with_reducible exact H) | (have H2_ := (Option.bind_some _ _).symm.trans H; rw [hy129]; with_reducible exact H2_) | (have H2_ := (Option.bind_some _ _).symm.trans H; with_reducible exact H2_) | with_reducible exact H | (rw [hy129]; exact H) | exact H
          have Ny129 := Aside0.mk hy129
          clear hy129
          replace H := Option.bind_eq_some_iff.mp H
          obtain ⟨t132, A80, H⟩ := H
          replace H : (if t132.toList = ([0, 172, 2] : List UInt8) then ((num_Zig.f (-1)).bind fun t133 => (if t133 = 1 then ((num_Zag.f 4).bind fun t134 => (if t134 = 2 then ((num_Reader_Var.f k t126 t127).bind fun bt135 => (if bt135.1 = 300 then ((num_Reader_End.f bt135.2.1 bt135.2.2).bind fun bt138 => (if bt138.1 = 0 then ((num_Digits.f (-7)).bind fun t141 => (some (t141.toList == ([45, 55] : List UInt8)))) else (none))) else (none))) else (none))) else (none))) else (none)) = some r := H
          have A8 := Aside0.mk A80
          clear A80
          by_cases c9 : t132.toList = ([0, 172, 2] : List UInt8)
          · rw [if_pos c9] at H
            have c9b0 : (t132.toList == ([0, 172, 2] : List UInt8)) = true := beq_iff_eq.mpr c9
            have c9b1 : (t132.toList != ([0, 172, 2] : List UInt8)) = false := bne_eq_false_iff_eq.mpr c9
            clear c9
            replace H := Option.bind_eq_some_iff.mp H
            obtain ⟨t133, A100, H⟩ := H
            replace H : (if t133 = 1 then ((num_Zag.f 4).bind fun t134 => (if t134 = 2 then ((num_Reader_Var.f k t126 t127).bind fun bt135 => (if bt135.1 = 300 then ((num_Reader_End.f bt135.2.1 bt135.2.2).bind fun bt138 => (if bt138.1 = 0 then ((num_Digits.f (-7)).bind fun t141 => (some (t141.toList == ([45, 55] : List UInt8)))) else (none))) else (none))) else (none))) else (none)) = some r := H
            have A10 := Aside0.mk A100
            clear A100
            by_cases c11 : t133 = 1
            · rw [if_pos c11] at H
              have c11b0 : (t133 == 1) = true := beq_iff_eq.mpr c11
              have c11b1 : (t133 != 1) = false := bne_eq_false_iff_eq.mpr c11
              clear c11
              replace H := Option.bind_eq_some_iff.mp H
              obtain ⟨t134, A120, H⟩ := H
              replace H : (if t134 = 2 then ((num_Reader_Var.f k t126 t127).bind fun bt135 => (if bt135.1 = 300 then ((num_Reader_End.f bt135.2.1 bt135.2.2).bind fun bt138 => (if bt138.1 = 0 then ((num_Digits.f (-7)).bind fun t141 => (some (t141.toList == ([45, 55] : List UInt8)))) else (none))) else (none))) else (none)) = some r := H
              have A12 := Aside0.mk A120
              clear A120
              by_cases c13 : t134 = 2
              · rw [if_pos c13] at H
                have c13b0 : (t134 == 2) = true := beq_iff_eq.mpr c13
                have c13b1 : (t134 != 2) = false := bne_eq_false_iff_eq.mpr c13
                clear c13
                replace H := Option.bind_eq_some_iff.mp H
                obtain ⟨⟨t135, t136, t137⟩, A140, H⟩ := H
                replace H : (if t135 = 300 then ((num_Reader_End.f t136 t137).bind fun bt138 => (if bt138.1 = 0 then ((num_Digits.f (-7)).bind fun t141 => (some (t141.toList == ([45, 55] : List UInt8)))) else (none))) else (none)) = some r := H
                have A14 := Aside0.mk A140
                clear A140
                by_cases c15 : t135 = 300
                · rw [if_pos c15] at H
                  have c15b0 : (t135 == 300) = true := beq_iff_eq.mpr c15
                  have c15b1 : (t135 != 300) = false := bne_eq_false_iff_eq.mpr c15
                  clear c15
                  replace H := Option.bind_eq_some_iff.mp H
                  obtain ⟨⟨t138, t139, t140⟩, A160, H⟩ := H
                  replace H : (if t138 = 0 then ((num_Digits.f (-7)).bind fun t141 => (some (t141.toList == ([45, 55] : List UInt8)))) else (none)) = some r := H
                  have A16 := Aside0.mk A160
                  clear A160
                  by_cases c17 : t138 = 0
                  · rw [if_pos c17] at H
                    have c17b0 : (t138 == 0) = true := beq_iff_eq.mpr c17
                    have c17b1 : (t138 != 0) = false := bne_eq_false_iff_eq.mpr c17
                    clear c17
                    replace H := Option.bind_eq_some_iff.mp H
                    obtain ⟨t141, A180, H⟩ := H
                    replace H : (some (t141.toList == ([45, 55] : List UInt8))) = some r := H
                    have A18 := Aside0.mk A180
                    clear A180
                    obtain rfl := Option.some.inj H
                    go_enter Try.func21, Try.ntmps21
                    go_wp2_with (first | ((with_reducible refine gate_callee (f := 20) rfl ?_); refine goesL_ (some 7) rfl rfl Try.func20 (by kernel_rfl) rfl #[.int .u64 258, .int .i64 2] rfl (by (try simp only [List.map_toArray, List.map_cons, List.map_nil]); first | done | rfl | (simp only [List.length_drop, List.length_take]; rfl)) ?_; (with_reducible refine (num_Fix.calls k 258 2 t122 t123 _ A1.out).mono ?_); rintro e w19 ⟨rfl, hb⟩; refine ⟨_, rfl, ?_⟩; have n0_ := Aside0.mk (below_step (by repeat (first | (with_reducible first | exact HB.out | apply below_alloc | apply pw_below_drewN | apply below_drew1) | exact HB.out)) hb); clear HB; have HB := n0_; clear n0_; (try clear hb); (try clear hb2); (try clear hk); (try clear hi)) | ((with_reducible refine gate_callee (f := 26) rfl ?_); refine goesL_ (some 11) rfl rfl Try.func26 (by kernel_rfl) rfl #[.string (⟨#[120, 1, 2]⟩ : ByteArray), .int .i64 1, .int .i64 2] rfl (by (try simp only [List.map_toArray, List.map_cons, List.map_nil]); first | done | rfl | (simp only [List.length_drop, List.length_take]; rfl)) ?_; (with_reducible refine (num_Unfix.calls k (⟨#[120, 1, 2]⟩ : ByteArray) 1 2 t124 t125 _ A2.out).mono ?_); rintro e w' ⟨rfl, ⟨nd, rfl⟩⟩; refine ⟨_, rfl, ?_⟩) | ((with_reducible refine gate_callee (f := 43) rfl ?_); refine goesL_ (some 14) rfl rfl Try.func43 (by kernel_rfl) rfl #[.string (⟨#[172, 2]⟩ : ByteArray)] rfl (by (try simp only [List.map_toArray, List.map_cons, List.map_nil]); first | done | rfl | (simp only [List.length_drop, List.length_take]; rfl)) ?_; (with_reducible refine (num_NewReader.calls (⟨#[172, 2]⟩ : ByteArray) t126 t127 w _ ?side1 A3.out).mono ?_); (case side1 => repeat (first | (with_reducible first | exact HB.out | apply below_alloc | apply pw_below_drewN | apply below_drew1) | exact HB.out)); rintro e w20 ⟨g128, rfl, hi, hb, hb2⟩; refine ⟨_, rfl, ?_⟩; have n0_ := Aside0.mk (hb); have n1_ := Aside0.mk (hi); clear HB; have HB := n0_; have HI128 := n1_; clear n0_ n1_; (try clear hb); (try clear hb2); (try clear hk); (try clear hi)) | ((with_reducible refine gate_dst (N := 30) rfl ?_); (try (refine gate_guard (by rfl) ?_; dsimp only)); refine Kd.R_lit (Kd.int .u64) _ 24 ?hg (N := 30) ?hd (xs := ([0, 300] : List Int)) (inner := [.int .u64 0, .int .u64 300]) (ok := fun _ => True) (okp := fun _ => True) ?hr ?hp (fun _ hk => hk) trivial (Below.refl _ _) (Nat.le_refl _) (by simp) ?_; (case hd => rfl); (case hg => rfl); (case hr => first | (go_simp; done) | (go_simp; rfl)); (case hp => exact (Reps.one (show Kd.M (Kd.int .u64) _ _ _ 0 [.int .u64 0] from rfl) (Reps.one (show Kd.M (Kd.int .u64) _ _ _ 300 [.int .u64 300] from rfl) (Reps.none _ _)))); intro v130 w21 ho22 hb hg_ hnew_; clear hg_ hnew_; (first | rw [← Ny129.out] at ho22 | (simp only [Int.reduceToNat] at ho22; rw [← Ny129.out] at ho22)); have n0_ := Aside0.mk (Kd.R_lower ho22 (below_size (by repeat (first | (with_reducible first | exact HB.out | apply below_alloc | apply pw_below_drewN | apply below_drew1 | refine below_set ?_ (IsS72.ge HI128.out)) | exact HB.out)))); have n1_ := Aside0.mk (IsS72.below (by repeat (first | (with_reducible first | exact HI128.out | apply IsS72.alloc | apply IsS72.drewN | apply IsS72.drew | apply IsS72.set_0 | apply IsS72.set_1) | exact HI128.out)) hb); have n2_ := Aside0.mk (below_step (by repeat (first | (with_reducible first | exact HB.out | apply below_alloc | apply pw_below_drewN | apply below_drew1 | refine below_set ?_ (IsS72.ge HI128.out)) | exact HB.out)) hb); clear HI128; clear HB; have HO131 := n0_; have HI128 := n1_; have HB := n2_; clear n0_ n1_ n2_; clear hb ho22; obtain ⟨Ao23, co23, eo23⟩ := Kd.R_slice HO131.out; subst eo23) | (go_at_call 19; (with_reducible refine (num_Var.calls k _ _ y129 t132 _ ?side1 ?side2 A8.out).mono ?_); (case side1 => repeat (first | exact (Kd.R_reads' HO131.out).2.2 | (with_reducible refine Kd.C_alloc ?_ _) | (with_reducible refine Kd.C_drewN ?_ _) | (with_reducible refine Kd.C_drew ?_))); (case side2 => exact (Kd.R_reads' HO131.out).2.1); rintro e w24 ⟨rfl, hb⟩; have n0_ := Aside0.mk (Kd.R_below (by (with_reducible repeat (first | apply Kd.R_alloc | apply Kd.R_drewN | apply Kd.R_drew)); exact HO131.out) hb); have n1_ := Aside0.mk (IsS72.below (by repeat (first | (with_reducible first | exact HI128.out | apply IsS72.alloc | apply IsS72.drewN | apply IsS72.drew | apply IsS72.set_0 | apply IsS72.set_1) | exact HI128.out)) hb); have n2_ := Aside0.mk (below_step (by repeat (first | (with_reducible first | exact HB.out | apply below_alloc | apply pw_below_drewN | apply below_drew1 | refine below_set ?_ (IsS72.ge HI128.out)) | exact HB.out)) hb); clear HO131; clear HI128; clear HB; have HO131 := n0_; have HI128 := n1_; have HB := n2_; clear n0_ n1_ n2_; (try clear hb); (try clear hb2); (try clear hk); (try clear hi)) | (go_at_call 34; (with_reducible refine (num_Zig.calls (-1) t133 _ A10.out).mono ?_); rintro e w' ⟨rfl, ⟨nd, rfl⟩⟩) | (go_at_call 36; (with_reducible refine (num_Zag.calls 4 t134 _ A12.out).mono ?_); rintro e w' ⟨rfl, ⟨nd, rfl⟩⟩) | (go_at_call 48; (with_reducible refine (num_Reader_Var.calls k g128 t126 t127 t135 t136 t137 w _ ?side1 ?side2 A14.out).mono ?_); (case side1 => repeat (first | (with_reducible first | exact HI128.out | apply IsS72.alloc | apply IsS72.drewN | apply IsS72.drew | apply IsS72.set_0 | apply IsS72.set_1) | exact HI128.out)); (case side2 => repeat (first | (with_reducible first | exact HB.out | apply below_alloc | apply pw_below_drewN | apply below_drew1 | refine below_set ?_ (IsS72.ge HI128.out)) | exact HB.out)); rintro e w25 ⟨rfl, hi, hb, hk⟩; have n0_ := Aside0.mk (Kd.R_mono (Kd.R_keep (IsS72.apart (show IsS72 w _ g128 t126 t127 from by repeat (first | (with_reducible first | exact HI128.out | apply IsS72.alloc | apply IsS72.drewN | apply IsS72.drew | apply IsS72.set_0 | apply IsS72.set_1) | exact HI128.out)) (by (with_reducible repeat (first | apply Kd.R_alloc | apply Kd.R_drewN | apply Kd.R_drew)); exact HO131.out) (by decide)) hk (fun _ h => h.2)) (fun _ h => h.1)); have n1_ := Aside0.mk (hb); have n2_ := Aside0.mk (hi); clear HO131; clear HB; clear HI128; have HO131 := n0_; have HB := n1_; have HI128 := n2_; clear n0_ n1_ n2_; (try clear hb); (try clear hb2); (try clear hk); (try clear hi)) | (go_at_call 52; (with_reducible refine (num_Reader_End.calls g128 t136 t137 t138 t139 t140 w _ ?side1 ?side2 A16.out).mono ?_); (case side1 => repeat (first | (with_reducible first | exact HI128.out | apply IsS72.alloc | apply IsS72.drewN | apply IsS72.drew | apply IsS72.set_0 | apply IsS72.set_1) | exact HI128.out)); (case side2 => repeat (first | (with_reducible first | exact HB.out | apply below_alloc | apply pw_below_drewN | apply below_drew1 | refine below_set ?_ (IsS72.ge HI128.out)) | exact HB.out)); rintro e w26 ⟨rfl, hi, hb, hk⟩; have n0_ := Aside0.mk (Kd.R_mono (Kd.R_keep (IsS72.apart (show IsS72 w _ g128 t136 t137 from by repeat (first | (with_reducible first | exact HI128.out | apply IsS72.alloc | apply IsS72.drewN | apply IsS72.drew | apply IsS72.set_0 | apply IsS72.set_1) | exact HI128.out)) (by (with_reducible repeat (first | apply Kd.R_alloc | apply Kd.R_drewN | apply Kd.R_drew)); exact HO131.out) (by decide)) hk (fun _ h => h.2)) (fun _ h => h.1)); have n1_ := Aside0.mk (hb); have n2_ := Aside0.mk (hi); clear HO131; clear HB; clear HI128; have HO131 := n0_; have HB := n1_; have HI128 := n2_; clear n0_ n1_ n2_; (try clear hb); (try clear hb2); (try clear hk); (try clear hi)) | (go_at_call 23; (with_reducible refine (num_Digits.calls (-7) t141 _ A18.out).mono ?_); rintro e w27 ⟨rfl, hb⟩; have n0_ := Aside0.mk (Kd.R_below (by (with_reducible repeat (first | apply Kd.R_alloc | apply Kd.R_drewN | apply Kd.R_drew)); exact HO131.out) hb); have n1_ := Aside0.mk (IsS72.below (by repeat (first | (with_reducible first | exact HI128.out | apply IsS72.alloc | apply IsS72.drewN | apply IsS72.drew | apply IsS72.set_0 | apply IsS72.set_1) | exact HI128.out)) hb); have n2_ := Aside0.mk (below_step (by repeat (first | (with_reducible first | exact HB.out | apply below_alloc | apply pw_below_drewN | apply below_drew1 | refine below_set ?_ (IsS72.ge HI128.out)) | exact HB.out)) hb); clear HO131; clear HI128; clear HB; have HO131 := n0_; have HI128 := n1_; have HB := n2_; clear n0_ n1_ n2_; (try clear hb); (try clear hb2); (try clear hk); (try clear hi)))
                    go_ret
                    exact ⟨by first | rfl | (simp [errW_none, errW_some] <;> rfl) | (simp [*, errW_none, errW_some] <;> rfl), by repeat (first | (with_reducible first | exact HB.out | apply below_alloc | apply pw_below_drewN | apply below_drew1 | refine below_set ?_ (IsS72.ge HI128.out)) | exact HB.out)⟩
                  · rw [if_neg c17] at H
                    exact absurd H (by simp)
                · rw [if_neg c15] at H
                  exact absurd H (by simp)
              · rw [if_neg c13] at H
                exact absurd H (by simp)
            · rw [if_neg c11] at H
              exact absurd H (by simp)
          · rw [if_neg c9] at H
            exact absurd H (by simp)
        · rw [if_neg c7] at H
          exact absurd H (by simp)
      · rw [if_neg c6] at H
        exact absurd H (by simp)
    · rw [if_neg c5] at H
      exact absurd H (by simp)
  · rw [if_neg c4] at H
    exact absurd H (by simp)

end Go.Proofs.Ytkpjipfjhniddaa.PNum
