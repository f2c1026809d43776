/- A walk, written by a program of this session out of the translation (a printed Lean function, and that the Go code comes to its answer). Lean checks it. -/
import Derived.Test.YtkpjipfjhniddaaPNumx0
import Derived.Test.YtkpjipfjhniddaaPNumx5
import Derived.Test.YtkpjipfjhniddaaPNumx6
import Derived.Test.YtkpjipfjhniddaaPNumx7
import Derived.Test.YtkpjipfjhniddaaPNumx11
import Derived.Test.YtkpjipfjhniddaaPNumx12
namespace Go.Proofs.Ytkpjipfjhniddaa.PNum
open Go.RowKit Go.Proofs.YtkpjipfjhniddaaW.PrintWords Go.Proofs.YtkpjipfjhniddaaW.PrintLast Go.Proofs.YtkpjipfjhniddaaW.PrintMore
attribute [local go_sem] max2_int min2_int max_two min_two max_three min_three max_four min_four   -- for this text's walks alone
set_option linter.unusedVariables false
set_option linter.unusedSimpArgs false

/-! ### cornucopialaw1_NumFirst: function 8 -/
def cornucopialaw1_NumFirst.f (k : Nat) (a0 : ByteArray) (a1 : Int) : Option (Bool) := if (a0.size : Int) > 3000 then ((cornucopialaw1_alive.f k).bind fun t197 => (some t197)) else ((num_NewReader.f a0).bind fun bt198 => ((num_Reader_Count.f k bt198.1 bt198.2 a1).bind fun bt201 => ((num_Reader_Err.f bt201.2.1 bt201.2.2).bind fun bt204 => ((num_Reader_Left.f bt204.2.1 bt204.2.2).bind fun bt207 => (if bt204.1 = 0 then ((cornucopialaw1_alive.f k).bind fun t210 => (some t210)) else ((num_Reader_Fail.f bt207.2.1 bt207.2.2 8).bind fun bt211 => ((cornucopialaw1_alive.f k).bind fun t213 => (if t213 = true then ((num_Reader_Var.f k bt211.1 bt211.2).bind fun bt214 => (if bt214.1 = 0 then ((num_Reader_Text.f k bt214.2.1 bt214.2.2 9).bind fun bt217 => (if bt217.1.toList = ([] : List UInt8) then ((num_Reader_Bool.f bt217.2.1 bt217.2.2).bind fun bt220 => (if bt220.1 = true then (none) else ((num_Reader_Fix.f k bt220.2.1 bt220.2.2 1).bind fun bt223 => (if bt223.1 = 0 then ((num_Reader_Err.f bt223.2.1 bt223.2.2).bind fun bt226 => (if bt226.1 = bt204.1 then ((num_Reader_End.f bt226.2.1 bt226.2.2).bind fun bt229 => (if bt229.1 = bt204.1 then ((num_Reader_Left.f bt229.2.1 bt229.2.2).bind fun bt232 => (some (bt232.1 == bt207.1))) else (none))) else (none))) else (none))))) else (none))) else (none))) else (none)))))))))
theorem cornucopialaw1_NumFirst.mono : ∀ a0 a1 k, LeO (cornucopialaw1_NumFirst.f k a0 a1) (cornucopialaw1_NumFirst.f (k + 1) a0 a1) := by
  intro a0 a1 k
  unfold cornucopialaw1_NumFirst.f
  repeat' first
      | (with_reducible exact cornucopialaw1_alive.mono _)
      | (with_reducible exact num_Reader_Count.mono _ _ _ _)
      | (with_reducible exact num_Reader_Fix.mono _ _ _ _)
      | (with_reducible exact num_Reader_Text.mono _ _ _ _)
      | (with_reducible exact num_Reader_Var.mono _ _ _)
      | (with_reducible exact LeO.refl _)
      | (with_reducible exact LeO.none _)
      | (with_reducible refine LeO.ite ?_ ?_)
      | (with_reducible refine LeO.bind ?_ (fun _ => ?_))
      | exact cornucopialaw1_alive.mono _
      | exact num_Reader_Count.mono _ _ _ _
      | exact num_Reader_Fix.mono _ _ _ _
      | exact num_Reader_Text.mono _ _ _ _
      | exact num_Reader_Var.mono _ _ _
      | exact LeO.none _
      | refine LeO.ite ?_ ?_
      | refine LeO.bind ?_ (fun _ => ?_)
set_option maxHeartbeats 8000000 in
set_option maxRecDepth 100000 in
theorem cornucopialaw1_NumFirst.calls (k : Nat) (a0 : ByteArray) (a1 : Int) (r : Bool) (w : World) (h : cornucopialaw1_NumFirst.f k a0 a1 = some r) :
    Calls Try.prog 8 #[.string a0, .int .i64 a1] w fun e w' => e = .returned (.bool r) ∧ Below w.heap.size w w' := by
  have HB := Aside0.mk (Below.refl w.heap.size w)
  have H : (if (a0.size : Int) > 3000 then ((cornucopialaw1_alive.f k).bind fun t197 => (some t197)) else ((num_NewReader.f a0).bind fun bt198 => ((num_Reader_Count.f k bt198.1 bt198.2 a1).bind fun bt201 => ((num_Reader_Err.f bt201.2.1 bt201.2.2).bind fun bt204 => ((num_Reader_Left.f bt204.2.1 bt204.2.2).bind fun bt207 => (if bt204.1 = 0 then ((cornucopialaw1_alive.f k).bind fun t210 => (some t210)) else ((num_Reader_Fail.f bt207.2.1 bt207.2.2 8).bind fun bt211 => ((cornucopialaw1_alive.f k).bind fun t213 => (if t213 = true then ((num_Reader_Var.f k bt211.1 bt211.2).bind fun bt214 => (if bt214.1 = 0 then ((num_Reader_Text.f k bt214.2.1 bt214.2.2 9).bind fun bt217 => (if bt217.1.toList = ([] : List UInt8) then ((num_Reader_Bool.f bt217.2.1 bt217.2.2).bind fun bt220 => (if bt220.1 = true then (none) else ((num_Reader_Fix.f k bt220.2.1 bt220.2.2 1).bind fun bt223 => (if bt223.1 = 0 then ((num_Reader_Err.f bt223.2.1 bt223.2.2).bind fun bt226 => (if bt226.1 = bt204.1 then ((num_Reader_End.f bt226.2.1 bt226.2.2).bind fun bt229 => (if bt229.1 = bt204.1 then ((num_Reader_Left.f bt229.2.1 bt229.2.2).bind fun bt232 => (some (bt232.1 == bt207.1))) else (none))) else (none))) else (none))))) else (none))) else (none))) else (none)))))))))) = some r := h
  clear h
  by_cases c3 : (a0.size : Int) > 3000
  · rw [if_pos c3] at H
    have c3b0 : decide (3000 < (a0.size : Int)) = true := decide_eq_true c3
    have c3b1 : decide (3000 < a0.size) = true := decide_eq_true (by omega)
    clear c3
    replace H := Option.bind_eq_some_iff.mp H
    obtain ⟨t197, A40, H⟩ := H
    replace H : (some t197) = some r := H
    have A4 := Aside0.mk A40
    clear A40
    obtain rfl := Option.some.inj H
    go_enter Try.func8, Try.ntmps8
    go_wp2_with (first | ((with_reducible refine gate_callee (f := 21) rfl ?_); refine goesL_ (some 11) rfl rfl Try.func21 (by kernel_rfl) rfl #[] rfl (by (try simp only [List.map_toArray, List.map_cons, List.map_nil]); first | done | rfl | (simp only [List.length_drop, List.length_take]; rfl)) ?_; (with_reducible refine (cornucopialaw1_alive.calls k  t197 _ A4.out).mono ?_); rintro e w5 ⟨rfl, hb⟩; refine ⟨_, rfl, ?_⟩; have n0_ := Aside0.mk (below_step (by repeat (first | (with_reducible first | exact HB.out | apply below_alloc | apply pw_below_drewN | apply below_drew1) | exact HB.out)) hb); clear HB; have HB := n0_; clear n0_; (try clear hb); (try clear hb2); (try clear hk); (try clear hi)))
    go_ret
    exact ⟨by first | rfl | (simp [errW_none, errW_some] <;> rfl) | (simp [*, errW_none, errW_some] <;> rfl), by repeat (first | (with_reducible first | exact HB.out | apply below_alloc | apply pw_below_drewN | apply below_drew1) | exact HB.out)⟩
  · rw [if_neg c3] at H
    have c3b0 : decide (3000 < (a0.size : Int)) = false := decide_eq_false c3
    have c3b1 : decide (3000 < a0.size) = false := decide_eq_false (by omega)
    clear c3
    replace H := Option.bind_eq_some_iff.mp H
    obtain ⟨⟨t198, t199⟩, A60, H⟩ := H
    replace H : ((num_Reader_Count.f k t198 t199 a1).bind fun bt201 => ((num_Reader_Err.f bt201.2.1 bt201.2.2).bind fun bt204 => ((num_Reader_Left.f bt204.2.1 bt204.2.2).bind fun bt207 => (if bt204.1 = 0 then ((cornucopialaw1_alive.f k).bind fun t210 => (some t210)) else ((num_Reader_Fail.f bt207.2.1 bt207.2.2 8).bind fun bt211 => ((cornucopialaw1_alive.f k).bind fun t213 => (if t213 = true then ((num_Reader_Var.f k bt211.1 bt211.2).bind fun bt214 => (if bt214.1 = 0 then ((num_Reader_Text.f k bt214.2.1 bt214.2.2 9).bind fun bt217 => (if bt217.1.toList = ([] : List UInt8) then ((num_Reader_Bool.f bt217.2.1 bt217.2.2).bind fun bt220 => (if bt220.1 = true then (none) else ((num_Reader_Fix.f k bt220.2.1 bt220.2.2 1).bind fun bt223 => (if bt223.1 = 0 then ((num_Reader_Err.f bt223.2.1 bt223.2.2).bind fun bt226 => (if bt226.1 = bt204.1 then ((num_Reader_End.f bt226.2.1 bt226.2.2).bind fun bt229 => (if bt229.1 = bt204.1 then ((num_Reader_Left.f bt229.2.1 bt229.2.2).bind fun bt232 => (some (bt232.1 == bt207.1))) else (none))) else (none))) else (none))))) else (none))) else (none))) else (none)))))))) = some r := H
    have A6 := Aside0.mk A60
    clear A60
    replace H := Option.bind_eq_some_iff.mp H
    obtain ⟨⟨t201, t202, t203⟩, A70, H⟩ := H
    replace H : ((num_Reader_Err.f t202 t203).bind fun bt204 => ((num_Reader_Left.f bt204.2.1 bt204.2.2).bind fun bt207 => (if bt204.1 = 0 then ((cornucopialaw1_alive.f k).bind fun t210 => (some t210)) else ((num_Reader_Fail.f bt207.2.1 bt207.2.2 8).bind fun bt211 => ((cornucopialaw1_alive.f k).bind fun t213 => (if t213 = true then ((num_Reader_Var.f k bt211.1 bt211.2).bind fun bt214 => (if bt214.1 = 0 then ((num_Reader_Text.f k bt214.2.1 bt214.2.2 9).bind fun bt217 => (if bt217.1.toList = ([] : List UInt8) then ((num_Reader_Bool.f bt217.2.1 bt217.2.2).bind fun bt220 => (if bt220.1 = true then (none) else ((num_Reader_Fix.f k bt220.2.1 bt220.2.2 1).bind fun bt223 => (if bt223.1 = 0 then ((num_Reader_Err.f bt223.2.1 bt223.2.2).bind fun bt226 => (if bt226.1 = bt204.1 then ((num_Reader_End.f bt226.2.1 bt226.2.2).bind fun bt229 => (if bt229.1 = bt204.1 then ((num_Reader_Left.f bt229.2.1 bt229.2.2).bind fun bt232 => (some (bt232.1 == bt207.1))) else (none))) else (none))) else (none))))) else (none))) else (none))) else (none))))))) = some r := H
    have A7 := Aside0.mk A70
    clear A70
    replace H := Option.bind_eq_some_iff.mp H
    obtain ⟨⟨t204, t205, t206⟩, A80, H⟩ := H
    replace H : ((num_Reader_Left.f t205 t206).bind fun bt207 => (if t204 = 0 then ((cornucopialaw1_alive.f k).bind fun t210 => (some t210)) else ((num_Reader_Fail.f bt207.2.1 bt207.2.2 8).bind fun bt211 => ((cornucopialaw1_alive.f k).bind fun t213 => (if t213 = true then ((num_Reader_Var.f k bt211.1 bt211.2).bind fun bt214 => (if bt214.1 = 0 then ((num_Reader_Text.f k bt214.2.1 bt214.2.2 9).bind fun bt217 => (if bt217.1.toList = ([] : List UInt8) then ((num_Reader_Bool.f bt217.2.1 bt217.2.2).bind fun bt220 => (if bt220.1 = true then (none) else ((num_Reader_Fix.f k bt220.2.1 bt220.2.2 1).bind fun bt223 => (if bt223.1 = 0 then ((num_Reader_Err.f bt223.2.1 bt223.2.2).bind fun bt226 => (if bt226.1 = t204 then ((num_Reader_End.f bt226.2.1 bt226.2.2).bind fun bt229 => (if bt229.1 = t204 then ((num_Reader_Left.f bt229.2.1 bt229.2.2).bind fun bt232 => (some (bt232.1 == bt207.1))) else (none))) else (none))) else (none))))) else (none))) else (none))) else (none)))))) = some r := H
    have A8 := Aside0.mk A80
    clear A80
    replace H := Option.bind_eq_some_iff.mp H
    obtain ⟨⟨t207, t208, t209⟩, A90, H⟩ := H
    replace H : (if t204 = 0 then ((cornucopialaw1_alive.f k).bind fun t210 => (some t210)) else ((num_Reader_Fail.f t208 t209 8).bind fun bt211 => ((cornucopialaw1_alive.f k).bind fun t213 => (if t213 = true then ((num_Reader_Var.f k bt211.1 bt211.2).bind fun bt214 => (if bt214.1 = 0 then ((num_Reader_Text.f k bt214.2.1 bt214.2.2 9).bind fun bt217 => (if bt217.1.toList = ([] : List UInt8) then ((num_Reader_Bool.f bt217.2.1 bt217.2.2).bind fun bt220 => (if bt220.1 = true then (none) else ((num_Reader_Fix.f k bt220.2.1 bt220.2.2 1).bind fun bt223 => (if bt223.1 = 0 then ((num_Reader_Err.f bt223.2.1 bt223.2.2).bind fun bt226 => (if bt226.1 = t204 then ((num_Reader_End.f bt226.2.1 bt226.2.2).bind fun bt229 => (if bt229.1 = t204 then ((num_Reader_Left.f bt229.2.1 bt229.2.2).bind fun bt232 => (some (bt232.1 == t207))) else (none))) else (none))) else (none))))) else (none))) else (none))) else (none))))) = some r := H
    have A9 := Aside0.mk A90
    clear A90
    by_cases c10 : t204 = 0
    · rw [if_pos c10] at H
      have c10b0 : (t204 == 0) = true := beq_iff_eq.mpr c10
      have c10b1 : (t204 != 0) = false := bne_eq_false_iff_eq.mpr c10
      clear c10
      replace H := Option.bind_eq_some_iff.mp H
      obtain ⟨t210, A110, H⟩ := H
      replace H : (some t210) = some r := H
      have A11 := Aside0.mk A110
      clear A110
      obtain rfl := Option.some.inj H
      go_enter Try.func8, Try.ntmps8
      go_wp2_with (first | ((with_reducible refine gate_callee (f := 43) rfl ?_); refine goesL_ (some 13) rfl rfl Try.func43 (by kernel_rfl) rfl #[.string a0] rfl (by (try simp only [List.map_toArray, List.map_cons, List.map_nil]); first | done | rfl | (simp only [List.length_drop, List.length_take]; rfl)) ?_; (with_reducible refine (num_NewReader.calls a0 t198 t199 w _ ?side1 A6.out).mono ?_); (case side1 => repeat (first | (with_reducible first | exact HB.out | apply below_alloc | apply pw_below_drewN | apply below_drew1) | exact HB.out)); rintro e w12 ⟨g200, rfl, hi, hb, hb2⟩; refine ⟨_, rfl, ?_⟩; have n0_ := Aside0.mk (hb); have n1_ := Aside0.mk (hi); clear HB; have HB := n0_; have HI200 := n1_; clear n0_ n1_; (try clear hb); (try clear hb2); (try clear hk); (try clear hi)) | ((with_reducible refine gate_callee (f := 44) rfl ?_); refine goesL_ (some 18) rfl rfl Try.func44 (by kernel_rfl) rfl #[.pointer (some ⟨g200, 0, none⟩), .int .i64 a1] rfl (by (try simp only [List.map_toArray, List.map_cons, List.map_nil]); first | done | rfl | (simp only [List.length_drop, List.length_take]; rfl)) ?_; (with_reducible refine (num_Reader_Count.calls k g200 t198 t199 a1 t201 t202 t203 w _ ?side1 ?side2 A7.out).mono ?_); (case side1 => repeat (first | (with_reducible first | exact HI200.out | apply IsS72.alloc | apply IsS72.drewN | apply IsS72.drew | apply IsS72.set_0 | apply IsS72.set_1) | exact HI200.out)); (case side2 => repeat (first | (with_reducible first | exact HB.out | apply below_alloc | apply pw_below_drewN | apply below_drew1 | refine below_set ?_ (IsS72.ge HI200.out)) | exact HB.out)); rintro e w13 ⟨rfl, hi, hb, hk⟩; refine ⟨_, rfl, ?_⟩; have n0_ := Aside0.mk (hb); have n1_ := Aside0.mk (hi); clear HB; clear HI200; have HB := n0_; have HI200 := n1_; clear n0_ n1_; (try clear hb); (try clear hb2); (try clear hk); (try clear hi)) | ((with_reducible refine gate_callee (f := 45) rfl ?_); refine goesL_ (some 20) rfl rfl Try.func45 (by kernel_rfl) rfl #[.pointer (some ⟨g200, 0, none⟩)] rfl (by (try simp only [List.map_toArray, List.map_cons, List.map_nil]); first | done | rfl | (simp only [List.length_drop, List.length_take]; rfl)) ?_; (with_reducible refine (num_Reader_Err.calls g200 t202 t203 t204 t205 t206 w _ ?side1 ?side2 A8.out).mono ?_); (case side1 => repeat (first | (with_reducible first | exact HI200.out | apply IsS72.alloc | apply IsS72.drewN | apply IsS72.drew | apply IsS72.set_0 | apply IsS72.set_1) | exact HI200.out)); (case side2 => repeat (first | (with_reducible first | exact HB.out | apply below_alloc | apply pw_below_drewN | apply below_drew1 | refine below_set ?_ (IsS72.ge HI200.out)) | exact HB.out)); rintro e w14 ⟨rfl, hi, hb, hk⟩; refine ⟨_, rfl, ?_⟩; have n0_ := Aside0.mk (hb); have n1_ := Aside0.mk (hi); clear HB; clear HI200; have HB := n0_; have HI200 := n1_; clear n0_ n1_; (try clear hb); (try clear hb2); (try clear hk); (try clear hi)) | ((with_reducible refine gate_callee (f := 46) rfl ?_); refine goesL_ (some 22) rfl rfl Try.func46 (by kernel_rfl) rfl #[.pointer (some ⟨g200, 0, none⟩)] rfl (by (try simp only [List.map_toArray, List.map_cons, List.map_nil]); first | done | rfl | (simp only [List.length_drop, List.length_take]; rfl)) ?_; (with_reducible refine (num_Reader_Left.calls g200 t205 t206 t207 t208 t209 w _ ?side1 ?side2 A9.out).mono ?_); (case side1 => repeat (first | (with_reducible first | exact HI200.out | apply IsS72.alloc | apply IsS72.drewN | apply IsS72.drew | apply IsS72.set_0 | apply IsS72.set_1) | exact HI200.out)); (case side2 => repeat (first | (with_reducible first | exact HB.out | apply below_alloc | apply pw_below_drewN | apply below_drew1 | refine below_set ?_ (IsS72.ge HI200.out)) | exact HB.out)); rintro e w15 ⟨rfl, hi, hb, hk⟩; refine ⟨_, rfl, ?_⟩; have n0_ := Aside0.mk (hb); have n1_ := Aside0.mk (hi); clear HB; clear HI200; have HB := n0_; have HI200 := n1_; clear n0_ n1_; (try clear hb); (try clear hb2); (try clear hk); (try clear hi)) | ((with_reducible refine gate_callee (f := 21) rfl ?_); refine goesL_ (some 25) rfl rfl Try.func21 (by kernel_rfl) rfl #[] rfl (by (try simp only [List.map_toArray, List.map_cons, List.map_nil]); first | done | rfl | (simp only [List.length_drop, List.length_take]; rfl)) ?_; (with_reducible refine (cornucopialaw1_alive.calls k  t210 _ A11.out).mono ?_); rintro e w16 ⟨rfl, hb⟩; refine ⟨_, rfl, ?_⟩; have n0_ := Aside0.mk (IsS72.below (by repeat (first | (with_reducible first | exact HI200.out | apply IsS72.alloc | apply IsS72.drewN | apply IsS72.drew | apply IsS72.set_0 | apply IsS72.set_1) | exact HI200.out)) hb); have n1_ := Aside0.mk (below_step (by repeat (first | (with_reducible first | exact HB.out | apply below_alloc | apply pw_below_drewN | apply below_drew1 | refine below_set ?_ (IsS72.ge HI200.out)) | exact HB.out)) hb); clear HI200; clear HB; have HI200 := n0_; have HB := n1_; clear n0_ n1_; (try clear hb); (try clear hb2); (try clear hk); (try clear hi)))
      go_ret
      exact ⟨by first | rfl | (simp [errW_none, errW_some] <;> rfl) | (simp [*, errW_none, errW_some] <;> rfl), by repeat (first | (with_reducible first | exact HB.out | apply below_alloc | apply pw_below_drewN | apply below_drew1 | refine below_set ?_ (IsS72.ge HI200.out)) | exact HB.out)⟩
    · rw [if_neg c10] at H
      have c10b0 : (t204 == 0) = false := beq_eq_false_iff_ne.mpr c10
      have c10b1 : (t204 != 0) = true := bne_iff_ne.mpr c10
      replace H := Option.bind_eq_some_iff.mp H
      obtain ⟨⟨t211, t212⟩, A170, H⟩ := H
      replace H : ((cornucopialaw1_alive.f k).bind fun t213 => (if t213 = true then ((num_Reader_Var.f k t211 t212).bind fun bt214 => (if bt214.1 = 0 then ((num_Reader_Text.f k bt214.2.1 bt214.2.2 9).bind fun bt217 => (if bt217.1.toList = ([] : List UInt8) then ((num_Reader_Bool.f bt217.2.1 bt217.2.2).bind fun bt220 => (if bt220.1 = true then (none) else ((num_Reader_Fix.f k bt220.2.1 bt220.2.2 1).bind fun bt223 => (if bt223.1 = 0 then ((num_Reader_Err.f bt223.2.1 bt223.2.2).bind fun bt226 => (if bt226.1 = t204 then ((num_Reader_End.f bt226.2.1 bt226.2.2).bind fun bt229 => (if bt229.1 = t204 then ((num_Reader_Left.f bt229.2.1 bt229.2.2).bind fun bt232 => (some (bt232.1 == t207))) else (none))) else (none))) else (none))))) else (none))) else (none))) else (none))) = some r := H
      have A17 := Aside0.mk A170
      clear A170
      replace H := Option.bind_eq_some_iff.mp H
      obtain ⟨t213, A180, H⟩ := H
      replace H : (if t213 = true then ((num_Reader_Var.f k t211 t212).bind fun bt214 => (if bt214.1 = 0 then ((num_Reader_Text.f k bt214.2.1 bt214.2.2 9).bind fun bt217 => (if bt217.1.toList = ([] : List UInt8) then ((num_Reader_Bool.f bt217.2.1 bt217.2.2).bind fun bt220 => (if bt220.1 = true then (none) else ((num_Reader_Fix.f k bt220.2.1 bt220.2.2 1).bind fun bt223 => (if bt223.1 = 0 then ((num_Reader_Err.f bt223.2.1 bt223.2.2).bind fun bt226 => (if bt226.1 = t204 then ((num_Reader_End.f bt226.2.1 bt226.2.2).bind fun bt229 => (if bt229.1 = t204 then ((num_Reader_Left.f bt229.2.1 bt229.2.2).bind fun bt232 => (some (bt232.1 == t207))) else (none))) else (none))) else (none))))) else (none))) else (none))) else (none)) = some r := H
      have A18 := Aside0.mk A180
      clear A180
      by_cases c19 : t213 = true
      · subst c19
        have H1 : ((num_Reader_Var.f k t211 t212).bind fun bt214 => (if bt214.1 = 0 then ((num_Reader_Text.f k bt214.2.1 bt214.2.2 9).bind fun bt217 => (if bt217.1.toList = ([] : List UInt8) then ((num_Reader_Bool.f bt217.2.1 bt217.2.2).bind fun bt220 => (if bt220.1 = true then (none) else ((num_Reader_Fix.f k bt220.2.1 bt220.2.2 1).bind fun bt223 => (if bt223.1 = 0 then ((num_Reader_Err.f bt223.2.1 bt223.2.2).bind fun bt226 => (if bt226.1 = t204 then ((num_Reader_End.f bt226.2.1 bt226.2.2).bind fun bt229 => (if bt229.1 = t204 then ((num_Reader_Left.f bt229.2.1 bt229.2.2).bind fun bt232 => (some (bt232.1 == t207))) else (none))) else (none))) else (none))))) else (none))) else (none))) = some r := by rw [if_pos rfl] at H; exact H
        clear H
        have H := H1
        clear H1
        replace H := Option.bind_eq_some_iff.mp H
        obtain ⟨⟨t214, t215, t216⟩, A200, H⟩ := H
        replace H : (if t214 = 0 then ((num_Reader_Text.f k t215 t216 9).bind fun bt217 => (if bt217.1.toList = ([] : List UInt8) then ((num_Reader_Bool.f bt217.2.1 bt217.2.2).bind fun bt220 => (if bt220.1 = true then (none) else ((num_Reader_Fix.f k bt220.2.1 bt220.2.2 1).bind fun bt223 => (if bt223.1 = 0 then ((num_Reader_Err.f bt223.2.1 bt223.2.2).bind fun bt226 => (if bt226.1 = t204 then ((num_Reader_End.f bt226.2.1 bt226.2.2).bind fun bt229 => (if bt229.1 = t204 then ((num_Reader_Left.f bt229.2.1 bt229.2.2).bind fun bt232 => (some (bt232.1 == t207))) else (none))) else (none))) else (none))))) else (none))) else (none)) = some r := H
        have A20 := Aside0.mk A200
        clear A200
        by_cases c21 : t214 = 0
        · rw [if_pos c21] at H
          have c21b0 : (t214 == 0) = true := beq_iff_eq.mpr c21
          have c21b1 : (t214 != 0) = false := bne_eq_false_iff_eq.mpr c21
          clear c21
          replace H := Option.bind_eq_some_iff.mp H
          obtain ⟨⟨t217, t218, t219⟩, A220, H⟩ := H
          replace H : (if t217.toList = ([] : List UInt8) then ((num_Reader_Bool.f t218 t219).bind fun bt220 => (if bt220.1 = true then (none) else ((num_Reader_Fix.f k bt220.2.1 bt220.2.2 1).bind fun bt223 => (if bt223.1 = 0 then ((num_Reader_Err.f bt223.2.1 bt223.2.2).bind fun bt226 => (if bt226.1 = t204 then ((num_Reader_End.f bt226.2.1 bt226.2.2).bind fun bt229 => (if bt229.1 = t204 then ((num_Reader_Left.f bt229.2.1 bt229.2.2).bind fun bt232 => (some (bt232.1 == t207))) else (none))) else (none))) else (none))))) else (none)) = some r := H
          have A22 := Aside0.mk A220
          clear A220
          by_cases c23 : t217.toList = ([] : List UInt8)
          · rw [if_pos c23] at H
            have c23b0 : (t217.toList == ([] : List UInt8)) = true := beq_iff_eq.mpr c23
            have c23b1 : (t217.toList != ([] : List UInt8)) = false := bne_eq_false_iff_eq.mpr c23
            clear c23
            replace H := Option.bind_eq_some_iff.mp H
            obtain ⟨⟨t220, t221, t222⟩, A240, H⟩ := H
            replace H : (if t220 = true then (none) else ((num_Reader_Fix.f k t221 t222 1).bind fun bt223 => (if bt223.1 = 0 then ((num_Reader_Err.f bt223.2.1 bt223.2.2).bind fun bt226 => (if bt226.1 = t204 then ((num_Reader_End.f bt226.2.1 bt226.2.2).bind fun bt229 => (if bt229.1 = t204 then ((num_Reader_Left.f bt229.2.1 bt229.2.2).bind fun bt232 => (some (bt232.1 == t207))) else (none))) else (none))) else (none)))) = some r := H
            have A24 := Aside0.mk A240
            clear A240
            by_cases c25 : t220 = true
            · subst c25
              have H1 : (none) = some r := by rw [if_pos rfl] at H; exact H
              clear H
              have H := H1
              clear H1
              exact absurd H (by simp)
            · replace c25 := Bool.eq_false_iff.mpr c25
              subst c25
              have H1 : ((num_Reader_Fix.f k t221 t222 1).bind fun bt223 => (if bt223.1 = 0 then ((num_Reader_Err.f bt223.2.1 bt223.2.2).bind fun bt226 => (if bt226.1 = t204 then ((num_Reader_End.f bt226.2.1 bt226.2.2).bind fun bt229 => (if bt229.1 = t204 then ((num_Reader_Left.f bt229.2.1 bt229.2.2).bind fun bt232 => (some (bt232.1 == t207))) else (none))) else (none))) else (none))) = some r := by rw [if_neg (show ¬ (false = true) by decide)] at H; exact H
              clear H
              have H := H1
              clear H1
              replace H := Option.bind_eq_some_iff.mp H
              obtain ⟨⟨t223, t224, t225⟩, A260, H⟩ := H
              replace H : (if t223 = 0 then ((num_Reader_Err.f t224 t225).bind fun bt226 => (if bt226.1 = t204 then ((num_Reader_End.f bt226.2.1 bt226.2.2).bind fun bt229 => (if bt229.1 = t204 then ((num_Reader_Left.f bt229.2.1 bt229.2.2).bind fun bt232 => (some (bt232.1 == t207))) else (none))) else (none))) else (none)) = some r := H
              have A26 := Aside0.mk A260
              clear A260
              by_cases c27 : t223 = 0
              · rw [if_pos c27] at H
                have c27b0 : (t223 == 0) = true := beq_iff_eq.mpr c27
                have c27b1 : (t223 != 0) = false := bne_eq_false_iff_eq.mpr c27
                clear c27
                replace H := Option.bind_eq_some_iff.mp H
                obtain ⟨⟨t226, t227, t228⟩, A280, H⟩ := H
                replace H : (if t226 = t204 then ((num_Reader_End.f t227 t228).bind fun bt229 => (if bt229.1 = t204 then ((num_Reader_Left.f bt229.2.1 bt229.2.2).bind fun bt232 => (some (bt232.1 == t207))) else (none))) else (none)) = some r := H
                have A28 := Aside0.mk A280
                clear A280
                by_cases c29 : t226 = t204
                · rw [if_pos c29] at H
                  have c29b0 : (t226 == t204) = true := beq_iff_eq.mpr c29
                  have c29b1 : (t226 != t204) = false := bne_eq_false_iff_eq.mpr c29
                  clear c29
                  replace H := Option.bind_eq_some_iff.mp H
                  obtain ⟨⟨t229, t230, t231⟩, A300, H⟩ := H
                  replace H : (if t229 = t204 then ((num_Reader_Left.f t230 t231).bind fun bt232 => (some (bt232.1 == t207))) else (none)) = some r := H
                  have A30 := Aside0.mk A300
                  clear A300
                  by_cases c31 : t229 = t204
                  · rw [if_pos c31] at H
                    have c31b0 : (t229 == t204) = true := beq_iff_eq.mpr c31
                    have c31b1 : (t229 != t204) = false := bne_eq_false_iff_eq.mpr c31
                    clear c31
                    replace H := Option.bind_eq_some_iff.mp H
                    obtain ⟨⟨t232, t233, t234⟩, A320, H⟩ := H
                    replace H : (some (t232 == t207)) = some r := H
                    have A32 := Aside0.mk A320
                    clear A320
                    obtain rfl := Option.some.inj H
                    go_enter Try.func8, Try.ntmps8
                    go_wp2_with (first | ((with_reducible refine gate_callee (f := 43) rfl ?_); refine goesL_ (some 13) rfl rfl Try.func43 (by kernel_rfl) rfl #[.string a0] rfl (by (try simp only [List.map_toArray, List.map_cons, List.map_nil]); first | done | rfl | (simp only [List.length_drop, List.length_take]; rfl)) ?_; (with_reducible refine (num_NewReader.calls a0 t198 t199 w _ ?side1 A6.out).mono ?_); (case side1 => repeat (first | (with_reducible first | exact HB.out | apply below_alloc | apply pw_below_drewN | apply below_drew1) | exact HB.out)); rintro e w33 ⟨g200, rfl, hi, hb, hb2⟩; refine ⟨_, rfl, ?_⟩; have n0_ := Aside0.mk (hb); have n1_ := Aside0.mk (hi); clear HB; have HB := n0_; have HI200 := n1_; clear n0_ n1_; (try clear hb); (try clear hb2); (try clear hk); (try clear hi)) | ((with_reducible refine gate_callee (f := 44) rfl ?_); refine goesL_ (some 18) rfl rfl Try.func44 (by kernel_rfl) rfl #[.pointer (some ⟨g200, 0, none⟩), .int .i64 a1] rfl (by (try simp only [List.map_toArray, List.map_cons, List.map_nil]); first | done | rfl | (simp only [List.length_drop, List.length_take]; rfl)) ?_; (with_reducible refine (num_Reader_Count.calls k g200 t198 t199 a1 t201 t202 t203 w _ ?side1 ?side2 A7.out).mono ?_); (case side1 => repeat (first | (with_reducible first | exact HI200.out | apply IsS72.alloc | apply IsS72.drewN | apply IsS72.drew | apply IsS72.set_0 | apply IsS72.set_1) | exact HI200.out)); (case side2 => repeat (first | (with_reducible first | exact HB.out | apply below_alloc | apply pw_below_drewN | apply below_drew1 | refine below_set ?_ (IsS72.ge HI200.out)) | exact HB.out)); rintro e w34 ⟨rfl, hi, hb, hk⟩; refine ⟨_, rfl, ?_⟩; have n0_ := Aside0.mk (hb); have n1_ := Aside0.mk (hi); clear HB; clear HI200; have HB := n0_; have HI200 := n1_; clear n0_ n1_; (try clear hb); (try clear hb2); (try clear hk); (try clear hi)) | ((with_reducible refine gate_callee (f := 45) rfl ?_); refine goesL_ (some 20) rfl rfl Try.func45 (by kernel_rfl) rfl #[.pointer (some ⟨g200, 0, none⟩)] rfl (by (try simp only [List.map_toArray, List.map_cons, List.map_nil]); first | done | rfl | (simp only [List.length_drop, List.length_take]; rfl)) ?_; (with_reducible refine (num_Reader_Err.calls g200 t202 t203 t204 t205 t206 w _ ?side1 ?side2 A8.out).mono ?_); (case side1 => repeat (first | (with_reducible first | exact HI200.out | apply IsS72.alloc | apply IsS72.drewN | apply IsS72.drew | apply IsS72.set_0 | apply IsS72.set_1) | exact HI200.out)); (case side2 => repeat (first | (with_reducible first | exact HB.out | apply below_alloc | apply pw_below_drewN | apply below_drew1 | refine below_set ?_ (IsS72.ge HI200.out)) | exact HB.out)); rintro e w35 ⟨rfl, hi, hb, hk⟩; refine ⟨_, rfl, ?_⟩; have n0_ := Aside0.mk (hb); have n1_ := Aside0.mk (hi); clear HB; clear HI200; have HB := n0_; have HI200 := n1_; clear n0_ n1_; (try clear hb); (try clear hb2); (try clear hk); (try clear hi)) | ((with_reducible refine gate_callee (f := 46) rfl ?_); refine goesL_ (some 22) rfl rfl Try.func46 (by kernel_rfl) rfl #[.pointer (some ⟨g200, 0, none⟩)] rfl (by (try simp only [List.map_toArray, List.map_cons, List.map_nil]); first | done | rfl | (simp only [List.length_drop, List.length_take]; rfl)) ?_; (with_reducible refine (num_Reader_Left.calls g200 t205 t206 t207 t208 t209 w _ ?side1 ?side2 A9.out).mono ?_); (case side1 => repeat (first | (with_reducible first | exact HI200.out | apply IsS72.alloc | apply IsS72.drewN | apply IsS72.drew | apply IsS72.set_0 | apply IsS72.set_1) | exact HI200.out)); (case side2 => repeat (first | (with_reducible first | exact HB.out | apply below_alloc | apply pw_below_drewN | apply below_drew1 | refine below_set ?_ (IsS72.ge HI200.out)) | exact HB.out)); rintro e w36 ⟨rfl, hi, hb, hk⟩; refine ⟨_, rfl, ?_⟩; have n0_ := Aside0.mk (hb); have n1_ := Aside0.mk (hi); clear HB; clear HI200; have HB := n0_; have HI200 := n1_; clear n0_ n1_; (try clear hb); (try clear hb2); (try clear hk); (try clear hi)) | ((with_reducible refine gate_callee (f := 47) rfl ?_); refine goesL_ (some 27) rfl rfl Try.func47 (by kernel_rfl) rfl #[.pointer (some ⟨g200, 0, none⟩), .int .i64 8] rfl (by (try simp only [List.map_toArray, List.map_cons, List.map_nil]); first | done | rfl | (simp only [List.length_drop, List.length_take]; rfl)) ?_; (with_reducible refine (num_Reader_Fail.calls g200 t208 t209 8 t211 t212 w _ ?side1 ?side2 A17.out).mono ?_); (case side1 => repeat (first | (with_reducible first | exact HI200.out | apply IsS72.alloc | apply IsS72.drewN | apply IsS72.drew | apply IsS72.set_0 | apply IsS72.set_1) | exact HI200.out)); (case side2 => repeat (first | (with_reducible first | exact HB.out | apply below_alloc | apply pw_below_drewN | apply below_drew1 | refine below_set ?_ (IsS72.ge HI200.out)) | exact HB.out)); rintro e w37 ⟨rfl, hi, hb, hk⟩; refine ⟨_, rfl, ?_⟩; have n0_ := Aside0.mk (hb); have n1_ := Aside0.mk (hi); clear HB; clear HI200; have HB := n0_; have HI200 := n1_; clear n0_ n1_; (try clear hb); (try clear hb2); (try clear hk); (try clear hi)) | ((with_reducible refine gate_callee (f := 21) rfl ?_); refine goesL_ (some 28) rfl rfl Try.func21 (by kernel_rfl) rfl #[] rfl (by (try simp only [List.map_toArray, List.map_cons, List.map_nil]); first | done | rfl | (simp only [List.length_drop, List.length_take]; rfl)) ?_; (with_reducible refine (cornucopialaw1_alive.calls k  true _ A18.out).mono ?_); rintro e w38 ⟨rfl, hb⟩; refine ⟨_, rfl, ?_⟩; have n0_ := Aside0.mk (IsS72.below (by repeat (first | (with_reducible first | exact HI200.out | apply IsS72.alloc | apply IsS72.drewN | apply IsS72.drew | apply IsS72.set_0 | apply IsS72.set_1) | exact HI200.out)) hb); have n1_ := Aside0.mk (below_step (by repeat (first | (with_reducible first | exact HB.out | apply below_alloc | apply pw_below_drewN | apply below_drew1 | refine below_set ?_ (IsS72.ge HI200.out)) | exact HB.out)) hb); clear HI200; clear HB; have HI200 := n0_; have HB := n1_; clear n0_ n1_; (try clear hb); (try clear hb2); (try clear hk); (try clear hi)) | (go_at_call 48; (with_reducible refine (num_Reader_Var.calls k g200 t211 t212 t214 t215 t216 w _ ?side1 ?side2 A20.out).mono ?_); (case side1 => repeat (first | (with_reducible first | exact HI200.out | apply IsS72.alloc | apply IsS72.drewN | apply IsS72.drew | apply IsS72.set_0 | apply IsS72.set_1) | exact HI200.out)); (case side2 => repeat (first | (with_reducible first | exact HB.out | apply below_alloc | apply pw_below_drewN | apply below_drew1 | refine below_set ?_ (IsS72.ge HI200.out)) | exact HB.out)); rintro e w39 ⟨rfl, hi, hb, hk⟩; have n0_ := Aside0.mk (hb); have n1_ := Aside0.mk (hi); clear HB; clear HI200; have HB := n0_; have HI200 := n1_; clear n0_ n1_; (try clear hb); (try clear hb2); (try clear hk); (try clear hi)) | (go_at_call 49; (with_reducible refine (num_Reader_Text.calls k g200 t215 t216 9 t217 t218 t219 w _ ?side1 ?side2 A22.out).mono ?_); (case side1 => repeat (first | (with_reducible first | exact HI200.out | apply IsS72.alloc | apply IsS72.drewN | apply IsS72.drew | apply IsS72.set_0 | apply IsS72.set_1) | exact HI200.out)); (case side2 => repeat (first | (with_reducible first | exact HB.out | apply below_alloc | apply pw_below_drewN | apply below_drew1 | refine below_set ?_ (IsS72.ge HI200.out)) | exact HB.out)); rintro e w40 ⟨rfl, hi, hb, hk⟩; have n0_ := Aside0.mk (hb); have n1_ := Aside0.mk (hi); clear HB; clear HI200; have HB := n0_; have HI200 := n1_; clear n0_ n1_; (try clear hb); (try clear hb2); (try clear hk); (try clear hi)) | (go_at_call 50; (with_reducible refine (num_Reader_Bool.calls g200 t218 t219 false t221 t222 w _ ?side1 ?side2 A24.out).mono ?_); (case side1 => repeat (first | (with_reducible first | exact HI200.out | apply IsS72.alloc | apply IsS72.drewN | apply IsS72.drew | apply IsS72.set_0 | apply IsS72.set_1) | exact HI200.out)); (case side2 => repeat (first | (with_reducible first | exact HB.out | apply below_alloc | apply pw_below_drewN | apply below_drew1 | refine below_set ?_ (IsS72.ge HI200.out)) | exact HB.out)); rintro e w41 ⟨rfl, hi, hb, hk⟩; have n0_ := Aside0.mk (hb); have n1_ := Aside0.mk (hi); clear HB; clear HI200; have HB := n0_; have HI200 := n1_; clear n0_ n1_; (try clear hb); (try clear hb2); (try clear hk); (try clear hi)) | (go_at_call 51; (with_reducible refine (num_Reader_Fix.calls k g200 t221 t222 1 t223 t224 t225 w _ ?side1 ?side2 A26.out).mono ?_); (case side1 => repeat (first | (with_reducible first | exact HI200.out | apply IsS72.alloc | apply IsS72.drewN | apply IsS72.drew | apply IsS72.set_0 | apply IsS72.set_1) | exact HI200.out)); (case side2 => repeat (first | (with_reducible first | exact HB.out | apply below_alloc | apply pw_below_drewN | apply below_drew1 | refine below_set ?_ (IsS72.ge HI200.out)) | exact HB.out)); rintro e w42 ⟨rfl, hi, hb, hk⟩; have n0_ := Aside0.mk (hb); have n1_ := Aside0.mk (hi); clear HB; clear HI200; have HB := n0_; have HI200 := n1_; clear n0_ n1_; (try clear hb); (try clear hb2); (try clear hk); (try clear hi)) | (go_at_call 45; (with_reducible refine (num_Reader_Err.calls g200 t224 t225 t226 t227 t228 w _ ?side1 ?side2 A28.out).mono ?_); (case side1 => repeat (first | (with_reducible first | exact HI200.out | apply IsS72.alloc | apply IsS72.drewN | apply IsS72.drew | apply IsS72.set_0 | apply IsS72.set_1) | exact HI200.out)); (case side2 => repeat (first | (with_reducible first | exact HB.out | apply below_alloc | apply pw_below_drewN | apply below_drew1 | refine below_set ?_ (IsS72.ge HI200.out)) | exact HB.out)); rintro e w43 ⟨rfl, hi, hb, hk⟩; have n0_ := Aside0.mk (hb); have n1_ := Aside0.mk (hi); clear HB; clear HI200; have HB := n0_; have HI200 := n1_; clear n0_ n1_; (try clear hb); (try clear hb2); (try clear hk); (try clear hi)) | (go_at_call 52; (with_reducible refine (num_Reader_End.calls g200 t227 t228 t229 t230 t231 w _ ?side1 ?side2 A30.out).mono ?_); (case side1 => repeat (first | (with_reducible first | exact HI200.out | apply IsS72.alloc | apply IsS72.drewN | apply IsS72.drew | apply IsS72.set_0 | apply IsS72.set_1) | exact HI200.out)); (case side2 => repeat (first | (with_reducible first | exact HB.out | apply below_alloc | apply pw_below_drewN | apply below_drew1 | refine below_set ?_ (IsS72.ge HI200.out)) | exact HB.out)); rintro e w44 ⟨rfl, hi, hb, hk⟩; have n0_ := Aside0.mk (hb); have n1_ := Aside0.mk (hi); clear HB; clear HI200; have HB := n0_; have HI200 := n1_; clear n0_ n1_; (try clear hb); (try clear hb2); (try clear hk); (try clear hi)) | (go_at_call 46; (with_reducible refine (num_Reader_Left.calls g200 t230 t231 t232 t233 t234 w _ ?side1 ?side2 A32.out).mono ?_); (case side1 => repeat (first | (with_reducible first | exact HI200.out | apply IsS72.alloc | apply IsS72.drewN | apply IsS72.drew | apply IsS72.set_0 | apply IsS72.set_1) | exact HI200.out)); (case side2 => repeat (first | (with_reducible first | exact HB.out | apply below_alloc | apply pw_below_drewN | apply below_drew1 | refine below_set ?_ (IsS72.ge HI200.out)) | exact HB.out)); rintro e w45 ⟨rfl, hi, hb, hk⟩; have n0_ := Aside0.mk (hb); have n1_ := Aside0.mk (hi); clear HB; clear HI200; have HB := n0_; have HI200 := n1_; clear n0_ n1_; (try clear hb); (try clear hb2); (try clear hk); (try clear hi)))
                    go_ret
                    exact ⟨by first | rfl | (simp [errW_none, errW_some] <;> rfl) | (simp [*, errW_none, errW_some] <;> rfl), by repeat (first | (with_reducible first | exact HB.out | apply below_alloc | apply pw_below_drewN | apply below_drew1 | refine below_set ?_ (IsS72.ge HI200.out)) | exact HB.out)⟩
                  · rw [if_neg c31] at H
                    exact absurd H (by simp)
                · rw [if_neg c29] at H
                  exact absurd H (by simp)
              · rw [if_neg c27] at H
                exact absurd H (by simp)
          · rw [if_neg c23] at H
            exact absurd H (by simp)
        · rw [if_neg c21] at H
          exact absurd H (by simp)
      · replace c19 := Bool.eq_false_iff.mpr c19
        subst c19
        have H1 : (none) = some r := by rw [if_neg (show ¬ (false = true) by decide)] at H; exact H
        clear H
        have H := H1
        clear H1
        exact absurd H (by simp)

/-- THE ONE PURE STATEMENT of cornucopialaw1_NumFirst. -/
def cornucopialaw1_NumFirst.Pure : Prop := ∀ (a0 : ByteArray) (a1 : Int), a0.size ≤ 140737488351232 → (Lit.int .i64 a1).wf = true → ∃ k, cornucopialaw1_NumFirst.f k a0 a1 = some true
theorem cornucopialaw1_NumFirst.walk (P : cornucopialaw1_NumFirst.Pure) (a0 : ByteArray) (a1 : Int) (w : World) (w0_0 : a0.size ≤ 140737488351232) (w1_0 : (Lit.int .i64 a1).wf = true) :
    Calls Try.prog 8 #[.string a0, .int .i64 a1] w fun e w' => e = .returned (.bool true) ∧ Below w.heap.size w w' := by
  obtain ⟨k, h⟩ := P a0 a1 w0_0 w1_0
  refine (cornucopialaw1_NumFirst.calls k a0 a1 true w h).mono ?_
  rintro e w' ⟨rfl, hd⟩
  exact ⟨rfl, hd⟩

/-- A state of type 70 at block g of W; what its slices lead to came in by w0. -/
def IsS70 (w0 W : World) (g : Nat) (f0 : ByteArray) (f1 : Int) : Prop := W.heap[g]? = some (.cells #[.string f0, .int .i64 f1] 70 (0, 0)) ∧ w0.heap.size ≤ g
theorem IsS70.grown {w0 W : World} {g : Nat} {f0 : ByteArray} {f1 : Int} {W1 : World} {row : Option Nat} (h : IsS70 w0 W g f0 f1) (hw : W.grownBy W1 row) (hne : some g ≠ row) : IsS70 w0 W1 g f0 f1 := by
  obtain ⟨hb, hg⟩ := h
  exact ⟨blk_grown hb hw hne, hg⟩
theorem IsS70.own_neN {w0 W : World} {g : Nat} {f0 : ByteArray} {f1 : Int} {α : Type} {d : Kd α} {e : Nat} {base : Nat} {ok : Nat → Prop} {v : Value} {xs : List α} (h : IsS70 w0 W g f0 f1) (ho : Kd.N d e W base ok v xs) (ht : e ≠ 70) : some g ≠ v.ownBlock := by
  obtain ⟨hb, hg⟩ := h
  exact Kd.N_ne ho hb ht
theorem IsS70.fresh {w0 W : World} {g : Nat} {f0 : ByteArray} {f1 : Int} (h : IsS70 w0 W g f0 f1) : ∀ k, W.heap.size ≤ k → k ≠ g := by
  obtain ⟨hb, hg⟩ := h
  exact Kd.freshB hb
theorem IsS70.kept {w0 W : World} {g : Nat} {f0 : ByteArray} {f1 : Int} {W1 : World} {S : Nat → Prop} (h : IsS70 w0 W g f0 f1) (hk : Kept W W1 S) (hne : ¬ S g) : IsS70 w0 W1 g f0 f1 := by
  obtain ⟨hb, hg⟩ := h
  exact ⟨blk_kept hb hk hne, hg⟩
theorem IsS70.below {w0 W : World} {g : Nat} {f0 : ByteArray} {f1 : Int} {W1 : World} (h : IsS70 w0 W g f0 f1) (hw : Below W.heap.size W W1) : IsS70 w0 W1 g f0 f1 := h.grown (grown_of_below hw none) (by simp)
theorem IsS70.alloc {w0 W : World} {g : Nat} {f0 : ByteArray} {f1 : Int} (h : IsS70 w0 W g f0 f1) (o : Obj) : IsS70 w0 (W.alloc o) g f0 f1 := h.below (below_alloc (Below.refl _ _) o)
theorem IsS70.drewN {w0 W : World} {g : Nat} {f0 : ByteArray} {f1 : Int} (h : IsS70 w0 W g f0 f1) (m : Nat) : IsS70 w0 (W.drewN m) g f0 f1 := h
theorem IsS70.drew {w0 W : World} {g : Nat} {f0 : ByteArray} {f1 : Int} (h : IsS70 w0 W g f0 f1) : IsS70 w0 W.drew g f0 f1 := h
theorem IsS70.at_ {w0 W : World} {g : Nat} {f0 : ByteArray} {f1 : Int} {w' : World} {m : Nat} (hq : W.drewN m = w') (h : IsS70 w0 W g f0 f1) : IsS70 w0 w' g f0 f1 := by subst hq; exact IsS70.drewN h m
theorem IsS70.apart {w0 W : World} {g : Nat} {f0 : ByteArray} {f1 : Int} {α : Type} {d : Kd α} {e : Nat} {base : Nat} {ok : Nat → Prop} {v : Value} {xs : List α} (h : IsS70 w0 W g f0 f1) (ho : d.R e W base ok v xs) (ht : ∀ q, q ∈ e :: d.E → q ≠ 70) : d.R e W base (fun k => ok k ∧ k ≠ g) v xs := by
  obtain ⟨hb, hg⟩ := h
  exact Kd.R_types ho hb ht
theorem IsS70.own_ne {w0 W : World} {g : Nat} {f0 : ByteArray} {f1 : Int} {α : Type} {d : Kd α} {e : Nat} {base : Nat} {ok : Nat → Prop} {v : Value} {xs : List α} (h : IsS70 w0 W g f0 f1) (ho : d.R e W base ok v xs) (ht : e ≠ 70) : some g ≠ v.ownBlock := by
  obtain ⟨hb, hg⟩ := h
  exact Kd.R_ne ho hb ht
theorem IsS70.apartQ {w0 W : World} {g : Nat} {f0 : ByteArray} {f1 : Int} {α : Type} {d : Kd α} {e : Nat} {base : Nat} {ok : Nat → Prop} {v : Value} {xs : List α} (h : IsS70 w0 W g f0 f1) (ho : d.Q e W base ok v xs) (ht : ∀ q, q ∈ e :: d.E → q ≠ 70) : d.Q e W base (fun k => ok k ∧ k ≠ g) v xs := by
  obtain ⟨hb, hg⟩ := h
  exact Kd.Q_types ho hb ht
theorem IsS70.own_neQ {w0 W : World} {g : Nat} {f0 : ByteArray} {f1 : Int} {α : Type} {d : Kd α} {e : Nat} {base : Nat} {ok : Nat → Prop} {v : Value} {xs : List α} (h : IsS70 w0 W g f0 f1) (ho : d.Q e W base ok v xs) (ht : e ≠ 70) : some g ≠ v.ownBlock := by
  obtain ⟨hb, hg⟩ := h
  exact Kd.Q_ne ho hb ht
theorem IsS70.apartS {w0 W : World} {g : Nat} {f0 : ByteArray} {f1 : Int} {α : Type} {d : Kd α} {e : Nat} {base : Nat} {ok : Nat → Prop} {v : Value} {xs : List α} (h : IsS70 w0 W g f0 f1) (ho : d.S e W base ok v xs) (ht : ∀ q, q ∈ e :: d.E → q ≠ 70) : d.S e W base (fun k => ok k ∧ k ≠ g) v xs := by
  obtain ⟨hb, hg⟩ := h
  exact Kd.S_types ho hb ht
theorem IsS70.own_neS {w0 W : World} {g : Nat} {f0 : ByteArray} {f1 : Int} {α : Type} {d : Kd α} {e : Nat} {base : Nat} {ok : Nat → Prop} {v : Value} {xs : List α} (h : IsS70 w0 W g f0 f1) (ho : d.S e W base ok v xs) (ht : e ≠ 70) : some g ≠ v.ownBlock := by
  obtain ⟨hb, hg⟩ := h
  exact Kd.S_ne ho hb ht
theorem IsS70.lt {w0 W : World} {g : Nat} {f0 : ByteArray} {f1 : Int} (h : IsS70 w0 W g f0 f1) : g < W.heap.size := by
  obtain ⟨hb, hg⟩ := h
  exact blk_lt hb
theorem IsS70.ge {w0 W : World} {g : Nat} {f0 : ByteArray} {f1 : Int} (h : IsS70 w0 W g f0 f1) : w0.heap.size ≤ g := by
  obtain ⟨hb, hg⟩ := h
  exact hg
theorem IsS70.ne_blk {w0 W : World} {g : Nat} {f0 : ByteArray} {f1 : Int} {a : Nat} {cs : Array Value} {t : TypeId} {fr : Nat × Nat} (h : IsS70 w0 W g f0 f1) (hb2 : W.heap[a]? = some (.cells cs t fr)) (ht : t ≠ 70) : g ≠ a := by
  obtain ⟨hb, hg⟩ := h
  rintro rfl
  rw [hb] at hb2
  injection hb2 with hb2
  injection hb2 with _ ht2
  exact ht ht2.symm
theorem IsS70.far {w0 W : World} {g : Nat} {f0 : ByteArray} {f1 : Int} {p : Addr} (h : IsS70 w0 W g f0 f1) (hne : g ≠ p.block) (u : Value) : IsS70 w0 (W.setCell p u) g f0 f1 := by
  obtain ⟨hb, hg⟩ := h
  exact ⟨blk_far hb hne u, hg⟩
theorem cellS70_0 {W : World} {g : Nat} {f0 : ByteArray} {f1 : Int} (h : W.heap[g]? = some (.cells #[.string f0, .int .i64 f1] 70 (0, 0))) : W.cell? ⟨g, 0, none⟩ = some (.string f0) := (blk_cell h 0).trans rfl
theorem IsS70.set_0 {w0 W : World} {g : Nat} {f0 : ByteArray} {f1 : Int} (h : IsS70 w0 W g f0 f1) (x : ByteArray) : IsS70 w0 (W.setCell ⟨g, 0, none⟩ (.string x)) g x f1 := by
  obtain ⟨hb, hg⟩ := h
  exact ⟨by simpa using blk_set hb 0 (.string x), hg⟩
theorem cellS70_1 {W : World} {g : Nat} {f0 : ByteArray} {f1 : Int} (h : W.heap[g]? = some (.cells #[.string f0, .int .i64 f1] 70 (0, 0))) : W.cell? ⟨g, 1, none⟩ = some (.int .i64 f1) := (blk_cell h 1).trans rfl
theorem IsS70.set_1 {w0 W : World} {g : Nat} {f0 : ByteArray} {f1 : Int} (h : IsS70 w0 W g f0 f1) (x : Int) : IsS70 w0 (W.setCell ⟨g, 1, none⟩ (.int .i64 x)) g f0 x := by
  obtain ⟨hb, hg⟩ := h
  exact ⟨by simpa using blk_set hb 1 (.int .i64 x), hg⟩
theorem IsS70.new (w0 W : World) (f0 : ByteArray) (f1 : Int) (hB : Below w0.heap.size w0 W) : IsS70 w0 (W.alloc (.cells #[.string f0, .int .i64 f1] 70)) W.heap.size f0 f1 := ⟨by simpa using heap_alloc_new W _, hB.size⟩

/-! ### cornucopiaref1_Reader_Fail: function 60 -/
def cornucopiaref1_Reader_Fail.f (s0_0 : ByteArray) (s0_1 : Int) (a1 : Int) : Option (ByteArray × Int) := if s0_1 = 0 then (some (s0_0, a1)) else (some (s0_0, s0_1))
set_option maxHeartbeats 8000000 in
set_option maxRecDepth 100000 in
theorem cornucopiaref1_Reader_Fail.calls (g : Nat) (s0_0 : ByteArray) (s0_1 : Int) (a1 : Int) (r1 : ByteArray) (r2 : Int) (w0 w : World) (hI : IsS70 w0 w g s0_0 s0_1) (hB : Below w0.heap.size w0 w) (h : cornucopiaref1_Reader_Fail.f s0_0 s0_1 a1 = some (r1, r2)) :
    Calls Try.prog 60 #[.pointer (some ⟨g, 0, none⟩), .int .i64 a1] w fun e w' => e = .returned (.tuple #[]) ∧ IsS70 w0 w' g r1 r2 ∧ Below w0.heap.size w0 w' ∧ KeepBut w w' g none := by
  have HI0 := Aside0.mk hI
  have HK := Aside0.mk (KeepBut.refl w g none)
  have HL := Aside0.mk hB.size
  clear hI
  have HW0 := Aside0.mk hB.size
  have HB := Aside0.mk hB
  clear hB
  have H : (if s0_1 = 0 then (some (s0_0, a1)) else (some (s0_0, s0_1))) = some (r1, r2) := h
  clear h
  by_cases c3 : s0_1 = 0
  · rw [if_pos c3] at H
    have c3b0 : (s0_1 == 0) = true := beq_iff_eq.mpr c3
    have c3b1 : (s0_1 != 0) = false := bne_eq_false_iff_eq.mpr c3
    clear c3
    simp only [Option.some.injEq, Prod.mk.injEq] at H
    obtain ⟨rfl, rfl⟩ := H
    obtain ⟨HGz4, hgz4⟩ := HI0.out
    have hcz4_0 := cellS70_0 HGz4
    have hcz4_1 := cellS70_1 HGz4
    have hfz4_0 := blk_frozen HGz4 0
    have hfz4_1 := blk_frozen HGz4 1
    clear HGz4 hgz4
    go_enter Try.func60, Try.ntmps60
    go_wp2
    first | go_end0 | ((try simp only [Exit.inBlock, Exit.then]); refine bodyPost_ret (results_none rfl _ _ _) rfl ?_)
    exact ⟨by first | rfl | (simp [errW_none, errW_some] <;> rfl) | (simp [*, errW_none, errW_some] <;> rfl), by repeat (first | (with_reducible first | exact HI0.out | apply IsS70.alloc | apply IsS70.drewN | apply IsS70.drew | apply IsS70.set_0 | apply IsS70.set_1) | exact HI0.out), by repeat (first | (with_reducible first | exact HB.out | apply below_alloc | apply pw_below_drewN | apply below_drew1 | refine below_set ?_ (IsS70.ge HI0.out)) | exact HB.out), by repeat (first | (with_reducible first | exact HK.out | apply KeepBut.set_ | apply keep_drewN | apply keep_drew | apply keep_alloc) | exact HK.out)⟩
  · rw [if_neg c3] at H
    have c3b0 : (s0_1 == 0) = false := beq_eq_false_iff_ne.mpr c3
    have c3b1 : (s0_1 != 0) = true := bne_iff_ne.mpr c3
    simp only [Option.some.injEq, Prod.mk.injEq] at H
    obtain ⟨rfl, rfl⟩ := H
    obtain ⟨HGz5, hgz5⟩ := HI0.out
    have hcz5_0 := cellS70_0 HGz5
    have hcz5_1 := cellS70_1 HGz5
    have hfz5_0 := blk_frozen HGz5 0
    have hfz5_1 := blk_frozen HGz5 1
    clear HGz5 hgz5
    go_enter Try.func60, Try.ntmps60
    go_wp2
    first | go_end0 | ((try simp only [Exit.inBlock, Exit.then]); refine bodyPost_ret (results_none rfl _ _ _) rfl ?_)
    exact ⟨by first | rfl | (simp [errW_none, errW_some] <;> rfl) | (simp [*, errW_none, errW_some] <;> rfl), by repeat (first | (with_reducible first | exact HI0.out | apply IsS70.alloc | apply IsS70.drewN | apply IsS70.drew | apply IsS70.set_0 | apply IsS70.set_1) | exact HI0.out), by repeat (first | (with_reducible first | exact HB.out | apply below_alloc | apply pw_below_drewN | apply below_drew1 | refine below_set ?_ (IsS70.ge HI0.out)) | exact HB.out), by repeat (first | (with_reducible first | exact HK.out | apply KeepBut.set_ | apply keep_drewN | apply keep_drew | apply keep_alloc) | exact HK.out)⟩

end Go.Proofs.Ytkpjipfjhniddaa.PNum
