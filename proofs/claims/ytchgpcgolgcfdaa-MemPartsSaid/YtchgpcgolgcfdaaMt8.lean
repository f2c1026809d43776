/- MemParts, walked. -/
import Derived.Test.YtchgpcgolgcfdaaMt7
import Derived.Test.YtchgpcgolgcfdaaWPu
import Derived.Deep.DeepCutAuto
import Derived.Deep.QuietTactic
import Derived.WalkLawsBesides
import Derived.Test.YtchgpcgolgcfdaaPNumx7
namespace Go.Proofs.Ytchgpcgolgcfdaa.Mt
open Go Go.RowKit Go.Proofs.Ytchgpcgolgcfdaa.PNum Go.Proofs.Ytchgpcgolgcfdaa.RkM Go.Proofs.Ytchgpcgolgcfdaa.Rk Go.Proofs.Ytchgpcgolgcfdaa.BkW Go.Proofs.YtchgpcgolgcfdaaW.PrintWords Go.Proofs.YtchgpcgolgcfdaaW.PrintLast Go.Proofs.YtchgpcgolgcfdaaW.PrintMore Go.Proofs.YtchgpcgolgcfdaaW.Pu
set_option linter.unusedVariables false
set_option linter.unusedSimpArgs false
theorem dw_dw {p q : E → Bool} (h : ∀ x, p x = true → q x = true) : ∀ l : List E, (l.dropWhile p).dropWhile q = l.dropWhile q
  | [] => rfl
  | x :: r => by
    by_cases hp : p x = true
    · rw [List.dropWhile_cons, if_pos hp, dw_dw h r, List.dropWhile_cons, if_pos (h x hp)]
    · rw [List.dropWhile_cons, if_neg hp]
theorem tw_tw {q r : E → Bool} (h : ∀ x, q x = true → r x = true) : ∀ l : List E, l.takeWhile q ++ (l.dropWhile q).takeWhile r = l.takeWhile r
  | [] => rfl
  | x :: t => by
    by_cases hq : q x = true
    · rw [List.takeWhile_cons, if_pos hq, List.dropWhile_cons, if_pos hq, List.cons_append, tw_tw h t, List.takeWhile_cons, if_pos (h x hq)]
    · rw [List.takeWhile_cons, if_neg hq, List.dropWhile_cons, if_neg hq, List.nil_append]
theorem lt_mono {a b : ByteArray} (h : (!(Op.bytesLess a.toList b.toList || a.toList == b.toList)) = false) (x : E) (k : lt a x = true) : lt b x = true := by
  rw [Bool.not_eq_false', Bool.or_eq_true_iff] at h
  rcases h with h | h
  · have h1 : lt b ⟨a, 0, 0, ⟨#[]⟩⟩ = true := h
    rw [lt_cb] at h1 k ⊢
    exact decide_eq_true (cb_trans (of_decide_eq_true k) (of_decide_eq_true h1))
  · have : a = b := PuIkC.tl_ext.1 (beq_iff_eq.1 h)
    rw [← this]
    exact k
theorem rangeL_parts {a b c : ByteArray} (h1 : b ≠ ⟨#[]⟩) (h2 : c ≠ ⟨#[]⟩) (hab : ∀ x, lt a x = true → lt b x = true) (hbc : ∀ x, lt b x = true → lt c x = true) (l : List E) : rangeL a b l ++ rangeL b c l = rangeL a c l := by
  unfold rangeL
  rw [if_neg h1, if_neg h2, if_neg h2]
  unfold fromL
  rw [← dw_dw hab l]
  exact tw_tw hbc _
theorem rangeL_len (a b : ByteArray) (l : List E) : (rangeL a b l).length ≤ l.length := by
  unfold rangeL fromL
  split
  · exact (List.dropWhile_sublist _).length_le
  · exact Nat.le_trans (List.takeWhile_sublist _).length_le (List.dropWhile_sublist _).length_le
theorem same_l (l : List E) (hl : l.length ≤ 1000000) : ∀ (d i : Nat), i + d = l.length → ∀ k, d < k → cornucopiabook_SameEntries.l0 k l l (i : Int) = some true
  | 0, i, hi, k, hk => by
    obtain ⟨k, rfl⟩ : ∃ m, k = m + 1 := ⟨k - 1, by omega⟩
    rw [cornucopiabook_SameEntries.l0, if_neg (by omega)]
  | d + 1, i, hi, k, hk => by
    obtain ⟨k, rfl⟩ : ∃ m, k = m + 1 := ⟨k - 1, by omega⟩
    rw [cornucopiabook_SameEntries.l0, if_pos (by omega), if_pos (by omega), if_pos (by omega), if_pos (by simp), wrap64_id (by omega)]
    exact same_l l hl d (i + 1) (by omega) k (by omega)
theorem same_ev (l : List E) (hl : l.length ≤ 1000000) {k : Nat} (hk : l.length < k) : cornucopiabook_SameEntries.f k l l = some true := by
  rw [cornucopiabook_SameEntries.f, if_pos rfl]
  exact same_l l hl l.length 0 (by omega) k hk
theorem sameE {w : World} {A A' : Option Addr} {n c n' c' : Nat} {xs : List E} (hn : n = xs.length) (hn' : n' = xs.length) (h1 : Rw w 29 4 (.slice A n c) n (encL encE xs)) (h2 : Rw w 29 4 (.slice A' n' c') n' (encL encE xs)) (hx : xs.length ≤ 1000000) :
    Calls Try.prog 13 #[.slice A n c, .slice A' n' c'] w fun e w' => e = .returned (.bool true) ∧ Below w.heap.size w w' := by
  subst hn
  subst hn'
  obtain ⟨_, _, e1, g1⟩ := h1.slice
  obtain ⟨_, _, e2, g2⟩ := h2.slice
  injection e1 with _ _ e1
  injection e2 with _ _ e2
  exact (cornucopiabook_SameEntries.calls (xs.length + 1) A c xs A' c' xs true w (flatE.to_C h1 rfl) (by omega) (flatE.to_C h2 rfl) (by omega) (same_ev xs hx (Nat.lt_succ_self _))).mono (fun e w' h => ⟨h.1, h.2.below⟩)
theorem infoE : (Try.prog.info? 29).map (fun i => (i.zero, i.size, i.bytes)) = some (some (.agg #[.string ⟨#[]⟩, .int .u64 0, .int .i64 0, .string ⟨#[]⟩]), 4, 48) := by kernel_rfl
section
variable {P : Program} {ops : Array Oper} {rest : List Oper} {o : Oper} {a : Act} {Q : Exit → Act → World → Prop} {α : Type} {d : Kd α} {enc : α → List Value}
/-- append(v, ys...) behind 'at_builtin'; nothing may be added. -/
theorem wp_append_rwa (hf : Flat d enc) {W : World} (hgd : o.guard = none) (s x : Operand) (t e : TypeId) (z : Value) (bytes : Nat)
    (ho : o.op = .call { callee := .builtin .append, args := #[s, x], argTypes := #[t, t] })
    (ht : P.underlying t = some (.slice e)) (hinfo : (P.info? e).map (fun i => (i.zero, i.size, i.bytes)) = some (some z, d.sz, bytes)) (hz : z.cells.size = d.sz) (hs0 : 0 < d.sz)
    (v : Value) (xs ys : List α) (A : Option Addr) (m c : Nat) (hs : a.eval s = v) (hx : a.eval x = .slice A m c) (HO : Rw W e d.sz v xs.length (encL enc xs)) (HR : d.C W A m ys)
    (hl : (xs.length + m) * bytes ≤ 140737488355328) (hl2 : xs.length + m ≤ maxLen)
    (h : ∀ v1 w1, Rw w1 e d.sz v1 (xs ++ ys).length (encL enc (xs ++ ys)) → W.grownBy w1 v.ownBlock → wpList P ops Q rest (a.put o.dst v1) w1) :
    wpList P ops Q (o :: rest) a W := by
  obtain ⟨i0, hi, hzz⟩ := Option.map_eq_some_iff.1 hinfo
  simp only [Prod.mk.injEq] at hzz
  obtain ⟨hz0, hz1, hz2⟩ := hzz
  have hn : ys.length = m := HR.1
  obtain ⟨v1, w1, hr, h1, h2, h3, h4⟩ := Rw.append_any (P := P) W t o.type e i0 z d.sz bytes ht hi hz0 hz1 hz2 hz hs0 v xs.length _ HO A m c (encL enc ys) (by rw [hf.lenL, hn]) (fun h0 => hf.news HR h0) (hf.one W) hl2 hl
  refine wpList_plain hgd fun K hK => ?_
  unfold Oper.wp execOp
  simp only [ho, resolve, invoke, builtin, Sem.run_bind, Sem.run_pure, Result.andThen_ok, List.map_toArray, List.map_cons, List.map_nil, hs, hx, hr]
  exact hK _ _ (h v1 w1 (by rw [List.length_append, hn, encL_append]; exact h1) h3)
end
/-- One of the two has a batch added; what is told, by name. -/
theorem pr_add' {w0 w : World} {g g2 : Nat} {d d2 : Value} {ds ds2 : List Int} {ns ns2 : List Nd} {sz sz2 last last2 : Int} (h : Pr w0 w g d ds ns sz last g2 d2 ds2 ns2 sz2 last2) (A : Option Addr) (c : Nat) (W : List S79) (first r er sz' last' : Int) (L : List E) (hC : Kd.C k79 w0 A W.length W) (hn : W.length ≤ 60) (hf : 0 ≤ first ∧ first ≤ 4611686018427387904) (hs : 0 ≤ sz ∧ sz ≤ 4611686018427387904) (hl : ns.length < 900000) (hd : ds.length ≤ 1000000)
    (hr : r = if good W first last = true then first + W.length else 0) (he : er = if good W first last = true then 0 else 1) (hsz : sz' = if good W first last = true then sizeL W sz else sz) (hla : last' = if good W first last = true then first + W.length - 1 else last) (hL : L = if good W first last = true then addL first 0 W (ns.map (·.e)) else ns.map (·.e)) :
    Calls Try.prog 18 #[.pointer (some ⟨g, 0, none⟩), .int .u64 first, .slice A W.length c] w fun e w' => e = .returned (.tuple #[.int .u64 r, .int .i64 er]) ∧ ∃ ns', Pr w0 w' g d ds ns' sz' last' g2 d2 ds2 ns2 sz2 last2 ∧ ns'.map (·.e) = L := by
  subst hr he hsz hla hL
  exact pr_add h A c W first hC hn hf hs hl hd
/-- A call of Range leaves both. -/
theorem opcell {w : World} {A : Option Addr} {l : List S45} (hC : Kd.C k45 w A l.length l) {i : Nat} (hi : i < l.length) : ∃ ad A1 c1, A = some ad ∧ (∀ V, Below w.heap.size w V → V.cell? ⟨(ad.add (i * 5)).block, (ad.add (i * 5)).off + 1, none⟩ = some (.slice A1 l[i].f1.length c1)) ∧ l[i].f1.length ≤ c1 ∧ Kd.C k79 w A1 l[i].f1.length l[i].f1 := by
  obtain ⟨ad, A1, c1, e0, y0, y1, y2, y3, y4, y5, y6⟩ := at_T45 hC (i : Int) (Int.natCast_nonneg _) (Int.ofNat_lt.mpr hi)
  have hx : rd_T45 l (i : Int) = l[i] := by simp [rd_T45, hi]
  rw [hx] at y1 y5 y6
  simp only [Int.toNat_natCast] at y1
  exact ⟨ad, A1, c1, e0, fun V hb => pw_cell_below hb y1, y5, y6⟩
/-- What the loop carries. -/
structure Ml (w w' : World) (l4 : List Int) (g : Nat) (d : Value) (g2 : Nat) (d2 : Value) (ns ns2 : List Nd) (sz last next : Int) (i : Nat) : Prop where
  p : Pr w w' g d [] ns sz last g2 d2 l4 ns2 sz last
  m : ns.map (·.e) = ns2.map (·.e)
  ln : ns.length ≤ 20 * i
  sz_ : 0 ≤ sz ∧ sz ≤ 4611686018427387904
  nx : 1 ≤ next ∧ next ≤ 4611686018427387904
theorem Ml.below {w w' w1 : World} {l4 : List Int} {g g2 : Nat} {d d2 : Value} {ns ns2 : List Nd} {sz last next : Int} {i : Nat} (h : Ml w w' l4 g d g2 d2 ns ns2 sz last next i) (hb : Below w'.heap.size w' w1) : Ml w w1 l4 g d g2 d2 ns ns2 sz last next i := ⟨h.p.below hb, h.m, h.ln, h.sz_, h.nx⟩
theorem Ml.len2 {w w' : World} {l4 : List Int} {g g2 : Nat} {d d2 : Value} {ns ns2 : List Nd} {sz last next : Int} {i : Nat} (h : Ml w w' l4 g d g2 d2 ns ns2 sz last next i) : ns2.length = ns.length := by
  have := congrArg List.length h.m
  simpa using this.symm
/-- A block that is new grows. -/
theorem Ml.grown {w w' w1 : World} {l4 : List Int} {g g2 : Nat} {d d2 : Value} {ns ns2 : List Nd} {sz last next : Int} {i : Nat} {row : Option Nat} {V0 : World} (h : Ml w w' l4 g d g2 d2 ns ns2 sz last next i) (h0 : Ml w V0 l4 g d g2 d2 ns ns2 sz last next i) (hg : w'.grownBy w1 row) (hr : ∀ k, row = some k → V0.heap.size ≤ k) : Ml w w1 l4 g d g2 d2 ns ns2 sz last next i := by
  have hx : ∀ k, k < V0.heap.size → k < w'.heap.size → w1.heap[k]? = w'.heap[k]? := fun k hk hk2 => hg.block k hk2 (fun e => by have := hr k e.symm; omega)
  refine ⟨⟨h.p.a.far (fun k hk => hx k (h0.p.a.lt k hk) (h.p.a.lt k hk)), h.p.b.far (fun k hk => hx k (h0.p.b.lt k hk) (h.p.b.lt k hk)), h.p.ap, h.p.bel.grown hg h.p.bel.size (fun k hk => Nat.le_trans h0.p.bel.size (hr k hk))⟩, h.m, h.ln, h.sz_, h.nx⟩
theorem Ml.rangeA {w w' : World} {l4 : List Int} {g g2 : Nat} {d d2 : Value} {ns ns2 : List Nd} {sz last next : Int} {i : Nat} (h : Ml w w' l4 g d g2 d2 ns ns2 sz last next i) (hi : i ≤ 20) (a b : ByteArray) (X : List E) (hX : X = rangeL a b (ns.map (·.e))) :
    Calls Try.prog 19 #[.pointer (some ⟨g, 0, none⟩), .string a, .string b] w' fun e w1 => ∃ A c, e = .returned (.slice A X.length c) ∧ Rw w1 29 4 (.slice A X.length c) X.length (encL encE X) ∧ (∀ k, (Value.slice A X.length c).ownBlock = some k → w'.heap.size ≤ k) ∧ Below w'.heap.size w' w1 := by
  subst hX
  refine (range_calls h.p.a a b (by have := h.ln; omega)).mono ?_
  rintro e w1 ⟨v, rfl, hv, hb⟩
  obtain ⟨A, c, rfl, _⟩ := hv.r.slice
  exact ⟨A, c, rfl, hv.r, hv.base, hb⟩
theorem Ml.rangeB {w w' : World} {l4 : List Int} {g g2 : Nat} {d d2 : Value} {ns ns2 : List Nd} {sz last next : Int} {i : Nat} (h : Ml w w' l4 g d g2 d2 ns ns2 sz last next i) (hi : i ≤ 20) (a b : ByteArray) (X : List E) (hX : X = rangeL a b (ns.map (·.e))) :
    Calls Try.prog 19 #[.pointer (some ⟨g2, 0, none⟩), .string a, .string b] w' fun e w1 => ∃ A c, e = .returned (.slice A X.length c) ∧ Rw w1 29 4 (.slice A X.length c) X.length (encL encE X) ∧ (∀ k, (Value.slice A X.length c).ownBlock = some k → w'.heap.size ≤ k) ∧ Below w'.heap.size w' w1 := by
  subst hX
  rw [h.m]
  refine (range_calls h.p.b a b (by have := h.ln; have := h.len2; omega)).mono ?_
  rintro e w1 ⟨v, rfl, hv, hb⟩
  obtain ⟨A, c, rfl, _⟩ := hv.r.slice
  exact ⟨A, c, rfl, hv.r, hv.base, hb⟩
set_option maxHeartbeats 16000000 in
set_option maxRecDepth 100000 in
theorem parts_calls (A0 : Option Addr) (c0 : Nat) (l0 : List S45) (a1 a2 a3 : ByteArray) (A4 : Option Addr) (c4 : Nat) (l4 : List Int) (w : World) (hr0 : Kd.C k45 w A0 l0.length l0) (hc0 : l0.length ≤ c0) (hr4 : Kd.C (Kd.int .i64) w A4 l4.length l4) (hc4 : l4.length ≤ c4) :
    Calls Try.prog 6 #[.slice A0 l0.length c0, .string a1, .string a2, .string a3, .slice A4 l4.length c4] w fun e w' => e = .returned (.bool true) ∧ Below w.heap.size w w' := by
  have HR0 := Aside0.mk hr0
  have HC0 := Aside0.mk hc0
  have HR4 := Aside0.mk hr4
  have HC4 := Aside0.mk hc4
  clear hr0 hc0 hr4 hc4
  have HB := Aside0.mk (Below.refl w.heap.size w)
  have al : ∀ (b0 b1 b2 b3 b4 b5 b6 b7 b8 : Bool), decide (20 < (l0.length : Int)) = b0 → decide (20 < l0.length) = b0 → decide (20 < (l4.length : Int)) = b1 → decide (20 < l4.length) = b1 → decide (300 < (a1.size : Int)) = b2 → decide (300 < a1.size) = b2 → decide (300 < (a2.size : Int)) = b3 → decide (300 < a2.size) = b3 → decide (300 < (a3.size : Int)) = b4 → decide (300 < a3.size) = b4 → (a2.toList == ([] : List UInt8)) = b5 → (a3.toList == ([] : List UInt8)) = b6 → (!(Op.bytesLess a1.toList a2.toList || a1.toList == a2.toList)) = b7 → (!(Op.bytesLess a2.toList a3.toList || a2.toList == a3.toList)) = b8 → (b0 || b1 || b2 || b3 || b4 || b5 || b6 || b7 || b8) = true → Calls Try.prog 6 #[.slice A0 l0.length c0, .string a1, .string a2, .string a3, .slice A4 l4.length c4] w fun e w' => e = .returned (.bool true) ∧ Below w.heap.size w w' := by
    intro b0 b1 b2 b3 b4 b5 b6 b7 b8 h0 k0 h1 k1 h2 k2 h3 k3 h4 k4 h5 h6 h7 h8 hh
    cases b0
    case true =>
      clear hh
      clear h1 k1
      clear h2 k2
      clear h3 k3
      clear h4 k4
      clear h5
      clear h6
      clear h7
      clear h8
      go_enter Try.func6, Try.ntmps6
      go_wp2_with (first | (go_at_call 16; refine (alive_calls _).mono ?_; rintro e w9 ⟨rfl, hb⟩; have n0_ := Aside0.mk (below_step HB.out hb); clear HB; have HB := n0_; clear n0_; clear hb))
      go_ret
      exact ⟨rfl, HB.out⟩
    case false =>
      cases b1
      case true =>
        clear hh
        clear h2 k2
        clear h3 k3
        clear h4 k4
        clear h5
        clear h6
        clear h7
        clear h8
        go_enter Try.func6, Try.ntmps6
        go_wp2_with (first | (go_at_call 16; refine (alive_calls _).mono ?_; rintro e w9 ⟨rfl, hb⟩; have n0_ := Aside0.mk (below_step HB.out hb); clear HB; have HB := n0_; clear n0_; clear hb))
        go_ret
        exact ⟨rfl, HB.out⟩
      case false =>
        cases b2
        case true =>
          clear hh
          clear h3 k3
          clear h4 k4
          clear h5
          clear h6
          clear h7
          clear h8
          go_enter Try.func6, Try.ntmps6
          go_wp2_with (first | (go_at_call 16; refine (alive_calls _).mono ?_; rintro e w9 ⟨rfl, hb⟩; have n0_ := Aside0.mk (below_step HB.out hb); clear HB; have HB := n0_; clear n0_; clear hb))
          go_ret
          exact ⟨rfl, HB.out⟩
        case false =>
          cases b3
          case true =>
            clear hh
            clear h4 k4
            clear h5
            clear h6
            clear h7
            clear h8
            go_enter Try.func6, Try.ntmps6
            go_wp2_with (first | (go_at_call 16; refine (alive_calls _).mono ?_; rintro e w9 ⟨rfl, hb⟩; have n0_ := Aside0.mk (below_step HB.out hb); clear HB; have HB := n0_; clear n0_; clear hb))
            go_ret
            exact ⟨rfl, HB.out⟩
          case false =>
            cases b4
            case true =>
              clear hh
              clear h5
              clear h6
              clear h7
              clear h8
              go_enter Try.func6, Try.ntmps6
              go_wp2_with (first | (go_at_call 16; refine (alive_calls _).mono ?_; rintro e w9 ⟨rfl, hb⟩; have n0_ := Aside0.mk (below_step HB.out hb); clear HB; have HB := n0_; clear n0_; clear hb))
              go_ret
              exact ⟨rfl, HB.out⟩
            case false =>
              cases b5
              case true =>
                clear hh
                clear h6
                clear h7
                clear h8
                go_enter Try.func6, Try.ntmps6
                go_wp2_with (first | (go_at_call 16; refine (alive_calls _).mono ?_; rintro e w9 ⟨rfl, hb⟩; have n0_ := Aside0.mk (below_step HB.out hb); clear HB; have HB := n0_; clear n0_; clear hb))
                go_ret
                exact ⟨rfl, HB.out⟩
              case false =>
                cases b6
                case true =>
                  clear hh
                  clear h7
                  clear h8
                  go_enter Try.func6, Try.ntmps6
                  go_wp2_with (first | (go_at_call 16; refine (alive_calls _).mono ?_; rintro e w9 ⟨rfl, hb⟩; have n0_ := Aside0.mk (below_step HB.out hb); clear HB; have HB := n0_; clear n0_; clear hb))
                  go_ret
                  exact ⟨rfl, HB.out⟩
                case false =>
                  cases b7
                  case true =>
                    clear hh
                    clear h8
                    go_enter Try.func6, Try.ntmps6
                    go_wp2_with (first | (go_at_call 16; refine (alive_calls _).mono ?_; rintro e w9 ⟨rfl, hb⟩; have n0_ := Aside0.mk (below_step HB.out hb); clear HB; have HB := n0_; clear n0_; clear hb))
                    go_ret
                    exact ⟨rfl, HB.out⟩
                  case false =>
                    cases b8
                    case true =>
                      clear hh
                      go_enter Try.func6, Try.ntmps6
                      go_wp2_with (first | (go_at_call 16; refine (alive_calls _).mono ?_; rintro e w9 ⟨rfl, hb⟩; have n0_ := Aside0.mk (below_step HB.out hb); clear HB; have HB := n0_; clear n0_; clear hb))
                      go_ret
                      exact ⟨rfl, HB.out⟩
                    case false =>
                      cases hh
  by_cases hcond : (decide (20 < (l0.length : Int)) || decide (20 < (l4.length : Int)) || decide (300 < (a1.size : Int)) || decide (300 < (a2.size : Int)) || decide (300 < (a3.size : Int)) || (a2.toList == ([] : List UInt8)) || (a3.toList == ([] : List UInt8)) || (!(Op.bytesLess a1.toList a2.toList || a1.toList == a2.toList)) || (!(Op.bytesLess a2.toList a3.toList || a2.toList == a3.toList))) = true
  · exact al _ _ _ _ _ _ _ _ _ rfl (decide_eq_decide.2 (by omega)) rfl (decide_eq_decide.2 (by omega)) rfl (decide_eq_decide.2 (by omega)) rfl (decide_eq_decide.2 (by omega)) rfl (decide_eq_decide.2 (by omega)) rfl rfl rfl rfl hcond
  clear al
  simp only [Bool.or_eq_true, not_or, Bool.not_eq_true] at hcond
  obtain ⟨⟨⟨⟨⟨⟨⟨⟨h0, h1⟩, h2⟩, h3⟩, h4⟩, h5⟩, h6⟩, h7⟩, h8⟩ := hcond
  have hl0 : l0.length ≤ 20 := by have := of_decide_eq_false h0; omega
  have hl4 : l4.length ≤ 20 := by have := of_decide_eq_false h1; omega
  have k0 : decide (20 < l0.length) = false := decide_eq_false (by omega)
  have k1 : decide (20 < l4.length) = false := decide_eq_false (by omega)
  have k2 : decide (300 < a1.size) = false := decide_eq_false (by have := of_decide_eq_false h2; omega)
  have k3 : decide (300 < a2.size) = false := decide_eq_false (by have := of_decide_eq_false h3; omega)
  have k4 : decide (300 < a3.size) = false := decide_eq_false (by have := of_decide_eq_false h4; omega)
  have HL0 := Aside0.mk hl0
  have HL4 := Aside0.mk hl4
  have HN2 : Aside0 (a2 ≠ ⟨#[]⟩) := ⟨fun e => by rw [e, PuIkC.nil_toList] at h5; simp at h5⟩
  have HN3 : Aside0 (a3 ≠ ⟨#[]⟩) := ⟨fun e => by rw [e, PuIkC.nil_toList] at h6; simp at h6⟩
  have H7 := Aside0.mk h7
  have H8 := Aside0.mk h8
  clear hl0 hl4
  have TKA := Aside0.mk True.intro
  go_enter Try.func6, Try.ntmps6
  go_wp2_with (first
    | (go_at_call 17; have t_ := TKA; refine (new_calls w _ none 0 [] (Kd.C_nil _ _) (by simp) HB.out).mono ?_; rintro e w1 ⟨g, d, rfl, ht, _, hb⟩; have HTA := Aside0.mk ht; have n0_ := Aside0.mk (below_step HB.out hb); clear HB; have HB := n0_; clear n0_; clear hb; clear t_ TKA ht)
    | (go_at_call 17; refine (new_calls w _ A4 c4 l4 (Kd.C_below HR4.out HB.out) (by have := HL4.out; omega) HB.out).mono ?_; rintro e w2 ⟨g2, d2, rfl, ht2, hf2, hb⟩; have HM : Aside0 (Ml w w2 l4 g d g2 d2 [] [] 0 0 1 0) := ⟨⟨⟨HTA.out.below hb, ht2, fun k q1 q2 => (by have z1 := HTA.out.lt k q1; have z2 := hf2 k q2; omega), below_step HB.out hb⟩, rfl, Nat.zero_le _, by decide, by decide⟩⟩; clear HB HTA ht2 hf2 hb))
  go_loopw [13, 14] (fun v13 v14 w' => ∃ (i : Nat) (ns ns2 : List Nd) (sz last next : Int), v13 = .int .u64 next ∧ v14 = .int .i64 i ∧ i ≤ l0.length ∧ Aside0 (Ml w w' l4 g d g2 d2 ns ns2 sz last next i)) (fun _ v14 _ => l0.length - (intOf v14).toNat)
  case atStart => exact ⟨0, [], [], 0, 0, 1, rfl, rfl, Nat.zero_le _, HM⟩
  case round =>
    clear HM h0 h1 h2 h3 h4 h5 h6 h7 h8 k0 k1 k2 k3 k4
    obtain ⟨i, ns, ns2, sz, last, next, rfl, rfl, hi, HM⟩ := hrel
    have hi20 : i ≤ 20 := by have := HL0.out; omega
    have TKA := Aside0.mk True.intro
    by_cases hlt : i < l0.length
    · have p0 : (0 : Int) ≤ (i : Int) := Int.natCast_nonneg _
      have q0 : (i : Int) < (l0.length : Int) := Int.ofNat_lt.mpr hlt
      have t0 : decide ((i : Int) < (l0.length : Int)) = true := decide_eq_true q0
      obtain ⟨ad, A1, c1, e0, hY, hc1, hCW⟩ := opcell HR0.out hlt
      subst e0
      generalize l0[i].f1 = W at *
      have HY := Aside0.mk hY
      have HCW := Aside0.mk hCW
      clear hY hCW
      have y1 := HY.out _ HM.out.p.bel
      by_cases hW : 20 < W.length
      · have tW : decide (20 < (W.length : Int)) = true := decide_eq_true (by omega)
        have tW' : decide (20 < W.length) = true := decide_eq_true hW
        go_wp2_with (first | (go_at_call 16; refine (alive_calls _).mono ?_; rintro e w9 ⟨rfl, hb⟩; have n0_ := Aside0.mk (HM.out.below hb); clear HM; have HM := n0_; clear n0_; clear hb))
        go_ret
        exact ⟨rfl, HM.out.p.bel⟩
      · have tW : decide (20 < (W.length : Int)) = false := decide_eq_false (by omega)
        have tW' : decide (20 < W.length) = false := decide_eq_false hW
        obtain ⟨r, hr⟩ : ∃ r : Int, r = if good W next last = true then next + W.length else 0 := ⟨_, rfl⟩
        obtain ⟨er, her⟩ : ∃ er : Int, er = if good W next last = true then 0 else 1 := ⟨_, rfl⟩
        have HRR := Aside0.mk hr
        have HER := Aside0.mk her
        have HWL : Aside0 (W.length ≤ 20) := ⟨by omega⟩
        clear hr her hW
        have hne : (r != r) = false := bne_self_eq_false r
        have hne2 : (er != er) = false := bne_self_eq_false er
        have HLT := Aside0.mk hlt
        go_wp2_with (first
          | (go_at_call 18; have t_ := TKA; refine (pr_add' HM.out.p A1 c1 W next r er _ _ _ HCW.out (by have := HWL.out; omega) (by have := HM.out.nx; omega) HM.out.sz_ (by have := HM.out.ln; omega) (by simp) HRR.out HER.out rfl rfl rfl).mono ?_; rintro e w1 ⟨rfl, ns', hp, hm⟩; have HP1 := Aside0.mk hp; have HM1 := Aside0.mk hm; clear t_ TKA hp hm y1; have y1 := HY.out _ HP1.out.bel)
          | (go_at_call 18; refine (pr_add' HP1.out.swap A1 c1 W next r er _ _ _ HCW.out (by have := HWL.out; omega) (by have := HM.out.nx; omega) HM.out.sz_ (by have := HM.out.ln; have := HM.out.len2; omega) (by have := HL4.out; omega) HRR.out HER.out rfl rfl rfl).mono ?_; rintro e w2 ⟨rfl, ns2', hp, hm⟩; have HP2 := Aside0.mk hp.swap; have HM2 := Aside0.mk hm; clear hp hm y1 HP1))
        go_roundw
        case rel =>
          refine ⟨i + 1, ns', ns2', _, _, max next r, ?_, by go_num, by have := HLT.out; omega, ⟨⟨HP2.out, ?_, ?_, ?_, ?_⟩⟩⟩
          · first | rfl | (congr 1; omega)
          · rw [HM1.out, HM2.out, HM.out.m]
          · have z1 := congrArg List.length HM1.out
            have z2 := HM.out.ln
            have z3 := HWL.out
            simp only [List.length_map] at z1
            rw [z1]
            split
            · have z4 := addL_len next W 0 (ns.map (·.e))
              simp only [List.length_map] at z4
              omega
            · simp only [List.length_map]
              omega
          · split
            · exact sizeL_bound W sz HM.out.sz_
            · exact HM.out.sz_
          · have z1 := HM.out.nx
            have z2 := HRR.out
            by_cases hg : good W next last = true
            · rw [if_pos hg] at z2
              unfold good at hg
              have z3 := of_decide_eq_true (Bool.and_eq_true_iff.1 hg).2
              omega
            · rw [if_neg hg] at z2
              omega
        case measure => simp [intOf]; have := HLT.out; omega
    · obtain rfl : i = l0.length := by omega
      have t0 : decide ((l0.length : Int) < (l0.length : Int)) = false := decide_eq_false (by omega)
      obtain ⟨X1, hX1⟩ : ∃ X, X = rangeL a1 a2 (ns.map (·.e)) := ⟨_, rfl⟩
      obtain ⟨X2, hX2⟩ : ∃ X, X = rangeL a2 a3 (ns.map (·.e)) := ⟨_, rfl⟩
      obtain ⟨X3, hX3⟩ : ∃ X, X = rangeL a1 a3 (ns.map (·.e)) := ⟨_, rfl⟩
      have HX1 := Aside0.mk hX1
      have HX2 := Aside0.mk hX2
      have HX3 := Aside0.mk hX3
      have HXX : Aside0 (X1 ++ X2 = X3) := ⟨by rw [hX1, hX2, hX3]; exact rangeL_parts HN2.out HN3.out (lt_mono H7.out) (lt_mono H8.out) _⟩
      have HXL : Aside0 (X1.length ≤ 400 ∧ X2.length ≤ 400 ∧ X3.length ≤ 400) := ⟨by
        have z1 := rangeL_len a1 a2 (ns.map (·.e))
        have z2 := rangeL_len a2 a3 (ns.map (·.e))
        have z3 := rangeL_len a1 a3 (ns.map (·.e))
        have z4 := HM.out.ln
        simp only [List.length_map] at z1 z2 z3
        rw [hX1, hX2, hX3]
        omega⟩
      clear hX1 hX2 hX3 hlt hi
      have tsz : (sz == sz) = true := beq_self_eq_true _
      go_wp2_with (first
        | (go_at_call 19; have t_ := TKA; refine (HM.out.rangeA hi20 a1 a2 X1 HX1.out).mono ?_; rintro e w1 ⟨Aa, ca, rfl, hra, hfa, hb⟩; have HM0 := HM; have HRA := Aside0.mk hra; have HFA := Aside0.mk hfa; have n0_ := Aside0.mk (HM.out.below hb); clear t_ TKA HM hra hfa hb; have HM := n0_; clear n0_; have TKB := Aside0.mk True.intro)
        | (go_at_call 19; have t_ := TKB; refine (HM.out.rangeA hi20 a2 a3 X2 HX2.out).mono ?_; rintro e w2 ⟨Ab, cb_, rfl, hrb, hfb, hb⟩; have HRB := Aside0.mk hrb; have n0_ := Aside0.mk (HM.out.below hb); have n1_ := Aside0.mk (HRA.out.below hb); clear t_ TKB HM HRA hrb hfb hb; have HM := n0_; have HRA := n1_; clear n0_ n1_)
        | ((with_reducible refine gate_builtin (b := .append) (xs := #[.tmp 121, .tmp 125]) rfl ?_); at_builtin; refine wp_append_rwa flatE rfl (.tmp 121) (.tmp 125) 22 29 (.agg #[.string ⟨#[]⟩, .int .u64 0, .int .i64 0, .string ⟨#[]⟩]) 48 rfl Try.underlying22 infoE ?a1 ?a2 (.slice Aa X1.length ca) X1 X2 Ab X2.length cb_ rfl rfl ?a3 ?a4 ?a6 ?a7 ?_; (case a1 => rfl); (case a2 => decide); (case a3 => exact HRA.out); (case a4 => exact flatE.to_C HRB.out rfl); (case a6 => have := HXL.out; omega); (case a7 => unfold maxLen; have := HXL.out; omega); intro v1 w3 h1 hg; rw [HXX.out] at h1; obtain ⟨Ax, cx, rfl, _⟩ := h1.slice; have HRX := Aside0.mk h1; have n0_ := Aside0.mk (HM.out.grown HM0.out hg HFA.out); clear h1 hg HM HM0 HRA HRB HFA; have HM := n0_; clear n0_; have TKC := Aside0.mk True.intro)
        | (go_at_call 16; refine (alive_calls _).mono ?_; rintro e w4 ⟨rfl, hb⟩; have n0_ := Aside0.mk (HM.out.below hb); have n1_ := Aside0.mk (HRX.out.below hb); clear HM HRX; have HM := n0_; have HRX := n1_; clear n0_ n1_; clear hb)
        | (go_at_call 19; have t_ := TKC; refine (HM.out.rangeA hi20 a1 a3 X3 HX3.out).mono ?_; rintro e w5 ⟨Ac, cc, rfl, hrc, _, hb⟩; have HRC := Aside0.mk hrc; have n0_ := Aside0.mk (HM.out.below hb); have n1_ := Aside0.mk (HRX.out.below hb); clear t_ TKC HM HRX hrc hb; have HM := n0_; have HRX := n1_; clear n0_ n1_; have TKD := Aside0.mk True.intro)
        | (go_at_call 13; have t_ := TKD; refine (sameE rfl rfl HRX.out HRC.out (by have := HXL.out; omega)).mono ?_; rintro e w6 ⟨rfl, hb⟩; have n0_ := Aside0.mk (HM.out.below hb); clear t_ TKD HM HRX HRC hb; have HM := n0_; clear n0_; have TKE := Aside0.mk True.intro)
        | (go_at_call 19; have t_ := TKE; refine (HM.out.rangeA hi20 a1 a3 X3 HX3.out).mono ?_; rintro e w7 ⟨Ad, cd, rfl, hrd, _, hb⟩; have HRD := Aside0.mk hrd; have n0_ := Aside0.mk (HM.out.below hb); clear t_ TKE HM hrd hb; have HM := n0_; clear n0_; have TKF := Aside0.mk True.intro)
        | (go_at_call 19; have t_ := TKF; refine (HM.out.rangeB hi20 a1 a3 X3 HX3.out).mono ?_; rintro e w8 ⟨Ae, ce_, rfl, hre, _, hb⟩; have HRE := Aside0.mk hre; have n0_ := Aside0.mk (HM.out.below hb); have n1_ := Aside0.mk (HRD.out.below hb); clear t_ TKF HM HRD hre hb; have HM := n0_; have HRD := n1_; clear n0_ n1_)
        | (go_at_call 13; refine (sameE rfl rfl HRD.out HRE.out (by have := HXL.out; omega)).mono ?_; rintro e w10 ⟨rfl, hb⟩; have n0_ := Aside0.mk (HM.out.below hb); clear HM HRD HRE hb; have HM := n0_; clear n0_; have TKG := Aside0.mk True.intro)
        | (go_at_call 20; have t_ := TKG; refine (size_calls HM.out.p.a).mono ?_; rintro e w11 ⟨rfl, rfl⟩; clear t_ TKG)
        | (go_at_call 20; refine (size_calls HM.out.p.b).mono ?_; rintro e w12 ⟨rfl, rfl⟩))
      go_ret
      exact ⟨rfl, HM.out.p.bel⟩
end Go.Proofs.Ytchgpcgolgcfdaa.Mt
