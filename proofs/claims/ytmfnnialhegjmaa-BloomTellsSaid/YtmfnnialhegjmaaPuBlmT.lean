/- The document's own filters: they are those of bloom. -/
import Derived.Test.YtmfnnialhegjmaaPBlmx5
import Derived.Test.YtmfnnialhegjmaaPBlmx6
import Derived.Test.YtmfnnialhegjmaaPBlmx7
import Derived.Test.YtmfnnialhegjmaaPBlmx8
import Derived.Test.YtmfnnialhegjmaaPuBlm
namespace Go.Proofs.Ytmfnnialhegjmaa.PuBlmT
open Go Go.RowKit Go.Proofs.Ytmfnnialhegjmaa.PBlm Go.Proofs.Ytmfnnialhegjmaa.PuBlm Go.Proofs.YtmfnnialhegjmaaW.PrintWords Go.Proofs.YtmfnnialhegjmaaW.PrintLast Go.Proofs.YtmfnnialhegjmaaW.PrintMore Go.Proofs.YtmfnnialhegjmaaW.Pu
theorem xor_range (x y : Int) : 0 ≤ Go.bits .xor .u32 x y ∧ Go.bits .xor .u32 x y < 4294967296 := by
  have : Go.bits .xor .u32 x y = IntKind.u32.wrap (((BitVec.ofInt 32 x ^^^ BitVec.ofInt 32 y).toNat : Nat) : Int) := rfl
  rw [this]
  simp [IntKind.wrap, IntKind.bits, IntKind.signed]
  omega
theorem hfold_range : ∀ (l : List Int) (h : Int), 0 ≤ h ∧ h < 4294967296 → 0 ≤ hfold h l ∧ hfold h l < 4294967296
  | [], h, k => k
  | c :: l, h, _ => hfold_range l (hstep h c) (by unfold hstep; omega)
theorem RHash_l0 (s : ByteArray) (hs : s.size ≤ 9223372036854775806) (d : Nat) : ∀ (i : Nat) (h : Int), i + d = s.size → 0 ≤ h ∧ h < 4294967296 →
    Ev (fun k => cornucopiaref5_Hash.l0 k s h (i : Int)) (Go.bits .xor .u32 (hfold h ((bytesOf s).drop i)) (hfold h ((bytesOf s).drop i) / 32768)) := by
  induction d with
  | zero =>
    intro i h hi hh
    refine Ev.step (fun k => by rw [cornucopiaref5_Hash.l0]) (ev_neg (by omega) (ev_const ?_))
    rw [List.drop_of_length_le (by rw [bytesOf_length]; omega)]
    rw [Int.tdiv_eq_ediv_of_nonneg hh.1, show h / 32768 % 4294967296 = h / 32768 from by omega]
    rfl
  | succ d ih =>
    intro i h hi hh
    have hlt : i < s.size := by omega
    refine Ev.step (fun k => by rw [cornucopiaref5_Hash.l0, bt_nth s i hlt]) (ev_pos (by omega) (ev_pos (by omega) ?_))
    rw [List.drop_eq_getElem_cons (show i < (bytesOf s).length by rw [bytesOf_length]; exact hlt), wrap64_id (by omega), show ((i : Int) + 1) = ((i + 1 : Nat) : Int) from by omega]
    exact ih (i + 1) _ (by omega) (by omega)
theorem RHash_ev (s : ByteArray) (seed : Int) (hs : s.size ≤ 9223372036854775806) : Ev (fun k => cornucopiaref5_Hash.f k s seed) (hash s seed) := by
  have := RHash_l0 s hs s.size 0 (Go.bits .xor .u32 seed 2166136261) (by omega) (xor_range _ _)
  rw [List.drop_zero] at this
  exact this
theorem Rplaces_l0 (s : ByteArray) (q : Nat) (hq : q ≤ 255) {n : Int} (hn : 0 < n ∧ n ≤ 9223372036854775807) (d : Nat) : ∀ (i : Nat), i + d = q →
    Ev (fun k => cornucopiaref5_places.l0 k (q : Int) n ((List.range i).map (place s n)) (IntKind.u64.wrap (hash s 0)) (IntKind.u64.wrap (hash s 1)) (i : Int)) (pls s q n) := by
  induction d with
  | zero =>
    intro i hi
    obtain rfl : i = q := by omega
    refine Ev.step (fun k => by rw [cornucopiaref5_places.l0]) ?_
    exact ev_neg (by omega) (ev_const rfl)
  | succ d ih =>
    intro i hi
    refine Ev.step (fun k => by rw [cornucopiaref5_places.l0]) (ev_pos (by omega) (ev_neg (by omega) (ev_pos ?_ ?_)))
    · simp; omega
    rw [wrap64_id (by omega), show ((i : Int) + 1) = ((i + 1 : Nat) : Int) from by omega]
    have := ih (i + 1) (by omega)
    rw [List.range_succ, List.map_append] at this
    exact this
theorem Rplaces_ev (s : ByteArray) (hs : s.size ≤ 9223372036854775806) (q : Nat) (hq : q ≤ 255) {n : Int} (hn : 0 < n ∧ n ≤ 9223372036854775807) : Ev (fun k => cornucopiaref5_places.f k s (q : Int) n) (pls s q n) := by
  refine Ev.congr (fun k => by rw [cornucopiaref5_places.f]) (Ev.bind (RHash_ev s 0 hs) (Ev.bind (RHash_ev s 1 hs) ?_))
  exact Rplaces_l0 s q hq hn q 0 (by omega)
theorem sb_snoc (b : List Int) (x p : Int) (hp : 0 ≤ p ∧ p / 8 < b.length) : sb (b ++ [x]) p = sb b p ++ [x] := by
  unfold sb
  have h1 : (p / 8).toNat < b.length := by omega
  have h2 : rd (b ++ [x]) (p / 8) = rd b (p / 8) := by
    unfold rd
    rw [List.getD_eq_getElem?_getD, List.getD_eq_getElem?_getD, List.getElem?_append_left h1]
  rw [h2, List.set_append_left _ _ h1]
theorem sbs_snoc (x : Int) : ∀ (l b : List Int), (∀ p ∈ l, 0 ≤ p ∧ p / 8 < b.length) → sbs (b ++ [x]) l = sbs b l ++ [x]
  | [], b, _ => rfl
  | p :: l, b, h => by
    show sbs (sb (b ++ [x]) p) l = sbs (sb b p) l ++ [x]
    rw [sb_snoc b x p (h p List.mem_cons_self)]
    exact sbs_snoc x l (sb b p) (fun y hy => by rw [sb_len]; exact h y (List.mem_cons_of_mem _ hy))
theorem RMake_l1 (x1 n : Int) (hn : 0 ≤ n ∧ n ≤ 9223372036854775807 ∧ n % 8 = 0) (keys : List ByteArray) (i : Int) (P : List Int) (hP : ∀ p ∈ P, 0 ≤ p ∧ p < n) (hlen : P.length ≤ 255) (r : ByteArray × Int) (d : Nat) : ∀ (j : Nat) (b : List Int), j + d = P.length → (b.length : Int) = n / 8 →
    Ev (fun k => cornucopiaref5_Make.l0 k x1 keys n (sbs b (P.drop j)) (wrap64 (i + 1))) r → Ev (fun k => cornucopiaref5_Make.l1 k x1 keys n b i P (j : Int)) r := by
  induction d with
  | zero =>
    intro j b hj hb h
    rw [List.drop_of_length_le (by omega)] at h
    refine Ev.step (fun k => by rw [cornucopiaref5_Make.l1]) ?_
    exact ev_neg (by omega) h
  | succ d ih =>
    intro j b hj hb h
    have hlt : j < P.length := by omega
    have hp := hP P[j] (List.getElem_mem hlt)
    have e1 : IntKind.u64.wrap (Int.tdiv P[j] 8) = P[j] / 8 := by rw [Int.tdiv_eq_ediv_of_nonneg hp.1]; exact wu64_id (by omega)
    have e2 : Int.tmod P[j] 8 = P[j] % 8 := Int.tmod_eq_emod_of_nonneg hp.1
    refine Ev.step (fun k => by rw [cornucopiaref5_Make.l1, rd_nth P j hlt, e1, e2]) ?_
    refine ev_pos (by omega) (ev_pos (by omega) (ev_pos (by omega) (ev_pos (by omega) (ev_pos (by omega) ?_))))
    rw [wrap64_id (x := (j : Int) + 1) (by omega), show ((j : Int) + 1) = ((j + 1 : Nat) : Int) from by omega]
    rw [List.drop_eq_getElem_cons hlt] at h
    exact ih (j + 1) (sb b P[j]) (by omega) (by rw [sb_len]; exact hb) h
theorem RMake_l0 (q : Nat) (hq : 1 ≤ q ∧ q ≤ 20) (n : Int) (hn : 8 ≤ n ∧ n ≤ 1000000 ∧ n % 8 = 0) (keys : List ByteArray) (hk : ∀ s ∈ keys, s.size ≤ 9223372036854775806) (hl : keys.length ≤ 9223372036854775806) (d : Nat) : ∀ (i : Nat) (b : List Int), i + d = keys.length → (b.length : Int) = n / 8 →
    Ev (fun k => cornucopiaref5_Make.l0 k (q : Int) keys n b (i : Int)) (strOfNums ((sbs b ((keys.drop i).flatMap fun s => pls s q n)) ++ [(q : Int)]), 0) := by
  have e4 : IntKind.u64.wrap n = n := wu64_id (by omega)
  induction d with
  | zero =>
    intro i b hi hb
    rw [List.drop_of_length_le (by omega)]
    refine Ev.step (fun k => by rw [cornucopiaref5_Make.l0]) ?_
    refine ev_neg (by omega) (ev_pos (by omega) (ev_const ?_))
    rw [show ((q : Int) % 256) = q from by omega]
    rfl
  | succ d ih =>
    intro i b hi hb
    have hlt : i < keys.length := by omega
    refine Ev.step (fun k => by rw [cornucopiaref5_Make.l0, rdOf_nth keys i hlt, e4]) ?_
    refine ev_pos (by omega) (ev_pos (by omega) (Ev.bind (Rplaces_ev _ (hk _ (List.getElem_mem hlt)) q (by omega) (by omega)) ?_))
    refine RMake_l1 _ n (by omega) keys _ _ (pls_range _ q (by omega)) (by rw [pls_len]; omega) _ (pls keys[i] q n).length 0 b (by omega) hb ?_
    rw [wrap64_id (by omega), show ((i : Int) + 1) = ((i + 1 : Nat) : Int) from by omega, List.drop_zero]
    have := ih (i + 1) (sbs b (pls keys[i] q n)) (by omega) (by rw [sbs_len]; exact hb)
    rw [List.drop_eq_getElem_cons hlt, List.flatMap_cons]
    rw [show sbs b (pls keys[i] q n ++ (keys.drop (i + 1)).flatMap fun s => pls s q n) = sbs (sbs b (pls keys[i] q n)) ((keys.drop (i + 1)).flatMap fun s => pls s q n) from by simp [sbs]]
    exact this
theorem mk_snoc {q : Nat} {n : Int} (hn : 8 ≤ n ∧ n % 8 = 0) (keys : List ByteArray) : mk q n keys = sbs (List.replicate (n / 8).toNat 0) (keys.flatMap fun s => pls s q n) ++ [(q : Int)] := by
  unfold mk
  rw [List.replicate_succ', sbs_snoc]
  · have hl : (sbs (List.replicate (n / 8).toNat 0) (keys.flatMap fun s => pls s q n)).length = (n / 8).toNat := by rw [sbs_len, List.length_replicate]
    rw [List.set_append_right _ _ (by omega), hl]
    simp
  · intro p hp
    obtain ⟨s, _, hs⟩ := List.mem_flatMap.1 hp
    have := pls_range s q (n := n) (by omega) p hs
    rw [List.length_replicate]
    omega
theorem RMake_yes {bits : Int} {q : Nat} {keys : List ByteArray} (hb : 1 ≤ bits ∧ bits ≤ 64) (hq : 1 ≤ q ∧ q ≤ 20) (hl : keys.length ≤ 1000) (hk : ∀ s ∈ keys, s.size ≤ 9223372036854775806) :
    Ev (fun k => cornucopiaref5_Make.f k bits (q : Int) keys) (strOfNums (mk q (bitsN bits keys.length) keys), 0) := by
  have hr := bitsN_range hb hl
  have h1 : 0 ≤ bits * keys.length := Int.mul_nonneg (by omega) (by omega)
  have h2 : bits * keys.length ≤ 64 * 1000 := Int.mul_le_mul hb.2 (by omega) (by omega) (by omega)
  have h3 : wrap64 (bits * (keys.length : Int)) = bits * keys.length := wrap64_id (by omega)
  have h4 : mx (bits * (keys.length : Int)) 64 = max (bits * keys.length) 64 := by unfold mx; split <;> omega
  have h5 : wrap64 (Int.tdiv (wrap64 ((max (bits * (keys.length : Int)) 64) + 7)) 8) = (max (bits * keys.length) 64 + 7) / 8 := by
    rw [wrap64_id (x := max (bits * (keys.length : Int)) 64 + 7) (by omega), Int.tdiv_eq_ediv_of_nonneg (by omega), wrap64_id (by omega)]
  have h6 : wrap64 ((max (bits * (keys.length : Int)) 64 + 7) / 8 * 8) = bitsN bits keys.length := wrap64_id (by omega)
  have h7 : wrap64 (Int.tdiv (bitsN bits keys.length) 8) = bitsN bits keys.length / 8 := by rw [Int.tdiv_eq_ediv_of_nonneg (by omega)]; exact wrap64_id (by omega)
  have hj : Ev (fun k => cornucopiaref5_Make.j0 k bits (q : Int) keys false) (strOfNums (mk q (bitsN bits keys.length) keys), 0) := by
    refine Ev.step (fun k => by rw [cornucopiaref5_Make.j0, h3, h4, h5, h6, h7]) ?_
    refine ev_neg (by simp) (ev_neg (by omega) (ev_pos (by omega) (ev_pos (by omega) ?_)))
    rw [mk_snoc (by omega)]
    have := RMake_l0 q hq (bitsN bits keys.length) (by omega) keys hk (by omega) keys.length 0 (List.replicate (bitsN bits keys.length / 8).toNat 0) (by omega) (by rw [List.length_replicate]; omega)
    rw [List.drop_zero] at this
    exact this
  refine Ev.congr (fun k => by rw [cornucopiaref5_Make.f]) ?_
  refine ev_neg (by omega) (ev_neg (by omega) (ev_neg (by omega) ?_))
  rw [decide_eq_false (show ¬ ((q : Int) > 20) by omega)]
  exact hj
theorem RMake_no {bits q : Int} {keys : List ByteArray} (h : bits < 1 ∨ 64 < bits ∨ q < 1 ∨ 20 < q) : Ev (fun k => cornucopiaref5_Make.f k bits q keys) (⟨#[]⟩, 1) := by
  have hj : Ev (fun k => cornucopiaref5_Make.j0 k bits q keys true) (⟨#[]⟩, 1) := Ev.step (fun k => by rw [cornucopiaref5_Make.j0]) (ev_pos rfl (ev_const rfl))
  refine Ev.congr (fun k => by rw [cornucopiaref5_Make.f]) ?_
  by_cases h1 : bits < 1
  · exact ev_pos h1 hj
  refine ev_neg h1 ?_
  by_cases h2 : bits > 64
  · exact ev_pos h2 hj
  refine ev_neg h2 ?_
  by_cases h3 : q < 1
  · exact ev_pos h3 hj
  refine ev_neg h3 ?_
  rw [decide_eq_true (show q > 20 by omega)]
  exact hj
theorem RValid_eq (f : ByteArray) (hs : f.size ≤ 9223372036854775807) : cornucopiaref5_ValidFilter.f f = some (okF (bytesOf f)) := by
  have hl := bytesOf_length f
  unfold cornucopiaref5_ValidFilter.f okF
  rw [wrap64_id (x := (f.size : Int) - 1) (by omega), hl]
  by_cases h : (f.size : Int) ≥ 2
  · rw [if_pos h, if_pos (by omega), if_pos (by omega), bt_last f (by omega)]
    by_cases h1 : last (bytesOf f) ≥ 1
    · rw [if_pos h1]
      exact congrArg some (decide_eq_decide.2 (by omega))
    · rw [if_neg h1, decide_eq_false (by omega)]
  · rw [if_neg h, decide_eq_false (by omega)]
theorem T_and : ∀ (c : Fin 256) (k : Fin 8), (Go.bits .and .u8 (c.val : Int) (shl .u8 1 (k.val : Int)) = 0) ↔ T (c.val : Int) (k.val : Int) = false := by decide +kernel
theorem tb_and {b : List Int} (hb : ok8 b) {p : Int} (_hp : 0 ≤ p) : (Go.bits .and .u8 (rd b (p / 8)) (shl .u8 1 (p % 8)) = 0) ↔ tb b p = false := by
  have hr := rd_ok hb (p / 8)
  have := T_and ⟨(rd b (p / 8)).toNat, by omega⟩ ⟨(p % 8).toNat, by omega⟩
  simp only at this
  rw [show (((rd b (p / 8)).toNat : Nat) : Int) = rd b (p / 8) from by omega, show (((p % 8).toNat : Nat) : Int) = p % 8 from by omega] at this
  exact this
theorem RMay_l0 (f : ByteArray) (P : List Int) (hP : ∀ p ∈ P, 0 ≤ p ∧ p / 8 < f.size) (hs : f.size ≤ 1152921504606846975) (hlen : P.length ≤ 255) (d : Nat) : ∀ j, j + d = P.length →
    Ev (fun k => cornucopiaref5_May.l0 k f P (j : Int)) ((P.drop j).all (tb (bytesOf f))) := by
  induction d with
  | zero =>
    intro j hj
    refine Ev.step (fun k => by rw [cornucopiaref5_May.l0]) ?_
    rw [List.drop_of_length_le (by omega)]
    exact ev_neg (by omega) (ev_const rfl)
  | succ d ih =>
    intro j hj
    have hlt : j < P.length := by omega
    have hp := hP P[j] (List.getElem_mem hlt)
    have e1 : IntKind.u64.wrap (Int.tdiv P[j] 8) = P[j] / 8 := by rw [Int.tdiv_eq_ediv_of_nonneg hp.1]; exact wu64_id (by omega)
    have e2 : Int.tmod P[j] 8 = P[j] % 8 := Int.tmod_eq_emod_of_nonneg hp.1
    refine Ev.step (fun k => by rw [cornucopiaref5_May.l0, rd_nth P j hlt, e1, e2, tb_bytes f]) ?_
    refine ev_pos (by omega) (ev_pos (by omega) (ev_pos (by omega) (ev_pos (by omega) (ev_pos (by omega) ?_))))
    rw [List.drop_eq_getElem_cons hlt, List.all_cons]
    by_cases h : tb (bytesOf f) P[j] = true
    · refine ev_neg (fun k => by rw [(tb_and (ok8_of f) hp.1).1 k] at h; cases h) ?_
      rw [h, Bool.true_and, wrap64_id (by omega), show ((j : Int) + 1) = ((j + 1 : Nat) : Int) from by omega]
      exact ih (j + 1) (by omega)
    · have h := Bool.eq_false_iff.2 h
      refine ev_pos ((tb_and (ok8_of f) hp.1).2 h) ?_
      rw [h]
      exact ev_const rfl
theorem RMay_yes (f key : ByteArray) (hs : f.size ≤ 1000000000) (hk : key.size ≤ 9223372036854775806) (h : okF (bytesOf f) = true) :
    Ev (fun k => cornucopiaref5_May.f k f key) ((pls key (last (bytesOf f)).toNat (((f.size : Int) - 1) * 8)).all (tb (bytesOf f))) := by
  have hl := bytesOf_length f
  have hv := RValid_eq f (by omega)
  rw [h] at hv
  unfold okF at h
  rw [decide_eq_true_iff, hl] at h
  refine Ev.congr (fun k => by rw [cornucopiaref5_May.f, wrap64_id (x := (f.size : Int) - 1) (by omega), wu64_id (x := (f.size : Int) - 1) (by omega), wu64_id (x := ((f.size : Int) - 1) * 8) (by omega), bt_last f (by omega), wrap64_id (x := last (bytesOf f)) (by omega)]) (ev_call hv ?_)
  refine ev_pos rfl (ev_pos (by omega) (ev_pos (by omega) ?_))
  have hpl := Rplaces_ev key hk (last (bytesOf f)).toNat (by omega) (n := ((f.size : Int) - 1) * 8) (by omega)
  rw [show (((last (bytesOf f)).toNat : Nat) : Int) = last (bytesOf f) from by omega] at hpl
  refine Ev.bind hpl ?_
  have hr := pls_range key (last (bytesOf f)).toNat (n := ((f.size : Int) - 1) * 8) (by omega)
  have := RMay_l0 f _ (fun p hp => by have := hr p hp; omega) (by omega) (by rw [pls_len]; omega) (pls key (last (bytesOf f)).toNat (((f.size : Int) - 1) * 8)).length 0 (by omega)
  rw [List.drop_zero] at this
  exact this
theorem RMay_any (f key : ByteArray) (hs : f.size ≤ 1000000000) (h : okF (bytesOf f) = false) : Ev (fun k => cornucopiaref5_May.f k f key) true := by
  have hv := RValid_eq f (by omega)
  rw [h] at hv
  refine Ev.congr (fun k => by rw [cornucopiaref5_May.f]) (ev_call hv ?_)
  exact ev_neg (by simp) (ev_const rfl)
/-- Both tell the same of every bytes. -/
theorem both_May (f key : ByteArray) (hs : f.size ≤ 1000000000) (hk : key.size ≤ 9223372036854775806) : ∃ b, Ev (fun k => bloom_May.f k f key) b ∧ Ev (fun k => cornucopiaref5_May.f k f key) b := by
  cases h : okF (bytesOf f) with
  | true => exact ⟨_, May_yes f key hs hk h, RMay_yes f key hs hk h⟩
  | false => exact ⟨_, May_any f key hs h, RMay_any f key hs h⟩
end Go.Proofs.Ytmfnnialhegjmaa.PuBlmT
