/- Texts of this claim, put together and cut down to what is used (BB6). -/
import Derived.Laws.IdiomStrings
import Derived.Deep.DeepCutAuto
import Derived.Deep.QuietTactic
import Derived.Deep.RegionHeld3
import Derived.BigRegion
import Derived.BigQuiet
import Derived.WalkLawsBesides
import Derived.Laws.Cover1
import Derived.Test.YtchgpcgolgcfdaaMgBB4
import Derived.Test.YtchgpcgolgcfdaaMgBB5
import Derived.Test.YtchgpcgolgcfdaaMgBB3
import Derived.Test.YtchgpcgolgcfdaaMgBB1
import Derived.Test.YtchgpcgolgcfdaaMgBB0
section
namespace Go.Proofs.Ytchgpcgolgcfdaa.PuBk
open Go Go.RowKit Go.Proofs.Ytchgpcgolgcfdaa.PNum Go.Proofs.Ytchgpcgolgcfdaa.PuVt Go.Proofs.Ytchgpcgolgcfdaa.PuVr Go.Proofs.YtchgpcgolgcfdaaW.PrintWords Go.Proofs.YtchgpcgolgcfdaaW.PrintLast Go.Proofs.YtchgpcgolgcfdaaW.PrintMore Go.Proofs.YtchgpcgolgcfdaaW.Pu Go.Proofs.Ytchgpcgolgcfdaa.Bl2
def hd (i : Nat) (p : ByteArray) (e : E) : Nat := if i % 4 = 0 then 0 else sh (bytesOf p) (bytesOf e.f0)
def layB : Nat → ByteArray → List E → List Int
  | _, _, [] => []
  | i, p, e :: l => pc e (hd i p e) ++ layB (i + 1) e.f0 l
theorem hd_le (i : Nat) (p : ByteArray) (e : E) : hd i p e ≤ p.size ∧ hd i p e ≤ e.f0.size := by
  have := sh_le (bytesOf p) (bytesOf e.f0)
  rw [bytesOf_length, bytesOf_length] at this
  unfold hd
  split <;> omega
theorem hd_take (i : Nat) (p : ByteArray) (e : E) : (bytesOf p).take (hd i p e) = (bytesOf e.f0).take (hd i p e) := by
  unfold hd
  split
  · rw [List.take_zero, List.take_zero]
  · exact sh_take _ _
theorem layB_ok : ∀ (l : List E) i p, ok8 (layB i p l)
  | [], _, _ => ok8_nil
  | e :: l, i, p => ok8_append (pc_ok e _) (layB_ok l (i + 1) e.f0)
theorem layB_len : ∀ (l : List E) i p, (∀ e ∈ l, Ok e) → (layB i p l).length ≤ l.length * 60400
  | [], _, _, _ => by simp [layB]
  | e :: l, i, p, h => by
    have h1 := pc_len (h e List.mem_cons_self) (hd_le i p e).2
    have h2 := layB_len l (i + 1) e.f0 (fun x hx => h x (List.mem_cons_of_mem _ hx))
    rw [layB, List.length_append, List.length_cons]
    omega
theorem at_nat (l : List E) (i : Nat) (h : i < l.length) : rdE l (i : Int) = l[i] := by
  simp [rdE, rd_T29, h]
theorem app_nil (b : ByteArray) : b ++ strOfNums [] = b := by
  have h := S_append (bytesOf b) []
  rw [List.append_nil, S_of] at h
  exact h
theorem app_S (b : ByteArray) (x y : List Int) : (b ++ strOfNums x) ++ strOfNums y = b ++ strOfNums (x ++ y) := by
  have h1 := S_append (bytesOf b) x
  have h2 := S_append (bytesOf b ++ x) y
  have h3 := S_append (bytesOf b) (x ++ y)
  rw [S_of] at h1 h3
  rw [h1, h3, h2, List.append_assoc]
theorem ahead_ev (l : List E) (hl : ∀ e ∈ l, Ok e) (i : Nat) (hi : i < l.length) (h400 : l.length ≤ 400) (p b r : ByteArray) (hp : 0 < i → p = (rdE l ((i : Int) - 1)).f0) (hps : p.size ≤ 300) (hb : b.size ≤ i * 60400) (hr : r.size = 4 * ((i + 3) / 4)) :
    ∃ r' : ByteArray, r'.size = 4 * ((i + 1 + 3) / 4) ∧ Ev (fun k => Go.Proofs.Ytchgpcgolgcfdaa.Bl2.ahead k l i b r) (((hd i p l[i] : Nat) : Int), r') := by
  have he := at_nat l i hi
  by_cases h4 : i % 4 = 0
  · have hx : (strOfNums (be 4 b.size)).size = 4 := by rw [S_size, be_len]
    refine ⟨r ++ strOfNums (be 4 b.size), ?_, ?_⟩
    · rw [ByteArray.size_append, hx, hr]
      omega
    · unfold Go.Proofs.Ytchgpcgolgcfdaa.Bl2.ahead hd
      simp only [if_pos h4]
      refine Ev.bind (four_ev b.size (by omega)) (ev_pos ?_ (ev_const rfl))
      rw [hx, hr]
      unfold lim
      omega
  · refine ⟨r, by omega, ?_⟩
    have hpe := hp (by omega)
    have hsh := hd_le i p l[i]
    have hd1 : hd i p l[i] = sh (bytesOf p) (bytesOf l[i].f0) := by unfold hd; rw [if_neg h4]
    unfold Go.Proofs.Ytchgpcgolgcfdaa.Bl2.ahead
    simp only [if_neg h4]
    rw [he, ← hpe, hd1]
    rw [hd1] at hsh
    refine Ev.bind (Shared_ev p l[i].f0 (by omega)) (ev_pos ⟨⟨by omega, by omega⟩, ?_⟩ (ev_const rfl))
    unfold lim
    omega
theorem go_ev (l : List E) (hl : ∀ e ∈ l, Ok e) (h400 : l.length ≤ 400) (n : Nat) : ∀ i p b r, i + n = l.length → (0 < i → p = (rdE l ((i : Int) - 1)).f0) → p.size ≤ 300 → b.size ≤ i * 60400 → r.size = 4 * ((i + 3) / 4) →
    ∃ r' : ByteArray, r'.size = 4 * ((l.length + 3) / 4) ∧ Ev (fun k => go k l n i b r) (b ++ strOfNums (layB i p (l.drop i)), r') := by
  induction n with
  | zero =>
    intro i p b r hi hp hps hb hr
    obtain rfl : i = l.length := by omega
    refine ⟨r, hr, ?_⟩
    rw [List.drop_length, layB, app_nil]
    exact ev_const rfl
  | succ n ih =>
    intro i p b r hi hp hps hb hr
    have hlt : i < l.length := by omega
    have he := at_nat l i hlt
    have hok := hl _ (List.getElem_mem hlt)
    obtain ⟨r1, hr1, ha⟩ := ahead_ev l hl i hlt h400 p b r hp hps hb hr
    have hd2 := hd_le i p l[i]
    have hpl := pc_len hok hd2.2
    have hps2 : (strOfNums (pc l[i] (hd i p l[i]))).size = (pc l[i] (hd i p l[i])).length := S_size _
    obtain ⟨r2, hr2, hg⟩ := ih (i + 1) l[i].f0 (b ++ strOfNums (pc l[i] (hd i p l[i]))) r1 (by omega) (fun _ => by rw [show (((i + 1 : Nat) : Int) - 1) = (i : Int) by omega, he]) hok.key (by rw [ByteArray.size_append, hps2]; omega) hr1
    refine ⟨r2, hr2, ?_⟩
    rw [List.drop_eq_getElem_cons hlt, layB, ← app_S]
    show Ev (fun k => (Go.Proofs.Ytchgpcgolgcfdaa.Bl2.ahead k l i b r).bind fun x => (piece k (rdE l (i : Int)) x.1).bind fun p => if b.size + p.size ≤ lim then go k l n (i + 1) (b ++ p) x.2 else none) _
    rw [he]
    refine Ev.bind ha (Ev.bind (piece_ev hok hd2.2) (ev_pos ?_ hg))
    rw [hps2]
    unfold lim
    omega
theorem rCount_vb {n : Nat} {m : Int} (h : (n : Int) ≤ m) (hm : m ≤ 9223372036854775807) (rest : List Int) : rCount (vb n ++ rest) 0 m = ((n : Int), rest, 0) := by
  unfold rCount
  rw [rVar_vb (by omega)]
  simp only
  rw [if_pos trivial, if_neg (by omega)]
theorem vers_ev (l : List E) : ∀ i p acc, (∀ e ∈ l, Ok e) → p.size ≤ 300 → acc.length + l.length ≤ 400 → Ev (fun k => block_versions.l0 k acc p (strOfNums (layB i p l)) 0) (acc ++ l, true) := by
  induction l with
  | nil =>
    intro i p acc _ _ _
    rw [layB, List.append_nil]
    refine Ev.step (fun k => by rw [block_versions.l0, Left_eq, Option.bind_some]) (ev_neg ?_ (ev_const rfl))
    rw [S_size]
    simp
  | cons e l ih =>
    intro i p acc hok hp hlen
    have ho := hok e List.mem_cons_self
    obtain ⟨hn1, hn2⟩ := hd_le i p e
    have htk := hd_take i p e
    have hrest := layB_ok l (i + 1) e.f0
    rw [layB]
    generalize hd i p e = n at *
    generalize hX : layB (i + 1) e.f0 l = X at *
    have hk := ho.key
    have hs := ho.seq
    have hv := ho.val
    rw [List.length_cons] at hlen
    have h2 : 0 ≤ e.f2 ∧ e.f2 ≤ 2 := by rcases ho.kind with q | q <;> rw [q] <;> decide
    have o4 : ok8 ((vb e.f3.size ++ bytesOf e.f3) ++ X) := ok8_append (ok8_append (vb_ok _) (ok8_of _)) hrest
    have o3 : ok8 (vb e.f2.toNat ++ ((vb e.f3.size ++ bytesOf e.f3) ++ X)) := ok8_append (vb_ok _) o4
    have o2 : ok8 (vb e.f1.toNat ++ (vb e.f2.toNat ++ ((vb e.f3.size ++ bytesOf e.f3) ++ X))) := ok8_append (vb_ok _) o3
    have od : ok8 (vb (e.f0.size - n) ++ (bytesOf e.f0).drop n) := ok8_append (vb_ok _) (fun x hx => ok8_of e.f0 x (List.mem_of_mem_drop hx))
    have o1 := ok8_append od o2
    have o0 := ok8_append (vb_ok n) o1
    have hall : pc e n ++ X = vb n ++ ((vb (e.f0.size - n) ++ (bytesOf e.f0).drop n) ++ (vb e.f1.toNat ++ (vb e.f2.toNat ++ ((vb e.f3.size ++ bytesOf e.f3) ++ X)))) := by
      unfold pc
      simp only [List.append_assoc]
    rw [hall]
    have hb : bytesOf (e.f0.extract n e.f0.size) = (bytesOf e.f0).drop n := by
      rw [bytesOf_extract, List.take_of_length_le (by rw [bytesOf_length]; omega)]
    have hbs : (e.f0.extract n e.f0.size).size = e.f0.size - n := by simp
    have c1 := Count_ev o0 0 (p.size : Int) (by omega)
    rw [rCount_vb (by omega) (by omega)] at c1
    have c2 := Go.Proofs.Ytchgpcgolgcfdaa.PuVr.Text_ev o1 0 300 (by omega)
    have t2 := rText_tx (s := e.f0.extract n e.f0.size) (most := 300) (by omega) (by omega) (vb e.f1.toNat ++ (vb e.f2.toNat ++ ((vb e.f3.size ++ bytesOf e.f3) ++ X)))
    rw [hbs, hb] at t2
    rw [t2] at c2
    have c3 := Go.Proofs.Ytchgpcgolgcfdaa.PuVr.Var_ev o2 0
    rw [rVar_vb (by omega)] at c3
    have c4 := Go.Proofs.Ytchgpcgolgcfdaa.PuVr.Var_ev o3 0
    rw [rVar_vb (by omega)] at c4
    have c5 := Go.Proofs.Ytchgpcgolgcfdaa.PuVr.Text_ev o4 0 60000 (by omega)
    rw [rText_tx (by omega) (by omega)] at c5
    have z1 : ((e.f1.toNat : Nat) : Int) = e.f1 := Int.toNat_of_nonneg hs.1
    have z2 : ((e.f2.toNat : Nat) : Int) = e.f2 := Int.toNat_of_nonneg h2.1
    rw [z1] at c3
    rw [z2] at c4
    rw [S_of] at c5
    have hkey : p.extract 0 n ++ strOfNums ((bytesOf e.f0).drop n) = e.f0 := by
      have q : p.extract 0 n = strOfNums ((bytesOf e.f0).take n) := by
        rw [← htk, ← S_of (p.extract 0 n), bytesOf_extract, List.drop_zero]
      rw [q, S_append, List.take_append_drop, S_of]
    have hgo := ih (i + 1) e.f0 (acc ++ [e]) (fun x hx => hok x (List.mem_cons_of_mem _ hx)) hk (by simp; omega)
    rw [hX, List.append_assoc, List.singleton_append] at hgo
    have hj : ∀ y, Ev (fun k => block_versions.j1 k acc p (n : Int) (strOfNums ((bytesOf e.f0).drop n)) (strOfNums ((vb e.f3.size ++ bytesOf e.f3) ++ X)) 0 y e.f1 (wrap64 e.f2) ⟨#[]⟩) (acc ++ e :: l, true) := by
      intro y
      have hcl : strings_Clone.f e.f3 = some e.f3 := by
        unfold strings_Clone.f stringslite_Clone.f
        rw [if_pos (by omega)]
        rfl
      have hq1 : (p.extract 0 n).size ≤ p.size := by rw [ByteArray.size_extract]; omega
      have hq2 : (strOfNums ((bytesOf e.f0).drop n)).size ≤ e.f0.size := by rw [S_size, List.length_drop, bytesOf_length]; omega
      have hq : (p.extract 0 ((n : Int)).toNat).size + (strOfNums ((bytesOf e.f0).drop n)).size ≤ 9223372036854775807 := by rw [Int.toNat_natCast]; omega
      have hw : wrap64 e.f2 = e.f2 := wrap64_id (by omega)
      have g1 : (0 : Int) ≤ (n : Int) := by omega
      have g2 : (n : Int) ≤ (p.size : Int) := by omega
      have g3 : acc.length < 2932031007402 := by omega
      have c6 : Ev (fun k => num_Reader_Text.f k (strOfNums ((vb e.f3.size ++ bytesOf e.f3) ++ X)) 0 60000) (e.f3, strOfNums X, 0) := c5
      have hend : Ev (fun k => if 0 ≤ (n : Int) then (if (n : Int) ≤ (p.size : Int) then (if (p.extract 0 ((n : Int)).toNat).size + (strOfNums ((bytesOf e.f0).drop n)).size ≤ 9223372036854775807 then (if acc.length < 2932031007402 then block_versions.l0 k (acc ++ [(⟨p.extract 0 ((n : Int)).toNat ++ strOfNums ((bytesOf e.f0).drop n), e.f1, wrap64 e.f2, e.f3⟩ : E)]) (p.extract 0 ((n : Int)).toNat ++ strOfNums ((bytesOf e.f0).drop n)) (strOfNums X) 0 else none) else none) else none) else none) (acc ++ e :: l, true) := by
        refine ev_pos g1 (ev_pos g2 (ev_pos hq (ev_pos g3 ?_)))
        rw [Int.toNat_natCast, hkey, hw]
        exact hgo
      refine Ev.step (fun k => by rw [block_versions.j1]) (Ev.bind c6 (ev_call hcl (ev_call (Err_eq _ _) (ev_pos rfl ?_))))
      exact hend
    refine Ev.step (fun k => by rw [block_versions.l0, Left_eq, Option.bind_some]) (ev_pos ?_ (Ev.bind c1 (Ev.bind c2 (Ev.bind c3 (Ev.bind c4 (ev_pos h2.2 (hj _)))))))
    rw [S_size, List.length_append]
    have := vb_pos n
    omega
end Go.Proofs.Ytchgpcgolgcfdaa.PuBk
end
section
namespace Go.Proofs.Ytchgpcgolgcfdaa.PuCrc
open Go Go.RowKit Go.Proofs.Ytchgpcgolgcfdaa.PNum Go.Proofs.YtchgpcgolgcfdaaW.PrintWords Go.Proofs.YtchgpcgolgcfdaaW.PrintLast Go.Proofs.YtchgpcgolgcfdaaW.PrintMore Go.Proofs.YtchgpcgolgcfdaaW.Pu
def Tot (f : Nat → Option Int) : Prop := ∃ r, (0 ≤ r ∧ r < 4294967296) ∧ Ev f r
theorem u32_range (x : Int) : 0 ≤ IntKind.u32.wrap x ∧ IntKind.u32.wrap x < 4294967296 := by
  simp [IntKind.wrap, IntKind.bits, IntKind.signed]
  omega
theorem xor_range (x y : Int) : 0 ≤ Go.bits .xor .u32 x y ∧ Go.bits .xor .u32 x y < 4294967296 := u32_range _
theorem l2_tot (s : ByteArray) (L : List ByteArray) (n j m i : Int) (h : ∀ x, Tot (fun k => sum_Crc.l1 k x s L n j m (wrap64 (i + 1)))) (d : Nat) : ∀ (c : Nat) x, c + d = 8 → Tot (fun k => sum_Crc.l2 k x s L n j m i (c : Int)) := by
  induction d with
  | zero =>
    intro c x hc
    obtain ⟨r, hr, he⟩ := h x
    exact ⟨r, hr, Ev.step (fun k => by rw [sum_Crc.l2]) (ev_neg (by omega) he)⟩
  | succ d ih =>
    intro c x hc
    have hw : wrap64 ((c : Int) + 1) = ((c + 1 : Nat) : Int) := by rw [wrap64_id (by omega)]; omega
    by_cases hb : Go.bits .and .u32 x 1 = 1
    · obtain ⟨r, hr, he⟩ := ih (c + 1) (Go.bits .xor .u32 (x / 2) 2197175160) (by omega)
      exact ⟨r, hr, Ev.step (fun k => by rw [sum_Crc.l2, hw]) (ev_pos (by omega) (ev_pos hb he))⟩
    · obtain ⟨r, hr, he⟩ := ih (c + 1) (x / 2) (by omega)
      exact ⟨r, hr, Ev.step (fun k => by rw [sum_Crc.l2, hw]) (ev_pos (by omega) (ev_neg hb he))⟩
theorem l1_tot (s : ByteArray) (hs : s.size ≤ 9223372036854775806) (L : List ByteArray) (n j : Int) (h : ∀ x, Tot (fun k => sum_Crc.l0 k x L n (wrap64 (j + 1)))) (d : Nat) : ∀ (i : Nat) x, i + d = s.size → Tot (fun k => sum_Crc.l1 k x s L n j (s.size : Int) (i : Int)) := by
  induction d with
  | zero =>
    intro i x hi
    obtain ⟨r, hr, he⟩ := h x
    exact ⟨r, hr, Ev.step (fun k => by rw [sum_Crc.l1]) (ev_neg (by omega) he)⟩
  | succ d ih =>
    intro i x hi
    have hw : wrap64 ((i : Int) + 1) = ((i + 1 : Nat) : Int) := by rw [wrap64_id (by omega)]; omega
    obtain ⟨r, hr, he⟩ := l2_tot s L n j (s.size : Int) (i : Int) (fun x => by rw [hw]; exact ih (i + 1) x (by omega)) 8 0 (Go.bits .xor .u32 x ((bt s (i : Int)) % 4294967296)) rfl
    have he2 : Ev (fun k => sum_Crc.l2 k (Go.bits .xor .u32 x ((bt s (i : Int)) % 4294967296)) s L n j (s.size : Int) (i : Int) 0) r := he
    exact ⟨r, hr, Ev.step (fun k => by rw [sum_Crc.l1]) (ev_pos (by omega) (ev_pos (by omega) (ev_pos (by omega) he2)))⟩
theorem Crc_ev (s : ByteArray) (hs : s.size ≤ 9223372036854775806) : Tot (fun k => sum_Crc.f k [s]) := by
  have h0 : ∀ x, Tot (fun k => sum_Crc.l0 k x [s] (([s] : List ByteArray).length : Int) (wrap64 (0 + 1))) := fun x =>
    ⟨Go.bits .xor .u32 4294967295 x, xor_range _ _, Ev.step (fun k => by rw [sum_Crc.l0]) (ev_neg (by rw [wrap64_id (by omega)]; simp) (ev_const rfl))⟩
  obtain ⟨r, hr, he⟩ := l1_tot s hs [s] (([s] : List ByteArray).length : Int) 0 h0 s.size 0 4294967295 (Nat.zero_add _)
  refine ⟨r, hr, ?_⟩
  unfold sum_Crc.f
  have hr0 : rdOf ByteArray.empty [s] 0 = s := rfl
  have he2 : Ev (fun k => sum_Crc.l1 k 4294967295 s [s] (([s] : List ByteArray).length : Int) 0 (s.size : Int) 0) r := he
  exact Ev.step (fun k => by rw [sum_Crc.l0, hr0]) (ev_pos (by simp) (ev_pos (by omega) (ev_pos (by simp) he2)))
end Go.Proofs.Ytchgpcgolgcfdaa.PuCrc
end
section
namespace Go.Proofs.Ytchgpcgolgcfdaa.PNum
open Go.RowKit Go.Proofs.YtchgpcgolgcfdaaW.PrintWords Go.Proofs.YtchgpcgolgcfdaaW.PrintLast Go.Proofs.YtchgpcgolgcfdaaW.PrintMore
attribute [local go_sem] max2_int min2_int max_two min_two max_three min_three max_four min_four   -- for this text's walks alone
set_option linter.unusedVariables false
set_option linter.unusedSimpArgs false
def cornucopiabook_Room.l0 : Nat → Int → List Int → Int → Option (Int)
  | 0, _, _, _ => none
  | k + 1, x0, x1, x5 => if x5 < (x1.length : Int) then (if x0 < 0 then (some (-1)) else (if 0 ≤ x5 then (if (rd x1 x5) > x0 then (some (-1)) else (cornucopiabook_Room.l0 k (wrap64 (x0 - (rd x1 x5))) x1 (wrap64 (x5 + 1)))) else (none))) else (some x0)
def cornucopiabook_Room.f (k : Nat) (a0 : Int) (l1 : List Int) : Option (Int) := cornucopiabook_Room.l0 k a0 l1 0
theorem cornucopiabook_Room.mono_l : ∀ k, (∀ y0 y1 y2, LeO (cornucopiabook_Room.l0 k y0 y1 y2) (cornucopiabook_Room.l0 (k + 1) y0 y1 y2))
  | 0 => fun _ _ _ r h => by simp [cornucopiabook_Room.l0] at h
  | k + 1 => by
    have ih0 := cornucopiabook_Room.mono_l k
    · intro y0 y1 y2
      unfold cornucopiabook_Room.l0
      repeat' first
      | (with_reducible exact ih0 _ _ _)
      | (with_reducible exact LeO.refl _)
      | (with_reducible exact LeO.none _)
      | (with_reducible refine LeO.ite ?_ ?_)
      | (with_reducible refine LeO.bind ?_ (fun _ => ?_))
      | exact ih0 _ _ _
      | exact LeO.none _
      | refine LeO.ite ?_ ?_
      | refine LeO.bind ?_ (fun _ => ?_)
theorem cornucopiabook_Room.mono : ∀ a0 a1 k, LeO (cornucopiabook_Room.f k a0 a1) (cornucopiabook_Room.f (k + 1) a0 a1) := by
  intro a0 a1 k
  have ih0 := cornucopiabook_Room.mono_l k
  unfold cornucopiabook_Room.f
  repeat' first
      | (with_reducible exact ih0 _ _ _)
      | (with_reducible exact LeO.refl _)
      | (with_reducible exact LeO.none _)
      | (with_reducible refine LeO.ite ?_ ?_)
      | (with_reducible refine LeO.bind ?_ (fun _ => ?_))
      | exact ih0 _ _ _
      | exact LeO.none _
      | refine LeO.ite ?_ ?_
      | refine LeO.bind ?_ (fun _ => ?_)
set_option maxHeartbeats 8000000 in
set_option maxRecDepth 100000 in
theorem cornucopiabook_Room.calls (k : Nat) (a0 : Int) (A1 : Option Addr) (c1 : Nat) (l1 : List Int) (r : Int) (w : World) (hr1 : Kd.C (Kd.int .i64) w A1 l1.length l1) (hc1 : l1.length ≤ c1) (h : cornucopiabook_Room.f k a0 l1 = some r) :
    Calls Try.prog 27 #[.int .i64 a0, .slice A1 l1.length c1] w fun e w' => e = .returned (.int .i64 r) ∧ Drawn0 w w' := by
  have HR1 := Aside0.mk hr1
  have HC1 := Aside0.mk hc1
  clear hr1 hc1
  have H : (cornucopiabook_Room.l0 k a0 l1 0) = some r := h
  clear h
  have H' := Aside0.mk H
  clear H
  go_enter Try.func27, Try.ntmps27
  go_wp2
  go_loopg [0, 5] k (fun kq v0 v5 w' => ∃ (x0_1 : Int) (x5_1 : Int), v0 = .int .i64 x0_1 ∧ v5 = .int .i64 x5_1 ∧ Aside0 (cornucopiabook_Room.l0 kq x0_1 l1 x5_1 = some r) ∧ Aside0 (kq ≤ k) ∧ Drawn0 w w')
  case atStart => exact ⟨(a0), (0), (by first | rfl | (simp; done) | (simp [*]; done)), (by first | rfl | (simp; done) | (simp [*]; done)), H', ⟨Nat.le_refl _⟩, by repeat (first | exact Drawn0.refl _ | apply Drawn0.step)⟩
  case round =>
    clear H'
    try clear c1
    try clear c2
    try clear p2
    obtain ⟨x0_1, x5_1, rfl, rfl, HA, HK1, ⟨m1, rfl⟩⟩ := hrel
    cases gk with
    | zero => exact absurd HA.out (by simp [cornucopiabook_Room.l0])
    | succ k1 =>
      have H := HA.out
      clear HA
      simp only [cornucopiabook_Room.l0] at H
      by_cases c3 : x5_1 < (l1.length : Int)
      · rw [if_pos c3] at H
        have c3b0 : decide (x5_1 < (l1.length : Int)) = true := decide_eq_true c3
        clear c3
        by_cases c4 : x0_1 < 0
        · rw [if_pos c4] at H
          have c4b0 : decide (x0_1 < 0) = true := decide_eq_true c4
          clear c4
          obtain rfl := Option.some.inj H
          go_wp2
          go_ret
          exact ⟨by first | rfl | (simp; done) | (simp [*]; done), by repeat (first | exact Drawn0.refl _ | apply Drawn0.step)⟩
        · rw [if_neg c4] at H
          have c4b0 : decide (x0_1 < 0) = false := decide_eq_false c4
          clear c4
          by_cases c5 : 0 ≤ x5_1
          · rw [if_pos c5] at H
            have c5b0 : decide (0 ≤ x5_1) = true := decide_eq_true c5
            clear c5
            by_cases c6 : (rd l1 x5_1) > x0_1
            · rw [if_pos c6] at H
              have c6b0 : decide (x0_1 < (rd l1 x5_1)) = true := decide_eq_true c6
              clear c6
              obtain rfl := Option.some.inj H
              have p101 : 0 ≤ (x5_1 : Int) := of_decide_eq_true (by first | (with_reducible assumption) | assumption)
              have q101 : x5_1 < (l1.length : Int) := of_decide_eq_true (by first | (with_reducible assumption) | assumption)
              obtain ⟨ad101, e101, hx101_0⟩ := Kd.at_int HR1.out x5_1 p101 q101
              cases e101
              replace p101 := eq_true p101
              replace q101 := eq_true q101
              go_wp2
              go_ret
              exact ⟨by first | rfl | (simp; done) | (simp [*]; done), by repeat (first | exact Drawn0.refl _ | apply Drawn0.step)⟩
            · rw [if_neg c6] at H
              have c6b0 : decide (x0_1 < (rd l1 x5_1)) = false := decide_eq_false c6
              clear c6
              have H' := Aside0.mk H
              clear H
              have p101 : 0 ≤ (x5_1 : Int) := of_decide_eq_true (by first | (with_reducible assumption) | assumption)
              have q101 : x5_1 < (l1.length : Int) := of_decide_eq_true (by first | (with_reducible assumption) | assumption)
              obtain ⟨ad101, e101, hx101_0⟩ := Kd.at_int HR1.out x5_1 p101 q101
              cases e101
              replace p101 := eq_true p101
              replace q101 := eq_true q101
              have p102 : 0 ≤ (x5_1 : Int) := of_decide_eq_true (by first | (with_reducible assumption) | assumption)
              have q102 : x5_1 < (l1.length : Int) := of_decide_eq_true (by first | (with_reducible assumption) | assumption)
              obtain ⟨ad102, e102, hx102_0⟩ := Kd.at_int HR1.out x5_1 p102 q102
              obtain rfl : ad101 = ad102 := (by injection e102)
              replace p102 := eq_true p102
              replace q102 := eq_true q102
              go_wp2
              go_roundg k1
              case measure => have := HK1.out; omega
              case rel => exact ⟨(wrap64 (x0_1 - (rd l1 x5_1))), (wrap64 (x5_1 + 1)), (by first | rfl | (simp; done) | (simp [*]; done)), (by first | rfl | (simp; done) | (simp [*]; done)), H', ⟨by have := HK1.out; omega⟩, by repeat (first | exact Drawn0.refl _ | apply Drawn0.step)⟩
          · rw [if_neg c5] at H
            exact absurd H (by simp)
      · rw [if_neg c3] at H
        have c3b0 : decide (x5_1 < (l1.length : Int)) = false := decide_eq_false c3
        clear c3
        obtain rfl := Option.some.inj H
        go_wp2
        go_ret
        exact ⟨by first | rfl | (simp; done) | (simp [*]; done), by repeat (first | exact Drawn0.refl _ | apply Drawn0.step)⟩
end Go.Proofs.Ytchgpcgolgcfdaa.PNum
end
section
namespace Go.Proofs.Ytchgpcgolgcfdaa.PuIkC
open Go Go.RowKit Go.Proofs.Ytchgpcgolgcfdaa.PNum Go.Proofs.YtchgpcgolgcfdaaW.PrintWords Go.Proofs.YtchgpcgolgcfdaaW.PrintLast Go.Proofs.YtchgpcgolgcfdaaW.PrintMore Go.Proofs.YtchgpcgolgcfdaaW.Pu
theorem rd_nat (l : List Int) (i : Nat) (h : i < l.length) : rd l (i : Int) = l[i] := by
  simp [rd, h]
theorem cl_range : ∀ a b : List UInt8, Lib.compareBytes a b = -1 ∨ Lib.compareBytes a b = 0 ∨ Lib.compareBytes a b = 1
  | [], [] => .inr (.inl rfl)
  | [], _ :: _ => .inl rfl
  | _ :: _, [] => .inr (.inr rfl)
  | a :: xs, b :: ys => by
    rw [Lib.compareBytes]
    split
    · exact .inl rfl
    · split
      · exact .inr (.inr rfl)
      · exact cl_range xs ys
theorem cl_zero : ∀ a b : List UInt8, Lib.compareBytes a b = 0 ↔ a = b
  | [], [] => by simp [Lib.compareBytes]
  | [], _ :: _ => by simp [Lib.compareBytes]
  | _ :: _, [] => by simp [Lib.compareBytes]
  | a :: xs, b :: ys => by
    rw [Lib.compareBytes]
    by_cases h : a < b
    · rw [if_pos h]
      simp only [List.cons.injEq]
      exact ⟨fun k => by omega, fun k => absurd (k.1 ▸ h) (UInt8.lt_irrefl _)⟩
    · by_cases k : b < a
      · rw [if_neg h, if_pos k]
        simp only [List.cons.injEq]
        exact ⟨fun k => by omega, fun q => absurd (q.1 ▸ k) (UInt8.lt_irrefl _)⟩
      · rw [if_neg h, if_neg k, cl_zero xs ys, List.cons.injEq]
        have : a = b := UInt8.le_antisymm (UInt8.not_lt.1 k) (UInt8.not_lt.1 h)
        simp [this]
theorem cl_trans : ∀ a b c : List UInt8, Lib.compareBytes a b = -1 → Lib.compareBytes b c = -1 → Lib.compareBytes a c = -1
  | [], _, [] => fun h k => by
    rename_i b
    cases b with
    | nil => cases h
    | cons => cases k
  | [], _, _ :: _ => fun _ _ => rfl
  | _ :: _, [], _ => fun h _ => by cases h
  | _ :: _, _ :: _, [] => fun _ h => by cases h
  | a :: xs, b :: ys, c :: zs => by
    intro h k
    rw [Lib.compareBytes] at h k ⊢
    by_cases h1 : a < b
    · by_cases k1 : b < c
      · rw [if_pos (UInt8.lt_trans h1 k1)]
      · rw [if_neg k1] at k
        by_cases k2 : c < b
        · rw [if_pos k2] at k; cases k
        · have : b = c := UInt8.le_antisymm (UInt8.not_lt.1 k2) (UInt8.not_lt.1 k1)
          rw [if_pos (this ▸ h1)]
    · rw [if_neg h1] at h
      by_cases h2 : b < a
      · rw [if_pos h2] at h; cases h
      · rw [if_neg h2] at h
        have hab : a = b := UInt8.le_antisymm (UInt8.not_lt.1 h2) (UInt8.not_lt.1 h1)
        subst hab
        by_cases k1 : a < c
        · rw [if_pos k1]
        · rw [if_neg k1] at k ⊢
          by_cases k2 : c < a
          · rw [if_pos k2] at k; cases k
          · rw [if_neg k2] at k ⊢
            exact cl_trans xs ys zs h k
def cb (a b : ByteArray) : Int := Lib.compareBytes a.data.toList b.data.toList
theorem ba_ext {a b : ByteArray} : a.data.toList = b.data.toList ↔ a = b := by
  refine ⟨fun h => ?_, fun h => by rw [h]⟩
  cases a; cases b
  simp only [ByteArray.mk.injEq]
  exact Array.toList_inj.1 h
theorem tl_ext {a b : ByteArray} : a.toList = b.toList ↔ a = b := by rw [toList_data, toList_data, ba_ext]
theorem tl_beq (a b : ByteArray) : (a.toList == b.toList) = decide (a = b) := by
  by_cases h : a = b
  · subst h; simp
  · rw [decide_eq_false h, beq_eq_false_iff_ne]
    exact fun k => h (tl_ext.1 k)
def cs (x y : Int) : Int := if x < y then -1 else if x > y then 1 else 0
def ce (a b : S29) : Int := if cb a.f0 b.f0 = 0 then cs b.f1 a.f1 else cb a.f0 b.f0
theorem cs_range (x y : Int) : cs x y = -1 ∨ cs x y = 0 ∨ cs x y = 1 := by
  unfold cs
  split
  · exact .inl rfl
  · split
    · exact .inr (.inr rfl)
    · exact .inr (.inl rfl)
theorem cmp_u64 (x y : Int) : cmp_Compare_uint64.f x y = some (cs x y) := by
  simp only [cmp_Compare_uint64.f, cmp_isNaN_uint64.f, Option.bind_some, bne_self_eq_false]
  rw [if_neg (by simp), if_neg (by simp)]
  unfold cs
  split
  · rfl
  · split <;> rfl
theorem Or_ev (x y : Int) : Ev (fun k => cmp_Or_int.f k [x, y]) (if x = 0 then y else x) := by
  refine Ev.congr (fun k => by rw [cmp_Or_int.f]) (Ev.step (fun k => by rw [cmp_Or_int.l0]) ?_)
  refine ev_pos (show (0 : Int) < (([x, y] : List Int).length : Int) by simp) (ev_pos (by omega) (ev_pos (show (0 : Int) < (([x, y] : List Int).length : Int) by simp) ?_))
  rw [show rd [x, y] 0 = x from rfl]
  by_cases h : x = 0
  · rw [if_pos h]
    refine ev_pos h ?_
    rw [show wrap64 (0 + 1) = 1 from wrap64_id (by omega)]
    refine Ev.step (fun k => by rw [cmp_Or_int.l0]) ?_
    refine ev_pos (show (1 : Int) < (([x, y] : List Int).length : Int) by simp) (ev_pos (by omega) (ev_pos (show (1 : Int) < (([x, y] : List Int).length : Int) by simp) ?_))
    rw [show rd [x, y] 1 = y from rfl]
    by_cases k : y = 0
    · refine ev_pos k ?_
      rw [show wrap64 (1 + 1) = 2 from wrap64_id (by omega)]
      refine Ev.step (fun k => by rw [cmp_Or_int.l0]) (ev_neg (show ¬ (2 : Int) < (([x, y] : List Int).length : Int) by simp) (ev_const ?_))
      rw [k]
    · exact ev_neg k (ev_const rfl)
  · rw [if_neg h]
    exact ev_neg h (ev_const rfl)
theorem Compare_ev (a b : S29) : Ev (fun k => ikey_Compare.f k a.f0 a.f1 a.f2 a.f3 b.f0 b.f1 b.f2 b.f3) (ce a b) := by
  refine Ev.congr (fun k => by rw [ikey_Compare.f]) (ev_call (show strings_Compare.f a.f0 b.f0 = some (cb a.f0 b.f0) from rfl) (ev_call (cmp_u64 b.f1 a.f1) (Ev.bind (Or_ev _ _) (ev_const rfl))))
theorem ce_range (a b : S29) : ce a b = -1 ∨ ce a b = 0 ∨ ce a b = 1 := by
  unfold ce
  split
  · exact cs_range _ _
  · exact cl_range _ _
theorem cb_zero (a b : ByteArray) : cb a b = 0 ↔ a = b := (cl_zero _ _).trans ba_ext
def valid (a0 : ByteArray) (a2 : Int) (a3 : ByteArray) : Bool := decide ((a0.size : Int) ≤ 300 ∧ (a3.size : Int) ≤ 60000 ∧ if a2 = 2 then a3 = ⟨#[]⟩ else a2 = 1)
theorem nil_toList : (⟨#[]⟩ : ByteArray).toList = [] := by rw [toList_data]
theorem Valid_ev (a0 : ByteArray) (a1 a2 : Int) (a3 : ByteArray) : Ev (fun k => ikey_Valid.f k a0 a1 a2 a3) (valid a0 a2 a3) := by
  refine Ev.congr (fun k => by rw [ikey_Valid.f]) ?_
  have hn : ∀ {b : Bool}, valid a0 a2 a3 = false → b = true → Ev (fun k => ikey_Valid.j0 k b a0 a1 a2 a3) (valid a0 a2 a3) := by
    intro b h hb
    subst hb
    exact Ev.step (fun k => by rw [ikey_Valid.j0]) (ev_pos rfl (ev_const (by rw [h])))
  by_cases h : (a0.size : Int) > 300
  · refine ev_pos h (hn ?_ rfl)
    unfold valid
    exact decide_eq_false (fun k => by omega)
  · refine ev_neg h ?_
    by_cases k : (a3.size : Int) > 60000
    · refine hn ?_ (decide_eq_true k)
      unfold valid
      exact decide_eq_false (fun q => by omega)
    · rw [decide_eq_false k]
      refine Ev.step (fun k => by rw [ikey_Valid.j0]) (ev_neg (by simp) ?_)
      unfold valid
      by_cases q : a2 = 2
      · refine ev_pos q (ev_const ?_)
        have hb := tl_beq a3 ⟨#[]⟩
        rw [nil_toList] at hb
        rw [hb]
        refine congrArg some (decide_eq_decide.2 ?_)
        rw [if_pos q]
        exact ⟨fun x => ⟨by omega, by omega, x⟩, fun x => x.2.2⟩
      · refine ev_neg q (ev_const ?_)
        refine congrArg some ((decide_eq_decide (p := a2 = 1)).2 ?_)
        rw [if_neg q]
        exact ⟨fun x => ⟨by omega, by omega, x⟩, fun x => x.2.2⟩
theorem Room_ev (r a b : Int) (hr : -1 ≤ r ∧ r ≤ 20000) (ha : 0 ≤ a ∧ a ≤ 9223372036854775807) (hb : 0 ≤ b ∧ b ≤ 9223372036854775807) : ∃ q, Ev (fun k => cornucopiabook_Room.f k r [a, b]) q ∧ -1 ≤ q ∧ q ≤ 20000 := by
  have fin : ∀ q, (h : Ev (fun k => cornucopiabook_Room.l0 k r [a, b] 0) q) → Ev (fun k => cornucopiabook_Room.f k r [a, b]) q := fun q h => Ev.congr (fun k => by rw [cornucopiabook_Room.f]) h
  have l2 : (([a, b] : List Int).length : Int) = 2 := rfl
  by_cases h0 : r < 0
  · exact ⟨-1, fin _ (Ev.step (fun k => by rw [cornucopiabook_Room.l0, l2]) (ev_pos (by omega) (ev_pos h0 (ev_const rfl)))), by omega, by omega⟩
  by_cases h1 : a > r
  · exact ⟨-1, fin _ (Ev.step (fun k => by rw [cornucopiabook_Room.l0, l2, show rd [a, b] 0 = a from rfl]) (ev_pos (by omega) (ev_neg h0 (ev_pos (by omega) (ev_pos h1 (ev_const rfl)))))), by omega, by omega⟩
  have s1 : wrap64 (r - a) = r - a := wrap64_id (by omega)
  have s2 : wrap64 ((0 : Int) + 1) = 1 := wrap64_id (by omega)
  have s3 : wrap64 ((1 : Int) + 1) = 2 := wrap64_id (by omega)
  have f1 : ∀ q, (h : Ev (fun k => cornucopiabook_Room.l0 k (r - a) [a, b] 1) q) → Ev (fun k => cornucopiabook_Room.f k r [a, b]) q := fun q h =>
    fin _ (Ev.step (fun k => by rw [cornucopiabook_Room.l0, l2, show rd [a, b] 0 = a from rfl, s1, s2]) (ev_pos (by omega) (ev_neg h0 (ev_pos (by omega) (ev_neg h1 h)))))
  by_cases h2 : b > r - a
  · exact ⟨-1, f1 _ (Ev.step (fun k => by rw [cornucopiabook_Room.l0, l2, show rd [a, b] 1 = b from rfl]) (ev_pos (by omega) (ev_neg (by omega) (ev_pos (by omega) (ev_pos h2 (ev_const rfl)))))), by omega, by omega⟩
  · have s4 : wrap64 (r - a - b) = r - a - b := wrap64_id (by omega)
    exact ⟨r - a - b, f1 _ (Ev.step (fun k => by rw [cornucopiabook_Room.l0, l2, show rd [a, b] 1 = b from rfl, s3, s4]) (ev_pos (by omega) (ev_neg (by omega) (ev_pos (by omega) (ev_neg h2 (Ev.step (fun k => by rw [cornucopiabook_Room.l0, l2]) (ev_neg (by omega) (ev_const rfl)))))))), by omega, by omega⟩
end Go.Proofs.Ytchgpcgolgcfdaa.PuIkC
end
section
namespace Go.Proofs.Ytchgpcgolgcfdaa.PuBk
open Go Go.RowKit Go.Proofs.Ytchgpcgolgcfdaa.PNum Go.Proofs.Ytchgpcgolgcfdaa.PuVt Go.Proofs.Ytchgpcgolgcfdaa.PuVr Go.Proofs.Ytchgpcgolgcfdaa.PuCrc Go.Proofs.YtchgpcgolgcfdaaW.PrintWords Go.Proofs.YtchgpcgolgcfdaaW.PrintLast Go.Proofs.YtchgpcgolgcfdaaW.PrintMore Go.Proofs.YtchgpcgolgcfdaaW.Pu Go.Proofs.Ytchgpcgolgcfdaa.Bl2
theorem Clone_eq (s : ByteArray) (h : s.size ≤ 281474976710656) : strings_Clone.f s = some s := by
  unfold strings_Clone.f stringslite_Clone.f
  rw [if_pos h]
  rfl
theorem Seal_ev (s : ByteArray) (hs : s.size ≤ 140737488355328) : ∃ t : ByteArray, t.size = 4 ∧ Ev (fun k => sum_Seal.f k s) (s ++ t) ∧ Ev (fun k => sum_Open.f k (s ++ t)) (s, 0) := by
  obtain ⟨c, hc, he⟩ := Crc_ev s (by omega)
  obtain ⟨v, rfl⟩ : ∃ v : Nat, c = (v : Int) := ⟨c.toNat, by omega⟩
  have hv : v < 256 ^ 4 := by omega
  have h4 : (be 4 v).length = 4 := be_len 4 v
  have ht : (strOfNums (be 4 v)).size = 4 := by rw [S_size, h4]
  have hF := Fix_yes (v := v) (n := 4) (by omega) (by omega) (Or.inr hv)
  have hw : IntKind.u64.wrap (v : Int) = (v : Int) := wu64_id (by omega)
  refine ⟨strOfNums (be 4 v), ht, ?_, ?_⟩
  · unfold sum_Seal.f sum_four.f
    refine Ev.bind he ?_
    simp only [hw]
    refine Ev.bind (Ev.bind hF (ev_const rfl)) (ev_pos ?_ (ev_const rfl))
    show s.size + (strOfNums (be 4 v)).size ≤ _
    omega
  · have hsz : (s ++ strOfNums (be 4 v)).size = s.size + 4 := by rw [ByteArray.size_append, ht]
    have hw4 : wrap64 (((s ++ strOfNums (be 4 v)).size : Int) - 4) = (s.size : Int) := by rw [hsz, wrap64_id (by omega)]; omega
    have hU := Unfix_yes (s ++ strOfNums (be 4 v)) s.size 4 (by omega) (by omega) (by omega) (by omega)
    have hb : bytesOf (s ++ strOfNums (be 4 v)) = bytesOf s ++ be 4 v := by rw [bytesOf_append, of_S (be_ok 4 v)]
    have hl : (bytesOf s).length = s.size := bytesOf_length s
    rw [hb, List.drop_left' hl, List.take_of_length_le (by omega), un_be 4 v hv] at hU
    have hex : (s ++ strOfNums (be 4 v)).extract 0 s.size = s := by
      rw [← S_of ((s ++ strOfNums (be 4 v)).extract 0 s.size), bytesOf_extract, hb, List.take_left' hl, List.drop_zero, S_of]
    unfold sum_Open.f sum_get.f
    rw [hw4]
    simp only [Int.toNat_natCast, hex]
    refine ev_neg (by omega) (Ev.bind (Ev.bind hU (ev_const rfl)) (ev_pos (by omega) (ev_pos (by rw [hsz]; omega) (Ev.bind he (ev_pos ?_ (ev_call (Clone_eq s (by omega)) (ev_const rfl)))))))
    show ((v : Nat) : Int) % 4294967296 = (v : Int)
    omega
theorem Right_l0 (l : List E) (hlen : l.length ≤ 9223372036854775806) (d : Nat) : ∀ i, i + d = l.length → ∃ b, Ev (fun k => block_Right.l0 k l l (l.length : Int) (i : Int)) b ∧
    (b = true → ∀ j (h : j < l.length), i ≤ j → Go.Proofs.Ytchgpcgolgcfdaa.PuIkC.valid l[j].f0 l[j].f2 l[j].f3 = true ∧ (∀ h0 : 0 < j, Go.Proofs.Ytchgpcgolgcfdaa.PuIkC.ce (l[j - 1]'(by omega)) l[j] = -1)) := by
  induction d with
  | zero =>
    intro i hi
    exact ⟨true, Ev.step (fun k => by rw [block_Right.l0]) (ev_neg (by omega) (ev_const rfl)), fun _ j h hj => by omega⟩
  | succ d ih =>
    intro i hi
    have hlt : i < l.length := by omega
    have he : rd_T29 l (i : Int) = l[i] := at_nat l i hlt
    have c1 : (i : Int) < (l.length : Int) := by omega
    have c2 : (0 : Int) ≤ (i : Int) := by omega
    have hw : wrap64 ((i : Int) + 1) = ((i + 1 : Nat) : Int) := by rw [wrap64_id (by omega)]; omega
    have hV := Go.Proofs.Ytchgpcgolgcfdaa.PuIkC.Valid_ev l[i].f0 l[i].f1 l[i].f2 l[i].f3
    obtain ⟨b, hb, hbt⟩ := ih (i + 1) (by omega)
    cases hv : Go.Proofs.Ytchgpcgolgcfdaa.PuIkC.valid l[i].f0 l[i].f2 l[i].f3 with
    | false =>
      rw [hv] at hV
      refine ⟨false, ?_, fun h => by cases h⟩
      refine Ev.step (fun k => by rw [block_Right.l0, he]) (ev_pos c1 (ev_pos c2 (ev_pos c1 ?_)))
      exact Ev.bind hV (ev_neg Bool.false_ne_true (ev_const rfl))
    | true =>
      rw [hv] at hV
      by_cases h0 : i = 0
      · subst h0
        have c0 : ¬ (((0 : Nat) : Int) > 0) := by omega
        refine ⟨b, ?_, fun h j hj hij => ?_⟩
        · refine Ev.step (fun k => by rw [block_Right.l0, he, hw]) (ev_pos c1 (ev_pos c2 (ev_pos c1 ?_)))
          exact Ev.bind hV (ev_pos rfl (ev_neg c0 hb))
        · by_cases hj0 : j = 0
          · subst hj0
            exact ⟨hv, fun h => absurd h (by omega)⟩
          · exact hbt h j hj (by omega)
      · have hw1 : wrap64 ((i : Int) - 1) = ((i - 1 : Nat) : Int) := by rw [wrap64_id (by omega)]; omega
        have he1 : rd_T29 l ((i - 1 : Nat) : Int) = l[i - 1]'(by omega) := at_nat l (i - 1) (by omega)
        have c3 : (i : Int) > 0 := by omega
        have c4 : (0 : Int) ≤ ((i - 1 : Nat) : Int) := by omega
        have c5 : ((i - 1 : Nat) : Int) < (l.length : Int) := by omega
        have hC := Go.Proofs.Ytchgpcgolgcfdaa.PuIkC.Compare_ev (l[i - 1]'(by omega)) l[i]
        by_cases hce : Go.Proofs.Ytchgpcgolgcfdaa.PuIkC.ce (l[i - 1]'(by omega)) l[i] ≥ 0
        · refine ⟨false, ?_, fun h => by cases h⟩
          refine Ev.step (fun k => by rw [block_Right.l0, he, hw1, he1]) (ev_pos c1 (ev_pos c2 (ev_pos c1 ?_)))
          refine Ev.bind hV (ev_pos rfl (ev_pos c3 (ev_pos c4 (ev_pos c5 ?_))))
          exact Ev.bind hC (ev_pos hce (ev_const rfl))
        · refine ⟨b, ?_, fun h j hj hij => ?_⟩
          · refine Ev.step (fun k => by rw [block_Right.l0, he, hw1, he1, hw]) (ev_pos c1 (ev_pos c2 (ev_pos c1 ?_)))
            refine Ev.bind hV (ev_pos rfl (ev_pos c3 (ev_pos c4 (ev_pos c5 ?_))))
            exact Ev.bind hC (ev_neg hce hb)
          · by_cases hji : j = i
            · subst hji
              refine ⟨hv, fun _ => ?_⟩
              rcases Go.Proofs.Ytchgpcgolgcfdaa.PuIkC.ce_range (l[j - 1]'(by omega)) l[j] with q | q | q
              · exact q
              · exact absurd (by rw [q]; decide) hce
              · exact absurd (by rw [q]; decide) hce
            · exact hbt h j hj (by omega)
theorem Right_ev (l : List E) (hlen : l.length ≤ 9223372036854775806) : ∃ b, Ev (fun k => block_Right.f k l) b ∧
    (b = true → ∀ j (h : j < l.length), Go.Proofs.Ytchgpcgolgcfdaa.PuIkC.valid l[j].f0 l[j].f2 l[j].f3 = true ∧ (∀ h0 : 0 < j, Go.Proofs.Ytchgpcgolgcfdaa.PuIkC.ce (l[j - 1]'(by omega)) l[j] = -1)) := by
  obtain ⟨b, hb, hbt⟩ := Right_l0 l hlen l.length 0 (Nat.zero_add _)
  exact ⟨b, hb, fun h j hj => hbt h j hj (Nat.zero_le _)⟩
end Go.Proofs.Ytchgpcgolgcfdaa.PuBk
end
section
namespace Go.Proofs.Ytchgpcgolgcfdaa.PuBk
open Go Go.RowKit Go.Proofs.Ytchgpcgolgcfdaa.PNum Go.Proofs.Ytchgpcgolgcfdaa.PuVt Go.Proofs.Ytchgpcgolgcfdaa.PuVr Go.Proofs.Ytchgpcgolgcfdaa.PuCrc Go.Proofs.YtchgpcgolgcfdaaW.PrintWords Go.Proofs.YtchgpcgolgcfdaaW.PrintLast Go.Proofs.YtchgpcgolgcfdaaW.PrintMore Go.Proofs.YtchgpcgolgcfdaaW.Pu Go.Proofs.Ytchgpcgolgcfdaa.Bl2
theorem nil_app (x : ByteArray) : (⟨#[]⟩ : ByteArray) ++ x = x := by
  have h := S_append [] (bytesOf x)
  rw [List.nil_append, S_of] at h
  exact h
theorem versions_ev (l : List E) (hl : ∀ e ∈ l, Ok e) (h400 : l.length ≤ 400) : Ev (fun k => block_versions.f k (strOfNums (layB 0 ⟨#[]⟩ l))) (l, true) := by
  have hlen := layB_len l 0 ⟨#[]⟩ hl
  have hn := New_eq (strOfNums (layB 0 ⟨#[]⟩ l)) (by rw [S_size]; omega)
  have hv := vers_ev l 0 ⟨#[]⟩ [] hl (by decide) (by simpa using h400)
  unfold block_versions.f
  exact ev_call hn hv
theorem aw1 {D n : Nat} (h : D = n + 4) (hs : D ≤ 1000000000000) : wrap64 ((D : Int) - 4) = (n : Int) := by rw [wrap64_id (by omega)]; omega
theorem aw2 {n : Nat} (hs : n ≤ 1000000000000) : wrap64 (Int.tdiv (n : Int) 4) = ((n / 4 : Nat) : Int) := by
  have h1 : Int.tdiv (n : Int) 4 = ((n / 4 : Nat) : Int) := by rw [Int.tdiv_eq_ediv_of_nonneg (by omega)]; rfl
  rw [h1, wrap64_id (by omega)]
theorem aw5 {m : Nat} (hs : m ≤ 1000000000000) : wrap64 ((m : Int) * 4) = ((4 * m : Nat) : Int) := by rw [wrap64_id (by omega)]; omega
theorem aw6 {n b m : Nat} (h : n = b + 4 * m) (hs : n ≤ 1000000000000) : wrap64 ((n : Int) - ((4 * m : Nat) : Int)) = (b : Int) := by rw [wrap64_id (by omega)]; omega
theorem Put_ev (l : List E) (hl : ∀ e ∈ l, Ok e) (h400 : l.length ≤ 400) (hR : Ev (fun k => block_Right.f k l) true) : ∃ s : ByteArray, 8 ≤ s.size ∧ Ev (fun k => block_Put.f k l) (s, 0) ∧ Ev (fun k => block_Get.f k s) (l, 0) := by
  have hlen := layB_len l 0 ⟨#[]⟩ hl
  obtain ⟨r, hr, hg⟩ := go_ev l hl h400 l.length 0 ⟨#[]⟩ ⟨#[]⟩ ⟨#[]⟩ (Nat.zero_add _) (fun h => absurd h (by omega)) (by decide) (by decide) rfl
  rw [List.drop_zero, nil_app] at hg
  obtain ⟨m, hm⟩ : ∃ m, m = (l.length + 3) / 4 := ⟨_, rfl⟩
  rw [← hm] at hr
  have hz := four_ev m (by omega)
  have hzs : (strOfNums (be 4 m)).size = 4 := by rw [S_size, be_len]
  have hB : (strOfNums (layB 0 ⟨#[]⟩ l)).size = (layB 0 ⟨#[]⟩ l).length := S_size _
  generalize hBB : layB 0 ⟨#[]⟩ l = B at *
  have hD : ((strOfNums B ++ r) ++ strOfNums (be 4 m)).size = B.length + r.size + 4 := by rw [ByteArray.size_append, ByteArray.size_append, hB, hzs]
  obtain ⟨t, ht, hS, hO⟩ := Seal_ev ((strOfNums B ++ r) ++ strOfNums (be 4 m)) (by rw [hD]; omega)
  have hP : Ev (fun k => block_Put.f k l) ((((strOfNums B ++ r) ++ strOfNums (be 4 m)) ++ t), 0) := by
    show Ev (fun k => putF k l) _
    unfold putF
    refine Ev.bind hR (ev_pos rfl (ev_pos (by unfold lim; omega) ?_))
    rw [← hm]
    refine Ev.bind hg (Ev.bind hz (ev_pos ?_ ?_))
    · show (strOfNums B).size + r.size + (strOfNums (be 4 m)).size ≤ lim
      rw [hB, hzs]
      unfold lim
      omega
    · exact Ev.bind hS (ev_const rfl)
  refine ⟨_, ?_, hP, ?_⟩
  · rw [ByteArray.size_append, ht, hD]
    omega
  · have hex : ((strOfNums B ++ r) ++ strOfNums (be 4 m)).extract 0 B.length = strOfNums B := by
      have hb : bytesOf ((strOfNums B ++ r) ++ strOfNums (be 4 m)) = B ++ (bytesOf r ++ be 4 m) := by
        rw [bytesOf_append, bytesOf_append, of_S (be_ok 4 m), of_S (by rw [← hBB]; exact layB_ok _ _ _), List.append_assoc]
      rw [← S_of (((strOfNums B ++ r) ++ strOfNums (be 4 m)).extract 0 B.length), bytesOf_extract, hb, List.take_left' rfl, List.drop_zero]
    have hU := Unfix_yes ((strOfNums B ++ r) ++ strOfNums (be 4 m)) (B.length + r.size) 4 (by omega) (by omega) (by omega) (by omega)
    have hbD : bytesOf ((strOfNums B ++ r) ++ strOfNums (be 4 m)) = (bytesOf (strOfNums B ++ r)) ++ be 4 m := by rw [bytesOf_append, of_S (be_ok 4 m)]
    have hlD : (bytesOf (strOfNums B ++ r)).length = B.length + r.size := by rw [bytesOf_length, ByteArray.size_append, hB]
    rw [hbD, List.drop_left' hlD, List.take_of_length_le (by rw [be_len]; omega), un_be 4 m (by omega)] at hU
    have hV := versions_ev l hl h400
    rw [hBB] at hV
    generalize hDD : (strOfNums B ++ r) ++ strOfNums (be 4 m) = D at *
    have q1 : D.size ≤ 1000000000000 := by omega
    have q2 : B.length + r.size ≤ 1000000000000 := by omega
    have q3 : m ≤ 1000000000000 := by omega
    have q4 : B.length + r.size = B.length + 4 * m := by omega
    have q5 : 0 ≤ (((B.length + r.size) / 4 : Nat) : Int) ∧ (((B.length + r.size) / 4 : Nat) : Int) ≤ 18446744073709551615 := by omega
    have q6 : -9223372036854775808 ≤ (m : Int) ∧ (m : Int) ≤ 9223372036854775807 := by omega
    have n1 : ¬ (((B.length + r.size : Nat) : Int) < 0) := by omega
    have n2 : ¬ ((m : Int) > (((B.length + r.size) / 4 : Nat) : Int)) := by omega
    have n3 : (0 : Int) ≤ (B.length : Int) := by omega
    have n4 : (B.length : Int) ≤ (D.size : Int) := by omega
    have w1 := aw1 hD q1
    have w2 := aw2 q2
    have w3 := wu64_id q5
    have w4 := wrap64_id q6
    have w5 := aw5 q3
    have w6 := aw6 q4 q2
    unfold block_Get.f
    refine Ev.bind hO (ev_pos rfl ?_)
    dsimp only
    rw [w1, w2, w3]
    refine ev_neg n1 (Ev.bind hU ?_)
    dsimp only
    rw [w4, w5, w6, Int.toNat_natCast, hex]
    refine ev_neg n2 (ev_pos n3 (ev_pos n4 (Ev.bind hV (Ev.bind hP (ev_pos rfl (ev_pos rfl (ev_pos rfl (ev_const rfl))))))))
end Go.Proofs.Ytchgpcgolgcfdaa.PuBk
end
section
namespace Go.Proofs.Ytchgpcgolgcfdaa.PuSame
open Go Go.RowKit Go.Proofs.Ytchgpcgolgcfdaa.PNum Go.Proofs.Ytchgpcgolgcfdaa.PuIkC Go.Proofs.YtchgpcgolgcfdaaW.PrintWords Go.Proofs.YtchgpcgolgcfdaaW.PrintLast Go.Proofs.YtchgpcgolgcfdaaW.PrintMore Go.Proofs.YtchgpcgolgcfdaaW.Pu
abbrev E := S29
theorem at_nat (l : List E) (i : Nat) (h : i < l.length) : rd_T29 l (i : Int) = l[i] := by
  simp [rd_T29, h]
theorem same_l (l : List E) (hl : l.length ≤ 1000000) : ∀ (d i : Nat), i + d = l.length → ∀ k, d < k → cornucopiabook_SameEntries.l0 k l l (i : Int) = some true
  | 0, i, hi, k, hk => by
    obtain ⟨k, rfl⟩ : ∃ m, k = m + 1 := ⟨k - 1, by omega⟩
    rw [cornucopiabook_SameEntries.l0, if_neg (by omega)]
  | d + 1, i, hi, k, hk => by
    obtain ⟨k, rfl⟩ : ∃ m, k = m + 1 := ⟨k - 1, by omega⟩
    rw [cornucopiabook_SameEntries.l0, if_pos (by omega), if_pos (by omega), if_pos (by omega), if_pos (by simp), wrap64_id (by omega)]
    exact same_l l hl d (i + 1) (by omega) k (by omega)
theorem Same_ev (l : List E) (hl : l.length ≤ 1000000) : Ev (fun k => cornucopiabook_SameEntries.f k l l) true :=
  ⟨l.length + 1, fun k hk => by
    show cornucopiabook_SameEntries.f k l l = some true
    rw [cornucopiabook_SameEntries.f, if_pos rfl]
    exact same_l l hl l.length 0 (by omega) k (by omega)⟩
end Go.Proofs.Ytchgpcgolgcfdaa.PuSame
end
section
namespace Go.Proofs.Ytchgpcgolgcfdaa.PuBk
open Go Go.RowKit Go.Proofs.Ytchgpcgolgcfdaa.PNum Go.Proofs.Ytchgpcgolgcfdaa.PuVt Go.Proofs.Ytchgpcgolgcfdaa.PuVr Go.Proofs.Ytchgpcgolgcfdaa.PuCrc Go.Proofs.YtchgpcgolgcfdaaW.PrintWords Go.Proofs.YtchgpcgolgcfdaaW.PrintLast Go.Proofs.YtchgpcgolgcfdaaW.PrintMore Go.Proofs.YtchgpcgolgcfdaaW.Pu Go.Proofs.Ytchgpcgolgcfdaa.Bl2
def lt (key : ByteArray) (e : E) : Bool := Op.bytesLess e.f0.toList key.toList
theorem Seek_l0 (key : ByteArray) (l : List E) (hlen : l.length ≤ 9223372036854775806) (d : Nat) : ∀ i, i + d = l.length → Ev (fun k => block_Seek.l0 k key l 0 l (l.length : Int) (i : Int)) ((l.drop i).dropWhile (lt key), 0) := by
  induction d with
  | zero =>
    intro i hi
    rw [List.drop_eq_nil_of_le (by omega), List.dropWhile_nil]
    have c1 : ¬ ((i : Int) < (l.length : Int)) := by omega
    exact Ev.step (fun k => by rw [block_Seek.l0]) (ev_neg c1 (ev_const rfl))
  | succ d ih =>
    intro i hi
    have hlt : i < l.length := by omega
    have he : rd_T29 l (i : Int) = l[i] := at_nat l i hlt
    have c1 : (i : Int) < (l.length : Int) := by omega
    have c2 : (0 : Int) ≤ (i : Int) := by omega
    have c3 : (i : Int) ≤ (l.length : Int) := by omega
    have hw : wrap64 ((i : Int) + 1) = ((i + 1 : Nat) : Int) := by rw [wrap64_id (by omega)]; omega
    have h1 := ih (i + 1) (by omega)
    refine Ev.step (fun k => by rw [block_Seek.l0, he, hw, Int.toNat_natCast]) (ev_pos c1 (ev_pos c2 (ev_pos c1 ?_)))
    by_cases hl : Op.bytesLess l[i].f0.toList key.toList = true
    · refine ev_pos hl ?_
      have hd : (l.drop i).dropWhile (lt key) = (l.drop (i + 1)).dropWhile (lt key) := by
        rw [List.drop_eq_getElem_cons hlt, List.dropWhile_cons, if_pos (show lt key l[i] = true from hl)]
      rw [hd]
      exact h1
    · have hd : (l.drop i).dropWhile (lt key) = l.drop i := by
        conv => lhs; rw [List.drop_eq_getElem_cons hlt, List.dropWhile_cons, if_neg (show ¬ lt key l[i] = true from hl)]
        rw [← List.drop_eq_getElem_cons hlt]
      rw [hd]
      exact ev_neg hl (ev_pos c3 (ev_const rfl))
theorem Seek_ev (key s : ByteArray) (l : List E) (hlen : l.length ≤ 400) (h : Ev (fun k => block_Get.f k s) (l, 0)) : Ev (fun k => block_Seek.f k s key) (l.dropWhile (lt key), 0) := by
  unfold block_Seek.f
  exact Ev.bind h (Seek_l0 key l (by omega) l.length 0 (Nat.zero_add _))
theorem less_cb : ∀ a b : List UInt8, Op.bytesLess a b = decide (Lib.compareBytes a b = -1)
  | [], [] => by simp [Op.bytesLess, Lib.compareBytes]
  | [], _ :: _ => by simp [Op.bytesLess, Lib.compareBytes]
  | _ :: _, [] => by simp [Op.bytesLess, Lib.compareBytes]
  | a :: x, b :: y => by
    have ih := less_cb x y
    unfold Op.bytesLess Lib.compareBytes
    rw [ih]
    by_cases h1 : a < b
    · simp [h1]
    · by_cases h2 : b < a
      · have h3 : a ≠ b := fun e => by subst e; exact h1 h2
        simp [h1, h2, h3]
      · have h3 : a = b := UInt8.le_antisymm (UInt8.not_lt.1 h2) (UInt8.not_lt.1 h1)
        subst h3
        simp
theorem lt_cb (key : ByteArray) (e : E) : lt key e = decide (Go.Proofs.Ytchgpcgolgcfdaa.PuIkC.cb e.f0 key = -1) := by
  unfold lt
  rw [less_cb, toList_data, toList_data]
  rfl
theorem lt_mono (key : ByteArray) (a b : E) (h : Go.Proofs.Ytchgpcgolgcfdaa.PuIkC.ce a b = -1) (hb : lt key b = true) : lt key a = true := by
  rw [lt_cb, decide_eq_true_eq] at hb ⊢
  unfold Go.Proofs.Ytchgpcgolgcfdaa.PuIkC.ce at h
  by_cases h0 : Go.Proofs.Ytchgpcgolgcfdaa.PuIkC.cb a.f0 b.f0 = 0
  · rw [(Go.Proofs.Ytchgpcgolgcfdaa.PuIkC.cb_zero _ _).1 h0]
    exact hb
  · rw [if_neg h0] at h
    exact Go.Proofs.Ytchgpcgolgcfdaa.PuIkC.cl_trans _ _ _ h hb
theorem lt_all (key : ByteArray) (l : List E) (ho : ∀ j (h : j < l.length), ∀ h0 : 0 < j, Go.Proofs.Ytchgpcgolgcfdaa.PuIkC.ce (l[j - 1]'(by omega)) l[j] = -1) (d : Nat) : ∀ i (hi : i + d < l.length), lt key (l[i + d]'hi) = true → lt key (l[i]'(by omega)) = true := by
  induction d with
  | zero => intro i hi h; exact h
  | succ d ih =>
    intro i hi h
    have h1 := ho (i + (d + 1)) hi (by omega)
    exact ih i (by omega) (lt_mono key _ _ h1 h)
theorem split (key : ByteArray) (l : List E) : ∃ j, j ≤ l.length ∧ l.dropWhile (lt key) = l.drop j ∧ (∀ i (h : i < l.length), i < j → lt key l[i] = true) ∧ (∀ h : j < l.length, lt key l[j] = false) := by
  induction l with
  | nil => exact ⟨0, Nat.le_refl _, rfl, fun i h => by simp at h, fun h => by simp at h⟩
  | cons a l ih =>
    by_cases ha : lt key a = true
    · obtain ⟨j, hj, hd, h1, h2⟩ := ih
      refine ⟨j + 1, by simpa using hj, ?_, ?_, ?_⟩
      · rw [List.dropWhile_cons, if_pos ha, hd, List.drop_succ_cons]
      · intro i hi hij
        cases i with
        | zero => exact ha
        | succ i => exact h1 i (by simpa using hi) (by omega)
      · intro h
        exact h2 (by simpa using h)
    · refine ⟨0, Nat.zero_le _, ?_, fun i _ h => by omega, fun _ => by simpa using ha⟩
      rw [List.dropWhile_cons, if_neg ha, List.drop_zero]
end Go.Proofs.Ytchgpcgolgcfdaa.PuBk
end
section
namespace Go.Proofs.Ytchgpcgolgcfdaa.PuBk
open Go Go.RowKit Go.Proofs.Ytchgpcgolgcfdaa.PNum Go.Proofs.Ytchgpcgolgcfdaa.PuVt Go.Proofs.Ytchgpcgolgcfdaa.PuVr Go.Proofs.Ytchgpcgolgcfdaa.PuCrc Go.Proofs.YtchgpcgolgcfdaaW.PrintWords Go.Proofs.YtchgpcgolgcfdaaW.PrintLast Go.Proofs.YtchgpcgolgcfdaaW.PrintMore Go.Proofs.YtchgpcgolgcfdaaW.Pu Go.Proofs.Ytchgpcgolgcfdaa.Bl2
def L3 : List E := [⟨⟨#[97]⟩, 2, 1, ⟨#[]⟩⟩, ⟨⟨#[97]⟩, 1, 1, ⟨#[]⟩⟩, ⟨⟨#[98]⟩, 1, 2, ⟨#[]⟩⟩]
theorem L3_ok : ∀ e ∈ L3, Ok e := by
  intro e he
  simp only [L3, List.mem_cons, List.not_mem_nil, or_false] at he
  rcases he with rfl | rfl | rfl
  · exact ⟨by decide, by decide, by decide, by decide⟩
  · exact ⟨by decide, by decide, by decide, by decide⟩
  · exact ⟨by decide, by decide, by decide, by decide⟩
theorem L3_right : block_Right.f 20 L3 = some true := by decide +kernel
theorem L3_seek : L3.dropWhile (lt ⟨#[98]⟩) = [⟨⟨#[98]⟩, 1, 2, ⟨#[]⟩⟩] := by
  unfold L3
  rw [List.dropWhile_cons, if_pos (by decide +kernel), List.dropWhile_cons, if_pos (by decide +kernel), List.dropWhile_cons, if_neg (by decide +kernel)]
theorem L3_shared : block_Shared.f 10 ⟨#[97, 98, 99]⟩ ⟨#[97, 98, 100]⟩ = some 2 := by decide +kernel
theorem alive_ev : Ev (fun k => cornucopialaw10_alive.f k) true := by
  obtain ⟨s, _, hP, hG⟩ := Put_ev L3 L3_ok (by decide) (ev_at (block_Right.mono _) 20 L3_right)
  have hS := Seek_ev ⟨#[98]⟩ s L3 (by decide) hG
  rw [L3_seek] at hS
  have hH : Ev (fun k => block_Shared.f k ⟨#[97, 98, 99]⟩ ⟨#[97, 98, 100]⟩) 2 := ev_at (block_Shared.mono _ _) 10 L3_shared
  have hE := Go.Proofs.Ytchgpcgolgcfdaa.PuSame.Same_ev L3 (by decide)
  unfold cornucopialaw10_alive.f
  refine ev_call rfl (Ev.bind hP ?_)
  dsimp only
  refine Ev.bind hG ?_
  dsimp only
  refine Ev.bind hS ?_
  dsimp only
  refine Ev.bind hH ?_
  refine ev_pos rfl (ev_pos rfl (ev_pos rfl (Ev.bind hE ?_)))
  refine ev_pos rfl (ev_pos rfl (ev_pos rfl (ev_pos (by decide) (ev_pos (by decide) (ev_const ?_)))))
  decide +kernel
end Go.Proofs.Ytchgpcgolgcfdaa.PuBk
end
section
namespace Go.Proofs.Ytchgpcgolgcfdaa.PNum
open Go.RowKit Go.Proofs.YtchgpcgolgcfdaaW.PrintWords Go.Proofs.YtchgpcgolgcfdaaW.PrintLast Go.Proofs.YtchgpcgolgcfdaaW.PrintMore
attribute [local go_sem] max2_int min2_int max_two min_two max_three min_three max_four min_four   -- for this text's walks alone
set_option linter.unusedVariables false
set_option linter.unusedSimpArgs false
def cornucopiaref5_Valid.f (a0_0 : ByteArray) (a0_1 : Int) (a0_2 : Int) (a0_3 : ByteArray) : Option (Bool) := if (a0_0.size : Int) ≤ 300 then (if (a0_3.size : Int) ≤ 60000 then (if a0_2 = 1 then (some true) else (if a0_2 = 2 then (some (a0_3.toList == ([] : List UInt8))) else (some false))) else (some false)) else (some false)
set_option maxHeartbeats 8000000 in
set_option maxRecDepth 100000 in
theorem cornucopiaref5_Valid.calls (a0_0 : ByteArray) (a0_1 : Int) (a0_2 : Int) (a0_3 : ByteArray) (r : Bool) (w : World) (h : cornucopiaref5_Valid.f a0_0 a0_1 a0_2 a0_3 = some r) :
    Calls Try.prog 51 #[.agg #[.string a0_0, .int .u64 a0_1, .int .i64 a0_2, .string a0_3]] w fun e w' => e = .returned (.bool r) ∧ Below w.heap.size w w' := by
  have hu29 := Try.underlying29
  have HB := Aside0.mk (Below.refl w.heap.size w)
  have H : (if (a0_0.size : Int) ≤ 300 then (if (a0_3.size : Int) ≤ 60000 then (if a0_2 = 1 then (some true) else (if a0_2 = 2 then (some (a0_3.toList == ([] : List UInt8))) else (some false))) else (some false)) else (some false)) = some r := h
  clear h
  by_cases c2 : (a0_0.size : Int) ≤ 300
  · rw [if_pos c2] at H
    have c2b0 : decide ((a0_0.size : Int) ≤ 300) = true := decide_eq_true c2
    have c2b1 : decide (a0_0.size ≤ 300) = true := decide_eq_true (by omega)
    clear c2
    by_cases c3 : (a0_3.size : Int) ≤ 60000
    · rw [if_pos c3] at H
      have c3b0 : decide ((a0_3.size : Int) ≤ 60000) = true := decide_eq_true c3
      have c3b1 : decide (a0_3.size ≤ 60000) = true := decide_eq_true (by omega)
      clear c3
      by_cases c4 : a0_2 = 1
      · rw [if_pos c4] at H
        have c4b0 : (a0_2 == 1) = true := beq_iff_eq.mpr c4
        have c4b1 : (a0_2 != 1) = false := bne_eq_false_iff_eq.mpr c4
        clear c4
        obtain rfl := Option.some.inj H
        go_enter Try.func51, Try.ntmps51
        go_wp2_with (first | ((with_reducible refine gate_dst (N := 1) rfl ?_); (try (refine gate_guard (by rfl) ?_; dsimp only)); refine box_event ?hg (N := 1) ?hd (cs := #[.string a0_0, .int .u64 a0_1, .int .i64 a0_2, .string a0_3]) (t := 29) ?hr ?_; (case hd => rfl); (case hg => rfl); (case hr => first | (go_simp; done) | (go_simp; rfl)); intro gb244 hg w5 hbox hb; have n0_ := Aside0.mk (below_step (by repeat (first | (with_reducible first | exact HB.out | apply below_alloc | apply pw_below_drewN | apply below_drew1) | exact HB.out)) hb); have n1_ := Aside0.mk (hbox); have n2_ := Aside0.mk ((by rw [hg]; exact (below_size (by repeat (first | (with_reducible first | exact HB.out | apply below_alloc | apply pw_below_drewN | apply below_drew1) | exact HB.out))) : w.heap.size ≤ gb244)); have n3_ := Aside0.mk ((by rw [hg]; exact (below_size (by repeat (first | (with_reducible first | exact HB.out | apply below_alloc | apply pw_below_drewN | apply below_drew1) | exact HB.out))) : w.heap.size ≤ gb244)); clear HB; have HB := n0_; have BK244 := n1_; have GW244 := n2_; have GE244 := n3_; clear n0_ n1_ n2_ n3_; clear hb hbox hg; have hcz6_0 : w5.cell? ⟨gb244, 0, none⟩ = some (.string a0_0) := (blk_cell BK244.out 0).trans rfl; have hcz6_1 : w5.cell? ⟨gb244, 1, none⟩ = some (.int .u64 a0_1) := (blk_cell BK244.out 1).trans rfl; have hcz6_2 : w5.cell? ⟨gb244, 2, none⟩ = some (.int .i64 a0_2) := (blk_cell BK244.out 2).trans rfl; have hcz6_3 : w5.cell? ⟨gb244, 3, none⟩ = some (.string a0_3) := (blk_cell BK244.out 3).trans rfl; have hfz6_0 := blk_frozen BK244.out 0; have hfz6_1 := blk_frozen BK244.out 1; have hfz6_2 := blk_frozen BK244.out 2; have hfz6_3 := blk_frozen BK244.out 3))
        go_ret
        exact ⟨by first | rfl | (simp [errW_none, errW_some] <;> rfl) | (simp [*, errW_none, errW_some] <;> rfl), by repeat (first | (with_reducible first | exact HB.out | apply below_alloc | apply pw_below_drewN | apply below_drew1 | refine below_set ?_ GE244.out) | exact HB.out)⟩
      · rw [if_neg c4] at H
        have c4b0 : (a0_2 == 1) = false := beq_eq_false_iff_ne.mpr c4
        have c4b1 : (a0_2 != 1) = true := bne_iff_ne.mpr c4
        by_cases c7 : a0_2 = 2
        · rw [if_pos c7] at H
          have c7b0 : (a0_2 == 2) = true := beq_iff_eq.mpr c7
          have c7b1 : (a0_2 != 2) = false := bne_eq_false_iff_eq.mpr c7
          clear c7
          obtain rfl := Option.some.inj H
          go_enter Try.func51, Try.ntmps51
          go_wp2_with (first | ((with_reducible refine gate_dst (N := 1) rfl ?_); (try (refine gate_guard (by rfl) ?_; dsimp only)); refine box_event ?hg (N := 1) ?hd (cs := #[.string a0_0, .int .u64 a0_1, .int .i64 a0_2, .string a0_3]) (t := 29) ?hr ?_; (case hd => rfl); (case hg => rfl); (case hr => first | (go_simp; done) | (go_simp; rfl)); intro gb244 hg w8 hbox hb; have n0_ := Aside0.mk (below_step (by repeat (first | (with_reducible first | exact HB.out | apply below_alloc | apply pw_below_drewN | apply below_drew1) | exact HB.out)) hb); have n1_ := Aside0.mk (hbox); have n2_ := Aside0.mk ((by rw [hg]; exact (below_size (by repeat (first | (with_reducible first | exact HB.out | apply below_alloc | apply pw_below_drewN | apply below_drew1) | exact HB.out))) : w.heap.size ≤ gb244)); have n3_ := Aside0.mk ((by rw [hg]; exact (below_size (by repeat (first | (with_reducible first | exact HB.out | apply below_alloc | apply pw_below_drewN | apply below_drew1) | exact HB.out))) : w.heap.size ≤ gb244)); clear HB; have HB := n0_; have BK244 := n1_; have GW244 := n2_; have GE244 := n3_; clear n0_ n1_ n2_ n3_; clear hb hbox hg; have hcz9_0 : w8.cell? ⟨gb244, 0, none⟩ = some (.string a0_0) := (blk_cell BK244.out 0).trans rfl; have hcz9_1 : w8.cell? ⟨gb244, 1, none⟩ = some (.int .u64 a0_1) := (blk_cell BK244.out 1).trans rfl; have hcz9_2 : w8.cell? ⟨gb244, 2, none⟩ = some (.int .i64 a0_2) := (blk_cell BK244.out 2).trans rfl; have hcz9_3 : w8.cell? ⟨gb244, 3, none⟩ = some (.string a0_3) := (blk_cell BK244.out 3).trans rfl; have hfz9_0 := blk_frozen BK244.out 0; have hfz9_1 := blk_frozen BK244.out 1; have hfz9_2 := blk_frozen BK244.out 2; have hfz9_3 := blk_frozen BK244.out 3))
          go_ret
          exact ⟨by first | rfl | (simp [errW_none, errW_some] <;> rfl) | (simp [*, errW_none, errW_some] <;> rfl), by repeat (first | (with_reducible first | exact HB.out | apply below_alloc | apply pw_below_drewN | apply below_drew1 | refine below_set ?_ GE244.out) | exact HB.out)⟩
        · rw [if_neg c7] at H
          have c7b0 : (a0_2 == 2) = false := beq_eq_false_iff_ne.mpr c7
          have c7b1 : (a0_2 != 2) = true := bne_iff_ne.mpr c7
          obtain rfl := Option.some.inj H
          go_enter Try.func51, Try.ntmps51
          go_wp2_with (first | ((with_reducible refine gate_dst (N := 1) rfl ?_); (try (refine gate_guard (by rfl) ?_; dsimp only)); refine box_event ?hg (N := 1) ?hd (cs := #[.string a0_0, .int .u64 a0_1, .int .i64 a0_2, .string a0_3]) (t := 29) ?hr ?_; (case hd => rfl); (case hg => rfl); (case hr => first | (go_simp; done) | (go_simp; rfl)); intro gb244 hg w10 hbox hb; have n0_ := Aside0.mk (below_step (by repeat (first | (with_reducible first | exact HB.out | apply below_alloc | apply pw_below_drewN | apply below_drew1) | exact HB.out)) hb); have n1_ := Aside0.mk (hbox); have n2_ := Aside0.mk ((by rw [hg]; exact (below_size (by repeat (first | (with_reducible first | exact HB.out | apply below_alloc | apply pw_below_drewN | apply below_drew1) | exact HB.out))) : w.heap.size ≤ gb244)); have n3_ := Aside0.mk ((by rw [hg]; exact (below_size (by repeat (first | (with_reducible first | exact HB.out | apply below_alloc | apply pw_below_drewN | apply below_drew1) | exact HB.out))) : w.heap.size ≤ gb244)); clear HB; have HB := n0_; have BK244 := n1_; have GW244 := n2_; have GE244 := n3_; clear n0_ n1_ n2_ n3_; clear hb hbox hg; have hcz11_0 : w10.cell? ⟨gb244, 0, none⟩ = some (.string a0_0) := (blk_cell BK244.out 0).trans rfl; have hcz11_1 : w10.cell? ⟨gb244, 1, none⟩ = some (.int .u64 a0_1) := (blk_cell BK244.out 1).trans rfl; have hcz11_2 : w10.cell? ⟨gb244, 2, none⟩ = some (.int .i64 a0_2) := (blk_cell BK244.out 2).trans rfl; have hcz11_3 : w10.cell? ⟨gb244, 3, none⟩ = some (.string a0_3) := (blk_cell BK244.out 3).trans rfl; have hfz11_0 := blk_frozen BK244.out 0; have hfz11_1 := blk_frozen BK244.out 1; have hfz11_2 := blk_frozen BK244.out 2; have hfz11_3 := blk_frozen BK244.out 3))
          go_ret
          exact ⟨by first | rfl | (simp [errW_none, errW_some] <;> rfl) | (simp [*, errW_none, errW_some] <;> rfl), by repeat (first | (with_reducible first | exact HB.out | apply below_alloc | apply pw_below_drewN | apply below_drew1 | refine below_set ?_ GE244.out) | exact HB.out)⟩
    · rw [if_neg c3] at H
      have c3b0 : decide ((a0_3.size : Int) ≤ 60000) = false := decide_eq_false c3
      have c3b1 : decide (a0_3.size ≤ 60000) = false := decide_eq_false (by omega)
      clear c3
      obtain rfl := Option.some.inj H
      go_enter Try.func51, Try.ntmps51
      go_wp2_with (first | ((with_reducible refine gate_dst (N := 1) rfl ?_); (try (refine gate_guard (by rfl) ?_; dsimp only)); refine box_event ?hg (N := 1) ?hd (cs := #[.string a0_0, .int .u64 a0_1, .int .i64 a0_2, .string a0_3]) (t := 29) ?hr ?_; (case hd => rfl); (case hg => rfl); (case hr => first | (go_simp; done) | (go_simp; rfl)); intro gb244 hg w12 hbox hb; have n0_ := Aside0.mk (below_step (by repeat (first | (with_reducible first | exact HB.out | apply below_alloc | apply pw_below_drewN | apply below_drew1) | exact HB.out)) hb); have n1_ := Aside0.mk (hbox); have n2_ := Aside0.mk ((by rw [hg]; exact (below_size (by repeat (first | (with_reducible first | exact HB.out | apply below_alloc | apply pw_below_drewN | apply below_drew1) | exact HB.out))) : w.heap.size ≤ gb244)); have n3_ := Aside0.mk ((by rw [hg]; exact (below_size (by repeat (first | (with_reducible first | exact HB.out | apply below_alloc | apply pw_below_drewN | apply below_drew1) | exact HB.out))) : w.heap.size ≤ gb244)); clear HB; have HB := n0_; have BK244 := n1_; have GW244 := n2_; have GE244 := n3_; clear n0_ n1_ n2_ n3_; clear hb hbox hg; have hcz13_0 : w12.cell? ⟨gb244, 0, none⟩ = some (.string a0_0) := (blk_cell BK244.out 0).trans rfl; have hcz13_1 : w12.cell? ⟨gb244, 1, none⟩ = some (.int .u64 a0_1) := (blk_cell BK244.out 1).trans rfl; have hcz13_2 : w12.cell? ⟨gb244, 2, none⟩ = some (.int .i64 a0_2) := (blk_cell BK244.out 2).trans rfl; have hcz13_3 : w12.cell? ⟨gb244, 3, none⟩ = some (.string a0_3) := (blk_cell BK244.out 3).trans rfl; have hfz13_0 := blk_frozen BK244.out 0; have hfz13_1 := blk_frozen BK244.out 1; have hfz13_2 := blk_frozen BK244.out 2; have hfz13_3 := blk_frozen BK244.out 3))
      go_ret
      exact ⟨by first | rfl | (simp [errW_none, errW_some] <;> rfl) | (simp [*, errW_none, errW_some] <;> rfl), by repeat (first | (with_reducible first | exact HB.out | apply below_alloc | apply pw_below_drewN | apply below_drew1 | refine below_set ?_ GE244.out) | exact HB.out)⟩
  · rw [if_neg c2] at H
    have c2b0 : decide ((a0_0.size : Int) ≤ 300) = false := decide_eq_false c2
    have c2b1 : decide (a0_0.size ≤ 300) = false := decide_eq_false (by omega)
    clear c2
    obtain rfl := Option.some.inj H
    go_enter Try.func51, Try.ntmps51
    go_wp2_with (first | ((with_reducible refine gate_dst (N := 1) rfl ?_); (try (refine gate_guard (by rfl) ?_; dsimp only)); refine box_event ?hg (N := 1) ?hd (cs := #[.string a0_0, .int .u64 a0_1, .int .i64 a0_2, .string a0_3]) (t := 29) ?hr ?_; (case hd => rfl); (case hg => rfl); (case hr => first | (go_simp; done) | (go_simp; rfl)); intro gb244 hg w14 hbox hb; have n0_ := Aside0.mk (below_step (by repeat (first | (with_reducible first | exact HB.out | apply below_alloc | apply pw_below_drewN | apply below_drew1) | exact HB.out)) hb); have n1_ := Aside0.mk (hbox); have n2_ := Aside0.mk ((by rw [hg]; exact (below_size (by repeat (first | (with_reducible first | exact HB.out | apply below_alloc | apply pw_below_drewN | apply below_drew1) | exact HB.out))) : w.heap.size ≤ gb244)); have n3_ := Aside0.mk ((by rw [hg]; exact (below_size (by repeat (first | (with_reducible first | exact HB.out | apply below_alloc | apply pw_below_drewN | apply below_drew1) | exact HB.out))) : w.heap.size ≤ gb244)); clear HB; have HB := n0_; have BK244 := n1_; have GW244 := n2_; have GE244 := n3_; clear n0_ n1_ n2_ n3_; clear hb hbox hg; have hcz15_0 : w14.cell? ⟨gb244, 0, none⟩ = some (.string a0_0) := (blk_cell BK244.out 0).trans rfl; have hcz15_1 : w14.cell? ⟨gb244, 1, none⟩ = some (.int .u64 a0_1) := (blk_cell BK244.out 1).trans rfl; have hcz15_2 : w14.cell? ⟨gb244, 2, none⟩ = some (.int .i64 a0_2) := (blk_cell BK244.out 2).trans rfl; have hcz15_3 : w14.cell? ⟨gb244, 3, none⟩ = some (.string a0_3) := (blk_cell BK244.out 3).trans rfl; have hfz15_0 := blk_frozen BK244.out 0; have hfz15_1 := blk_frozen BK244.out 1; have hfz15_2 := blk_frozen BK244.out 2; have hfz15_3 := blk_frozen BK244.out 3))
    go_ret
    exact ⟨by first | rfl | (simp [errW_none, errW_some] <;> rfl) | (simp [*, errW_none, errW_some] <;> rfl), by repeat (first | (with_reducible first | exact HB.out | apply below_alloc | apply pw_below_drewN | apply below_drew1 | refine below_set ?_ GE244.out) | exact HB.out)⟩
def cornucopiaref1_Var.l0 : Nat → Int → List Int → Option (ByteArray)
  | 0, _, _ => none
  | k + 1, x0, x3 => if x0 ≥ 128 then (if x3.length < 140737488355328 then (cornucopiaref1_Var.l0 k (IntKind.u64.wrap (Int.tdiv x0 128)) (x3 ++ [((Int.tmod x0 128) + 128) % 256])) else (none)) else (if x3.length < 140737488355328 then (some (strOfNums (x3 ++ [(x0) % 256]))) else (none))
def cornucopiaref1_Var.f (k : Nat) (a0 : Int) : Option (ByteArray) := cornucopiaref1_Var.l0 k a0 ([] : List Int)
theorem cornucopiaref1_Var.mono_l : ∀ k, (∀ y0 y1, LeO (cornucopiaref1_Var.l0 k y0 y1) (cornucopiaref1_Var.l0 (k + 1) y0 y1))
  | 0 => fun _ _ r h => by simp [cornucopiaref1_Var.l0] at h
  | k + 1 => by
    have ih0 := cornucopiaref1_Var.mono_l k
    · intro y0 y1
      unfold cornucopiaref1_Var.l0
      repeat' first
      | (with_reducible exact ih0 _ _)
      | (with_reducible exact LeO.refl _)
      | (with_reducible exact LeO.none _)
      | (with_reducible refine LeO.ite ?_ ?_)
      | (with_reducible refine LeO.bind ?_ (fun _ => ?_))
      | exact ih0 _ _
      | exact LeO.none _
      | refine LeO.ite ?_ ?_
      | refine LeO.bind ?_ (fun _ => ?_)
theorem cornucopiaref1_Var.mono : ∀ a0 k, LeO (cornucopiaref1_Var.f k a0) (cornucopiaref1_Var.f (k + 1) a0) := by
  intro a0 k
  have ih0 := cornucopiaref1_Var.mono_l k
  unfold cornucopiaref1_Var.f
  repeat' first
      | (with_reducible exact ih0 _ _)
      | (with_reducible exact LeO.refl _)
      | (with_reducible exact LeO.none _)
      | (with_reducible refine LeO.ite ?_ ?_)
      | (with_reducible refine LeO.bind ?_ (fun _ => ?_))
      | exact ih0 _ _
      | exact LeO.none _
      | refine LeO.ite ?_ ?_
      | refine LeO.bind ?_ (fun _ => ?_)
set_option maxHeartbeats 8000000 in
set_option maxRecDepth 100000 in
theorem cornucopiaref1_Var.calls (k : Nat) (a0 : Int) (r : ByteArray) (w : World) (h : cornucopiaref1_Var.f k a0 = some r) :
    Calls Try.prog 78 #[.int .u64 a0] w fun e w' => e = .returned (.string r) ∧ Below w.heap.size w w' := by
  have HB := Aside0.mk (Below.refl w.heap.size w)
  have H : (cornucopiaref1_Var.l0 k a0 ([] : List Int)) = some r := h
  clear h
  have H' := Aside0.mk H
  clear H
  go_enter Try.func78, Try.ntmps78
  go_wp2
  go_loopg [0, 3] k (fun kq v0 v3 w' => ∃ (x0_1 : Int) (x3_1 : List Int), v0 = .int .u64 x0_1 ∧ Aside0 (cornucopiaref1_Var.l0 kq x0_1 x3_1 = some r) ∧ Aside0 (kq ≤ k) ∧ Aside0 (Kd.R (Kd.int .u8) 5 w' w.heap.size (fun _ => True) v3 x3_1) ∧ Aside0 (Below w.heap.size w w'))
  case atStart => exact ⟨(a0), (([] : List Int)), (by first | rfl | (simp; done) | (simp [*]; done)), H', ⟨Nat.le_refl _⟩, ⟨by first | exact Kd.R_nil _ _ _ _ _ | exact Kd.N_nil _ _ _ _ _ | exact Kd.V_nil _ _ _ _ _ | exact Kd.Q_nil _ _ _ _ _ | exact Kd.S_nil _ _ _ _ _⟩, ⟨by repeat (first | (with_reducible first | exact HB.out | apply below_alloc | apply pw_below_drewN | apply below_drew1) | exact HB.out)⟩⟩
  case round =>
    clear H'
    obtain ⟨x0_1, x3_1, rfl, HA, HK1, HO_3, HB⟩ := hrel
    cases gk with
    | zero => exact absurd HA.out (by simp [cornucopiaref1_Var.l0])
    | succ k1 =>
      have H := HA.out
      clear HA
      simp only [cornucopiaref1_Var.l0] at H
      by_cases c2 : x0_1 ≥ 128
      · rw [if_pos c2] at H
        have c2b0 : decide (128 ≤ x0_1) = true := decide_eq_true c2
        clear c2
        by_cases c3 : x3_1.length < 140737488355328
        · rw [if_pos c3] at H
          have LMc3 := Aside0.mk c3
          clear c3
          obtain ⟨y245, hy245⟩ : ∃ y_ : List Int, y_ = (x3_1 ++ [((Int.tmod x0_1 128) + 128) % 256]) := ⟨_, rfl⟩
          replace H : (cornucopiaref1_Var.l0 k1 (IntKind.u64.wrap (Int.tdiv x0_1 128)) y245) = some r := by first | (rw [hy245]; with_reducible exact H) | (have H2_ := (Option.bind_some _ _).symm.trans H; rw [hy245]; with_reducible exact H2_) | (have H2_ := (Option.bind_some _ _).symm.trans H; with_reducible exact H2_) | with_reducible exact H | (rw [hy245]; exact H) | exact H
          have Ny245 := Aside0.mk hy245
          clear hy245
          have H' := Aside0.mk H
          clear H
          go_wp2_with (first | ((with_reducible refine gate_builtin (b := .append) (xs := #[.tmp 6, .tmp 11]) rfl ?_); at_builtin; refine Kd.R_append (Kd.int .u8) (w0 := w) w.heap.size rfl (.tmp 6) (.tmp 11) 58 5 (.int .u8 0) 1 rfl Try.underlying58 info5 rfl (by decide) (by omega) u3 x3_1 (((Int.tmod x0_1 128) + 128) % 256) [.int .u8 (((Int.tmod x0_1 128) + 128) % 256)] (fun _ => True) (fun _ => False) rfl rfl ?aP (fun _ hk => hk.elim) ?aF ?aO ?aB ?aS ?aL ?_; (case aP => exact rfl); (case aB => exact (by repeat (first | (with_reducible first | exact HB.out | apply below_alloc | apply pw_below_drewN | apply below_drew1) | exact HB.out))); (case aF => exact (fun _ _ => trivial)); (case aO => exact (by (with_reducible repeat (first | apply Kd.R_alloc | apply Kd.R_drewN | apply Kd.R_drew)); exact HO_3.out)); (case aS => exact (below_size (by repeat (first | (with_reducible first | exact HB.out | apply below_alloc | apply pw_below_drewN | apply below_drew1) | exact HB.out)))); (case aL => have := LMc3.out; omega); intro v246 w4 ho hb hg hat; rw [← Ny245.out] at ho; have n0_ := Aside0.mk (hb); have n1_ := Aside0.mk (ho); clear HB; clear HO_3; have HB := n0_; have HO247 := n1_; clear n0_ n1_; clear ho hb hg hat))
          go_roundg k1
          case measure => have := HK1.out; omega
          case rel => exact ⟨(IntKind.u64.wrap (Int.tdiv x0_1 128)), (y245), (by first | rfl | (simp; done) | (simp [*]; done)), H', ⟨by have := HK1.out; omega⟩, ⟨by (with_reducible repeat (first | apply Kd.R_alloc | apply Kd.R_drewN | apply Kd.R_drew)); exact HO247.out⟩, ⟨by repeat (first | (with_reducible first | exact HB.out | apply below_alloc | apply pw_below_drewN | apply below_drew1) | exact HB.out)⟩⟩
        · rw [if_neg c3] at H
          exact absurd H (by simp)
      · rw [if_neg c2] at H
        have c2b0 : decide (128 ≤ x0_1) = false := decide_eq_false c2
        clear c2
        by_cases c5 : x3_1.length < 140737488355328
        · rw [if_pos c5] at H
          have LMc5 := Aside0.mk c5
          clear c5
          obtain ⟨y248, hy248⟩ : ∃ y_ : List Int, y_ = (x3_1 ++ [(x0_1) % 256]) := ⟨_, rfl⟩
          replace H : (some (strOfNums y248)) = some r := by first | (rw [hy248]; with_reducible exact H) | (have H2_ := (Option.bind_some _ _).symm.trans H; rw [hy248]; with_reducible exact H2_) | (have H2_ := (Option.bind_some _ _).symm.trans H; with_reducible exact H2_) | with_reducible exact H | (rw [hy248]; exact H) | exact H
          have Ny248 := Aside0.mk hy248
          clear hy248
          obtain rfl := Option.some.inj H
          go_wp2_with (first | ((with_reducible refine gate_builtin (b := .append) (xs := #[.tmp 15, .tmp 18]) rfl ?_); at_builtin; refine Kd.R_append (Kd.int .u8) (w0 := w) w.heap.size rfl (.tmp 15) (.tmp 18) 58 5 (.int .u8 0) 1 rfl Try.underlying58 info5 rfl (by decide) (by omega) u3 x3_1 ((x0_1) % 256) [.int .u8 ((x0_1) % 256)] (fun _ => True) (fun _ => False) rfl rfl ?aP (fun _ hk => hk.elim) ?aF ?aO ?aB ?aS ?aL ?_; (case aP => exact rfl); (case aB => exact (by repeat (first | (with_reducible first | exact HB.out | apply below_alloc | apply pw_below_drewN | apply below_drew1) | exact HB.out))); (case aF => exact (fun _ _ => trivial)); (case aO => exact (by (with_reducible repeat (first | apply Kd.R_alloc | apply Kd.R_drewN | apply Kd.R_drew)); exact HO_3.out)); (case aS => exact (below_size (by repeat (first | (with_reducible first | exact HB.out | apply below_alloc | apply pw_below_drewN | apply below_drew1) | exact HB.out)))); (case aL => have := LMc5.out; omega); intro v249 w6 ho hb hg hat; rw [← Ny248.out] at ho; have n0_ := Aside0.mk (hb); have n1_ := Aside0.mk (ho); clear HB; clear HO_3; have HB := n0_; have HO250 := n1_; clear n0_ n1_; clear ho hb hg hat; have hcv7 := own_string (P := Try.prog) Try.underlying58 Try.underlying5 Try.underlying9 (Kd.own_of_R HO250.out)))
          go_ret
          exact ⟨by first | rfl | (simp [errW_none, errW_some] <;> rfl) | (simp [*, errW_none, errW_some] <;> rfl), by repeat (first | (with_reducible first | exact HB.out | apply below_alloc | apply pw_below_drewN | apply below_drew1) | exact HB.out)⟩
        · rw [if_neg c5] at H
          exact absurd H (by simp)
def cornucopiaref1_Text.f (k : Nat) (a0 : ByteArray) : Option (ByteArray) := (cornucopiaref1_Var.f k (IntKind.u64.wrap ((a0.size : Int)))).bind fun t251 => (if t251.size + a0.size ≤ 9223372036854775807 then (some (t251 ++ a0)) else (none))
theorem cornucopiaref1_Text.mono : ∀ a0 k, LeO (cornucopiaref1_Text.f k a0) (cornucopiaref1_Text.f (k + 1) a0) := by
  intro a0 k
  unfold cornucopiaref1_Text.f
  repeat' first
      | (with_reducible exact cornucopiaref1_Var.mono _ _)
      | (with_reducible exact LeO.refl _)
      | (with_reducible exact LeO.none _)
      | (with_reducible refine LeO.ite ?_ ?_)
      | (with_reducible refine LeO.bind ?_ (fun _ => ?_))
      | exact cornucopiaref1_Var.mono _ _
      | exact LeO.none _
      | refine LeO.ite ?_ ?_
      | refine LeO.bind ?_ (fun _ => ?_)
set_option maxHeartbeats 8000000 in
set_option maxRecDepth 100000 in
theorem cornucopiaref1_Text.calls (k : Nat) (a0 : ByteArray) (r : ByteArray) (w : World) (h : cornucopiaref1_Text.f k a0 = some r) :
    Calls Try.prog 52 #[.string a0] w fun e w' => e = .returned (.string r) ∧ Below w.heap.size w w' := by
  have HB := Aside0.mk (Below.refl w.heap.size w)
  have H : ((cornucopiaref1_Var.f k (IntKind.u64.wrap ((a0.size : Int)))).bind fun t251 => (if t251.size + a0.size ≤ 9223372036854775807 then (some (t251 ++ a0)) else (none))) = some r := h
  clear h
  replace H := Option.bind_eq_some_iff.mp H
  obtain ⟨t251, A20, H⟩ := H
  replace H : (if t251.size + a0.size ≤ 9223372036854775807 then (some (t251 ++ a0)) else (none)) = some r := H
  have A2 := Aside0.mk A20
  clear A20
  by_cases c3 : t251.size + a0.size ≤ 9223372036854775807
  · rw [if_pos c3] at H
    have c3b0 := eq_true c3
    have c3b1 : decide (t251.size + a0.size ≤ 9223372036854775807) = true := decide_eq_true c3
    try have c3b2 : (9223372036854775807 < t251.size + a0.size) = False := eq_false (Nat.not_lt.2 c3)
    clear c3
    obtain rfl := Option.some.inj H
    go_enter Try.func52, Try.ntmps52
    go_wp2_with (first | ((with_reducible refine gate_callee (f := 78) rfl ?_); refine goesL_ (some 6) rfl rfl Try.func78 (by kernel_rfl) rfl #[.int .u64 (IntKind.u64.wrap ((a0.size : Int)))] rfl (by (try simp only [List.map_toArray, List.map_cons, List.map_nil]); first | done | rfl | (simp only [List.length_drop, List.length_take]; rfl)) ?_; (with_reducible refine (cornucopiaref1_Var.calls k (IntKind.u64.wrap ((a0.size : Int))) t251 _ A2.out).mono ?_); rintro e w4 ⟨rfl, hb⟩; refine ⟨_, rfl, ?_⟩; have n0_ := Aside0.mk (below_step (by repeat (first | (with_reducible first | exact HB.out | apply below_alloc | apply pw_below_drewN | apply below_drew1) | exact HB.out)) hb); clear HB; have HB := n0_; clear n0_; (try clear hb); (try clear hb2); (try clear hk); (try clear hi)))
    go_ret
    exact ⟨by first | rfl | (simp [errW_none, errW_some] <;> rfl) | (simp [*, errW_none, errW_some] <;> rfl), by repeat (first | (with_reducible first | exact HB.out | apply below_alloc | apply pw_below_drewN | apply below_drew1) | exact HB.out)⟩
  · rw [if_neg c3] at H
    exact absurd H (by simp)
def cornucopiaref1_Vars.l0 : Nat → List Int → List Int → Int → Option (ByteArray)
  | 0, _, _, _ => none
  | k + 1, x0, x3, x4 => if x4 < (x0.length : Int) then (if 0 ≤ x4 then ((cornucopiaref1_Var.f k (rd x0 x4)).bind fun t253 => (if x3.length + t253.size < 140737488355328 then (cornucopiaref1_Vars.l0 k x0 (x3 ++ bytesOf t253) (wrap64 (x4 + 1))) else (none))) else (none)) else (some (strOfNums x3))
def cornucopiaref1_Vars.f (k : Nat) (l0 : List Int) : Option (ByteArray) := cornucopiaref1_Vars.l0 k l0 ([] : List Int) 0
theorem cornucopiaref1_Vars.mono_l : ∀ k, (∀ y0 y1 y2, LeO (cornucopiaref1_Vars.l0 k y0 y1 y2) (cornucopiaref1_Vars.l0 (k + 1) y0 y1 y2))
  | 0 => fun _ _ _ r h => by simp [cornucopiaref1_Vars.l0] at h
  | k + 1 => by
    have ih0 := cornucopiaref1_Vars.mono_l k
    · intro y0 y1 y2
      unfold cornucopiaref1_Vars.l0
      repeat' first
      | (with_reducible exact ih0 _ _ _)
      | (with_reducible exact cornucopiaref1_Var.mono _ _)
      | (with_reducible exact LeO.refl _)
      | (with_reducible exact LeO.none _)
      | (with_reducible refine LeO.ite ?_ ?_)
      | (with_reducible refine LeO.bind ?_ (fun _ => ?_))
      | exact ih0 _ _ _
      | exact cornucopiaref1_Var.mono _ _
      | exact LeO.none _
      | refine LeO.ite ?_ ?_
      | refine LeO.bind ?_ (fun _ => ?_)
theorem cornucopiaref1_Vars.mono : ∀ a0 k, LeO (cornucopiaref1_Vars.f k a0) (cornucopiaref1_Vars.f (k + 1) a0) := by
  intro a0 k
  have ih0 := cornucopiaref1_Vars.mono_l k
  unfold cornucopiaref1_Vars.f
  repeat' first
      | (with_reducible exact ih0 _ _ _)
      | (with_reducible exact cornucopiaref1_Var.mono _ _)
      | (with_reducible exact LeO.refl _)
      | (with_reducible exact LeO.none _)
      | (with_reducible refine LeO.ite ?_ ?_)
      | (with_reducible refine LeO.bind ?_ (fun _ => ?_))
      | exact ih0 _ _ _
      | exact cornucopiaref1_Var.mono _ _
      | exact LeO.none _
      | refine LeO.ite ?_ ?_
      | refine LeO.bind ?_ (fun _ => ?_)
set_option maxHeartbeats 8000000 in
set_option maxRecDepth 100000 in
theorem cornucopiaref1_Vars.calls (k : Nat) (A0 : Option Addr) (c0 : Nat) (l0 : List Int) (r : ByteArray) (w : World) (hr0 : Kd.C (Kd.int .u64) w A0 l0.length l0) (hc0 : l0.length ≤ c0) (h : cornucopiaref1_Vars.f k l0 = some r) :
    Calls Try.prog 53 #[.slice A0 l0.length c0] w fun e w' => e = .returned (.string r) ∧ Below w.heap.size w w' := by
  have HR0 := Aside0.mk hr0
  have HC0 := Aside0.mk hc0
  clear hr0 hc0
  have HB := Aside0.mk (Below.refl w.heap.size w)
  have H : (cornucopiaref1_Vars.l0 k l0 ([] : List Int) 0) = some r := h
  clear h
  have H' := Aside0.mk H
  clear H
  go_enter Try.func53, Try.ntmps53
  go_wp2
  go_loopg [3, 4] k (fun kq v3 v4 w' => ∃ (x3_1 : List Int) (x4_1 : Int), v4 = .int .i64 x4_1 ∧ Aside0 (cornucopiaref1_Vars.l0 kq l0 x3_1 x4_1 = some r) ∧ Aside0 (kq ≤ k) ∧ Aside0 (Kd.R (Kd.int .u8) 5 w' w.heap.size (fun _ => True) v3 x3_1) ∧ Aside0 (Below w.heap.size w w'))
  case atStart => exact ⟨(([] : List Int)), (0), (by first | rfl | (simp; done) | (simp [*]; done)), H', ⟨Nat.le_refl _⟩, ⟨by first | exact Kd.R_nil _ _ _ _ _ | exact Kd.N_nil _ _ _ _ _ | exact Kd.V_nil _ _ _ _ _ | exact Kd.Q_nil _ _ _ _ _ | exact Kd.S_nil _ _ _ _ _⟩, ⟨by repeat (first | (with_reducible first | exact HB.out | apply below_alloc | apply pw_below_drewN | apply below_drew1) | exact HB.out)⟩⟩
  case round =>
    clear H'
    obtain ⟨x3_1, x4_1, rfl, HA, HK1, HO_3, HB⟩ := hrel
    cases gk with
    | zero => exact absurd HA.out (by simp [cornucopiaref1_Vars.l0])
    | succ k1 =>
      have H := HA.out
      clear HA
      simp only [cornucopiaref1_Vars.l0] at H
      by_cases c2 : x4_1 < (l0.length : Int)
      · rw [if_pos c2] at H
        have c2b0 : decide (x4_1 < (l0.length : Int)) = true := decide_eq_true c2
        clear c2
        by_cases c3 : 0 ≤ x4_1
        · rw [if_pos c3] at H
          have c3b0 : decide (0 ≤ x4_1) = true := decide_eq_true c3
          clear c3
          replace H := Option.bind_eq_some_iff.mp H
          obtain ⟨t253, A40, H⟩ := H
          replace H : (if x3_1.length + t253.size < 140737488355328 then (cornucopiaref1_Vars.l0 k1 l0 (x3_1 ++ bytesOf t253) (wrap64 (x4_1 + 1))) else (none)) = some r := H
          have A4 := Aside0.mk A40
          clear A40
          by_cases c5 : x3_1.length + t253.size < 140737488355328
          · rw [if_pos c5] at H
            have LMc5 := Aside0.mk c5
            clear c5
            obtain ⟨y254, hy254⟩ : ∃ y_ : List Int, y_ = (x3_1 ++ bytesOf t253) := ⟨_, rfl⟩
            replace H : (cornucopiaref1_Vars.l0 k1 l0 y254 (wrap64 (x4_1 + 1))) = some r := by first | (rw [hy254]; with_reducible exact H) | (have H2_ := (Option.bind_some _ _).symm.trans H; rw [hy254]; with_reducible exact H2_) | (have H2_ := (Option.bind_some _ _).symm.trans H; with_reducible exact H2_) | with_reducible exact H | (rw [hy254]; exact H) | exact H
            have Ny254 := Aside0.mk hy254
            clear hy254
            have H' := Aside0.mk H
            clear H
            have p252 : 0 ≤ (x4_1 : Int) := of_decide_eq_true (by first | (with_reducible assumption) | assumption)
            have q252 : x4_1 < (l0.length : Int) := of_decide_eq_true (by first | (with_reducible assumption) | assumption)
            obtain ⟨ad252, e252, hx252_0⟩ := Kd.at_int HR0.out x4_1 p252 q252
            cases e252
            replace hx252_0 := (HB.out.cell (World.block_lt_of_cell? w _ hx252_0)).trans hx252_0
            replace p252 := eq_true p252
            replace q252 := eq_true q252
            go_wp2_with (first | ((with_reducible refine gate_callee (f := 78) rfl ?_); refine goesL_ (some 16) rfl rfl Try.func78 (by kernel_rfl) rfl #[.int .u64 (rd l0 x4_1)] rfl (by (try simp only [List.map_toArray, List.map_cons, List.map_nil]); first | done | rfl | (simp only [List.length_drop, List.length_take]; rfl)) ?_; (with_reducible refine (cornucopiaref1_Var.calls k1 (rd l0 x4_1) t253 _ A4.out).mono ?_); rintro e w6 ⟨rfl, hb⟩; refine ⟨_, rfl, ?_⟩; have n0_ := Aside0.mk (Kd.R_below (by (with_reducible repeat (first | apply Kd.R_alloc | apply Kd.R_drewN | apply Kd.R_drew)); exact HO_3.out) hb); have n1_ := Aside0.mk (below_step (by repeat (first | (with_reducible first | exact HB.out | apply below_alloc | apply pw_below_drewN | apply below_drew1) | exact HB.out)) hb); clear HO_3; clear HB; have HO_3 := n0_; have HB := n1_; clear n0_ n1_; (try clear hb); (try clear hb2); (try clear hk); (try clear hi)) | (at_builtin; refine print_append_str (w0 := w) w.heap.size rfl (.tmp 11) _ 58 9 5 rfl Try.underlying58 Try.underlying9 info5 u3 x3_1 t253 rfl rfl ?aO ?aB ?aS ?aL ?_; (case aB => exact (by repeat (first | (with_reducible first | exact HB.out | apply below_alloc | apply pw_below_drewN | apply below_drew1) | exact HB.out))); (case aO => exact (Kd.own_of_R (by (with_reducible repeat (first | apply Kd.R_alloc | apply Kd.R_drewN | apply Kd.R_drew)); exact HO_3.out))); (case aS => exact (below_size (by repeat (first | (with_reducible first | exact HB.out | apply below_alloc | apply pw_below_drewN | apply below_drew1) | exact HB.out)))); (case aL => have := LMc5.out; omega); intro v255 w7 ho0 hb hg; have ho := Kd.R_of_own (h1 := fun _ => rfl) (ok := fun _ => True) ho0 (fun _ _ => trivial); clear ho0; have hat := True.intro; rw [← Ny254.out] at ho; change Kd.R (Kd.int .u8) 5 w7 w.heap.size (fun _ => True) v255 y254 at ho; have n0_ := Aside0.mk (hb); have n1_ := Aside0.mk (ho); clear HB; clear HO_3; have HB := n0_; have HO256 := n1_; clear n0_ n1_; clear ho hb hg hat))
            go_roundg k1
            case measure => have := HK1.out; omega
            case rel => exact ⟨(y254), (wrap64 (x4_1 + 1)), (by first | rfl | (simp; done) | (simp [*]; done)), H', ⟨by have := HK1.out; omega⟩, ⟨by (with_reducible repeat (first | apply Kd.R_alloc | apply Kd.R_drewN | apply Kd.R_drew)); exact HO256.out⟩, ⟨by repeat (first | (with_reducible first | exact HB.out | apply below_alloc | apply pw_below_drewN | apply below_drew1) | exact HB.out)⟩⟩
          · rw [if_neg c5] at H
            exact absurd H (by simp)
        · rw [if_neg c3] at H
          exact absurd H (by simp)
      · rw [if_neg c2] at H
        have c2b0 : decide (x4_1 < (l0.length : Int)) = false := decide_eq_false c2
        clear c2
        obtain rfl := Option.some.inj H
        have hcv8 := own_string (P := Try.prog) Try.underlying58 Try.underlying5 Try.underlying9 (Kd.own_of_R HO_3.out)
        go_wp2
        go_ret
        exact ⟨by first | rfl | (simp [errW_none, errW_some] <;> rfl) | (simp [*, errW_none, errW_some] <;> rfl), by repeat (first | (with_reducible first | exact HB.out | apply below_alloc | apply pw_below_drewN | apply below_drew1) | exact HB.out)⟩
end Go.Proofs.Ytchgpcgolgcfdaa.PNum
end
section
namespace Go.Proofs.Ytchgpcgolgcfdaa.PNum
open Go.RowKit Go.Proofs.YtchgpcgolgcfdaaW.PrintWords Go.Proofs.YtchgpcgolgcfdaaW.PrintLast Go.Proofs.YtchgpcgolgcfdaaW.PrintMore
attribute [local go_sem] max2_int min2_int max_two min_two max_three min_three max_four min_four   -- for this text's walks alone
set_option linter.unusedVariables false
set_option linter.unusedSimpArgs false
def cornucopiaref5_Put.f (k : Nat) (a0_0 : ByteArray) (a0_1 : Int) (a0_2 : Int) (a0_3 : ByteArray) : Option (ByteArray × Int) := (cornucopiaref5_Valid.f a0_0 a0_1 a0_2 a0_3).bind fun t258 => (if t258 = true then ((cornucopiaref1_Text.f k a0_0).bind fun t259 => ((cornucopiaref1_Vars.f k (([a0_1, IntKind.u64.wrap (a0_2)] : List Int))).bind fun t263 => (if t259.size + t263.size ≤ 9223372036854775807 then ((cornucopiaref1_Text.f k a0_3).bind fun t264 => (if (t259 ++ t263).size + t264.size ≤ 9223372036854775807 then (some ((t259 ++ t263) ++ t264, 0)) else (none))) else (none)))) else (some ((⟨#[]⟩ : ByteArray), 1)))
theorem cornucopiaref5_Put.mono : ∀ a0 a1 a2 a3 k, LeO (cornucopiaref5_Put.f k a0 a1 a2 a3) (cornucopiaref5_Put.f (k + 1) a0 a1 a2 a3) := by
  intro a0 a1 a2 a3 k
  unfold cornucopiaref5_Put.f
  repeat' first
      | (with_reducible exact cornucopiaref1_Text.mono _ _)
      | (with_reducible exact cornucopiaref1_Vars.mono _ _)
      | (with_reducible exact LeO.refl _)
      | (with_reducible exact LeO.none _)
      | (with_reducible refine LeO.ite ?_ ?_)
      | (with_reducible refine LeO.bind ?_ (fun _ => ?_))
      | exact cornucopiaref1_Text.mono _ _
      | exact cornucopiaref1_Vars.mono _ _
      | exact LeO.none _
      | refine LeO.ite ?_ ?_
      | refine LeO.bind ?_ (fun _ => ?_)
def cornucopiaref5_Put.T3 : Bool × List (List Nat × List Nat) := (true, [([], []), ([0], [0]), ([1], [1]), ([], []), ([3], [3]), ([], []), ([5], [5]), ([6], [6]), ([4, 7], [4, 7]), ([8, 2], [8]), ([2, 9], [2, 9]), ([], []), ([11], [11]), ([12, 9], [12]), ([10, 13], [10, 13]), ([14, 13, 0, 1, 2, 3, 4, 5, 6, 7, 8, 9, 10, 11, 12, 13, 14], [14]), ([15, 0, 1, 2, 3, 4, 5, 6, 7, 8, 9, 10, 11, 12, 13, 14, 15], [])])
def cornucopiaref5_Put.B3 : List Nat := [0, 1, 3, 0, 8, 0, 32, 96, 248, 511, 1023, 0, 2048, 7167, 16383, 32767, 65535]
theorem cornucopiaref5_Put.tab3 : rtab .any (opsOf Try.f25 3) = cornucopiaref5_Put.T3 := by kernel_rfl
theorem cornucopiaref5_Put.bits3 : waitsOk cornucopiaref5_Put.T3.2 cornucopiaref5_Put.B3 = true := by kernel_rfl
set_option maxHeartbeats 8000000 in
set_option maxRecDepth 100000 in
theorem cornucopiaref5_Put.calls (k : Nat) (a0_0 : ByteArray) (a0_1 : Int) (a0_2 : Int) (a0_3 : ByteArray) (r1 : ByteArray) (r2 : Int) (w : World) (h : cornucopiaref5_Put.f k a0_0 a0_1 a0_2 a0_3 = some (r1, r2)) :
    Calls Try.prog 25 #[.agg #[.string a0_0, .int .u64 a0_1, .int .i64 a0_2, .string a0_3]] w fun e w' => e = .returned (.tuple #[.string r1, .int .i64 r2]) ∧ Below w.heap.size w w' := by
  have hu29 := Try.underlying29
  have HB := Aside0.mk (Below.refl w.heap.size w)
  have H : ((cornucopiaref5_Valid.f a0_0 a0_1 a0_2 a0_3).bind fun t258 => (if t258 = true then ((cornucopiaref1_Text.f k a0_0).bind fun t259 => ((cornucopiaref1_Vars.f k (([a0_1, IntKind.u64.wrap (a0_2)] : List Int))).bind fun t263 => (if t259.size + t263.size ≤ 9223372036854775807 then ((cornucopiaref1_Text.f k a0_3).bind fun t264 => (if (t259 ++ t263).size + t264.size ≤ 9223372036854775807 then (some ((t259 ++ t263) ++ t264, 0)) else (none))) else (none)))) else (some ((⟨#[]⟩ : ByteArray), 1)))) = some (r1, r2) := h
  clear h
  replace H := Option.bind_eq_some_iff.mp H
  obtain ⟨t258, A20, H⟩ := H
  replace H : (if t258 = true then ((cornucopiaref1_Text.f k a0_0).bind fun t259 => ((cornucopiaref1_Vars.f k (([a0_1, IntKind.u64.wrap (a0_2)] : List Int))).bind fun t263 => (if t259.size + t263.size ≤ 9223372036854775807 then ((cornucopiaref1_Text.f k a0_3).bind fun t264 => (if (t259 ++ t263).size + t264.size ≤ 9223372036854775807 then (some ((t259 ++ t263) ++ t264, 0)) else (none))) else (none)))) else (some ((⟨#[]⟩ : ByteArray), 1))) = some (r1, r2) := H
  have A2 := Aside0.mk A20
  clear A20
  by_cases c3 : t258 = true
  · subst c3
    have H1 : ((cornucopiaref1_Text.f k a0_0).bind fun t259 => ((cornucopiaref1_Vars.f k (([a0_1, IntKind.u64.wrap (a0_2)] : List Int))).bind fun t263 => (if t259.size + t263.size ≤ 9223372036854775807 then ((cornucopiaref1_Text.f k a0_3).bind fun t264 => (if (t259 ++ t263).size + t264.size ≤ 9223372036854775807 then (some ((t259 ++ t263) ++ t264, 0)) else (none))) else (none)))) = some (r1, r2) := by rw [if_pos rfl] at H; exact H
    clear H
    have H := H1
    clear H1
    replace H := Option.bind_eq_some_iff.mp H
    obtain ⟨t259, A40, H⟩ := H
    replace H : ((cornucopiaref1_Vars.f k (([a0_1, IntKind.u64.wrap (a0_2)] : List Int))).bind fun t263 => (if t259.size + t263.size ≤ 9223372036854775807 then ((cornucopiaref1_Text.f k a0_3).bind fun t264 => (if (t259 ++ t263).size + t264.size ≤ 9223372036854775807 then (some ((t259 ++ t263) ++ t264, 0)) else (none))) else (none))) = some (r1, r2) := H
    have A4 := Aside0.mk A40
    clear A40
    obtain ⟨y260, hy260⟩ : ∃ y_ : List Int, y_ = (([a0_1, IntKind.u64.wrap (a0_2)] : List Int)) := ⟨_, rfl⟩
    replace H : ((cornucopiaref1_Vars.f k y260).bind fun t263 => (if t259.size + t263.size ≤ 9223372036854775807 then ((cornucopiaref1_Text.f k a0_3).bind fun t264 => (if (t259 ++ t263).size + t264.size ≤ 9223372036854775807 then (some ((t259 ++ t263) ++ t264, 0)) else (none))) else (none))) = some (r1, r2) := by first | (rw [hy260]; with_reducible exact H) | (have H2_ := (Option.bind_some _ _).symm.trans H; rw [hy260]; with_reducible exact H2_) | (have H2_ := (Option.bind_some _ _).symm.trans H; with_reducible exact H2_) | with_reducible exact H | (rw [hy260]; exact H) | exact H
    have Ny260 := Aside0.mk hy260
    clear hy260
    replace H := Option.bind_eq_some_iff.mp H
    obtain ⟨t263, A50, H⟩ := H
    replace H : (if t259.size + t263.size ≤ 9223372036854775807 then ((cornucopiaref1_Text.f k a0_3).bind fun t264 => (if (t259 ++ t263).size + t264.size ≤ 9223372036854775807 then (some ((t259 ++ t263) ++ t264, 0)) else (none))) else (none)) = some (r1, r2) := H
    have A5 := Aside0.mk A50
    clear A50
    by_cases c6 : t259.size + t263.size ≤ 9223372036854775807
    · rw [if_pos c6] at H
      have c6b0 := eq_true c6
      have c6b1 : decide (t259.size + t263.size ≤ 9223372036854775807) = true := decide_eq_true c6
      try have c6b2 : (9223372036854775807 < t259.size + t263.size) = False := eq_false (Nat.not_lt.2 c6)
      clear c6
      replace H := Option.bind_eq_some_iff.mp H
      obtain ⟨t264, A70, H⟩ := H
      replace H : (if (t259 ++ t263).size + t264.size ≤ 9223372036854775807 then (some ((t259 ++ t263) ++ t264, 0)) else (none)) = some (r1, r2) := H
      have A7 := Aside0.mk A70
      clear A70
      by_cases c8 : (t259 ++ t263).size + t264.size ≤ 9223372036854775807
      · rw [if_pos c8] at H
        have c8b0 := eq_true c8
        have c8b1 : decide ((t259 ++ t263).size + t264.size ≤ 9223372036854775807) = true := decide_eq_true c8
        try have c8b2 : (9223372036854775807 < (t259 ++ t263).size + t264.size) = False := eq_false (Nat.not_lt.2 c8)
        (try (have c8b5 := c8b0; simp only [ByteArray.size_append] at c8b5))
        (try (have c8b6 := c8b2; simp only [ByteArray.size_append] at c8b6))
        clear c8
        simp only [Option.some.injEq, Prod.mk.injEq] at H
        obtain ⟨rfl, rfl⟩ := H
        go_enter Try.func25, Try.ntmps25
        try go_wp2_with (first | ((with_reducible refine gate_dst (N := 1) rfl ?_); refine box_event ?hg (N := 1) ?hd (cs := #[.string a0_0, .int .u64 a0_1, .int .i64 a0_2, .string a0_3]) (t := 29) ?hr ?_; (case hd => rfl); (case hg => rfl); (case hr => first | (go_simp; done) | (go_simp; rfl)); intro gb257 hg w9 hbox hb; have n0_ := Aside0.mk (below_step (by repeat (first | (with_reducible first | exact HB.out | apply below_alloc | apply pw_below_drewN | apply below_drew1) | exact HB.out)) hb); have n1_ := Aside0.mk (hbox); have n2_ := Aside0.mk ((by rw [hg]; exact (below_size (by repeat (first | (with_reducible first | exact HB.out | apply below_alloc | apply pw_below_drewN | apply below_drew1) | exact HB.out))) : w.heap.size ≤ gb257)); have n3_ := Aside0.mk ((by rw [hg]; exact (below_size (by repeat (first | (with_reducible first | exact HB.out | apply below_alloc | apply pw_below_drewN | apply below_drew1) | exact HB.out))) : w.heap.size ≤ gb257)); clear HB; have HB := n0_; have BK257 := n1_; have GW257 := n2_; have GE257 := n3_; clear n0_ n1_ n2_ n3_; clear hb hbox hg; have hcz10_0 : w9.cell? ⟨gb257, 0, none⟩ = some (.string a0_0) := (blk_cell BK257.out 0).trans rfl; have hcz10_1 : w9.cell? ⟨gb257, 1, none⟩ = some (.int .u64 a0_1) := (blk_cell BK257.out 1).trans rfl; have hcz10_2 : w9.cell? ⟨gb257, 2, none⟩ = some (.int .i64 a0_2) := (blk_cell BK257.out 2).trans rfl; have hcz10_3 : w9.cell? ⟨gb257, 3, none⟩ = some (.string a0_3) := (blk_cell BK257.out 3).trans rfl; have hfz10_0 := blk_frozen BK257.out 0; have hfz10_1 := blk_frozen BK257.out 1; have hfz10_2 := blk_frozen BK257.out 2; have hfz10_3 := blk_frozen BK257.out 3) | ((with_reducible refine gate_callee (f := 51) rfl ?_); refine goesL_ (some 5) rfl rfl Try.func51 (by kernel_rfl) rfl #[.agg #[.string a0_0, .int .u64 a0_1, .int .i64 a0_2, .string a0_3]] rfl (by (try simp only [List.map_toArray, List.map_cons, List.map_nil]); first | done | rfl | (simp only [List.length_drop, List.length_take]; rfl)) ?_; (with_reducible refine (cornucopiaref5_Valid.calls a0_0 a0_1 a0_2 a0_3 true _ A2.out).mono ?_); rintro e w11 ⟨rfl, hb⟩; refine ⟨_, rfl, ?_⟩; have n0_ := Aside0.mk (blk_below (g := gb257) (o := .cells #[.string a0_0, .int .u64 a0_1, .int .i64 a0_2, .string a0_3] 29 (0, 0)) (by (with_reducible repeat (first | refine blk_drewN ?_ _ | refine blk_drew ?_ | refine blk_alloc ?_ _)); exact BK257.out) hb); have n1_ := Aside0.mk (below_step (by repeat (first | (with_reducible first | exact HB.out | apply below_alloc | apply pw_below_drewN | apply below_drew1 | refine below_set ?_ GE257.out) | exact HB.out)) hb); clear BK257; clear HB; have BK257 := n0_; have HB := n1_; clear n0_ n1_; (try clear hb); (try clear hb2); (try clear hk); (try clear hi)))
        have n0_ := Aside0.mk (blk_drew BK257.out)
        have n1_ := Aside0.mk (below_drew1 HB.out)
        clear BK257
        clear HB
        have BK257 := n0_
        have HB := n1_
        clear n0_ n1_
        refine start_ (n := 17) (S := fun w' => True) (ds := []) #[false, false, false, false, false, false, false, false, false, false, false, false, false, false, false, false, false] (by kernel_rfl) rfl rfl trivial (fun hHeld => ?_); refine with_tabW cornucopiaref5_Put.tab3 cornucopiaref5_Put.bits3 (fun HT_ HW_ => ?_)
        generalize w11.drew = w12 at BK257 HB hHeld ⊢
        refine pure_ (i := 0) (N := some 7) (v := ?_) (a' := ?_) #[true, false, false, false, false, false, false, false, false, false, false, false, false, false, false, false, false] rfl rfl (any_of HT_.out (by kernel_rfl)) (fun _ _ _ h => h) (Or.inl ⟨by rfl, ?_⟩) ?_ ?_
        rotate_left
        · intro w'
          go_simp
          with_reducible rfl
        rotate_left
        · simp only [Act.put, List.setIfInBounds_toArray, List.set_cons_zero, List.set_cons_succ, i64_w, i32_w]
          rfl
        refine pure_ (i := 3) (N := some 10) (v := ?_) (a' := ?_) #[true, false, false, true, false, false, false, false, false, false, false, false, false, false, false, false, false] rfl rfl (any_of HT_.out (by kernel_rfl)) (fun _ _ _ h => h) (Or.inl ⟨by rfl, ?_⟩) ?_ ?_
        rotate_left
        · intro w'
          go_simp
          with_reducible rfl
        rotate_left
        · simp only [Act.put, List.setIfInBounds_toArray, List.set_cons_zero, List.set_cons_succ, i64_w, i32_w]
          rfl
        refine pure_ (i := 5) (N := some 12) (v := ?_) (a' := ?_) #[true, false, false, true, false, true, false, false, false, false, false, false, false, false, false, false, false] rfl rfl (any_of HT_.out (by kernel_rfl)) (fun _ _ _ h => h) (Or.inl ⟨by rfl, ?_⟩) ?_ ?_
        rotate_left
        · intro w'
          go_simp
          with_reducible rfl
        rotate_left
        · simp only [Act.put, List.setIfInBounds_toArray, List.set_cons_zero, List.set_cons_succ, i64_w, i32_w]
          rfl
        refine pure_ (i := 11) (N := some 18) (v := ?_) (a' := ?_) #[true, false, false, true, false, true, false, false, false, false, false, true, false, false, false, false, false] rfl rfl (any_of HT_.out (by kernel_rfl)) (fun _ _ _ h => h) (Or.inl ⟨by rfl, ?_⟩) ?_ ?_
        rotate_left
        · intro w'
          go_simp
          with_reducible rfl
        rotate_left
        · simp only [Act.put, List.setIfInBounds_toArray, List.set_cons_zero, List.set_cons_succ, i64_w, i32_w]
          rfl
        refine inv_at [1, 2, 4, 6, 7, 8, 9, 10, 12, 13, 14, 15, 16] (fun a0_ b a w' => ∃ (v261 : Value), a = putSel a0_ b [(1, 8, .string a0_0), (2, 9, .string t259), (4, 11, .int .u64 a0_1), (6, 13, .int .i64 a0_2), (7, 14, .int .u64 (IntKind.u64.wrap (a0_2))), (8, 15, v261), (9, 16, .string t263), (10, 17, .string (t259 ++ t263)), (12, 19, .string a0_3), (13, 20, .string t264), (14, 21, .string ((t259 ++ t263) ++ t264)), (15, 2, .string ((t259 ++ t263) ++ t264)), (16, 3, .int .i64 0)] ∧ (w'.heap[gb257]? = some (.cells #[.string a0_0, .int .u64 a0_1, .int .i64 a0_2, .string a0_3] 29 (0, 0))) ∧ (Below w.heap.size w w') ∧ (b 8 = true → Kd.R (Kd.int .u64) 27 w' w.heap.size (fun _ => True) v261 y260)) HT_.out HW_.out (by kernel_rfl) (by kernel_rfl) ?_ ?_ ?_
        · exact ⟨.bool false, by simp only [putSel, Bool.false_eq_true, if_false], BK257.out, HB.out, fun h_ => absurd h_ (by decide)⟩
        · skip
          clear BK257 HB
          refine steps_cons ?_ ?_
          · rintro b a w' ⟨v261, ha, Q_BK257, Q_HB, Q_HO262⟩ hb_ hon hoff
            refine ⟨_, rfl, fun K hK => ?_⟩
            have e7 : a.tmps[7]? = some (.pointer (some ⟨gb257, 0, none⟩)) := by rw [ha]; exact (putSel_off rfl).trans rfl
            replace ha := Aside0.mk ha
            have BK257 := Aside0.mk Q_BK257
            have HB := Aside0.mk Q_HB
            have hc0_ : w'.cell? ⟨gb257, 0, none⟩ = some (.string a0_0) := (blk_cell BK257.out 0).trans rfl
            have hc1_ : w'.cell? ⟨gb257, 1, none⟩ = some (.int .u64 a0_1) := (blk_cell BK257.out 1).trans rfl
            have hc2_ : w'.cell? ⟨gb257, 2, none⟩ = some (.int .i64 a0_2) := (blk_cell BK257.out 2).trans rfl
            have hc3_ : w'.cell? ⟨gb257, 3, none⟩ = some (.string a0_3) := (blk_cell BK257.out 3).trans rfl
            refine value_ (w1 := w') (v := .string a0_0) (by rfl) rfl ?_ ?_
            · go_simp
              (try simp only [i64_w])
              try rfl
            refine hK.out _ _ ⟨v261, (by rw [ha.out]; exact putSel_upk 0 hb_ rfl rfl rfl), Q_BK257, Q_HB, Q_HO262⟩
          refine steps_cons ?_ ?_
          · rintro b a w' ⟨v261, ha, Q_BK257, Q_HB, Q_HO262⟩ hb_ hon hoff
            refine ⟨_, rfl, fun K hK => ?_⟩
            have e8 : a.tmps[8]? = some (.string a0_0) := by rw [ha]; exact putSel_on (e := (1, 8, .string a0_0)) 0 rfl rfl (hon 1 (by kernel_rfl)) rfl
            replace ha := Aside0.mk ha
            have BK257 := Aside0.mk Q_BK257
            have HB := Aside0.mk Q_HB
            refine goes_ Try.func52 (by kernel_rfl) rfl #[.string a0_0] (by rfl) rfl rfl (by first | (simp only [List.map_toArray, List.map_cons, List.map_nil, Act.eval, Array.getD_eq_getD_getElem?, Option.getD_some, e8]; done) | (simp only [List.map_toArray, List.map_cons, List.map_nil, Act.eval, Array.getD_eq_getD_getElem?, Option.getD_some, e8]; rfl)) ?_
            with_reducible refine (cornucopiaref1_Text.calls k a0_0 t259 _ A4.out).mono ?_
            rintro e w13 ⟨rfl, hb⟩
            refine ⟨_, rfl, ?_⟩
            have n0_ := Aside0.mk (blk_below (g := gb257) (o := .cells #[.string a0_0, .int .u64 a0_1, .int .i64 a0_2, .string a0_3] 29 (0, 0)) (by (with_reducible repeat (first | refine blk_drewN ?_ _ | refine blk_drew ?_ | refine blk_alloc ?_ _)); exact BK257.out) hb)
            have n1_ := Aside0.mk (below_step (by repeat (first | (with_reducible first | exact HB.out | apply below_alloc | apply pw_below_drewN | apply below_drew1 | refine below_set ?_ GE257.out) | exact HB.out)) hb)
            have z_HO262 := fun (h0_ : b 8 = true) => (show Kd.R (Kd.int .u64) 27 w13 w.heap.size (fun _ => True) v261 y260 from by first | exact (Kd.R_below (by (with_reducible repeat (first | apply Kd.R_alloc | apply Kd.R_drewN | apply Kd.R_drew)); exact (Q_HO262 h0_)) hb) | exact Kd.R_mono (Kd.R_below (by (with_reducible repeat (first | apply Kd.R_alloc | apply Kd.R_drewN | apply Kd.R_drew)); exact (Q_HO262 h0_)) hb) (fun _ h_ => by first | trivial | exact h_ | exact h_.1))
            clear BK257
            clear HB
            have BK257 := n0_
            have HB := n1_
            clear n0_ n1_
            (try clear hb)
            (try clear hb2)
            (try clear hk)
            (try clear hi)
            refine hK.out _ _ ⟨v261, (by rw [ha.out]; exact putSel_upk 1 hb_ rfl rfl rfl), (by (with_reducible repeat (first | refine blk_drewN ?_ _ | refine blk_drew ?_ | refine blk_alloc ?_ _)); exact BK257.out), (by repeat (first | (with_reducible first | exact HB.out | apply below_alloc | apply pw_below_drewN | apply below_drew1 | refine below_set ?_ GE257.out) | exact HB.out)), z_HO262⟩
          refine steps_cons ?_ ?_
          · rintro b a w' ⟨v261, ha, Q_BK257, Q_HB, Q_HO262⟩ hb_ hon hoff
            refine ⟨_, rfl, fun K hK => ?_⟩
            have e10 : a.tmps[10]? = some (.pointer (some ⟨gb257, 1, none⟩)) := by rw [ha]; exact (putSel_off rfl).trans rfl
            replace ha := Aside0.mk ha
            have BK257 := Aside0.mk Q_BK257
            have HB := Aside0.mk Q_HB
            have hc0_ : w'.cell? ⟨gb257, 0, none⟩ = some (.string a0_0) := (blk_cell BK257.out 0).trans rfl
            have hc1_ : w'.cell? ⟨gb257, 1, none⟩ = some (.int .u64 a0_1) := (blk_cell BK257.out 1).trans rfl
            have hc2_ : w'.cell? ⟨gb257, 2, none⟩ = some (.int .i64 a0_2) := (blk_cell BK257.out 2).trans rfl
            have hc3_ : w'.cell? ⟨gb257, 3, none⟩ = some (.string a0_3) := (blk_cell BK257.out 3).trans rfl
            refine value_ (w1 := w') (v := .int .u64 a0_1) (by rfl) rfl ?_ ?_
            · go_simp
              (try simp only [i64_w])
              try rfl
            refine hK.out _ _ ⟨v261, (by rw [ha.out]; exact putSel_upk 2 hb_ rfl rfl rfl), Q_BK257, Q_HB, fun h0_ => absurd ((hoff 8 (by kernel_rfl)).symm.trans h0_) (by decide)⟩
          refine steps_cons ?_ ?_
          · rintro b a w' ⟨v261, ha, Q_BK257, Q_HB, Q_HO262⟩ hb_ hon hoff
            refine ⟨_, rfl, fun K hK => ?_⟩
            have e12 : a.tmps[12]? = some (.pointer (some ⟨gb257, 2, none⟩)) := by rw [ha]; exact (putSel_off rfl).trans rfl
            replace ha := Aside0.mk ha
            have BK257 := Aside0.mk Q_BK257
            have HB := Aside0.mk Q_HB
            have hc0_ : w'.cell? ⟨gb257, 0, none⟩ = some (.string a0_0) := (blk_cell BK257.out 0).trans rfl
            have hc1_ : w'.cell? ⟨gb257, 1, none⟩ = some (.int .u64 a0_1) := (blk_cell BK257.out 1).trans rfl
            have hc2_ : w'.cell? ⟨gb257, 2, none⟩ = some (.int .i64 a0_2) := (blk_cell BK257.out 2).trans rfl
            have hc3_ : w'.cell? ⟨gb257, 3, none⟩ = some (.string a0_3) := (blk_cell BK257.out 3).trans rfl
            refine value_ (w1 := w') (v := .int .i64 a0_2) (by rfl) rfl ?_ ?_
            · go_simp
              (try simp only [i64_w])
              try rfl
            refine hK.out _ _ ⟨v261, (by rw [ha.out]; exact putSel_upk 3 hb_ rfl rfl rfl), Q_BK257, Q_HB, fun h0_ => absurd ((hoff 8 (by kernel_rfl)).symm.trans h0_) (by decide)⟩
          refine steps_cons ?_ ?_
          · rintro b a w' ⟨v261, ha, Q_BK257, Q_HB, Q_HO262⟩ hb_ hon hoff
            refine ⟨_, rfl, fun K hK => ?_⟩
            have e13 : a.tmps[13]? = some (.int .i64 a0_2) := by rw [ha]; exact putSel_on (e := (6, 13, .int .i64 a0_2)) 3 rfl rfl (hon 6 (by kernel_rfl)) rfl
            replace ha := Aside0.mk ha
            have BK257 := Aside0.mk Q_BK257
            have HB := Aside0.mk Q_HB
            refine value_ (w1 := w') (v := .int .u64 (IntKind.u64.wrap (a0_2))) (by rfl) rfl ?_ ?_
            · go_simp
              (try simp only [i64_w])
              try rfl
            refine hK.out _ _ ⟨v261, (by rw [ha.out]; exact putSel_upk 4 hb_ rfl rfl rfl), Q_BK257, Q_HB, fun h0_ => absurd ((hoff 8 (by kernel_rfl)).symm.trans h0_) (by decide)⟩
          refine steps_cons ?_ ?_
          · rintro b a w' ⟨v261, ha, Q_BK257, Q_HB, Q_HO262⟩ hb_ hon hoff
            refine ⟨_, rfl, fun K hK => ?_⟩
            have e11 : a.tmps[11]? = some (.int .u64 a0_1) := by rw [ha]; exact putSel_on (e := (4, 11, .int .u64 a0_1)) 2 rfl rfl (hon 4 (by kernel_rfl)) rfl
            have e14 : a.tmps[14]? = some (.int .u64 (IntKind.u64.wrap (a0_2))) := by rw [ha]; exact putSel_on (e := (7, 14, .int .u64 (IntKind.u64.wrap (a0_2)))) 4 rfl rfl (hon 7 (by kernel_rfl)) rfl
            replace ha := Aside0.mk ha
            have BK257 := Aside0.mk Q_BK257
            have HB := Aside0.mk Q_HB
            refine Kd.R_lit_step (Kd.int .u64) _ 27 ?hg (N := 15) ?hd (xs := ([a0_1, IntKind.u64.wrap (a0_2)] : List Int)) (inner := [.int .u64 a0_1, .int .u64 (IntKind.u64.wrap (a0_2))]) (ok := fun _ => True) (okp := fun _ => True) ?hr ?hp (fun _ hk => hk) trivial (Below.refl _ _) (Nat.le_refl _) (by simp) ?_; (case hd => rfl); (case hg => rfl); (case hr => first | (go_simp; done) | (go_simp; rfl)); (case hp => exact (Reps.one (show Kd.M (Kd.int .u64) _ _ _ a0_1 [.int .u64 a0_1] from rfl) (Reps.one (show Kd.M (Kd.int .u64) _ _ _ (IntKind.u64.wrap (a0_2)) [.int .u64 (IntKind.u64.wrap (a0_2))] from rfl) (Reps.none _ _))))
            intro v261 w13 ho14 hb hg_ hnew_
            clear hg_ hnew_
            (first | rw [← Ny260.out] at ho14 | (simp only [Int.reduceToNat] at ho14; rw [← Ny260.out] at ho14))
            have n0_ := Aside0.mk (Kd.R_lower ho14 (below_size (by repeat (first | (with_reducible first | exact HB.out | apply below_alloc | apply pw_below_drewN | apply below_drew1 | refine below_set ?_ GE257.out) | exact HB.out))))
            have n1_ := Aside0.mk (blk_below (g := gb257) (o := .cells #[.string a0_0, .int .u64 a0_1, .int .i64 a0_2, .string a0_3] 29 (0, 0)) (by (with_reducible repeat (first | refine blk_drewN ?_ _ | refine blk_drew ?_ | refine blk_alloc ?_ _)); exact BK257.out) hb)
            have n2_ := Aside0.mk (below_step (by repeat (first | (with_reducible first | exact HB.out | apply below_alloc | apply pw_below_drewN | apply below_drew1 | refine below_set ?_ GE257.out) | exact HB.out)) hb)
            clear BK257
            clear HB
            have HO262 := n0_
            have BK257 := n1_
            have HB := n2_
            clear n0_ n1_ n2_
            clear hb ho14
            refine hK.out _ _ ⟨v261, (by rw [ha.out]; exact putSel_upk 5 hb_ rfl rfl rfl), (by (with_reducible repeat (first | refine blk_drewN ?_ _ | refine blk_drew ?_ | refine blk_alloc ?_ _)); exact BK257.out), (by repeat (first | (with_reducible first | exact HB.out | apply below_alloc | apply pw_below_drewN | apply below_drew1 | refine below_set ?_ GE257.out) | exact HB.out)), fun _ => (by (with_reducible repeat (first | apply Kd.R_alloc | apply Kd.R_drewN | apply Kd.R_drew)); exact HO262.out)⟩
          refine steps_cons ?_ ?_
          · rintro b a w' ⟨v261, ha, Q_BK257, Q_HB, Q_HO262⟩ hb_ hon hoff
            refine ⟨_, rfl, fun K hK => ?_⟩
            have e15 : a.tmps[15]? = some (v261) := by rw [ha]; exact putSel_on (e := (8, 15, v261)) 5 rfl rfl (hon 8 (by kernel_rfl)) rfl
            replace ha := Aside0.mk ha
            have BK257 := Aside0.mk Q_BK257
            have HB := Aside0.mk Q_HB
            have HO262 := Aside0.mk (Q_HO262 (hon 8 (by kernel_rfl)))
            obtain ⟨Ao17, co17, eo17⟩ := Kd.R_slice HO262.out
            (first | subst eo17 | (injection eo17 with f1_ f2_ f3_; have f4_ := f1_.symm; have f5_ := f3_.symm; clear f1_ f2_ f3_; subst f4_; subst f5_))
            refine goes_ Try.func53 (by kernel_rfl) rfl #[.slice Ao17 y260.length co17] (by rfl) rfl rfl (by first | (simp only [List.map_toArray, List.map_cons, List.map_nil, Act.eval, Array.getD_eq_getD_getElem?, Option.getD_some, e15]; done) | (simp only [List.map_toArray, List.map_cons, List.map_nil, Act.eval, Array.getD_eq_getD_getElem?, Option.getD_some, e15]; rfl)) ?_
            with_reducible refine (cornucopiaref1_Vars.calls k _ _ y260 t263 _ ?side1 ?side2 A5.out).mono ?_
            (case side1 => repeat (first | exact (Kd.R_reads' HO262.out).2.2 | (with_reducible refine Kd.C_alloc ?_ _) | (with_reducible refine Kd.C_drewN ?_ _) | (with_reducible refine Kd.C_drew ?_)))
            (case side2 => exact (Kd.R_reads' HO262.out).2.1)
            rintro e w18 ⟨rfl, hb⟩
            refine ⟨_, rfl, ?_⟩
            have n0_ := Aside0.mk (Kd.R_below (by (with_reducible repeat (first | apply Kd.R_alloc | apply Kd.R_drewN | apply Kd.R_drew)); exact HO262.out) hb)
            have n1_ := Aside0.mk (blk_below (g := gb257) (o := .cells #[.string a0_0, .int .u64 a0_1, .int .i64 a0_2, .string a0_3] 29 (0, 0)) (by (with_reducible repeat (first | refine blk_drewN ?_ _ | refine blk_drew ?_ | refine blk_alloc ?_ _)); exact BK257.out) hb)
            have n2_ := Aside0.mk (below_step (by repeat (first | (with_reducible first | exact HB.out | apply below_alloc | apply pw_below_drewN | apply below_drew1 | refine below_set ?_ GE257.out) | exact HB.out)) hb)
            clear HO262
            clear BK257
            clear HB
            have HO262 := n0_
            have BK257 := n1_
            have HB := n2_
            clear n0_ n1_ n2_
            (try clear hb)
            (try clear hb2)
            (try clear hk)
            (try clear hi)
            refine hK.out _ _ ⟨.slice Ao17 y260.length co17, (by rw [ha.out]; exact putSel_upk 6 hb_ rfl rfl rfl), (by (with_reducible repeat (first | refine blk_drewN ?_ _ | refine blk_drew ?_ | refine blk_alloc ?_ _)); exact BK257.out), (by repeat (first | (with_reducible first | exact HB.out | apply below_alloc | apply pw_below_drewN | apply below_drew1 | refine below_set ?_ GE257.out) | exact HB.out)), fun _ => (by (with_reducible repeat (first | apply Kd.R_alloc | apply Kd.R_drewN | apply Kd.R_drew)); exact HO262.out)⟩
          refine steps_cons ?_ ?_
          · rintro b a w' ⟨v261, ha, Q_BK257, Q_HB, Q_HO262⟩ hb_ hon hoff
            refine ⟨_, rfl, fun K hK => ?_⟩
            have e9 : a.tmps[9]? = some (.string t259) := by rw [ha]; exact putSel_on (e := (2, 9, .string t259)) 1 rfl rfl (hon 2 (by kernel_rfl)) rfl
            have e16 : a.tmps[16]? = some (.string t263) := by rw [ha]; exact putSel_on (e := (9, 16, .string t263)) 6 rfl rfl (hon 9 (by kernel_rfl)) rfl
            replace ha := Aside0.mk ha
            have BK257 := Aside0.mk Q_BK257
            have HB := Aside0.mk Q_HB
            have HO262 := Aside0.mk (Q_HO262 (hon 8 (by kernel_rfl)))
            refine value_ (w1 := w') (v := .string (t259 ++ t263)) (by rfl) rfl ?_ ?_
            · go_simp
              (try simp only [i64_w])
              try rfl
            refine hK.out _ _ ⟨v261, (by rw [ha.out]; exact putSel_upk 7 hb_ rfl rfl rfl), Q_BK257, Q_HB, Q_HO262⟩
          refine steps_cons ?_ ?_
          · rintro b a w' ⟨v261, ha, Q_BK257, Q_HB, Q_HO262⟩ hb_ hon hoff
            refine ⟨_, rfl, fun K hK => ?_⟩
            have e18 : a.tmps[18]? = some (.pointer (some ⟨gb257, 3, none⟩)) := by rw [ha]; exact (putSel_off rfl).trans rfl
            replace ha := Aside0.mk ha
            have BK257 := Aside0.mk Q_BK257
            have HB := Aside0.mk Q_HB
            have hc0_ : w'.cell? ⟨gb257, 0, none⟩ = some (.string a0_0) := (blk_cell BK257.out 0).trans rfl
            have hc1_ : w'.cell? ⟨gb257, 1, none⟩ = some (.int .u64 a0_1) := (blk_cell BK257.out 1).trans rfl
            have hc2_ : w'.cell? ⟨gb257, 2, none⟩ = some (.int .i64 a0_2) := (blk_cell BK257.out 2).trans rfl
            have hc3_ : w'.cell? ⟨gb257, 3, none⟩ = some (.string a0_3) := (blk_cell BK257.out 3).trans rfl
            refine value_ (w1 := w') (v := .string a0_3) (by rfl) rfl ?_ ?_
            · go_simp
              (try simp only [i64_w])
              try rfl
            refine hK.out _ _ ⟨v261, (by rw [ha.out]; exact putSel_upk 8 hb_ rfl rfl rfl), Q_BK257, Q_HB, Q_HO262⟩
          refine steps_cons ?_ ?_
          · rintro b a w' ⟨v261, ha, Q_BK257, Q_HB, Q_HO262⟩ hb_ hon hoff
            refine ⟨_, rfl, fun K hK => ?_⟩
            have e19 : a.tmps[19]? = some (.string a0_3) := by rw [ha]; exact putSel_on (e := (12, 19, .string a0_3)) 8 rfl rfl (hon 12 (by kernel_rfl)) rfl
            replace ha := Aside0.mk ha
            have BK257 := Aside0.mk Q_BK257
            have HB := Aside0.mk Q_HB
            have HO262 := Aside0.mk (Q_HO262 (hon 8 (by kernel_rfl)))
            refine goes_ Try.func52 (by kernel_rfl) rfl #[.string a0_3] (by rfl) rfl rfl (by first | (simp only [List.map_toArray, List.map_cons, List.map_nil, Act.eval, Array.getD_eq_getD_getElem?, Option.getD_some, e19]; done) | (simp only [List.map_toArray, List.map_cons, List.map_nil, Act.eval, Array.getD_eq_getD_getElem?, Option.getD_some, e19]; rfl)) ?_
            with_reducible refine (cornucopiaref1_Text.calls k a0_3 t264 _ A7.out).mono ?_
            rintro e w19 ⟨rfl, hb⟩
            refine ⟨_, rfl, ?_⟩
            have n0_ := Aside0.mk (Kd.R_below (by (with_reducible repeat (first | apply Kd.R_alloc | apply Kd.R_drewN | apply Kd.R_drew)); exact HO262.out) hb)
            have n1_ := Aside0.mk (blk_below (g := gb257) (o := .cells #[.string a0_0, .int .u64 a0_1, .int .i64 a0_2, .string a0_3] 29 (0, 0)) (by (with_reducible repeat (first | refine blk_drewN ?_ _ | refine blk_drew ?_ | refine blk_alloc ?_ _)); exact BK257.out) hb)
            have n2_ := Aside0.mk (below_step (by repeat (first | (with_reducible first | exact HB.out | apply below_alloc | apply pw_below_drewN | apply below_drew1 | refine below_set ?_ GE257.out) | exact HB.out)) hb)
            clear HO262
            clear BK257
            clear HB
            have HO262 := n0_
            have BK257 := n1_
            have HB := n2_
            clear n0_ n1_ n2_
            (try clear hb)
            (try clear hb2)
            (try clear hk)
            (try clear hi)
            refine hK.out _ _ ⟨v261, (by rw [ha.out]; exact putSel_upk 9 hb_ rfl rfl rfl), (by (with_reducible repeat (first | refine blk_drewN ?_ _ | refine blk_drew ?_ | refine blk_alloc ?_ _)); exact BK257.out), (by repeat (first | (with_reducible first | exact HB.out | apply below_alloc | apply pw_below_drewN | apply below_drew1 | refine below_set ?_ GE257.out) | exact HB.out)), fun _ => (by (with_reducible repeat (first | apply Kd.R_alloc | apply Kd.R_drewN | apply Kd.R_drew)); exact HO262.out)⟩
          refine steps_cons ?_ ?_
          · rintro b a w' ⟨v261, ha, Q_BK257, Q_HB, Q_HO262⟩ hb_ hon hoff
            refine ⟨_, rfl, fun K hK => ?_⟩
            have e17 : a.tmps[17]? = some (.string (t259 ++ t263)) := by rw [ha]; exact putSel_on (e := (10, 17, .string (t259 ++ t263))) 7 rfl rfl (hon 10 (by kernel_rfl)) rfl
            have e20 : a.tmps[20]? = some (.string t264) := by rw [ha]; exact putSel_on (e := (13, 20, .string t264)) 9 rfl rfl (hon 13 (by kernel_rfl)) rfl
            replace ha := Aside0.mk ha
            have BK257 := Aside0.mk Q_BK257
            have HB := Aside0.mk Q_HB
            have HO262 := Aside0.mk (Q_HO262 (hon 8 (by kernel_rfl)))
            refine value_ (w1 := w') (v := .string ((t259 ++ t263) ++ t264)) (by rfl) rfl ?_ ?_
            · go_simp
              (try simp only [i64_w])
              try rfl
            refine hK.out _ _ ⟨v261, (by rw [ha.out]; exact putSel_upk 10 hb_ rfl rfl rfl), Q_BK257, Q_HB, Q_HO262⟩
          refine steps_cons ?_ ?_
          · rintro b a w' ⟨v261, ha, Q_BK257, Q_HB, Q_HO262⟩ hb_ hon hoff
            refine ⟨_, rfl, fun K hK => ?_⟩
            have e21 : a.tmps[21]? = some (.string ((t259 ++ t263) ++ t264)) := by rw [ha]; exact putSel_on (e := (14, 21, .string ((t259 ++ t263) ++ t264))) 10 rfl rfl (hon 14 (by kernel_rfl)) rfl
            replace ha := Aside0.mk ha
            have BK257 := Aside0.mk Q_BK257
            have HB := Aside0.mk Q_HB
            have HO262 := Aside0.mk (Q_HO262 (hon 8 (by kernel_rfl)))
            refine value_ (w1 := w') (v := .string ((t259 ++ t263) ++ t264)) (by rfl) rfl ?_ ?_
            · go_simp
              (try simp only [i64_w])
              try rfl
            refine hK.out _ _ ⟨v261, (by rw [ha.out]; exact putSel_upk 11 hb_ rfl rfl rfl), Q_BK257, Q_HB, Q_HO262⟩
          refine steps_cons ?_ ?_
          · rintro b a w' ⟨v261, ha, Q_BK257, Q_HB, Q_HO262⟩ hb_ hon hoff
            refine ⟨_, rfl, fun K hK => ?_⟩
            replace ha := Aside0.mk ha
            have BK257 := Aside0.mk Q_BK257
            have HB := Aside0.mk Q_HB
            have HO262 := Aside0.mk (Q_HO262 (hon 8 (by kernel_rfl)))
            refine value_ (w1 := w') (v := .int .i64 0) (by rfl) rfl ?_ ?_
            · go_simp
              (try simp only [i64_w])
              try rfl
            refine hK.out _ _ ⟨v261, (by rw [ha.out]; exact putSel_upk 12 hb_ rfl rfl rfl), Q_BK257, Q_HB, Q_HO262⟩
          exact steps_nil
        rintro b a w19 hall ⟨v261, ha, Q_BK257, Q_HB, Q_HO262⟩
        clear BK257 HB
        have hb1_ := hall 1 (by kernel_rfl)
        have hb2_ := hall 2 (by kernel_rfl)
        have hb4_ := hall 4 (by kernel_rfl)
        have hb6_ := hall 6 (by kernel_rfl)
        have hb7_ := hall 7 (by kernel_rfl)
        have hb8_ := hall 8 (by kernel_rfl)
        have hb9_ := hall 9 (by kernel_rfl)
        have hb10_ := hall 10 (by kernel_rfl)
        have hb12_ := hall 12 (by kernel_rfl)
        have hb13_ := hall 13 (by kernel_rfl)
        have hb14_ := hall 14 (by kernel_rfl)
        have hb15_ := hall 15 (by kernel_rfl)
        have hb16_ := hall 16 (by kernel_rfl)
        subst ha
        simp only [putSel, hb1_, hb2_, hb4_, hb6_, hb7_, hb8_, hb9_, hb10_, hb12_, hb13_, hb14_, hb15_, hb16_, if_true, Act.put, List.setIfInBounds_toArray, List.set_cons_zero, List.set_cons_succ]
        have BK257 := Aside0.mk Q_BK257
        clear Q_BK257
        have HB := Aside0.mk Q_HB
        clear Q_HB
        have HO262 := Aside0.mk (Q_HO262 hb8_)
        clear Q_HO262
        clear hall hb1_ hb2_ hb4_ hb6_ hb7_ hb8_ hb9_ hb10_ hb12_ hb13_ hb14_ hb15_ hb16_
        try go_wp2
        go_ret2
        exact ⟨by first | rfl | (simp [errW_none, errW_some] <;> rfl) | (simp [*, errW_none, errW_some] <;> rfl), by repeat (first | (with_reducible first | exact HB.out | apply below_alloc | apply pw_below_drewN | apply below_drew1 | refine below_set ?_ GE257.out) | exact HB.out)⟩
      · rw [if_neg c8] at H
        exact absurd H (by simp)
    · rw [if_neg c6] at H
      exact absurd H (by simp)
  · replace c3 := Bool.eq_false_iff.mpr c3
    subst c3
    have H1 : (some ((⟨#[]⟩ : ByteArray), 1)) = some (r1, r2) := by rw [if_neg (show ¬ (false = true) by decide)] at H; exact H
    clear H
    have H := H1
    clear H1
    simp only [Option.some.injEq, Prod.mk.injEq] at H
    obtain ⟨rfl, rfl⟩ := H
    go_enter Try.func25, Try.ntmps25
    go_wp2_with (first | ((with_reducible refine gate_dst (N := 1) rfl ?_); refine box_event ?hg (N := 1) ?hd (cs := #[.string a0_0, .int .u64 a0_1, .int .i64 a0_2, .string a0_3]) (t := 29) ?hr ?_; (case hd => rfl); (case hg => rfl); (case hr => first | (go_simp; done) | (go_simp; rfl)); intro gb257 hg w20 hbox hb; have n0_ := Aside0.mk (below_step (by repeat (first | (with_reducible first | exact HB.out | apply below_alloc | apply pw_below_drewN | apply below_drew1) | exact HB.out)) hb); have n1_ := Aside0.mk (hbox); have n2_ := Aside0.mk ((by rw [hg]; exact (below_size (by repeat (first | (with_reducible first | exact HB.out | apply below_alloc | apply pw_below_drewN | apply below_drew1) | exact HB.out))) : w.heap.size ≤ gb257)); have n3_ := Aside0.mk ((by rw [hg]; exact (below_size (by repeat (first | (with_reducible first | exact HB.out | apply below_alloc | apply pw_below_drewN | apply below_drew1) | exact HB.out))) : w.heap.size ≤ gb257)); clear HB; have HB := n0_; have BK257 := n1_; have GW257 := n2_; have GE257 := n3_; clear n0_ n1_ n2_ n3_; clear hb hbox hg; have hcz21_0 : w20.cell? ⟨gb257, 0, none⟩ = some (.string a0_0) := (blk_cell BK257.out 0).trans rfl; have hcz21_1 : w20.cell? ⟨gb257, 1, none⟩ = some (.int .u64 a0_1) := (blk_cell BK257.out 1).trans rfl; have hcz21_2 : w20.cell? ⟨gb257, 2, none⟩ = some (.int .i64 a0_2) := (blk_cell BK257.out 2).trans rfl; have hcz21_3 : w20.cell? ⟨gb257, 3, none⟩ = some (.string a0_3) := (blk_cell BK257.out 3).trans rfl; have hfz21_0 := blk_frozen BK257.out 0; have hfz21_1 := blk_frozen BK257.out 1; have hfz21_2 := blk_frozen BK257.out 2; have hfz21_3 := blk_frozen BK257.out 3) | ((with_reducible refine gate_callee (f := 51) rfl ?_); refine goesL_ (some 5) rfl rfl Try.func51 (by kernel_rfl) rfl #[.agg #[.string a0_0, .int .u64 a0_1, .int .i64 a0_2, .string a0_3]] rfl (by (try simp only [List.map_toArray, List.map_cons, List.map_nil]); first | done | rfl | (simp only [List.length_drop, List.length_take]; rfl)) ?_; (with_reducible refine (cornucopiaref5_Valid.calls a0_0 a0_1 a0_2 a0_3 false _ A2.out).mono ?_); rintro e w22 ⟨rfl, hb⟩; refine ⟨_, rfl, ?_⟩; have n0_ := Aside0.mk (blk_below (g := gb257) (o := .cells #[.string a0_0, .int .u64 a0_1, .int .i64 a0_2, .string a0_3] 29 (0, 0)) (by (with_reducible repeat (first | refine blk_drewN ?_ _ | refine blk_drew ?_ | refine blk_alloc ?_ _)); exact BK257.out) hb); have n1_ := Aside0.mk (below_step (by repeat (first | (with_reducible first | exact HB.out | apply below_alloc | apply pw_below_drewN | apply below_drew1 | refine below_set ?_ GE257.out) | exact HB.out)) hb); clear BK257; clear HB; have BK257 := n0_; have HB := n1_; clear n0_ n1_; (try clear hb); (try clear hb2); (try clear hk); (try clear hi)))
    go_ret2
    exact ⟨by first | rfl | (simp [errW_none, errW_some] <;> rfl) | (simp [*, errW_none, errW_some] <;> rfl), by repeat (first | (with_reducible first | exact HB.out | apply below_alloc | apply pw_below_drewN | apply below_drew1 | refine below_set ?_ GE257.out) | exact HB.out)⟩
end Go.Proofs.Ytchgpcgolgcfdaa.PNum
end
section
namespace Go.Proofs.Ytchgpcgolgcfdaa.PuCrc
open Go Go.RowKit Go.Proofs.Ytchgpcgolgcfdaa.PNum Go.Proofs.YtchgpcgolgcfdaaW.PrintWords Go.Proofs.YtchgpcgolgcfdaaW.PrintLast Go.Proofs.YtchgpcgolgcfdaaW.PrintMore Go.Proofs.YtchgpcgolgcfdaaW.Pu
def poly : Nat := 2197175160
def bit (x : Nat) : Nat := if x % 2 = 1 then (x / 2) ^^^ poly else x / 2
theorem bit_lt {x : Nat} (h : x < 4294967296) : bit x < 4294967296 := by
  unfold bit
  split
  · exact Nat.xor_lt_two_pow (n := 32) (by omega) (by decide)
  · omega
theorem half31 {x : Nat} (h : x < 4294967296) : (x / 2).testBit 31 = false := Nat.testBit_lt_two_pow (by omega)
theorem poly31 : poly.testBit 31 = true := by decide
theorem bit_top {x : Nat} (h : x < 4294967296) : (bit x).testBit 31 = decide (x % 2 = 1) := by
  unfold bit
  split
  case isTrue q => rw [Nat.testBit_xor, half31 h, decide_eq_true q, poly31]; rfl
  case isFalse q => rw [half31 h, decide_eq_false q]
theorem xor_cancel {a b c : Nat} (h : a ^^^ c = b ^^^ c) : a = b := by
  have h1 : a ^^^ c ^^^ c = b ^^^ c ^^^ c := by rw [h]
  rwa [Nat.xor_assoc, Nat.xor_assoc, Nat.xor_self, Nat.xor_zero, Nat.xor_zero] at h1
theorem bit_inj {x y : Nat} (hx : x < 4294967296) (hy : y < 4294967296) (h : bit x = bit y) : x = y := by
  have ht : decide (x % 2 = 1) = decide (y % 2 = 1) := by rw [← bit_top hx, ← bit_top hy, h]
  unfold bit at h
  by_cases hq : x % 2 = 1
  · rw [decide_eq_true hq] at ht
    have hq2 := of_decide_eq_true ht.symm
    rw [if_pos hq, if_pos hq2] at h
    have := xor_cancel h
    omega
  · rw [decide_eq_false hq] at ht
    have hq2 := of_decide_eq_false ht.symm
    rw [if_neg hq, if_neg hq2] at h
    omega
def bitN : Nat → Nat → Nat
  | 0, x => x
  | n + 1, x => bitN n (bit x)
theorem bitN_lt : ∀ n {x : Nat}, x < 4294967296 → bitN n x < 4294967296
  | 0, _, h => h
  | n + 1, _, h => bitN_lt n (bit_lt h)
theorem bitN_inj : ∀ n {x y : Nat}, x < 4294967296 → y < 4294967296 → bitN n x = bitN n y → x = y
  | 0, _, _, _, _, h => h
  | n + 1, _, _, hx, hy, h => bit_inj hx hy (bitN_inj n (bit_lt hx) (bit_lt hy) h)
def stepB (x c : Nat) : Nat := bitN 8 (x ^^^ c)
def crcN : Nat → List Int → Nat
  | x, [] => x
  | x, c :: l => crcN (stepB x c.toNat) l
theorem stepB_lt {x c : Nat} (hx : x < 4294967296) (hc : c < 256) : stepB x c < 4294967296 := bitN_lt 8 (Nat.xor_lt_two_pow (n := 32) (by omega) (by omega))
theorem crcN_lt : ∀ (l : List Int) {x : Nat}, ok8 l → x < 4294967296 → crcN x l < 4294967296
  | [], _, _, h => h
  | c :: l, x, ho, h => by
    have hc := ho c List.mem_cons_self
    exact crcN_lt l (fun y hy => ho y (List.mem_cons_of_mem _ hy)) (stepB_lt h (by omega))
theorem crcN_append : ∀ (a b : List Int) (x : Nat), crcN x (a ++ b) = crcN (crcN x a) b
  | [], _, _ => rfl
  | c :: a, b, x => crcN_append a b (stepB x c.toNat)
theorem crcN_inj : ∀ (l : List Int) {x y : Nat}, ok8 l → x < 4294967296 → y < 4294967296 → crcN x l = crcN y l → x = y
  | [], _, _, _, _, _, h => h
  | c :: l, x, y, ho, hx, hy, h => by
    have hc := ho c List.mem_cons_self
    have h1 := crcN_inj l (fun y hy => ho y (List.mem_cons_of_mem _ hy)) (stepB_lt (c := c.toNat) hx (by omega)) (stepB_lt (c := c.toNat) hy (by omega)) h
    exact xor_cancel (bitN_inj 8 (Nat.xor_lt_two_pow (n := 32) (by omega) (by omega)) (Nat.xor_lt_two_pow (n := 32) (by omega) (by omega)) h1)
theorem crcN_changed (a b : List Int) (c d : Int) (ha : ok8 a) (hb : ok8 b) (hc : 0 ≤ c ∧ c < 256) (hd : 0 ≤ d ∧ d < 256) (hne : c ≠ d) {x : Nat} (hx : x < 4294967296) : crcN x (a ++ c :: b) ≠ crcN x (a ++ d :: b) := by
  intro h
  rw [crcN_append, crcN_append] at h
  have h0 := crcN_lt a ha hx
  have h1 := crcN_inj b hb (stepB_lt (c := c.toNat) h0 (by omega)) (stepB_lt (c := d.toNat) h0 (by omega)) h
  have h2 := bitN_inj 8 (Nat.xor_lt_two_pow (n := 32) (by omega) (by omega)) (Nat.xor_lt_two_pow (n := 32) (by omega) (by omega)) h1
  rw [Nat.xor_comm _ c.toNat, Nat.xor_comm _ d.toNat] at h2
  have h3 := xor_cancel h2
  omega
def crc (l : List Int) : Nat := 4294967295 ^^^ crcN 4294967295 l
theorem crc_lt {l : List Int} (h : ok8 l) : crc l < 4294967296 := Nat.xor_lt_two_pow (n := 32) (by decide) (crcN_lt l h (by decide))
theorem crc_changed (a b : List Int) (c d : Int) (ha : ok8 a) (hb : ok8 b) (hc : 0 ≤ c ∧ c < 256) (hd : 0 ≤ d ∧ d < 256) (hne : c ≠ d) : crc (a ++ c :: b) ≠ crc (a ++ d :: b) := by
  intro h
  unfold crc at h
  rw [Nat.xor_comm _ (crcN _ _), Nat.xor_comm _ (crcN _ _)] at h
  exact crcN_changed a b c d ha hb hc hd hne (by decide) (xor_cancel h)
theorem ku32 : ∀ n : Int, 0 ≤ n → n < 2 ^ 32 → IntKind.u32.wrap n = n := fun n h0 h1 => by simp [IntKind.wrap, IntKind.bits, IntKind.signed]; omega
theorem and_u32 (a b : Nat) (ha : a < 2 ^ 32) (hb : b < 2 ^ 32) : bits .and .u32 a b = ((a &&& b : Nat) : Int) := (bits_nat .u32 32 (by decide) ku32 a b ha hb).1
theorem xor_u32 (a b : Nat) (ha : a < 2 ^ 32) (hb : b < 2 ^ 32) : bits .xor .u32 a b = ((a ^^^ b : Nat) : Int) := by
  have ha' : a % 2 ^ IntKind.u32.bits = a := Nat.mod_eq_of_lt ha
  have hb' : b % 2 ^ IntKind.u32.bits = b := Nat.mod_eq_of_lt hb
  simp only [bits, BitVec.ofInt_natCast, BitVec.toNat_xor, BitVec.toNat_ofNat, ha', hb']
  exact ku32 _ (Int.natCast_nonneg _) (by have := Nat.xor_lt_two_pow ha hb; exact_mod_cast this)
theorem l2_ev (s : ByteArray) (L : List ByteArray) (n j m i r : Int) (d : Nat) : ∀ (c x : Nat), c + d = 8 → x < 4294967296 → Ev (fun k => sum_Crc.l1 k ((bitN d x : Nat) : Int) s L n j m (wrap64 (i + 1))) r → Ev (fun k => sum_Crc.l2 k (x : Int) s L n j m i (c : Int)) r := by
  induction d with
  | zero =>
    intro c x hc _ he
    have he2 : Ev (fun k => sum_Crc.l1 k (x : Int) s L n j m (wrap64 (i + 1))) r := he
    have hc8 : ¬ ((c : Int) < 8) := by omega
    exact Ev.step (fun k => by rw [sum_Crc.l2]) (ev_neg hc8 he2)
  | succ d ih =>
    intro c x hc hx he
    have hw : wrap64 ((c : Int) + 1) = ((c + 1 : Nat) : Int) := by rw [wrap64_id (by omega)]; omega
    have hand : Go.bits .and .u32 (x : Int) 1 = ((x % 2 : Nat) : Int) := by
      have := and_u32 x 1 hx (by decide)
      rw [Nat.and_one_is_mod] at this
      exact this
    have hh : ((x : Int) / 2) = ((x / 2 : Nat) : Int) := by omega
    have hxo : Go.bits .xor .u32 ((x / 2 : Nat) : Int) 2197175160 = (((x / 2) ^^^ poly : Nat) : Int) := xor_u32 (x / 2) poly (by omega) (by decide)
    have hgo := ih (c + 1) (bit x) (by omega) (bit_lt hx) he
    have hc8 : (c : Int) < 8 := by omega
    rw [← hw] at hgo
    by_cases hb : x % 2 = 1
    · have hb1 : ((x % 2 : Nat) : Int) = 1 := by omega
      have hbt : bit x = (x / 2) ^^^ poly := if_pos hb
      rw [hbt] at hgo
      refine Ev.step (fun k => by rw [sum_Crc.l2]) (ev_pos hc8 ?_)
      rw [hand, hh, hxo]
      exact ev_pos hb1 hgo
    · have hb1 : ¬ ((x % 2 : Nat) : Int) = 1 := by omega
      have hbt : bit x = x / 2 := if_neg hb
      rw [hbt] at hgo
      refine Ev.step (fun k => by rw [sum_Crc.l2]) (ev_pos hc8 ?_)
      rw [hand, hh, hxo]
      exact ev_neg hb1 hgo
theorem l1_ev (s : ByteArray) (hs : s.size ≤ 9223372036854775806) (L : List ByteArray) (n j r : Int) (d : Nat) : ∀ (i x : Nat), i + d = s.size → x < 4294967296 → Ev (fun k => sum_Crc.l0 k ((crcN x ((bytesOf s).drop i) : Nat) : Int) L n (wrap64 (j + 1))) r → Ev (fun k => sum_Crc.l1 k (x : Int) s L n j (s.size : Int) (i : Int)) r := by
  induction d with
  | zero =>
    intro i x hi _ he
    have hd : (bytesOf s).drop i = [] := List.drop_of_length_le (by rw [bytesOf_length]; omega)
    rw [hd] at he
    replace he : Ev (fun k => sum_Crc.l0 k (x : Int) L n (wrap64 (j + 1))) r := he
    exact Ev.step (fun k => by rw [sum_Crc.l1]) (ev_neg (by omega) he)
  | succ d ih =>
    intro i x hi hx he
    have hw : wrap64 ((i : Int) + 1) = ((i + 1 : Nat) : Int) := by rw [wrap64_id (by omega)]; omega
    have hlt : i < (bytesOf s).length := by rw [bytesOf_length]; omega
    have hb : bt s (i : Int) = (bytesOf s)[i] := by rw [bt_eq]; simp [hlt]
    have hr := ok8_of s _ (List.getElem_mem hlt)
    rw [List.drop_eq_getElem_cons hlt] at he
    generalize (bytesOf s)[i] = c at *
    obtain ⟨c, rfl⟩ : ∃ m : Nat, c = (m : Int) := ⟨c.toNat, by omega⟩
    replace he : Ev (fun k => sum_Crc.l0 k ((crcN (stepB x c) ((bytesOf s).drop (i + 1)) : Nat) : Int) L n (wrap64 (j + 1))) r := he
    have hc : c < 256 := by omega
    have hm : ((c : Int)) % 4294967296 = (c : Int) := by omega
    have hxo := xor_u32 x c hx (by omega)
    have hgo := ih (i + 1) (stepB x c) (by omega) (stepB_lt hx hc) he
    rw [stepB, ← hw] at hgo
    have h2 := l2_ev s L n j (s.size : Int) (i : Int) r 8 0 (x ^^^ c) rfl (Nat.xor_lt_two_pow (n := 32) hx (by omega)) hgo
    refine Ev.step (fun k => by rw [sum_Crc.l1]) (ev_pos (by omega) (ev_pos (by omega) (ev_pos (by omega) ?_)))
    rw [hb, hm, hxo]
    exact h2
theorem Crc_eq (s : ByteArray) (hs : s.size ≤ 9223372036854775806) : Ev (fun k => sum_Crc.f k [s]) ((crc (bytesOf s) : Nat) : Int) := by
  have hl := crcN_lt (bytesOf s) (ok8_of s) (x := 4294967295) (by decide)
  have hxo := xor_u32 4294967295 (crcN 4294967295 (bytesOf s)) (by decide) hl
  have h0 : Ev (fun k => sum_Crc.l0 k ((crcN 4294967295 (bytesOf s) : Nat) : Int) [s] (([s] : List ByteArray).length : Int) (wrap64 (0 + 1))) ((crc (bytesOf s) : Nat) : Int) :=
    Ev.step (fun k => by rw [sum_Crc.l0]) (ev_neg (by rw [wrap64_id (by omega)]; simp) (ev_const (by rw [crc, ← hxo]; rfl)))
  have h1 := l1_ev s hs [s] (([s] : List ByteArray).length : Int) 0 _ s.size 0 4294967295 (Nat.zero_add _) (by decide) (by rw [List.drop_zero]; exact h0)
  have h2 : Ev (fun k => sum_Crc.l1 k 4294967295 s [s] (([s] : List ByteArray).length : Int) 0 (s.size : Int) 0) ((crc (bytesOf s) : Nat) : Int) := h1
  unfold sum_Crc.f
  have hr0 : rdOf ByteArray.empty [s] 0 = s := rfl
  exact Ev.step (fun k => by rw [sum_Crc.l0, hr0]) (ev_pos (by simp) (ev_pos (by omega) (ev_pos (by simp) h2)))
end Go.Proofs.Ytchgpcgolgcfdaa.PuCrc
end
section
namespace Go.Proofs.Ytchgpcgolgcfdaa.PuBk
open Go Go.RowKit Go.Proofs.Ytchgpcgolgcfdaa.PNum Go.Proofs.Ytchgpcgolgcfdaa.PuVt Go.Proofs.Ytchgpcgolgcfdaa.PuVr Go.Proofs.Ytchgpcgolgcfdaa.PuCrc Go.Proofs.YtchgpcgolgcfdaaW.PrintWords Go.Proofs.YtchgpcgolgcfdaaW.PrintLast Go.Proofs.YtchgpcgolgcfdaaW.PrintMore Go.Proofs.YtchgpcgolgcfdaaW.Pu Go.Proofs.Ytchgpcgolgcfdaa.Bl2
theorem Seal_eq (s : ByteArray) (hs : s.size ≤ 140737488355328) : Ev (fun k => sum_Seal.f k s) (s ++ strOfNums (be 4 (crc (bytesOf s)))) := by
  have he := Crc_eq s (by omega)
  have hv : crc (bytesOf s) < 256 ^ 4 := crc_lt (ok8_of s)
  generalize crc (bytesOf s) = v at *
  have ht : (strOfNums (be 4 v)).size = 4 := by rw [S_size, be_len]
  have hF := Fix_yes (v := v) (n := 4) (by omega) (by omega) (Or.inr hv)
  have hw : IntKind.u64.wrap (v : Int) = (v : Int) := wu64_id (by omega)
  unfold sum_Seal.f sum_four.f
  refine Ev.bind he ?_
  simp only [hw]
  refine Ev.bind (Ev.bind hF (ev_const rfl)) (ev_pos ?_ (ev_const rfl))
  show s.size + (strOfNums (be 4 v)).size ≤ _
  omega
theorem Open_bad (x t : List Int) (hx : ok8 x) (ht : ok8 t) (h4 : t.length = 4) (hs : x.length ≤ 140737488355328) (hne : un t ≠ crc x) : Ev (fun k => sum_Open.f k (strOfNums (x ++ t))) (⟨#[]⟩, 6) := by
  have hsz : (strOfNums (x ++ t)).size = x.length + 4 := by rw [S_size, List.length_append, h4]
  have hb : bytesOf (strOfNums (x ++ t)) = x ++ t := of_S (ok8_append hx ht)
  have hU := Unfix_yes (strOfNums (x ++ t)) x.length 4 (by omega) (by omega) (by omega) (by omega)
  rw [hb, List.drop_left' rfl, List.take_of_length_le (by omega)] at hU
  have hex : (strOfNums (x ++ t)).extract 0 x.length = strOfNums x := by
    rw [← S_of ((strOfNums (x ++ t)).extract 0 x.length), bytesOf_extract, hb, List.take_left' rfl, List.drop_zero]
  have he := Crc_eq (strOfNums x) (by rw [S_size]; omega)
  rw [of_S hx] at he
  have hw4 : wrap64 (((strOfNums (x ++ t)).size : Int) - 4) = (x.length : Int) := by rw [hsz, wrap64_id (by omega)]; omega
  have hv : un t < 256 ^ 4 := un_lt 4 t ht h4
  have hne2 : ¬ (((un t : Nat) : Int) % 4294967296 = ((crc x : Nat) : Int)) := by omega
  unfold sum_Open.f sum_get.f
  rw [hw4]
  simp only [Int.toNat_natCast, hex]
  exact ev_neg (by omega) (Ev.bind (Ev.bind hU (ev_const rfl)) (ev_pos (by omega) (ev_pos (by rw [hsz]; omega) (Ev.bind he (ev_neg hne2 (ev_const rfl))))))
theorem un_inj : ∀ (n : Nat) (x y : List Int), ok8 x → ok8 y → x.length = n → y.length = n → un x = un y → x = y
  | 0, x, y, _, _, hx, hy, _ => by rw [List.length_eq_zero_iff.1 hx, List.length_eq_zero_iff.1 hy]
  | n + 1, x, y, ox, oy, hx, hy, h => by
    have ex : x ≠ [] := fun e => by subst e; simp at hx
    have ey : y ≠ [] := fun e => by subst e; simp at hy
    have dx := List.dropLast_concat_getLast ex
    have dy := List.dropLast_concat_getLast ey
    rw [← dx, ← dy] at h
    rw [un_app, un_app] at h
    have bx := ox _ (List.getLast_mem ex)
    have by_ := oy _ (List.getLast_mem ey)
    have h1 : un x.dropLast = un y.dropLast ∧ x.getLast ex = y.getLast ey := by omega
    rw [← dx, ← dy, un_inj n x.dropLast y.dropLast (fun z hz => ox z ((List.dropLast_sublist _).subset hz)) (fun z hz => oy z ((List.dropLast_sublist _).subset hz)) (by simp [hx]) (by simp [hy]) h1.1, h1.2]
theorem set_ok {x : List Int} {i : Nat} {d : Int} (h : ok8 x) (hd : 0 ≤ d ∧ d < 256) : ok8 (x.set i d) := fun z hz => by
  rcases List.mem_or_eq_of_mem_set hz with q | q
  · exact h z q
  · rw [q]; exact hd
theorem Open_changed (x : List Int) (hx : ok8 x) (hs : x.length ≤ 140737488355328) (i : Nat) (d : Int) (hd : 0 ≤ d ∧ d < 256) (hi : i < x.length + 4) (hne : (x ++ be 4 (crc x))[i]? ≠ some d) : Ev (fun k => sum_Open.f k (strOfNums ((x ++ be 4 (crc x)).set i d))) (⟨#[]⟩, 6) := by
  have hv : crc x < 256 ^ 4 := crc_lt hx
  have hl : (be 4 (crc x)).length = 4 := be_len 4 _
  by_cases h : i < x.length
  · rw [List.set_append_left _ _ h]
    have hsz : (x.set i d).length = x.length := List.length_set
    refine Open_bad _ _ (set_ok hx hd) (be_ok 4 _) hl (by omega) ?_
    rw [un_be 4 _ hv]
    rw [List.getElem?_append_left h, List.getElem?_eq_getElem h] at hne
    have hc : x[i] ≠ d := fun e => hne (by rw [e])
    have e1 : x = x.take i ++ x[i] :: x.drop (i + 1) := by rw [← List.drop_eq_getElem_cons h, List.take_append_drop]
    have e2 : x.set i d = x.take i ++ d :: x.drop (i + 1) := List.set_eq_take_append_cons_drop .. |>.trans (by rw [if_pos h])
    rw [e2]
    conv => lhs; rw [e1]
    exact crc_changed _ _ _ _ (fun z hz => hx z (List.mem_of_mem_take hz)) (fun z hz => hx z (List.mem_of_mem_drop hz)) (hx _ (List.getElem_mem h)) hd hc
  · rw [List.set_append_right _ _ (by omega)]
    refine Open_bad _ _ hx (set_ok (be_ok 4 _) hd) (by rw [List.length_set, hl]) hs ?_
    intro hun
    have e1 := un_inj 4 _ _ (set_ok (i := i - x.length) (be_ok 4 _) hd) (be_ok 4 (crc x)) (by rw [List.length_set, hl]) hl (by rw [hun, un_be 4 _ hv])
    rw [List.getElem?_append_right (by omega)] at hne
    apply hne
    have e2 : ((be 4 (crc x)).set (i - x.length) d)[i - x.length]? = some d := List.getElem?_set_self (by omega)
    rw [e1] at e2
    exact e2
def putL (e : E) : Nat := (vb e.f0.size).length + e.f0.size + (vb e.f1.toNat).length + (vb e.f2.toNat).length + (vb e.f3.size).length + e.f3.size
def szL (l : List E) : Nat := (l.map fun e => putL e + 2).sum
theorem vb_mono : ∀ (m n : Nat), n ≤ m → (vb n).length ≤ (vb m).length := by
  intro m
  induction m using Nat.strongRecOn with
  | _ m ih =>
    intro n h
    by_cases hn : n < 128
    · rw [vb_low hn]; exact vb_pos m
    · have hm : ¬ m < 128 := by omega
      rw [vb_high hn, vb_high hm, List.length_cons, List.length_cons]
      have := ih (m / 128) (by omega) (n / 128) (by omega)
      omega
theorem pc_short {e : E} (h : Ok e) {n : Nat} (hn : n ≤ e.f0.size) : (pc e n).length ≤ putL e + 2 := by
  have h1 := vb_mono e.f0.size (e.f0.size - n) (by omega)
  have h2 := vb_len 1 n (by have := h.key; omega)
  have h8 : (bytesOf e.f0).length = e.f0.size := bytesOf_length _
  have h9 : (bytesOf e.f3).length = e.f3.size := bytesOf_length _
  unfold pc putL
  simp only [List.length_append, List.length_drop]
  omega
theorem layB_short : ∀ (l : List E) i p, (∀ e ∈ l, Ok e) → (layB i p l).length ≤ szL l
  | [], _, _, _ => by simp [layB, szL]
  | e :: l, i, p, h => by
    have h1 := pc_short (h e List.mem_cons_self) (hd_le i p e).2
    have h2 := layB_short l (i + 1) e.f0 (fun x hx => h x (List.mem_cons_of_mem _ hx))
    rw [layB, List.length_append]
    unfold szL at h2 ⊢
    rw [List.map_cons, List.sum_cons]
    omega
theorem Put_back (l : List E) (hl : ∀ e ∈ l, Ok e) (h400 : l.length ≤ 400) (hR : Ev (fun k => block_Right.f k l) true) : ∃ s : ByteArray, 8 ≤ s.size ∧ s.size ≤ 8 + 4 * ((l.length + 3) / 4) + szL l ∧ s.size ≤ 1000000000000 ∧ Ev (fun k => block_Put.f k l) (s, 0) ∧ Ev (fun k => block_Get.f k s) (l, 0) ∧
    ∀ (i : Nat) (d : Int), i < s.size → 0 ≤ d ∧ d < 256 → (bytesOf s)[i]? ≠ some d → Ev (fun k => block_Get.f k (strOfNums ((bytesOf s).set i d))) ([], 6) := by
  obtain ⟨s, h8, hP, hG⟩ := Put_ev l hl h400 hR
  have hlen := layB_len l 0 ⟨#[]⟩ hl
  have hsh := layB_short l 0 ⟨#[]⟩ hl
  obtain ⟨r, hr, hg⟩ := go_ev l hl h400 l.length 0 ⟨#[]⟩ ⟨#[]⟩ ⟨#[]⟩ (Nat.zero_add _) (fun h => absurd h (by omega)) (by decide) (by decide) rfl
  rw [List.drop_zero, nil_app] at hg
  obtain ⟨m, hm⟩ : ∃ m, m = (l.length + 3) / 4 := ⟨_, rfl⟩
  rw [← hm] at hr
  have hz := four_ev m (by omega)
  have hzs : (strOfNums (be 4 m)).size = 4 := by rw [S_size, be_len]
  have hB : (strOfNums (layB 0 ⟨#[]⟩ l)).size = (layB 0 ⟨#[]⟩ l).length := S_size _
  generalize layB 0 ⟨#[]⟩ l = B at *
  have hD : ((strOfNums B ++ r) ++ strOfNums (be 4 m)).size = B.length + r.size + 4 := by rw [ByteArray.size_append, ByteArray.size_append, hB, hzs]
  have hS := Seal_eq ((strOfNums B ++ r) ++ strOfNums (be 4 m)) (by rw [hD]; omega)
  have hP2 : Ev (fun k => block_Put.f k l) ((((strOfNums B ++ r) ++ strOfNums (be 4 m)) ++ strOfNums (be 4 (crc (bytesOf ((strOfNums B ++ r) ++ strOfNums (be 4 m)))))), 0) := by
    show Ev (fun k => putF k l) _
    unfold putF
    refine Ev.bind hR (ev_pos rfl (ev_pos (by unfold lim; omega) ?_))
    rw [← hm]
    refine Ev.bind hg (Ev.bind hz (ev_pos ?_ ?_))
    · show (strOfNums B).size + r.size + (strOfNums (be 4 m)).size ≤ lim
      rw [hB, hzs]
      unfold lim
      omega
    · exact Ev.bind hS (ev_const rfl)
  obtain ⟨k1, q1⟩ := hP
  obtain ⟨k2, q2⟩ := hP2
  have hes := (q1 (k1 + k2) (by omega)).symm.trans (q2 (k1 + k2) (by omega))
  have hs : s = ((strOfNums B ++ r) ++ strOfNums (be 4 m)) ++ strOfNums (be 4 (crc (bytesOf ((strOfNums B ++ r) ++ strOfNums (be 4 m))))) := congrArg Prod.fst (Option.some.inj hes)
  have hP : Ev (fun k => block_Put.f k l) (s, 0) := ⟨k1, q1⟩
  clear hes q1 q2 hS hg hz
  generalize (strOfNums B ++ r) ++ strOfNums (be 4 m) = D at *
  have hs4 : (strOfNums (be 4 (crc (bytesOf D)))).size = 4 := by rw [S_size, be_len]
  have hsz : s.size = D.size + 4 := by rw [hs, ByteArray.size_append, hs4]
  have hsb : bytesOf s = bytesOf D ++ be 4 (crc (bytesOf D)) := by rw [hs, bytesOf_append, of_S (be_ok 4 _)]
  refine ⟨s, h8, by omega, by omega, hP, hG, ?_⟩
  intro i d hi hd hne
  rw [hsb] at hne ⊢
  have hO := Open_changed (bytesOf D) (ok8_of D) (by rw [bytesOf_length]; omega) i d hd (by rw [bytesOf_length]; omega) hne
  unfold block_Get.f
  exact Ev.bind hO (ev_neg (by decide) (ev_const rfl))
end Go.Proofs.Ytchgpcgolgcfdaa.PuBk
end
section
namespace Go.Proofs.Ytchgpcgolgcfdaa.PuRP
open Go Go.RowKit Go.Proofs.Ytchgpcgolgcfdaa.PNum Go.Proofs.Ytchgpcgolgcfdaa.PuVt Go.Proofs.Ytchgpcgolgcfdaa.PuIkC Go.Proofs.YtchgpcgolgcfdaaW.PrintWords Go.Proofs.YtchgpcgolgcfdaaW.PrintLast Go.Proofs.YtchgpcgolgcfdaaW.PrintMore Go.Proofs.YtchgpcgolgcfdaaW.Pu
theorem valid_sizes {a0 : ByteArray} {a2 : Int} {a3 : ByteArray} (h : valid a0 a2 a3 = true) : (a0.size : Int) ≤ 300 ∧ (a3.size : Int) ≤ 60000 ∧ (a2 = 2 ∨ a2 = 1) := by
  unfold valid at h
  have h := of_decide_eq_true h
  refine ⟨h.1, h.2.1, ?_⟩
  by_cases k : a2 = 2
  · exact .inl k
  · have := h.2.2
    rw [if_neg k] at this
    exact .inr this
def pb (a0 : ByteArray) (a1 a2 : Int) (a3 : ByteArray) : List Int := (vb a0.size ++ bytesOf a0) ++ (vb a1.toNat ++ (vb a2.toNat ++ ((vb a3.size ++ bytesOf a3) ++ [])))
theorem pb_len {a0 : ByteArray} {a1 a2 : Int} {a3 : ByteArray} (h1 : a1 ≤ 18446744073709551615) (h : valid a0 a2 a3 = true) : (pb a0 a1 a2 a3).length ≤ 70000 := by
  have hv := valid_sizes h
  have n1 := vb_len10 (n := a0.size) (by omega)
  have n2 := vb_len10 (n := a1.toNat) (by omega)
  have n3 := vb_len10 (n := a2.toNat) (by omega)
  have n4 := vb_len10 (n := a3.size) (by omega)
  have b0 := bytesOf_length a0
  have b3 := bytesOf_length a3
  unfold pb
  simp only [List.length_append, List.length_nil]
  omega
theorem refValid_eq (a0 : ByteArray) (a1 a2 : Int) (a3 : ByteArray) : cornucopiaref5_Valid.f a0 a1 a2 a3 = some (valid a0 a2 a3) := by
  unfold cornucopiaref5_Valid.f valid
  by_cases h1 : (a0.size : Int) ≤ 300
  · by_cases h2 : (a3.size : Int) ≤ 60000
    · by_cases h3 : a2 = 1
      · simp [h1, h2, h3]
      · by_cases h4 : a2 = 2
        · have : (a3.toList == ([] : List UInt8)) = decide (a3 = ⟨#[]⟩) := by
            have := tl_beq a3 ⟨#[]⟩
            rw [nil_toList] at this
            exact this
          simp [h1, h2, h4, this]
        · simp [h1, h2, h3, h4]
    · simp [h1, h2]
  · simp [h1]
theorem RVar_l0 (b : Nat) : ∀ (n : Nat) (acc : List Int), n < 128 ^ (b + 1) → n ≤ 18446744073709551615 → acc.length + b + 1 < 140737488355328 → Ev (fun k => cornucopiaref1_Var.l0 k (n : Int) acc) (strOfNums (acc ++ vb n)) := by
  have low : ∀ (n : Nat) (acc : List Int), n < 128 → acc.length + 1 < 140737488355328 → Ev (fun k => cornucopiaref1_Var.l0 k (n : Int) acc) (strOfNums (acc ++ vb n)) := by
    intro n acc h ha
    rw [vb_low h]
    refine Ev.step (fun k => by rw [cornucopiaref1_Var.l0]) (ev_neg (by omega) (ev_pos (by omega) (ev_const ?_)))
    rw [show ((n : Int) % 256) = n from by omega]
  induction b with
  | zero => intro n acc h _ ha; exact low n acc (by simpa using h) (by omega)
  | succ b ih =>
    intro n acc h hn ha
    by_cases h128 : n < 128
    · exact low n acc h128 (by omega)
    · have e1 : IntKind.u64.wrap (Int.tdiv (n : Int) 128) = ((n / 128 : Nat) : Int) := by rw [Int.tdiv_eq_ediv_of_nonneg (by omega), wu64_id (by omega)]; omega
      have e2 : ((Int.tmod (n : Int) 128) + 128) % 256 = ((n % 128 + 128 : Nat) : Int) := by rw [Int.tmod_eq_emod_of_nonneg (by omega)]; omega
      rw [vb_high h128]
      refine Ev.step (fun k => by rw [cornucopiaref1_Var.l0, e1, e2]) (ev_pos (by omega) (ev_pos (by omega) ?_))
      have := ih (n / 128) (acc ++ [((n % 128 + 128 : Nat) : Int)]) (by rw [Nat.pow_succ] at h; omega) (by omega) (by simp; omega)
      rw [List.append_assoc] at this
      exact this
theorem RVar_ev (n : Nat) (hn : n ≤ 18446744073709551615) : Ev (fun k => cornucopiaref1_Var.f k (n : Int)) (strOfNums (vb n)) := by
  have := RVar_l0 9 n [] (by omega) hn (by simp)
  exact Ev.congr (fun k => by rw [cornucopiaref1_Var.f]) this
theorem RText_ev (s : ByteArray) (hs : s.size ≤ 100000) : Ev (fun k => cornucopiaref1_Text.f k s) (strOfNums (vb s.size ++ bytesOf s)) := by
  have n1 := vb_len10 (n := s.size) (by omega)
  have e1 : IntKind.u64.wrap (s.size : Int) = (s.size : Int) := wu64_id (by omega)
  refine Ev.congr (fun k => by rw [cornucopiaref1_Text.f, e1]) ?_
  refine Ev.bind (RVar_ev s.size (by omega)) ?_
  refine ev_pos ?_ (ev_const ?_)
  · rw [S_size]; omega
  · rw [← S_append, S_of]
theorem RVars_l0 (l : List Int) (hl : u64s l) (hn : l.length ≤ 300) (d : Nat) : ∀ i (acc : List Int), i + d = l.length → acc.length ≤ 10 * i → Ev (fun k => cornucopiaref1_Vars.l0 k l acc (i : Int)) (strOfNums (acc ++ vbs (l.drop i))) := by
  induction d with
  | zero =>
    intro i acc hi ha
    rw [List.drop_of_length_le (by omega)]
    refine Ev.step (fun k => by rw [cornucopiaref1_Vars.l0]) (ev_neg (by omega) (ev_const ?_))
    simp [vbs]
  | succ d ih =>
    intro i acc hi ha
    have hlt : i < l.length := by omega
    have hx := hl l[i] (List.getElem_mem hlt)
    have n1 := vb_len10 (n := l[i].toNat) (by omega)
    have hv := RVar_ev l[i].toNat (by omega)
    rw [show ((l[i].toNat : Nat) : Int) = l[i] from by omega] at hv
    refine Ev.step (fun k => by rw [cornucopiaref1_Vars.l0, Go.Proofs.Ytchgpcgolgcfdaa.PuVt.rd_nat l i hlt]) (ev_pos (by omega) (ev_pos (by omega) (Ev.bind hv ?_)))
    refine ev_pos ?_ ?_
    · rw [S_size]; omega
    rw [of_S (vb_ok _), wrap64_id (by omega), show ((i : Int) + 1) = ((i + 1 : Nat) : Int) from by omega]
    have := ih (i + 1) (acc ++ vb l[i].toNat) (by omega) (by simp; omega)
    rw [List.drop_eq_getElem_cons hlt, vbs_cons, ← List.append_assoc]
    exact this
theorem RVars_ev (l : List Int) (hl : u64s l) (hn : l.length ≤ 300) : Ev (fun k => cornucopiaref1_Vars.f k l) (strOfNums (vbs l)) := by
  have := RVars_l0 l hl hn l.length 0 [] (by omega) (by simp)
  exact Ev.congr (fun k => by rw [cornucopiaref1_Vars.f]; rfl) this
theorem RPut_ev (a0 : ByteArray) (a1 a2 : Int) (a3 : ByteArray) (h0 : 0 ≤ a1) (h1 : a1 ≤ 18446744073709551615) : Ev (fun k => cornucopiaref5_Put.f k a0 a1 a2 a3) (if valid a0 a2 a3 = true then (strOfNums (pb a0 a1 a2 a3), 0) else (⟨#[]⟩, 1)) := by
  refine Ev.congr (fun k => by rw [cornucopiaref5_Put.f]) (ev_call (refValid_eq a0 a1 a2 a3) ?_)
  by_cases h : valid a0 a2 a3 = true
  · rw [if_pos h]
    refine ev_pos h ?_
    have hv := valid_sizes h
    have hw : IntKind.u64.wrap a2 = a2 := wu64_id (by omega)
    have hl := pb_len h1 h
    have t0 := RText_ev a0 (by omega)
    have t3 := RText_ev a3 (by omega)
    have hvv := RVars_ev [a1, a2] (by intro x hx; simp at hx; omega) (by simp)
    rw [hw]
    have e1 : vbs [a1, a2] = vb a1.toNat ++ vb a2.toNat := by simp [vbs]
    rw [e1] at hvv
    have hpb : pb a0 a1 a2 a3 = ((vb a0.size ++ bytesOf a0) ++ (vb a1.toNat ++ vb a2.toNat)) ++ (vb a3.size ++ bytesOf a3) := by simp [pb]
    have hl2 := hl
    rw [hpb, List.length_append] at hl2
    refine Ev.bind t0 (Ev.bind hvv (ev_pos ?_ (Ev.bind t3 (ev_pos ?_ (ev_const ?_)))))
    · rw [S_size, S_size, ← List.length_append]; omega
    · rw [S_append, S_size, S_size]; omega
    · rw [S_append, S_append, hpb]
  · rw [if_neg h]
    exact ev_neg h (ev_const rfl)
end Go.Proofs.Ytchgpcgolgcfdaa.PuRP
end
section
namespace Go.Proofs.Ytchgpcgolgcfdaa.PNum
open Go.RowKit Go.Proofs.YtchgpcgolgcfdaaW.PrintWords Go.Proofs.YtchgpcgolgcfdaaW.PrintLast Go.Proofs.YtchgpcgolgcfdaaW.PrintMore
attribute [local go_sem] max2_int min2_int max_two min_two max_three min_three max_four min_four   -- for this text's walks alone
set_option linter.unusedVariables false
set_option linter.unusedSimpArgs false
def cornucopialaw5_Small.l0 : Nat → List (S29) → Int → Int → Option (Bool)
  | 0, _, _, _ => none
  | k + 1, x0, x3, x4 => if x4 < (x0.length : Int) then (if x4 < 400 then (if x3 ≥ 0 then (if 0 ≤ x4 then ((cornucopiabook_Room.f k x3 (([(((rd_T29 x0 x4).f0).size : Int), (((rd_T29 x0 x4).f3).size : Int)] : List Int))).bind fun t108 => (cornucopialaw5_Small.l0 k x0 t108 (wrap64 (x4 + 1)))) else (none)) else (if (x0.length : Int) ≤ 150 then (some (decide (x3 ≥ 0))) else (some false))) else (if (x0.length : Int) ≤ 150 then (some (decide (x3 ≥ 0))) else (some false))) else (if (x0.length : Int) ≤ 150 then (some (decide (x3 ≥ 0))) else (some false))
def cornucopialaw5_Small.f (k : Nat) (l0 : List (S29)) : Option (Bool) := cornucopialaw5_Small.l0 k l0 20000 0
theorem cornucopialaw5_Small.mono_l : ∀ k, (∀ y0 y1 y2, LeO (cornucopialaw5_Small.l0 k y0 y1 y2) (cornucopialaw5_Small.l0 (k + 1) y0 y1 y2))
  | 0 => fun _ _ _ r h => by simp [cornucopialaw5_Small.l0] at h
  | k + 1 => by
    have ih0 := cornucopialaw5_Small.mono_l k
    · intro y0 y1 y2
      unfold cornucopialaw5_Small.l0
      repeat' first
      | (with_reducible exact ih0 _ _ _)
      | (with_reducible exact cornucopiabook_Room.mono _ _ _)
      | (with_reducible exact LeO.refl _)
      | (with_reducible exact LeO.none _)
      | (with_reducible refine LeO.ite ?_ ?_)
      | (with_reducible refine LeO.bind ?_ (fun _ => ?_))
      | exact ih0 _ _ _
      | exact cornucopiabook_Room.mono _ _ _
      | exact LeO.none _
      | refine LeO.ite ?_ ?_
      | refine LeO.bind ?_ (fun _ => ?_)
theorem cornucopialaw5_Small.mono : ∀ a0 k, LeO (cornucopialaw5_Small.f k a0) (cornucopialaw5_Small.f (k + 1) a0) := by
  intro a0 k
  have ih0 := cornucopialaw5_Small.mono_l k
  unfold cornucopialaw5_Small.f
  repeat' first
      | (with_reducible exact ih0 _ _ _)
      | (with_reducible exact cornucopiabook_Room.mono _ _ _)
      | (with_reducible exact LeO.refl _)
      | (with_reducible exact LeO.none _)
      | (with_reducible refine LeO.ite ?_ ?_)
      | (with_reducible refine LeO.bind ?_ (fun _ => ?_))
      | exact ih0 _ _ _
      | exact cornucopiabook_Room.mono _ _ _
      | exact LeO.none _
      | refine LeO.ite ?_ ?_
      | refine LeO.bind ?_ (fun _ => ?_)
def cornucopialaw5_Small.T5 : Bool × List (List Nat × List Nat) := (true, [([], []), ([], []), ([], []), ([1, 2], [1, 2]), ([3], [3]), ([4], [4]), ([5], [5]), ([], []), ([], []), ([7, 8], [7, 8]), ([9], [9]), ([10], [10]), ([11], [11]), ([6, 12], [6, 12]), ([0, 13], [0, 13]), ([14, 14, 0, 1, 2, 3, 4, 5, 6, 7, 8, 9, 10, 11, 12, 13, 14], [0, 14])])
def cornucopialaw5_Small.B5 : List Nat := [0, 0, 0, 6, 14, 30, 62, 0, 0, 384, 896, 1920, 3968, 8190, 16383, 32767]
theorem cornucopialaw5_Small.tab5 : rtab .any (opsOf Try.f9 5) = cornucopialaw5_Small.T5 := by kernel_rfl
theorem cornucopialaw5_Small.bits5 : waitsOk cornucopialaw5_Small.T5.2 cornucopialaw5_Small.B5 = true := by kernel_rfl
set_option maxHeartbeats 8000000 in
set_option maxRecDepth 100000 in
theorem cornucopialaw5_Small.calls (k : Nat) (A0 : Option Addr) (c0 : Nat) (l0 : List (S29)) (r : Bool) (w : World) (hr0 : Kd.C k29 w A0 l0.length l0) (hc0 : l0.length ≤ c0) (h : cornucopialaw5_Small.f k l0 = some r) :
    Calls Try.prog 9 #[.slice A0 l0.length c0] w fun e w' => e = .returned (.bool r) ∧ Below w.heap.size w w' := by
  have HR0 := Aside0.mk hr0
  have HC0 := Aside0.mk hc0
  clear hr0 hc0
  have HB := Aside0.mk (Below.refl w.heap.size w)
  have H : (cornucopialaw5_Small.l0 k l0 20000 0) = some r := h
  clear h
  have H' := Aside0.mk H
  clear H
  go_enter Try.func9, Try.ntmps9
  go_wp2
  go_loopg [3, 4] k (fun kq v3 v4 w' => ∃ (x3_1 : Int) (x4_1 : Int), v3 = .int .i64 x3_1 ∧ v4 = .int .i64 x4_1 ∧ Aside0 (cornucopialaw5_Small.l0 kq l0 x3_1 x4_1 = some r) ∧ Aside0 (kq ≤ k) ∧ Aside0 (Below w.heap.size w w'))
  case atStart => exact ⟨(20000), (0), (by first | rfl | (simp; done) | (simp [*]; done)), (by first | rfl | (simp; done) | (simp [*]; done)), H', ⟨Nat.le_refl _⟩, ⟨by repeat (first | (with_reducible first | exact HB.out | apply below_alloc | apply pw_below_drewN | apply below_drew1) | exact HB.out)⟩⟩
  case round =>
    clear H'
    obtain ⟨x3_1, x4_1, rfl, rfl, HA, HK1, HB⟩ := hrel
    cases gk with
    | zero => exact absurd HA.out (by simp [cornucopialaw5_Small.l0])
    | succ k1 =>
      have H := HA.out
      clear HA
      simp only [cornucopialaw5_Small.l0] at H
      by_cases c2 : x4_1 < (l0.length : Int)
      · rw [if_pos c2] at H
        have c2b0 : decide (x4_1 < (l0.length : Int)) = true := decide_eq_true c2
        clear c2
        by_cases c3 : x4_1 < 400
        · rw [if_pos c3] at H
          have c3b0 : decide (x4_1 < 400) = true := decide_eq_true c3
          clear c3
          by_cases c4 : x3_1 ≥ 0
          · rw [if_pos c4] at H
            have c4b0 : decide (0 ≤ x3_1) = true := decide_eq_true c4
            clear c4
            by_cases c5 : 0 ≤ x4_1
            · rw [if_pos c5] at H
              have c5b0 : decide (0 ≤ x4_1) = true := decide_eq_true c5
              clear c5
              obtain ⟨y105, hy105⟩ : ∃ y_ : List Int, y_ = (([(((rd_T29 l0 x4_1).f0).size : Int), (((rd_T29 l0 x4_1).f3).size : Int)] : List Int)) := ⟨_, rfl⟩
              replace H : ((cornucopiabook_Room.f k1 x3_1 y105).bind fun t108 => (cornucopialaw5_Small.l0 k1 l0 t108 (wrap64 (x4_1 + 1)))) = some r := by first | (rw [hy105]; with_reducible exact H) | (have H2_ := (Option.bind_some _ _).symm.trans H; rw [hy105]; with_reducible exact H2_) | (have H2_ := (Option.bind_some _ _).symm.trans H; with_reducible exact H2_) | with_reducible exact H | (rw [hy105]; exact H) | exact H
              have Ny105 := Aside0.mk hy105
              clear hy105
              replace H := Option.bind_eq_some_iff.mp H
              obtain ⟨t108, A60, H⟩ := H
              replace H : (cornucopialaw5_Small.l0 k1 l0 t108 (wrap64 (x4_1 + 1))) = some r := H
              have A6 := Aside0.mk A60
              clear A60
              have H' := Aside0.mk H
              clear H
              try go_wp2
              have n0_ := Aside0.mk (below_drew1 HB.out)
              clear HB
              have HB := n0_
              clear n0_
              have p103 : 0 ≤ (x4_1 : Int) := of_decide_eq_true (by first | (with_reducible assumption) | assumption)
              have q103 : x4_1 < (l0.length : Int) := of_decide_eq_true (by first | (with_reducible assumption) | assumption)
              obtain ⟨ad103, e103, hx103_0, hx103_1, hx103_2, hx103_3⟩ := at_T29 HR0.out x4_1 p103 q103
              have hw103_3 := hx103_3
              have hw103_2 := hx103_2
              have hw103_1 := hx103_1
              have hw103_0 := hx103_0
              cases e103
              replace hx103_0 := (HB.out.cell (World.block_lt_of_cell? w _ hx103_0)).trans hx103_0
              replace hx103_1 := (HB.out.cell (World.block_lt_of_cell? w _ hx103_1)).trans hx103_1
              replace hx103_2 := (HB.out.cell (World.block_lt_of_cell? w _ hx103_2)).trans hx103_2
              replace hx103_3 := (HB.out.cell (World.block_lt_of_cell? w _ hx103_3)).trans hx103_3
              replace p103 := eq_true p103
              replace q103 := eq_true q103
              have p104 : 0 ≤ (x4_1 : Int) := of_decide_eq_true (by first | (with_reducible assumption) | assumption)
              have q104 : x4_1 < (l0.length : Int) := of_decide_eq_true (by first | (with_reducible assumption) | assumption)
              obtain ⟨ad104, e104, hx104_0, hx104_1, hx104_2, hx104_3⟩ := at_T29 HR0.out x4_1 p104 q104
              have hw104_3 := hx104_3
              have hw104_2 := hx104_2
              have hw104_1 := hx104_1
              have hw104_0 := hx104_0
              obtain rfl : ad103 = ad104 := (by injection e104)
              replace hx104_0 := (HB.out.cell (World.block_lt_of_cell? w _ hx104_0)).trans hx104_0
              replace hx104_1 := (HB.out.cell (World.block_lt_of_cell? w _ hx104_1)).trans hx104_1
              replace hx104_2 := (HB.out.cell (World.block_lt_of_cell? w _ hx104_2)).trans hx104_2
              replace hx104_3 := (HB.out.cell (World.block_lt_of_cell? w _ hx104_3)).trans hx104_3
              replace p104 := eq_true p104
              replace q104 := eq_true q104
              refine start_ (n := 16) (S := fun w' => w'.cell? (ad103.add ((x4_1).toNat * 4)) = some (.string ((rd_T29 l0 x4_1).f0)) ∧ w'.cell? ⟨(ad103.add ((x4_1).toNat * 4)).block, (ad103.add ((x4_1).toNat * 4)).off + 1, none⟩ = some (.int .u64 ((rd_T29 l0 x4_1).f1)) ∧ w'.cell? ⟨(ad103.add ((x4_1).toNat * 4)).block, (ad103.add ((x4_1).toNat * 4)).off + 2, none⟩ = some (.int .i64 ((rd_T29 l0 x4_1).f2)) ∧ w'.cell? ⟨(ad103.add ((x4_1).toNat * 4)).block, (ad103.add ((x4_1).toNat * 4)).off + 3, none⟩ = some (.string ((rd_T29 l0 x4_1).f3)) ∧ w'.cell? (ad103.add ((x4_1).toNat * 4)) = some (.string ((rd_T29 l0 x4_1).f0)) ∧ w'.cell? ⟨(ad103.add ((x4_1).toNat * 4)).block, (ad103.add ((x4_1).toNat * 4)).off + 1, none⟩ = some (.int .u64 ((rd_T29 l0 x4_1).f1)) ∧ w'.cell? ⟨(ad103.add ((x4_1).toNat * 4)).block, (ad103.add ((x4_1).toNat * 4)).off + 2, none⟩ = some (.int .i64 ((rd_T29 l0 x4_1).f2)) ∧ w'.cell? ⟨(ad103.add ((x4_1).toNat * 4)).block, (ad103.add ((x4_1).toNat * 4)).off + 3, none⟩ = some (.string ((rd_T29 l0 x4_1).f3))) (ds := []) #[false, false, false, false, false, false, false, false, false, false, false, false, false, false, false, false] (by kernel_rfl) rfl rfl ⟨((HB.out.cell (World.block_lt_of_cell? w _ hw103_0)).trans hw103_0), ((HB.out.cell (World.block_lt_of_cell? w _ hw103_1)).trans hw103_1), ((HB.out.cell (World.block_lt_of_cell? w _ hw103_2)).trans hw103_2), ((HB.out.cell (World.block_lt_of_cell? w _ hw103_3)).trans hw103_3), ((HB.out.cell (World.block_lt_of_cell? w _ hw104_0)).trans hw104_0), ((HB.out.cell (World.block_lt_of_cell? w _ hw104_1)).trans hw104_1), ((HB.out.cell (World.block_lt_of_cell? w _ hw104_2)).trans hw104_2), ((HB.out.cell (World.block_lt_of_cell? w _ hw104_3)).trans hw104_3)⟩ (fun hHeld => ?_); refine with_tabW cornucopialaw5_Small.tab5 cornucopialaw5_Small.bits5 (fun HT_ HW_ => ?_)
              generalize wr.drew = w7 at HB hx103_0 hx103_1 hx103_2 hx103_3 hx104_0 hx104_1 hx104_2 hx104_3 hHeld ⊢
              refine pure_ (i := 0) (N := some 19) (v := ?_) (a' := ?_) #[true, false, false, false, false, false, false, false, false, false, false, false, false, false, false, false] rfl rfl (any_of HT_.out (by kernel_rfl)) (fun _ _ _ h => h) (Or.inl ⟨by rfl, ?_⟩) ?_ ?_
              rotate_left
              · intro w'
                go_simp
                with_reducible rfl
              rotate_left
              · simp only [Act.put, List.setIfInBounds_toArray, List.set_cons_zero, List.set_cons_succ, i64_w, i32_w]
                rfl
              refine pure_ (i := 1) (N := some 20) (v := ?_) (a' := ?_) #[true, true, false, false, false, false, false, false, false, false, false, false, false, false, false, false] rfl rfl (any_of HT_.out (by kernel_rfl)) (fun _ _ _ h => h) (Or.inl ⟨by rfl, ?_⟩) ?_ ?_
              rotate_left
              · intro w'
                go_simp
                with_reducible rfl
              rotate_left
              · simp only [Act.put, List.setIfInBounds_toArray, List.set_cons_zero, List.set_cons_succ, i64_w, i32_w]
                rfl
              refine pure_ (i := 2) (N := some 21) (v := ?_) (a' := ?_) #[true, true, true, false, false, false, false, false, false, false, false, false, false, false, false, false] rfl rfl (any_of HT_.out (by kernel_rfl)) (fun _ _ _ h => h) (Or.inl ⟨by rfl, ?_⟩) ?_ ?_
              rotate_left
              · intro w'
                go_simp
                with_reducible rfl
              rotate_left
              · simp only [Act.put, List.setIfInBounds_toArray, List.set_cons_zero, List.set_cons_succ, i64_w, i32_w]
                rfl
              refine pure_ (i := 3) (N := some 22) (v := ?_) (a' := ?_) #[true, true, true, true, false, false, false, false, false, false, false, false, false, false, false, false] rfl rfl (any_of HT_.out (by kernel_rfl)) (fun _ _ _ h => h) (Or.inl ⟨by rfl, ?_⟩) ?_ ?_
              rotate_left
              · intro w'
                go_simp
                with_reducible rfl
              rotate_left
              · simp only [Act.put, List.setIfInBounds_toArray, List.set_cons_zero, List.set_cons_succ, i64_w, i32_w]
                rfl
              refine pure_ (i := 4) (N := some 23) (v := ?_) (a' := ?_) #[true, true, true, true, true, false, false, false, false, false, false, false, false, false, false, false] rfl rfl (any_of HT_.out (by kernel_rfl)) (fun _ _ _ h => h) (Or.inl ⟨by rfl, ?_⟩) ?_ ?_
              rotate_left
              · intro w'
                go_simp
                with_reducible rfl
              rotate_left
              · simp only [Act.put, List.setIfInBounds_toArray, List.set_cons_zero, List.set_cons_succ, i64_w, i32_w]
                rfl
              refine pure_ (i := 7) (N := some 26) (v := ?_) (a' := ?_) #[true, true, true, true, true, false, false, true, false, false, false, false, false, false, false, false] rfl rfl (any_of HT_.out (by kernel_rfl)) (fun _ _ _ h => h) (Or.inl ⟨by rfl, ?_⟩) ?_ ?_
              rotate_left
              · intro w'
                go_simp
                with_reducible rfl
              rotate_left
              · simp only [Act.put, List.setIfInBounds_toArray, List.set_cons_zero, List.set_cons_succ, i64_w, i32_w]
                rfl
              refine pure_ (i := 8) (N := some 27) (v := ?_) (a' := ?_) #[true, true, true, true, true, false, false, true, true, false, false, false, false, false, false, false] rfl rfl (any_of HT_.out (by kernel_rfl)) (fun _ _ _ h => h) (Or.inl ⟨by rfl, ?_⟩) ?_ ?_
              rotate_left
              · intro w'
                go_simp
                with_reducible rfl
              rotate_left
              · simp only [Act.put, List.setIfInBounds_toArray, List.set_cons_zero, List.set_cons_succ, i64_w, i32_w]
                rfl
              refine pure_ (i := 9) (N := some 28) (v := ?_) (a' := ?_) #[true, true, true, true, true, false, false, true, true, true, false, false, false, false, false, false] rfl rfl (any_of HT_.out (by kernel_rfl)) (fun _ _ _ h => h) (Or.inl ⟨by rfl, ?_⟩) ?_ ?_
              rotate_left
              · intro w'
                go_simp
                with_reducible rfl
              rotate_left
              · simp only [Act.put, List.setIfInBounds_toArray, List.set_cons_zero, List.set_cons_succ, i64_w, i32_w]
                rfl
              refine pure_ (i := 10) (N := some 29) (v := ?_) (a' := ?_) #[true, true, true, true, true, false, false, true, true, true, true, false, false, false, false, false] rfl rfl (any_of HT_.out (by kernel_rfl)) (fun _ _ _ h => h) (Or.inl ⟨by rfl, ?_⟩) ?_ ?_
              rotate_left
              · intro w'
                go_simp
                with_reducible rfl
              rotate_left
              · simp only [Act.put, List.setIfInBounds_toArray, List.set_cons_zero, List.set_cons_succ, i64_w, i32_w]
                rfl
              refine take_ (i := 5) (N := some 24) (v := ?_) (a' := ?_) #[true, true, true, true, true, true, false, true, true, true, true, false, false, false, false, false] rfl rfl (take_ofW HT_.out HW_.out (by kernel_rfl)) (fun _ _ _ h => h) (Or.inl ⟨by rfl, ?_⟩) hHeld ?_ ?_
              rotate_left
              · rintro w' ⟨s0, s1, s2, s3, s4, s5, s6, s7⟩
                go_simp
                with_reducible rfl
              rotate_left
              · simp only [Act.put, List.setIfInBounds_toArray, List.set_cons_zero, List.set_cons_succ, i64_w, i32_w]
                rfl
              refine pure_ (i := 6) (N := some 25) (v := ?_) (a' := ?_) #[true, true, true, true, true, true, true, true, true, true, true, false, false, false, false, false] rfl rfl (any_of HT_.out (by kernel_rfl)) (fun _ _ _ h => h) (Or.inl ⟨by rfl, ?_⟩) ?_ ?_
              rotate_left
              · intro w'
                go_simp
                with_reducible rfl
              rotate_left
              · simp only [Act.put, List.setIfInBounds_toArray, List.set_cons_zero, List.set_cons_succ, i64_w, i32_w]
                rfl
              refine take_ (i := 11) (N := some 30) (v := ?_) (a' := ?_) #[true, true, true, true, true, true, true, true, true, true, true, true, false, false, false, false] rfl rfl (take_ofW HT_.out HW_.out (by kernel_rfl)) (fun _ _ _ h => h) (Or.inl ⟨by rfl, ?_⟩) hHeld ?_ ?_
              rotate_left
              · rintro w' ⟨s0, s1, s2, s3, s4, s5, s6, s7⟩
                go_simp
                with_reducible rfl
              rotate_left
              · simp only [Act.put, List.setIfInBounds_toArray, List.set_cons_zero, List.set_cons_succ, i64_w, i32_w]
                rfl
              refine pure_ (i := 12) (N := some 31) (v := ?_) (a' := ?_) #[true, true, true, true, true, true, true, true, true, true, true, true, true, false, false, false] rfl rfl (any_of HT_.out (by kernel_rfl)) (fun _ _ _ h => h) (Or.inl ⟨by rfl, ?_⟩) ?_ ?_
              rotate_left
              · intro w'
                go_simp
                with_reducible rfl
              rotate_left
              · simp only [Act.put, List.setIfInBounds_toArray, List.set_cons_zero, List.set_cons_succ, i64_w, i32_w]
                rfl
              refine one_ (i := 13) (N := some 32) #[true, true, true, true, true, true, true, true, true, true, true, true, true, true, false, false] rfl rfl (one_of HT_.out (by kernel_rfl)) (by decide) (fun K hK => ?_)
              refine Kd.R_lit_step (Kd.int .i64) _ 3 ?hg (N := 32) ?hd (xs := ([(((rd_T29 l0 x4_1).f0).size : Int), (((rd_T29 l0 x4_1).f3).size : Int)] : List Int)) (inner := [.int .i64 (((rd_T29 l0 x4_1).f0).size : Int), .int .i64 (((rd_T29 l0 x4_1).f3).size : Int)]) (ok := fun _ => True) (okp := fun _ => True) ?hr ?hp (fun _ hk => hk) trivial (Below.refl _ _) (Nat.le_refl _) (by simp) ?_; (case hd => rfl); (case hg => rfl); (case hr => first | (go_simp; done) | (go_simp; rfl)); (case hp => exact (Reps.one (show Kd.M (Kd.int .i64) _ _ _ (((rd_T29 l0 x4_1).f0).size : Int) [.int .i64 (((rd_T29 l0 x4_1).f0).size : Int)] from rfl) (Reps.one (show Kd.M (Kd.int .i64) _ _ _ (((rd_T29 l0 x4_1).f3).size : Int) [.int .i64 (((rd_T29 l0 x4_1).f3).size : Int)] from rfl) (Reps.none _ _))))
              intro v106 w8 ho9 hb hg_ hnew_
              clear hg_ hnew_
              (first | rw [← Ny105.out] at ho9 | (simp only [Int.reduceToNat] at ho9; rw [← Ny105.out] at ho9))
              have n0_ := Aside0.mk (Kd.R_lower ho9 (below_size (by repeat (first | (with_reducible first | exact HB.out | apply below_alloc | apply pw_below_drewN | apply below_drew1) | exact HB.out))))
              have n1_ := Aside0.mk (below_step (by repeat (first | (with_reducible first | exact HB.out | apply below_alloc | apply pw_below_drewN | apply below_drew1) | exact HB.out)) hb)
              clear HB
              have HO107 := n0_
              have HB := n1_
              clear n0_ n1_
              clear hb ho9
              obtain ⟨Ao10, co10, eo10⟩ := Kd.R_slice HO107.out
              (first | subst eo10 | (injection eo10 with f1_ f2_ f3_; have f4_ := f1_.symm; have f5_ := f3_.symm; clear f1_ f2_ f3_; subst f4_; subst f5_))
              refine hK.out _ _ ⟨((HB.out.cell (World.block_lt_of_cell? w _ hw103_0)).trans hw103_0), ((HB.out.cell (World.block_lt_of_cell? w _ hw103_1)).trans hw103_1), ((HB.out.cell (World.block_lt_of_cell? w _ hw103_2)).trans hw103_2), ((HB.out.cell (World.block_lt_of_cell? w _ hw103_3)).trans hw103_3), ((HB.out.cell (World.block_lt_of_cell? w _ hw104_0)).trans hw104_0), ((HB.out.cell (World.block_lt_of_cell? w _ hw104_1)).trans hw104_1), ((HB.out.cell (World.block_lt_of_cell? w _ hw104_2)).trans hw104_2), ((HB.out.cell (World.block_lt_of_cell? w _ hw104_3)).trans hw104_3)⟩ (fun hHeld => ?_)
              clear hK K
              refine norm_ (a' := ?_) ?_ ?_
              rotate_left
              · show Act.put _ (some 32) _ = _
                simp only [Act.put, List.setIfInBounds_toArray, List.set_cons_zero, List.set_cons_succ, i64_w, i32_w]
                rfl
              refine one_ (i := 14) (N := some 33) #[true, true, true, true, true, true, true, true, true, true, true, true, true, true, true, false] rfl rfl (one_of HT_.out (by kernel_rfl)) (by decide) (fun K hK => ?_)
              refine goes_ Try.func27 (by kernel_rfl) rfl #[.int .i64 x3_1, .slice Ao10 y105.length co10] (by rfl) rfl rfl (by (try simp only [List.map_toArray, List.map_cons, List.map_nil]); first | done | rfl | (simp only [List.length_drop, List.length_take]; rfl)) ?_
              with_reducible refine (cornucopiabook_Room.calls k1 x3_1 _ _ y105 t108 _ ?side1 ?side2 A6.out).mono ?_
              (case side1 => repeat (first | exact (Kd.R_reads' HO107.out).2.2 | (with_reducible refine Kd.C_alloc ?_ _) | (with_reducible refine Kd.C_drewN ?_ _) | (with_reducible refine Kd.C_drew ?_)))
              (case side2 => exact (Kd.R_reads' HO107.out).2.1)
              rintro e w' ⟨rfl, ⟨nd, rfl⟩⟩
              refine ⟨_, rfl, ?_⟩
              refine hK.out _ _ ⟨((HB.out.cell (World.block_lt_of_cell? w _ hw103_0)).trans hw103_0), ((HB.out.cell (World.block_lt_of_cell? w _ hw103_1)).trans hw103_1), ((HB.out.cell (World.block_lt_of_cell? w _ hw103_2)).trans hw103_2), ((HB.out.cell (World.block_lt_of_cell? w _ hw103_3)).trans hw103_3), ((HB.out.cell (World.block_lt_of_cell? w _ hw104_0)).trans hw104_0), ((HB.out.cell (World.block_lt_of_cell? w _ hw104_1)).trans hw104_1), ((HB.out.cell (World.block_lt_of_cell? w _ hw104_2)).trans hw104_2), ((HB.out.cell (World.block_lt_of_cell? w _ hw104_3)).trans hw104_3)⟩ (fun hHeld => ?_)
              clear hK K
              refine norm_ (a' := ?_) ?_ ?_
              rotate_left
              · show Act.put _ (some 33) _ = _
                simp only [Act.put, List.setIfInBounds_toArray, List.set_cons_zero, List.set_cons_succ, i64_w, i32_w]
                rfl
              refine pure_ (i := 15) (N := some 3) (v := ?_) (a' := ?_) #[true, true, true, true, true, true, true, true, true, true, true, true, true, true, true, true] rfl rfl (any_of HT_.out (by kernel_rfl)) (fun _ _ _ h => h) (Or.inl ⟨by rfl, ?_⟩) ?_ ?_
              rotate_left
              · intro w'
                go_simp
                with_reducible rfl
              rotate_left
              · simp only [Act.put, List.setIfInBounds_toArray, List.set_cons_zero, List.set_cons_succ, i64_w, i32_w]
                rfl
              refine done_ (done_of HT_.out (by kernel_rfl)) ?_
              try go_wp2
              go_roundg k1
              case measure => have := HK1.out; omega
              case rel => exact ⟨(t108), (wrap64 (x4_1 + 1)), (by first | rfl | (simp; done) | (simp [*]; done)), (by first | rfl | (simp; done) | (simp [*]; done)), H', ⟨by have := HK1.out; omega⟩, ⟨by repeat (first | (with_reducible first | exact HB.out | apply below_alloc | apply pw_below_drewN | apply below_drew1) | exact HB.out)⟩⟩
            · rw [if_neg c5] at H
              exact absurd H (by simp)
          · rw [if_neg c4] at H
            have c4b0 : decide (0 ≤ x3_1) = false := decide_eq_false c4
            clear c4
            by_cases c11 : (l0.length : Int) ≤ 150
            · rw [if_pos c11] at H
              have c11b0 : decide ((l0.length : Int) ≤ 150) = true := decide_eq_true c11
              have c11b1 : decide (l0.length ≤ 150) = true := decide_eq_true (by omega)
              clear c11
              obtain rfl := Option.some.inj H
              go_wp2
              go_ret
              exact ⟨by first | rfl | (simp [errW_none, errW_some] <;> rfl) | (simp [*, errW_none, errW_some] <;> rfl), by repeat (first | (with_reducible first | exact HB.out | apply below_alloc | apply pw_below_drewN | apply below_drew1) | exact HB.out)⟩
            · rw [if_neg c11] at H
              have c11b0 : decide ((l0.length : Int) ≤ 150) = false := decide_eq_false c11
              have c11b1 : decide (l0.length ≤ 150) = false := decide_eq_false (by omega)
              clear c11
              obtain rfl := Option.some.inj H
              go_wp2
              go_ret
              exact ⟨by first | rfl | (simp [errW_none, errW_some] <;> rfl) | (simp [*, errW_none, errW_some] <;> rfl), by repeat (first | (with_reducible first | exact HB.out | apply below_alloc | apply pw_below_drewN | apply below_drew1) | exact HB.out)⟩
        · rw [if_neg c3] at H
          have c3b0 : decide (x4_1 < 400) = false := decide_eq_false c3
          clear c3
          by_cases c12 : (l0.length : Int) ≤ 150
          · rw [if_pos c12] at H
            have c12b0 : decide ((l0.length : Int) ≤ 150) = true := decide_eq_true c12
            have c12b1 : decide (l0.length ≤ 150) = true := decide_eq_true (by omega)
            clear c12
            obtain rfl := Option.some.inj H
            go_wp2
            go_ret
            exact ⟨by first | rfl | (simp [errW_none, errW_some] <;> rfl) | (simp [*, errW_none, errW_some] <;> rfl), by repeat (first | (with_reducible first | exact HB.out | apply below_alloc | apply pw_below_drewN | apply below_drew1) | exact HB.out)⟩
          · rw [if_neg c12] at H
            have c12b0 : decide ((l0.length : Int) ≤ 150) = false := decide_eq_false c12
            have c12b1 : decide (l0.length ≤ 150) = false := decide_eq_false (by omega)
            clear c12
            obtain rfl := Option.some.inj H
            go_wp2
            go_ret
            exact ⟨by first | rfl | (simp [errW_none, errW_some] <;> rfl) | (simp [*, errW_none, errW_some] <;> rfl), by repeat (first | (with_reducible first | exact HB.out | apply below_alloc | apply pw_below_drewN | apply below_drew1) | exact HB.out)⟩
      · rw [if_neg c2] at H
        have c2b0 : decide (x4_1 < (l0.length : Int)) = false := decide_eq_false c2
        clear c2
        by_cases c13 : (l0.length : Int) ≤ 150
        · rw [if_pos c13] at H
          have c13b0 : decide ((l0.length : Int) ≤ 150) = true := decide_eq_true c13
          have c13b1 : decide (l0.length ≤ 150) = true := decide_eq_true (by omega)
          clear c13
          obtain rfl := Option.some.inj H
          go_wp2
          go_ret
          exact ⟨by first | rfl | (simp [errW_none, errW_some] <;> rfl) | (simp [*, errW_none, errW_some] <;> rfl), by repeat (first | (with_reducible first | exact HB.out | apply below_alloc | apply pw_below_drewN | apply below_drew1) | exact HB.out)⟩
        · rw [if_neg c13] at H
          have c13b0 : decide ((l0.length : Int) ≤ 150) = false := decide_eq_false c13
          have c13b1 : decide (l0.length ≤ 150) = false := decide_eq_false (by omega)
          clear c13
          obtain rfl := Option.some.inj H
          go_wp2
          go_ret
          exact ⟨by first | rfl | (simp [errW_none, errW_some] <;> rfl) | (simp [*, errW_none, errW_some] <;> rfl), by repeat (first | (with_reducible first | exact HB.out | apply below_alloc | apply pw_below_drewN | apply below_drew1) | exact HB.out)⟩
end Go.Proofs.Ytchgpcgolgcfdaa.PNum
end
section
namespace Go.Proofs.Ytchgpcgolgcfdaa.PuSm
open Go Go.RowKit Go.Proofs.Ytchgpcgolgcfdaa.PNum Go.Proofs.Ytchgpcgolgcfdaa.PuIkC Go.Proofs.YtchgpcgolgcfdaaW.PrintWords Go.Proofs.YtchgpcgolgcfdaaW.PrintLast Go.Proofs.YtchgpcgolgcfdaaW.PrintMore Go.Proofs.YtchgpcgolgcfdaaW.Pu
theorem at_nat (l : List S29) (i : Nat) (h : i < l.length) : rd_T29 l (i : Int) = l[i] := by
  simp [rd_T29, h]
theorem Small_l0 (l : List S29) (hs : ∀ e ∈ l, e.f0.size ≤ 140737488351232 ∧ e.f3.size ≤ 140737488351232) (d : Nat) : ∀ (i : Nat) (r : Int), i + d = 400 → -1 ≤ r → r ≤ 20000 →
    ∃ b, Ev (fun k => cornucopialaw5_Small.l0 k l r (i : Int)) b ∧ (b = true → l.length ≤ 150) := by
  have leaf : ∀ (i : Nat) (r : Int), ∃ b, Ev (fun _ : Nat => if (l.length : Int) ≤ 150 then (some (decide (r ≥ 0))) else (some false)) b ∧ (b = true → l.length ≤ 150) := by
    intro i r
    by_cases h : (l.length : Int) ≤ 150
    · exact ⟨decide (r ≥ 0), ev_pos h (ev_const rfl), fun _ => by omega⟩
    · exact ⟨false, ev_neg h (ev_const rfl), fun k => by cases k⟩
  induction d with
  | zero =>
    intro i r hi h0 h1
    obtain ⟨b, hb, hl⟩ := leaf i r
    refine ⟨b, Ev.step (fun k => by rw [cornucopialaw5_Small.l0]) ?_, hl⟩
    by_cases h : (i : Int) < (l.length : Int)
    · exact ev_pos h (ev_neg (by omega) hb)
    · exact ev_neg h hb
  | succ d ih =>
    intro i r hi h0 h1
    by_cases h : (i : Int) < (l.length : Int)
    · by_cases hr : r ≥ 0
      · have hlt : i < l.length := by omega
        have hsz := hs l[i] (List.getElem_mem hlt)
        obtain ⟨q, hq, q0, q1⟩ := Room_ev r (l[i].f0.size : Int) (l[i].f3.size : Int) ⟨h0, h1⟩ ⟨by omega, by omega⟩ ⟨by omega, by omega⟩
        obtain ⟨b, hb, hl⟩ := ih (i + 1) q (by omega) q0 q1
        refine ⟨b, Ev.step (fun k => by rw [cornucopialaw5_Small.l0, at_nat l i hlt]) (ev_pos h (ev_pos (by omega) (ev_pos hr (ev_pos (by omega) (Ev.bind hq ?_))))), hl⟩
        rw [wrap64_id (by omega), show ((i : Int) + 1) = ((i + 1 : Nat) : Int) from by omega]
        exact hb
      · obtain ⟨b, hb, hl⟩ := leaf i r
        exact ⟨b, Ev.step (fun k => by rw [cornucopialaw5_Small.l0]) (ev_pos h (ev_pos (by omega) (ev_neg hr hb))), hl⟩
    · obtain ⟨b, hb, hl⟩ := leaf i r
      exact ⟨b, Ev.step (fun k => by rw [cornucopialaw5_Small.l0]) (ev_neg h hb), hl⟩
theorem Small_ev (l : List S29) (hs : ∀ e ∈ l, e.f0.size ≤ 140737488351232 ∧ e.f3.size ≤ 140737488351232) : ∃ b, Ev (fun k => cornucopialaw5_Small.f k l) b ∧ (b = true → l.length ≤ 150) := by
  obtain ⟨b, hb, hl⟩ := Small_l0 l hs 400 0 20000 (by omega) (by omega) (by omega)
  exact ⟨b, Ev.congr (fun k => by rw [cornucopialaw5_Small.f]; rfl) hb, hl⟩
end Go.Proofs.Ytchgpcgolgcfdaa.PuSm
end
section
namespace Go.Proofs.Ytchgpcgolgcfdaa.Bb
open Go Go.RowKit Go.Proofs.Ytchgpcgolgcfdaa.PNum Go.Proofs.Ytchgpcgolgcfdaa.PuBk Go.Proofs.YtchgpcgolgcfdaaW.PrintWords Go.Proofs.YtchgpcgolgcfdaaW.PrintLast Go.Proofs.YtchgpcgolgcfdaaW.PrintMore Go.Proofs.YtchgpcgolgcfdaaW.Pu
set_option linter.unusedVariables false
set_option linter.unusedSimpArgs false
abbrev E := S29
def wfE (e : E) : Prop := e.f0.size ≤ 140737488351232 ∧ e.f3.size ≤ 140737488351232 ∧ (Lit.int .u64 e.f1).wf = true
section
variable {w : World} {A : Option Addr} {c : Nat} {l : List E}
theorem small_c (hr : Kd.C k29 w A l.length l) (hc : l.length ≤ c) (b : Bool) (hb : Ev (fun k => cornucopialaw5_Small.f k l) b) :
    Calls Try.prog 9 #[.slice A l.length c] w fun e w' => e = .returned (.bool b) ∧ Below w.heap.size w w' := by
  obtain ⟨k, hk⟩ := Ev.rounds hb
  exact cornucopialaw5_Small.calls k A c l b w hr hc hk
theorem put_c (hr : Kd.C k29 w A l.length l) (hc : l.length ≤ c) (s : ByteArray) (r : Int) (hb : Ev (fun k => block_Put.f k l) (s, r)) :
    Calls Try.prog 22 #[.slice A l.length c] w fun e w' => e = .returned (.tuple #[.string s, .int .i64 r]) ∧ Below w.heap.size w w' := by
  obtain ⟨k, hk⟩ := Ev.rounds hb
  exact block_Put.calls k A c l s r w hr hc hk
theorem get_c (w : World) (s : ByteArray) (m : List E) (r : Int) (hb : Ev (fun k => block_Get.f k s) (m, r)) :
    Calls Try.prog 23 #[.string s] w fun e w' => ∃ A' c', e = .returned (.tuple #[.slice A' m.length c', .int .i64 r]) ∧ m.length ≤ c' ∧ Kd.C k29 w' A' m.length m ∧ Below w.heap.size w w' := by
  obtain ⟨k, hk⟩ := Ev.rounds hb
  refine (block_Get.calls k s m r w hk).mono ?_
  rintro e w' ⟨v, rfl, hR, hB⟩
  obtain ⟨A', c', rfl, hc, hC⟩ := Kd.R_reads hR
  exact ⟨A', c', rfl, hc, hC, hB⟩
theorem seek_c (w : World) (s key : ByteArray) (m : List E) (r : Int) (hb : Ev (fun k => block_Seek.f k s key) (m, r)) :
    Calls Try.prog 24 #[.string s, .string key] w fun e w' => ∃ A' c', e = .returned (.tuple #[.slice A' m.length c', .int .i64 r]) ∧ m.length ≤ c' ∧ Kd.C k29 w' A' m.length m ∧ Below w.heap.size w w' := by
  obtain ⟨k, hk⟩ := Ev.rounds hb
  refine (block_Seek.calls k s key m r w hk).mono ?_
  rintro e w' ⟨v, rfl, hR, hB⟩
  obtain ⟨A', c', rfl, hc, hC⟩ := Kd.Q_reads hR
  exact ⟨A', c', rfl, hc, hC, hB⟩
theorem same_c {A2 : Option Addr} {c2 : Nat} (hr : Kd.C k29 w A l.length l) (hc : l.length ≤ c) (hr2 : Kd.C k29 w A2 l.length l) (hc2 : l.length ≤ c2) (hl : l.length ≤ 1000000) :
    Calls Try.prog 13 #[.slice A l.length c, .slice A2 l.length c2] w fun e w' => e = .returned (.bool true) ∧ Below w.heap.size w w' := by
  obtain ⟨k, hk⟩ := Ev.rounds (PuSame.Same_ev l hl)
  exact (cornucopiabook_SameEntries.calls k A c l A2 c2 l true w hr hc hr2 hc2 hk).mono (fun e w' h => ⟨h.1, h.2.below⟩)
theorem alive_c (w : World) : Calls Try.prog 21 #[] w fun e w' => e = .returned (.bool true) ∧ Below w.heap.size w w' := by
  obtain ⟨k, hk⟩ := Ev.rounds PuBk.alive_ev
  exact cornucopialaw10_alive.calls k true w hk
theorem rput_c (w : World) (e : E) (s : ByteArray) (hb : Ev (fun k => cornucopiaref5_Put.f k e.f0 e.f1 e.f2 e.f3) (s, 0)) :
    Calls Try.prog 25 #[.agg #[.string e.f0, .int .u64 e.f1, .int .i64 e.f2, .string e.f3]] w fun ee w' => ee = .returned (.tuple #[.string s, .int .i64 0]) ∧ Below w.heap.size w w' := by
  obtain ⟨k, hk⟩ := Ev.rounds hb
  exact cornucopiaref5_Put.calls k e.f0 e.f1 e.f2 e.f3 s 0 w hk
end
theorem ycells {w : World} {A1 : Option Addr} {l1 : List E} (hC : Kd.C k29 w A1 l1.length l1) {i : Nat} (hi : i < l1.length) : ∃ ad, A1 = some ad ∧ ∀ V, Below w.heap.size w V → V.cell? (ad.add (i * 4)) = some (.string l1[i].f0) ∧ V.cell? ⟨(ad.add (i * 4)).block, (ad.add (i * 4)).off + 1, none⟩ = some (.int .u64 l1[i].f1) ∧ V.cell? ⟨(ad.add (i * 4)).block, (ad.add (i * 4)).off + 2, none⟩ = some (.int .i64 l1[i].f2) ∧ V.cell? ⟨(ad.add (i * 4)).block, (ad.add (i * 4)).off + 3, none⟩ = some (.string l1[i].f3) := by
  obtain ⟨ad, e0, y0, y1, y2, y3⟩ := at_T29 hC (i : Int) (Int.natCast_nonneg _) (Int.ofNat_lt.mpr hi)
  have hx : rd_T29 l1 (i : Int) = l1[i] := by simp [rd_T29, hi]
  rw [hx] at y0 y1 y2 y3
  simp only [Int.toNat_natCast] at y0 y1 y2 y3
  exact ⟨ad, e0, fun V hb => ⟨pw_cell_below hb y0, pw_cell_below hb y1, pw_cell_below hb y2, pw_cell_below hb y3⟩⟩
theorem neqE (V : World) (e : E) : (binOp BinOp.neq 29 (.agg #[.string (e).f0, .int .u64 (e).f1, .int .i64 (e).f2, .string (e).f3]) (.agg #[.string (e).f0, .int .u64 (e).f1, .int .i64 (e).f2, .string (e).f3])).run Try.prog V = .ok (.bool false) V := by
  go_simp
theorem row_cell (s : ByteArray) (C i : Nat) (h : i < s.size) : (bytesRow s C)[i]? = some (.int .u8 (s[i].toNat : Int)) := by
  unfold bytesRow
  rw [Array.getElem?_append_left (by rw [Array.size_map]; exact h), Array.getElem?_map, Array.getElem?_eq_getElem (by exact h)]
  rfl
theorem row_size (s : ByteArray) (C : Nat) : s.size ≤ (bytesRow s C).size := by
  unfold bytesRow
  rw [Array.size_append, Array.size_map]
  exact Nat.le_add_right _ _
theorem to_bytes (w : World) (s : ByteArray) : ∃ C W1, (convert 9 58 (.string s)).run Try.prog w = .ok (.slice (some ⟨w.heap.size, 0, none⟩) s.size C) W1 ∧ Below w.heap.size w W1 ∧
    ∀ i (h : i < s.size), W1.cell? ⟨w.heap.size, i, none⟩ = some (.int .u8 (s[i].toNat : Int)) ∧ W1.frozen? ⟨w.heap.size, i, none⟩ = false := by
  have h := Go.run_bytes_of_string (P := Try.prog) w 9 58 5 s Try.underlying9 Try.underlying58 Try.underlying5
  refine ⟨_, _, h, below_alloc (below_drew (Below.refl _ _)) _, fun i hi => ?_⟩
  have hs := row_size s (grownCap w s.size 0 5)
  have hr := row_cell s (grownCap w s.size 0 5) i hi
  generalize bytesRow s (grownCap w s.size 0 5) = row at *
  have hb : (w.drew.alloc (.cells row 5 (row.size, row.size + 1))).heap[w.heap.size]? = some (.cells row 5 (row.size, row.size + 1)) := by
    show (w.heap.push _)[w.heap.size]? = _
    simp
  refine ⟨(cell_of_row _ _ i row 5 _ hb).trans hr, ?_⟩
  unfold World.frozen?
  rw [hb]
  simp
  omega
theorem chg_at (s : ByteArray) (ix : Nat) (d : Int) (hd : 0 ≤ d ∧ d < 256) (i : Nat) (h : i < (strOfNums ((bytesOf s).set ix d)).size) : ((strOfNums ((bytesOf s).set ix d))[i].toNat : Int) = if i = ix then d else (s[i]'(by rw [S_size, List.length_set, bytesOf_length] at h; exact h)).toNat := by
  have h0 : i < s.size := by rw [S_size, List.length_set, bytesOf_length] at h; exact h
  have hg : ∀ (t : ByteArray) (j : Nat) (hj : j < t.size), (bytesOf t)[j]? = some (t[j].toNat : Int) := fun t j hj => by
    unfold bytesOf
    rw [List.getElem?_map, Array.getElem?_toList, Array.getElem?_eq_getElem (by exact hj)]
    rfl
  have hok : ok8 ((bytesOf s).set ix d) := fun z hz => by
    rcases List.mem_or_eq_of_mem_set hz with q | q
    · exact ok8_of s z q
    · rw [q]; exact hd
  have h1 := hg _ i h
  rw [of_S hok] at h1
  by_cases e : i = ix
  · rw [if_pos e]
    subst e
    rw [List.getElem?_set_self (by rw [bytesOf_length]; exact h0)] at h1
    exact (Option.some.inj h1).symm
  · rw [if_neg e]
    rw [List.getElem?_set_ne (fun q => e q.symm), hg s i h0] at h1
    exact (Option.some.inj h1).symm
theorem from_bytes {W : World} {g : Nat} (s : ByteArray) (C ix : Nat) (d : Int) (hd : 0 ≤ d ∧ d < 256) (hx : ix < s.size) (hrow : ∀ i (h : i < s.size), W.cell? ⟨g, i, none⟩ = some (.int .u8 (s[i].toNat : Int))) :
    (convert 58 9 (.slice (some ⟨g, 0, none⟩) s.size C)).run Try.prog (W.setCell ⟨g, ix, none⟩ (.int .u8 d)) = .ok (.string (strOfNums ((bytesOf s).set ix d))) (W.setCell ⟨g, ix, none⟩ (.int .u8 d)) := by
  have hs : (strOfNums ((bytesOf s).set ix d)).size = s.size := by rw [S_size, List.length_set, bytesOf_length]
  generalize hT : strOfNums ((bytesOf s).set ix d) = T at *
  have hl : T.data.toList.length = s.size := by rw [← hs]; exact Array.length_toList
  have h := Go.run_convert_bytes_back (P := Try.prog) (W.setCell ⟨g, ix, none⟩ (.int .u8 d)) 58 9 5 ⟨g, 0, none⟩ C T.data.toList Try.underlying58 Try.underlying5 Try.underlying9 (fun i hi => by
    have h0 : i < s.size := by rw [hl] at hi; exact hi
    have hT2 : i < T.size := by rw [hs]; exact h0
    have e1 : T.data.toList[i] = T[i] := by rw [Array.getElem_toList]; rfl
    have h4 := chg_at s ix d hd i (by rw [hT]; exact hT2)
    have e2 : (T[i].toNat : Int) = if i = ix then d else s[i].toNat := by
      subst hT
      exact h4
    rw [e1, e2, add_at, Nat.zero_add]
    by_cases e : i = ix
    · subst e
      rw [if_pos rfl]
      exact World.cell?_setCell_same _ _ _ (hrow i h0)
    · rw [if_neg e, World.cell?_setCell_other _ _ _ _ (fun q => e (by injection q with _ q _; exact q.symm))]
      exact hrow i h0)
  rw [hl] at h
  exact h
theorem szL_take (l : List E) {i : Nat} (h : i < l.length) : szL (l.take (i + 1)) = szL (l.take i) + (putL l[i] + 2) := by
  unfold szL
  rw [List.take_succ_eq_append_getElem h, List.map_append, List.sum_append]
  simp
theorem pb_putL (e : E) : (PuRP.pb e.f0 e.f1 e.f2 e.f3).length = putL e := by
  have h8 : (bytesOf e.f0).length = e.f0.size := bytesOf_length _
  have h9 : (bytesOf e.f3).length = e.f3.size := bytesOf_length _
  unfold PuRP.pb putL
  simp only [List.length_append, List.length_nil]
  omega
theorem rput_ev {e : E} (h : Ok e) (hv : PuIkC.valid e.f0 e.f2 e.f3 = true) : ∃ x : ByteArray, x.size = putL e ∧ Ev (fun k => cornucopiaref5_Put.f k e.f0 e.f1 e.f2 e.f3) (x, 0) := by
  have h1 := PuRP.RPut_ev e.f0 e.f1 e.f2 e.f3 h.seq.1 h.seq.2
  rw [if_pos hv] at h1
  exact ⟨_, by rw [S_size, pb_putL], h1⟩
theorem putL_le {e : E} (h : Ok e) : putL e ≤ 60400 := by
  have h2 := PuVt.vb_len10 (n := e.f0.size) (by have := h.key; omega)
  have h3 := PuVt.vb_len10 (n := e.f1.toNat) (by have := h.seq; omega)
  have h4 := PuVt.vb_len10 (n := e.f2.toNat) (by rcases h.kind with h | h <;> rw [h] <;> decide)
  have h5 := PuVt.vb_len10 (n := e.f3.size) (by have := h.val; omega)
  have h6 := h.key
  have h7 := h.val
  unfold putL
  omega
theorem szL_le : ∀ (l : List E), (∀ e ∈ l, Ok e) → szL l ≤ l.length * 60402
  | [], _ => by simp [szL]
  | e :: l, h => by
    have h1 := putL_le (h e List.mem_cons_self)
    have h2 := szL_le l (fun x hx => h x (List.mem_cons_of_mem _ hx))
    unfold szL at h2 ⊢
    rw [List.map_cons, List.sum_cons, List.length_cons]
    omega
structure Pl (l : List E) (key s : ByteArray) (j : Nat) : Prop where
  put : Ev (fun k => block_Put.f k l) (s, 0)
  get : Ev (fun k => block_Get.f k s) (l, 0)
  seek : Ev (fun k => block_Seek.f k s key) (l.drop j, 0)
  s8 : 8 ≤ s.size
  sz : s.size ≤ 8 + 4 * ((l.length + 3) / 4) + szL l
  sm : s.size ≤ 1000000000000
  j_ : j ≤ l.length
  ge : ∀ i (h : i < l.length), j ≤ i → Op.bytesLess l[i].f0.toList key.toList = false
  ok : ∀ e ∈ l, Ok e
  va : ∀ e ∈ l, PuIkC.valid e.f0 e.f2 e.f3 = true
  bad : ∀ (i : Nat) (d : Int), i < s.size → 0 ≤ d ∧ d < 256 → (bytesOf s)[i]? ≠ some d → Ev (fun k => block_Get.f k (strOfNums ((bytesOf s).set i d))) ([], 6)
theorem plain (l : List E) (key : ByteArray) (hwf : ∀ e ∈ l, wfE e) (h150 : l.length ≤ 150) : Ev (fun k => block_Put.f k l) (⟨#[]⟩, 1) ∨ ∃ s j, Pl l key s j := by
  obtain ⟨q, hq, hqt⟩ := Right_ev l (by omega)
  cases q with
  | false =>
    left
    show Ev (fun k => Bl2.putF k l) _
    unfold Bl2.putF
    exact Ev.bind hq (ev_neg Bool.false_ne_true (ev_const rfl))
  | true =>
    right
    have hR := hqt rfl
    have hva : ∀ e ∈ l, PuIkC.valid e.f0 e.f2 e.f3 = true := by
      intro e he
      obtain ⟨j, hj, rfl⟩ := List.getElem_of_mem he
      exact (hR j hj).1
    have hok : ∀ e ∈ l, Ok e := by
      intro e he
      have hv := hva e he
      have hw := hwf e he
      unfold Go.Proofs.Ytchgpcgolgcfdaa.PuIkC.valid at hv
      rw [decide_eq_true_eq] at hv
      obtain ⟨v1, v2, v3⟩ := hv
      refine ⟨by omega, u64_wf hw.2.2, ?_, by omega⟩
      by_cases h2 : e.f2 = 2
      · exact Or.inr h2
      · rw [if_neg h2] at v3
        exact Or.inl v3
    obtain ⟨s, h8, hsz, hsm, hP, hG, hbad⟩ := Put_back l hok (by omega) hq
    obtain ⟨j, hj, hd, hl1, hl2⟩ := split key l
    have hS := Seek_ev key s l (by omega) hG
    rw [hd] at hS
    refine ⟨s, j, hP, hG, hS, h8, hsz, hsm, hj, ?_, hok, hva, hbad⟩
    intro i hi hji
    cases hc : lt key l[i] with
    | false => exact hc
    | true =>
      obtain ⟨d, rfl⟩ : ∃ d, i = j + d := ⟨i - j, by omega⟩
      have hx := lt_all key l (fun x hx h0 => (hR x hx).2 h0) d j hi hc
      rw [hl2 (by omega)] at hx
      cases hx
end Go.Proofs.Ytchgpcgolgcfdaa.Bb
end
section
namespace Go.Proofs.Ytchgpcgolgcfdaa.Bb
open Go Go.RowKit Go.Proofs.Ytchgpcgolgcfdaa.PNum Go.Proofs.Ytchgpcgolgcfdaa.PuBk Go.Proofs.YtchgpcgolgcfdaaW.PrintWords Go.Proofs.YtchgpcgolgcfdaaW.PrintLast Go.Proofs.YtchgpcgolgcfdaaW.PrintMore Go.Proofs.YtchgpcgolgcfdaaW.Pu
set_option linter.unusedVariables false
set_option linter.unusedSimpArgs false
theorem rem_ (a : Int) (n : Nat) (h : 0 ≤ a) : Int.tmod a (n : Int) = ((a.toNat % n : Nat) : Int) := by
  obtain ⟨p, rfl⟩ := Int.eq_ofNat_of_zero_le h
  rw [Int.toNat_natCast, Int.tmod_eq_emod_of_nonneg h, Int.natCast_emod]
theorem xor_u8 (a b : Nat) (ha : a < 2 ^ 8) (hb : b < 2 ^ 8) : bits .xor .u8 a b = ((a ^^^ b : Nat) : Int) := by
  have ha' : a % 2 ^ IntKind.u8.bits = a := Nat.mod_eq_of_lt ha
  have hb' : b % 2 ^ IntKind.u8.bits = b := Nat.mod_eq_of_lt hb
  simp only [bits, BitVec.ofInt_natCast, BitVec.toNat_xor, BitVec.toNat_ofNat, ha', hb']
  exact wraps_u8 _ (Int.natCast_nonneg _) (by have := Nat.xor_lt_two_pow ha hb; exact_mod_cast this)
theorem xor_ne (c : Nat) (b : Int) (hc : c < 256) (hb : 0 ≤ b ∧ b < 256) (h0 : ¬ b = 0) : (0 ≤ bits .xor .u8 (c : Int) b ∧ bits .xor .u8 (c : Int) b < 256) ∧ bits .xor .u8 (c : Int) b ≠ (c : Int) := by
  obtain ⟨p, rfl⟩ := Int.eq_ofNat_of_zero_le hb.1
  have h1 := xor_u8 c p (by omega) (by omega)
  have h2 := Nat.xor_lt_two_pow (n := 8) (x := c) (y := p) (by omega) (by omega)
  rw [h1]
  refine ⟨⟨by omega, by omega⟩, fun e => h0 ?_⟩
  have e2 : c ^^^ p = c := by omega
  have e3 : p ^^^ c = 0 ^^^ c := by rw [Nat.xor_comm, e2, Nat.zero_xor]
  have := PuCrc.xor_cancel e3
  omega
theorem chg_all {W : World} {g : Nat} (s : ByteArray) (C ix : Nat) (b : Int) (hb : 0 ≤ b ∧ b < 256) (h0 : ¬ b = 0) (hx : ix < s.size) (hrow : ∀ i (h : i < s.size), W.cell? ⟨g, i, none⟩ = some (.int .u8 (s[i].toNat : Int)))
    (hbad : ∀ d, 0 ≤ d ∧ d < 256 → (bytesOf s)[ix]? ≠ some d → Ev (fun k => block_Get.f k (strOfNums ((bytesOf s).set ix d))) ([], 6)) :
    (0 ≤ bits .xor .u8 (s[ix].toNat : Int) b ∧ bits .xor .u8 (s[ix].toNat : Int) b < 256) ∧
    (convert 58 9 (.slice (some ⟨g, 0, none⟩) s.size C)).run Try.prog (W.setCell ⟨g, ix, none⟩ (.int .u8 (bits .xor .u8 (s[ix].toNat : Int) b))) = .ok (.string (strOfNums ((bytesOf s).set ix (bits .xor .u8 (s[ix].toNat : Int) b)))) (W.setCell ⟨g, ix, none⟩ (.int .u8 (bits .xor .u8 (s[ix].toNat : Int) b))) ∧
    Ev (fun k => block_Get.f k (strOfNums ((bytesOf s).set ix (bits .xor .u8 (s[ix].toNat : Int) b)))) ([], 6) := by
  have hc : s[ix].toNat < 256 := s[ix].toNat_lt
  obtain ⟨h1, h2⟩ := xor_ne s[ix].toNat b hc hb h0
  refine ⟨h1, from_bytes s C ix _ h1 hx hrow, hbad _ h1 (fun e => h2 ?_)⟩
  have hg : (bytesOf s)[ix]? = some (s[ix].toNat : Int) := by
    unfold bytesOf
    rw [List.getElem?_map, Array.getElem?_toList, Array.getElem?_eq_getElem (by exact hx)]
    rfl
  rw [hg] at e
  exact (Option.some.inj e).symm
theorem below_far {B : Nat} {a w : World} {g : Nat} (h : Below B a w) (hg : B ≤ g) (i : Nat) (u : Value) : Below B a (w.setCell ⟨g, i, none⟩ u) :=
  ⟨h.os, h.tape, h.output, by simpa [World.setCell] using h.size, fun k hk => (Below.heap_setCell w _ u k (by show k ≠ g; omega)).trans (h.block k hk)⟩
set_option maxHeartbeats 16000000 in
set_option maxRecDepth 100000 in
theorem bb_calls (A0 : Option Addr) (c0 : Nat) (l : List E) (a1 a2 : Int) (key : ByteArray) (w : World) (hr0 : Kd.C k29 w A0 l.length l) (hc0 : l.length ≤ c0) (hwf : ∀ e ∈ l, wfE e) (hk : key.size ≤ 140737488351232) :
    Calls Try.prog 7 #[.slice A0 l.length c0, .int .i64 a1, .int .i64 a2, .string key] w fun e w' => e = .returned (.bool true) ∧ Below w.heap.size w w' := by
  have HR0 := Aside0.mk hr0
  have HC0 := Aside0.mk hc0
  have HB := Aside0.mk (Below.refl w.heap.size w)
  obtain ⟨b1, hb1, hq1⟩ := PuSm.Small_ev l (fun e he => ⟨(hwf e he).1, (hwf e he).2.1⟩)
  have HB1 := Aside0.mk hb1
  have HWF := Aside0.mk hwf
  clear hb1 hwf hr0 hc0
  cases b1
  · go_enter Try.func7, Try.ntmps7
    go_wp2_with (first | (go_at_call 9; refine (small_c (Kd.C_below HR0.out HB.out) HC0.out false HB1.out).mono ?_; rintro e w1 ⟨rfl, hb⟩; have n0_ := Aside0.mk (below_step HB.out hb); clear HB; have HB := n0_; clear n0_ hb) | (go_at_call 21; refine (alive_c _).mono ?_; rintro e w9 ⟨rfl, hb⟩; have n0_ := Aside0.mk (below_step HB.out hb); clear HB; have HB := n0_; clear n0_ hb))
    go_ret
    exact ⟨rfl, HB.out⟩
  have hl150 := hq1 rfl
  clear hq1
  by_cases hk3 : (key.size : Int) > 300
  · have t0 : decide (300 < (key.size : Int)) = true := decide_eq_true hk3
    have t0' : decide (300 < key.size) = true := decide_eq_true (by omega)
    go_enter Try.func7, Try.ntmps7
    go_wp2_with (first | (go_at_call 9; refine (small_c (Kd.C_below HR0.out HB.out) HC0.out true HB1.out).mono ?_; rintro e w1 ⟨rfl, hb⟩; have n0_ := Aside0.mk (below_step HB.out hb); clear HB; have HB := n0_; clear n0_ hb) | (go_at_call 21; refine (alive_c _).mono ?_; rintro e w9 ⟨rfl, hb⟩; have n0_ := Aside0.mk (below_step HB.out hb); clear HB; have HB := n0_; clear n0_ hb))
    go_ret
    exact ⟨rfl, HB.out⟩
  have t0 : decide (300 < (key.size : Int)) = false := decide_eq_false hk3
  have t0' : decide (300 < key.size) = false := decide_eq_false (by omega)
  rcases plain l key HWF.out hl150 with hP | ⟨s, j, hP⟩
  · have HP := Aside0.mk hP
    clear hP
    go_enter Try.func7, Try.ntmps7
    go_wp2_with (first | (go_at_call 9; refine (small_c (Kd.C_below HR0.out HB.out) HC0.out true HB1.out).mono ?_; rintro e w1 ⟨rfl, hb⟩; have n0_ := Aside0.mk (below_step HB.out hb); clear HB; have HB := n0_; clear n0_ hb) | (go_at_call 22; refine (put_c (Kd.C_below HR0.out HB.out) HC0.out (⟨#[]⟩) 1 HP.out).mono ?_; rintro e w2 ⟨rfl, hb⟩; have n0_ := Aside0.mk (below_step HB.out hb); clear HB; have HB := n0_; clear n0_ hb) | (go_at_call 21; refine (alive_c _).mono ?_; rintro e w9 ⟨rfl, hb⟩; have n0_ := Aside0.mk (below_step HB.out hb); clear HB; have HB := n0_; clear n0_ hb))
    go_ret
    exact ⟨rfl, HB.out⟩
  have HP := Aside0.mk hP
  have hs8 := hP.s8
  have hsm := hP.sm
  have hj := hP.j_
  have HSZ := Aside0.mk hP.sz
  clear hP
  have hnl : (l.drop j).length = l.length - j := List.length_drop
  have t1 : decide ((s.size : Int) < 8) = false := decide_eq_false (by omega)
  have t1' : decide (s.size < 8) = false := decide_eq_false (by omega)
  have t2 : decide ((l.length : Int) < ((l.drop j).length : Int)) = false := decide_eq_false (by omega)
  have t2' : decide (l.length < (l.drop j).length) = false := decide_eq_false (by omega)
  obtain ⟨N, hN⟩ : ∃ N, N = l.drop j := ⟨_, rfl⟩
  have hsk := HP.out.seek
  rw [← hN] at hnl t2 t2' hsk
  have HSK := Aside0.mk hsk
  have HNL := Aside0.mk hnl
  have hat : ∀ i (h : i < N.length), ∃ h2 : j + i < l.length, N[i] = l[j + i] := fun i h => ⟨by omega, by subst hN; rw [List.getElem_drop]⟩
  have HAT := Aside0.mk hat
  have hnle : N.length ≤ l.length := by omega
  clear hN hat hsk hnl
  go_enter Try.func7, Try.ntmps7
  go_wp2_with (first | (go_at_call 9; refine (small_c (Kd.C_below HR0.out HB.out) HC0.out true HB1.out).mono ?_; rintro e w1 ⟨rfl, hb⟩; have n0_ := Aside0.mk (below_step HB.out hb); clear HB; have HB := n0_; clear n0_ hb) | (go_at_call 22; refine (put_c (Kd.C_below HR0.out HB.out) HC0.out (s) 0 HP.out.put).mono ?_; rintro e w2 ⟨rfl, hb⟩; have n0_ := Aside0.mk (below_step HB.out hb); clear HB; have HB := n0_; clear n0_ hb) | (go_at_call 23; refine (get_c _ s l 0 HP.out.get).mono ?_; rintro e w3 ⟨AM, cM, rfl, hcm, hm, hb⟩; have HM := Aside0.mk hm; have HCM := Aside0.mk hcm; clear hm hcm; have n0_ := Aside0.mk (below_step HB.out hb); clear HB; have HB := n0_; clear n0_ hb) | (go_at_call 24; refine (seek_c _ s key N 0 HSK.out).mono ?_; rintro e w4 ⟨AN, cN, rfl, hcn, hn, hb⟩; have HN := Aside0.mk hn; have m0_ := Aside0.mk (Kd.C_below HM.out hb); clear HM; have HM := m0_; clear m0_ hn hcn; have n0_ := Aside0.mk (below_step HB.out hb); clear HB; have HB := n0_; clear n0_ hb) | (go_at_call 13; refine (same_c HM.out HCM.out (Kd.C_below HR0.out HB.out) HC0.out (by omega)).mono ?_; rintro e w5 ⟨rfl, hb⟩; have m0_ := Aside0.mk (Kd.C_below HN.out hb); clear HN; have HN := m0_; clear m0_; have n0_ := Aside0.mk (below_step HB.out hb); clear HB; have HB := n0_; clear n0_ hb))
  have HB3 := HB
  clear HB
  go_loopw [15] (fun v15 w' => ∃ i : Nat, v15 = .int .i64 i ∧ i ≤ N.length ∧ Aside0 (Below w5.heap.size w5 w')) (fun v15 _ => N.length - (intOf v15).toNat)
  case atStart => exact ⟨0, rfl, Nat.zero_le _, ⟨Below.refl _ _⟩⟩
  case round =>
    obtain ⟨i, rfl, hi, HB⟩ := hrel
    by_cases hlt : i < N.length
    · have p0 : (0 : Int) ≤ (i : Int) := Int.natCast_nonneg _
      have q0 : (i : Int) < (N.length : Int) := Int.ofNat_lt.mpr hlt
      have s0 : decide ((i : Int) < (N.length : Int)) = true := decide_eq_true q0
      obtain ⟨hji, hne⟩ := HAT.out i hlt
      have hnl := HNL.out
      have hge := HP.out.ge (j + i) hji (by omega)
      obtain ⟨ad, e0, hy⟩ := ycells HN.out hlt
      obtain ⟨ad1, e1, hz⟩ := ycells HR0.out hji
      obtain ⟨y0, y1, y2, y3⟩ := hy _ HB.out
      obtain ⟨z0, z1, z2, z3⟩ := hz _ (below_step HB3.out HB.out)
      cases e0
      cases e1
      rw [hne] at y0 y1 y2 y3
      have hnq := fun V => neqE V l[j + i]
      generalize l[j + i] = x at *
      clear hne hy hz
      have w1_ : IntKind.i64.wrap ((l.length : Int) - (N.length : Int)) = (j : Int) := by rw [IntKind.wrap_i64]; omega
      have w2_ : IntKind.i64.wrap ((j : Int) + (i : Int)) = ((j + i : Nat) : Int) := by rw [IntKind.wrap_i64]; omega
      obtain ⟨q, hq⟩ : ∃ q, q = j + i := ⟨_, rfl⟩
      rw [← hq] at z0 z1 z2 z3 w2_
      have p1 : (0 : Int) ≤ (q : Int) := Int.natCast_nonneg _
      have q1 : (q : Int) < (l.length : Int) := by omega
      clear hq hji hnl
      go_wp2_with (fail)
      go_quiet (fail)
      go_wp2_with (fail)
      go_roundw
      case rel => exact ⟨i + 1, by go_num, by omega, ⟨pw_below_drewN HB.out _⟩⟩
      case measure => simp [intOf]; omega
    · obtain rfl : i = N.length := by omega
      have s0 : decide ((N.length : Int) < (N.length : Int)) = false := decide_eq_false (by omega)
      clear hi hlt
      obtain ⟨m, hm⟩ : ∃ m, m = (l.length + 3) / 4 := ⟨_, rfl⟩
      have hm1 : Int.tdiv ((l.length : Int) + 3) 4 = (m : Int) := by rw [Int.tdiv_eq_ediv_of_nonneg (by omega)]; omega
      have hm2 : m ≤ 38 := by omega
      have HM2 := Aside0.mk hm
      have HSL : Aside0 (szL l ≤ l.length * 60402) := ⟨szL_le l HP.out.ok⟩
      clear hm
      go_wp2_with (fail)
      have n0_ := Aside0.mk (below_step HB3.out HB.out)
      clear HB HB3
      have HB3 := n0_
      clear n0_
      rename_i wr_
      go_loopw [16, 17] (fun v16 v17 w' => ∃ i : Nat, v16 = .int .i64 (8 + 4 * (m : Int) + ((szL (l.take i) : Nat) : Int)) ∧ v17 = .int .i64 i ∧ i ≤ l.length ∧ Aside0 (Below w.heap.size w w')) (fun _ v17 _ => l.length - (intOf v17).toNat)
      case atStart => exact ⟨0, by simp [szL], rfl, Nat.zero_le _, HB3⟩
      case round =>
        obtain ⟨i, rfl, rfl, hi, HB⟩ := hrel
        clear HB3
        by_cases hlt : i < l.length
        · have p0 : (0 : Int) ≤ (i : Int) := Int.natCast_nonneg _
          have q0 : (i : Int) < (l.length : Int) := Int.ofNat_lt.mpr hlt
          have s1 : decide ((i : Int) < (l.length : Int)) = true := decide_eq_true q0
          obtain ⟨ad1, e1, hz⟩ := ycells HR0.out hlt
          obtain ⟨z0, z1, z2, z3⟩ := hz _ HB.out
          cases e1
          have hmem := List.getElem_mem hlt
          obtain ⟨x, hxs, hxe⟩ := rput_ev (HP.out.ok _ hmem) (HP.out.va _ hmem)
          have hx1 := putL_le (HP.out.ok _ hmem)
          have hst := szL_take l hlt
          have hsl := szL_le (l.take i) (fun e he => HP.out.ok e (List.mem_of_mem_take he))
          rw [List.length_take, Nat.min_eq_left hi] at hsl
          have HXE := Aside0.mk hxe
          rw [← hxs] at hst hx1
          generalize l[i] = e_ at *
          generalize szL (l.take i) = u at *
          have HST := Aside0.mk hst
          clear hz hmem hxs hxe hst
          go_wp2_with (first | (go_at_call 25; refine (rput_c _ e_ x HXE.out).mono ?_; rintro e w6 ⟨rfl, hb⟩; have n0_ := Aside0.mk (below_step HB.out hb); clear HB; have HB := n0_; clear n0_ hb))
          go_roundw
          case rel => exact ⟨i + 1, by have h_ := HST.out; go_num, by go_num, by omega, HB⟩
          case measure => simp [intOf]; omega
        · obtain rfl : i = l.length := by omega
          have s1 : decide ((l.length : Int) < (l.length : Int)) = false := decide_eq_false (by omega)
          rw [List.take_length]
          clear hi hlt
          have hsz := HSZ.out
          have hsl := HSL.out
          rw [← HM2.out] at hsz
          generalize szL l = u at *
          have s2 : decide (8 + 4 * (m : Int) + (u : Int) < (s.size : Int)) = false := decide_eq_false (by omega)
          have s3 : decide ((s.size : Int) ≤ 8 + 4 * (m : Int) + (u : Int)) = true := decide_eq_true (by omega)
          clear hsz HSZ HSL HM2
          by_cases hz0 : a2 % 256 = 0
          · have s4 : (a2 % 256 == 0) = true := beq_iff_eq.mpr hz0
            go_wp2_with (first | (go_at_call 21; refine (alive_c _).mono ?_; rintro e w9 ⟨rfl, hb⟩; have n0_ := Aside0.mk (below_step HB.out hb); clear HB; have HB := n0_; clear n0_ hb))
            go_ret
            exact ⟨rfl, HB.out⟩
          have s4 : (a2 % 256 == 0) = false := beq_eq_false_iff_ne.mpr hz0
          by_cases ha0 : a1 < 0
          · have s5 : decide (a1 < 0) = true := decide_eq_true ha0
            go_wp2_with (first | (go_at_call 21; refine (alive_c _).mono ?_; rintro e w9 ⟨rfl, hb⟩; have n0_ := Aside0.mk (below_step HB.out hb); clear HB; have HB := n0_; clear n0_ hb))
            go_ret
            exact ⟨rfl, HB.out⟩
          have s5 : decide (a1 < 0) = false := decide_eq_false ha0
          obtain ⟨C, W1, hcv, hbW, hrow⟩ := to_bytes wr s
          obtain ⟨ix, hix⟩ : ∃ ix, ix = a1.toNat % s.size := ⟨_, rfl⟩
          have hixl : ix < s.size := by rw [hix]; exact Nat.mod_lt _ (by omega)
          have hmod : Int.tmod a1 (s.size : Int) = (ix : Int) := by rw [hix]; exact rem_ a1 s.size (by omega)
          have hzs : ((s.size : Int) == 0) = false := beq_eq_false_iff_ne.mpr (by omega)
          obtain ⟨hc0, hf0⟩ := hrow ix hixl
          obtain ⟨hd, hback, hbad⟩ := chg_all (W := W1) (g := wr.heap.size) s C ix (a2 % 256) (by omega) hz0 hixl (fun i h => (hrow i h).1) (fun d hd hne => HP.out.bad ix d hixl hd hne)
          have HBAD := Aside0.mk hbad
          have n0_ := Aside0.mk (below_far (below_step HB.out hbW) HB.out.size ix (.int .u8 (bits .xor .u8 (s[ix].toNat : Int) (a2 % 256))))
          clear HB
          have HB := n0_
          clear n0_ hrow hbW hix hbad
          generalize wr.heap.size = g at *
          generalize (s[ix].toNat : Int) = cv at *
          generalize hxor : bits .xor .u8 cv (a2 % 256) = d at *
          generalize strOfNums ((bytesOf s).set ix d) = T at *
          have p0 : (0 : Int) ≤ (ix : Int) := Int.natCast_nonneg _
          have q0 : (ix : Int) < (s.size : Int) := Int.ofNat_lt.mpr hixl
          have hc0' : W1.cell? ((⟨g, 0, none⟩ : Addr).add ix) = some (.int .u8 cv) := by rw [add_at, Nat.zero_add]; exact hc0
          have hf0' : W1.frozen? ((⟨g, 0, none⟩ : Addr).add ix) = false := by rw [add_at, Nat.zero_add]; exact hf0
          go_wp2_with (first | (go_at_call 23; refine (get_c _ T [] 6 HBAD.out).mono ?_; rintro e w7 ⟨AM7, cM7, rfl, hcm, hm, hb⟩; clear hm hcm; have n0_ := Aside0.mk (below_step HB.out hb); clear HB; have HB := n0_; clear n0_ hb) | (go_at_call 21; refine (alive_c _).mono ?_; rintro e w9 ⟨rfl, hb⟩; have n0_ := Aside0.mk (below_step HB.out hb); clear HB; have HB := n0_; clear n0_ hb))
          go_ret
          exact ⟨rfl, HB.out⟩
end Go.Proofs.Ytchgpcgolgcfdaa.Bb
end
section
namespace Go.Proofs.Ytchgpcgolgcfdaa.PNum
open Go.RowKit Go.Proofs.YtchgpcgolgcfdaaW.PrintWords Go.Proofs.YtchgpcgolgcfdaaW.PrintLast Go.Proofs.YtchgpcgolgcfdaaW.PrintMore
attribute [local go_sem] max2_int min2_int max_two min_two max_three min_three max_four min_four   -- for this text's walks alone
set_option linter.unusedVariables false
set_option linter.unusedSimpArgs false
def cornucopialaw10_BlockBack.wf (l : List S29) : Bool := l.all fun e => decide (e.f0.size ≤ 140737488351232 ∧ e.f3.size ≤ 140737488351232) && (Lit.int .u64 e.f1).wf
theorem cornucopialaw10_BlockBack.wf_iff (l : List S29) : cornucopialaw10_BlockBack.wf l = true ↔ ∀ e ∈ l, Go.Proofs.Ytchgpcgolgcfdaa.Bb.wfE e := by
  unfold cornucopialaw10_BlockBack.wf
  rw [List.all_eq_true]
  refine forall_congr' fun e => forall_congr' fun he => ?_
  simp only [Bool.and_eq_true, decide_eq_true_eq, and_assoc]
  rfl
def cornucopialaw10_BlockBack.f (l0 : List S29) (a1 a2 : Int) (a3 : ByteArray) : Option Bool := if (cornucopialaw10_BlockBack.wf l0 && decide (a3.size ≤ 140737488351232)) = true then some true else none
theorem cornucopialaw10_BlockBack.calls (A0 : Option Addr) (c0 : Nat) (l0 : List S29) (a1 a2 : Int) (a3 : ByteArray) (r : Bool) (w : World)
    (hr0 : Kd.C k29 w A0 l0.length l0) (hc0 : l0.length ≤ c0) (h : cornucopialaw10_BlockBack.f l0 a1 a2 a3 = some r) :
    Calls Try.prog 7 #[.slice A0 l0.length c0, .int .i64 a1, .int .i64 a2, .string a3] w fun e w' => e = .returned (.bool r) ∧ Below w.heap.size w w' := by
  unfold cornucopialaw10_BlockBack.f at h
  split at h
  case isFalse => cases h
  case isTrue hg =>
  obtain rfl : true = r := Option.some.inj h
  rw [Bool.and_eq_true, cornucopialaw10_BlockBack.wf_iff, decide_eq_true_eq] at hg
  exact Go.Proofs.Ytchgpcgolgcfdaa.Bb.bb_calls A0 c0 l0 a1 a2 a3 w hr0 hc0 hg.1 hg.2
def cornucopialaw10_BlockBack.Pure : Prop := ∀ (l0 : List (S29)) (a1 : Int) (a2 : Int) (a3 : ByteArray), l0.length * 48 ≤ 140737488351232 → (∀ x_ ∈ l0, wfS29 x_) → (Lit.int .i64 a1).wf = true → (Lit.int .i64 a2).wf = true → a3.size ≤ 140737488351232 → cornucopialaw10_BlockBack.f l0 a1 a2 a3 = some true
theorem cornucopialaw10_BlockBack.walk (P : cornucopialaw10_BlockBack.Pure) (A0 : Option Addr) (c0 : Nat) (l0 : List (S29)) (a1 : Int) (a2 : Int) (a3 : ByteArray) (w : World) (hr0 : Kd.C k29 w A0 l0.length l0) (hc0 : l0.length ≤ c0) (w0_0 : l0.length * 48 ≤ 140737488351232) (w0_1 : (∀ x_ ∈ l0, wfS29 x_)) (w1_0 : (Lit.int .i64 a1).wf = true) (w2_0 : (Lit.int .i64 a2).wf = true) (w3_0 : a3.size ≤ 140737488351232) :
    Calls Try.prog 7 #[.slice A0 l0.length c0, .int .i64 a1, .int .i64 a2, .string a3] w fun e w' => e = .returned (.bool true) ∧ Below w.heap.size w w' := by
  have h := P l0 a1 a2 a3 w0_0 w0_1 w1_0 w2_0 w3_0
  refine (cornucopialaw10_BlockBack.calls _ _ l0 a1 a2 a3 true w hr0 hc0 h).mono ?_
  rintro e w' ⟨rfl, hd⟩
  exact ⟨rfl, hd⟩
end Go.Proofs.Ytchgpcgolgcfdaa.PNum
end
section
namespace Go.Proofs.Ytchgpcgolgcfdaa.Pure
open Go Go.RowKit Go.Proofs.Ytchgpcgolgcfdaa.PNum
theorem BlockBack : cornucopialaw10_BlockBack.Pure := by
  intro l0 a1 a2 a3 _ h0 _ _ h3
  unfold cornucopialaw10_BlockBack.f
  refine if_pos (Bool.and_eq_true_iff.2 ⟨(cornucopialaw10_BlockBack.wf_iff l0).2 fun e he => ⟨(h0 e he).1, (h0 e he).2.2.2, (h0 e he).2.1⟩, decide_eq_true h3⟩)
end Go.Proofs.Ytchgpcgolgcfdaa.Pure
end
