/- The filters of bloom in plain lists: what Make lays and May tells. -/
import Derived.Test.YtmfnnialhegjmaaPBlmx1
import Derived.Test.YtmfnnialhegjmaaPBlmx2
import Derived.Test.YtmfnnialhegjmaaPBlmx3
import Derived.Test.YtmfnnialhegjmaaPBlmx4
import Derived.Test.YtmfnnialhegjmaaWPu
namespace Go.Proofs.Ytmfnnialhegjmaa.PuBlm
open Go Go.RowKit Go.Proofs.Ytmfnnialhegjmaa.PBlm Go.Proofs.YtmfnnialhegjmaaW.PrintWords Go.Proofs.YtmfnnialhegjmaaW.PrintLast Go.Proofs.YtmfnnialhegjmaaW.PrintMore Go.Proofs.YtmfnnialhegjmaaW.Pu

/-! ### the hash -/
def hstep (h c : Int) : Int := ((Go.bits .xor .u32 h (c % 4294967296)) * 16777619) % 4294967296
def hfold (h : Int) (l : List Int) : Int := l.foldl hstep h
def hash (s : ByteArray) (seed : Int) : Int := Go.bits .xor .u32 (hfold (Go.bits .xor .u32 seed 2166136261) (bytesOf s)) (hfold (Go.bits .xor .u32 seed 2166136261) (bytesOf s) / 32768)
theorem bt_nth (s : ByteArray) (i : Nat) (h : i < s.size) : bt s (i : Int) = (bytesOf s)[i]'(by rw [bytesOf_length]; exact h) := by
  rw [bt_eq]
  simp [List.getD_eq_getElem?_getD, List.getElem?_eq_getElem (show i < (bytesOf s).length by rw [bytesOf_length]; exact h)]
theorem Hash_l0 (s : ByteArray) (hs : s.size ≤ 9223372036854775806) (d : Nat) : ∀ (i : Nat) (h : Int), i + d = s.size →
    Ev (fun k => bloom_Hash.l0 k s h (s.size : Int) (i : Int)) (Go.bits .xor .u32 (hfold h ((bytesOf s).drop i)) (hfold h ((bytesOf s).drop i) / 32768)) := by
  induction d with
  | zero =>
    intro i h hi
    refine Ev.step (fun k => by rw [bloom_Hash.l0]) (ev_neg (by omega) (ev_const ?_))
    rw [List.drop_of_length_le (by rw [bytesOf_length]; omega)]
    rfl
  | succ d ih =>
    intro i h hi
    have hlt : i < s.size := by omega
    refine Ev.step (fun k => by rw [bloom_Hash.l0, bt_nth s i hlt]) (ev_pos (by omega) (ev_pos (by omega) (ev_pos (by omega) ?_)))
    rw [List.drop_eq_getElem_cons (show i < (bytesOf s).length by rw [bytesOf_length]; exact hlt), wrap64_id (by omega), show ((i : Int) + 1) = ((i + 1 : Nat) : Int) from by omega]
    exact ih (i + 1) _ (by omega)
theorem Hash_ev (s : ByteArray) (seed : Int) (hs : s.size ≤ 9223372036854775806) : Ev (fun k => bloom_Hash.f k s seed) (hash s seed) := by
  have := Hash_l0 s hs s.size 0 (Go.bits .xor .u32 seed 2166136261) (by omega)
  rw [List.drop_zero] at this
  exact this

/-! ### the places -/
def place (s : ByteArray) (n : Int) (i : Nat) : Int := Int.tmod (IntKind.u64.wrap (IntKind.u64.wrap (hash s 0) + IntKind.u64.wrap (IntKind.u64.wrap (i : Int) * IntKind.u64.wrap (hash s 1)))) n
def pls (s : ByteArray) (q : Nat) (n : Int) : List Int := (List.range q).map (place s n)
theorem pls_len (s : ByteArray) (q : Nat) (n : Int) : (pls s q n).length = q := by simp [pls]
theorem wu64_nonneg (x : Int) : 0 ≤ IntKind.u64.wrap x ∧ IntKind.u64.wrap x ≤ 18446744073709551615 := by rw [wu64_mod]; omega
theorem place_range (s : ByteArray) {n : Int} (hn : 0 < n) (i : Nat) : 0 ≤ place s n i ∧ place s n i < n := by
  unfold place
  have := wu64_nonneg (IntKind.u64.wrap (hash s 0) + IntKind.u64.wrap (IntKind.u64.wrap (i : Int) * IntKind.u64.wrap (hash s 1)))
  rw [Int.tmod_eq_emod_of_nonneg this.1]
  exact ⟨Int.emod_nonneg _ (by omega), Int.emod_lt_of_pos _ hn⟩
theorem pls_range (s : ByteArray) (q : Nat) {n : Int} (hn : 0 < n) : ∀ p ∈ pls s q n, 0 ≤ p ∧ p < n := by
  intro p hp
  obtain ⟨i, _, rfl⟩ := List.mem_map.1 hp
  exact place_range s hn i
theorem places_l0 (s : ByteArray) (q : Nat) (hq : q ≤ 255) {n : Int} (hn : 0 < n ∧ n ≤ 9223372036854775807) (d : Nat) : ∀ (i : Nat), i + d = q →
    Ev (fun k => bloom_places.l0 k n (IntKind.u64.wrap (hash s 0)) (IntKind.u64.wrap (hash s 1)) ((List.range i).map (place s n)) (q : Int) (i : Int)) (pls s q n) := by
  induction d with
  | zero =>
    intro i hi
    obtain rfl : i = q := by omega
    refine Ev.step (fun k => by rw [bloom_places.l0]) ?_
    exact ev_neg (by omega) (ev_const rfl)
  | succ d ih =>
    intro i hi
    have hw : IntKind.u64.wrap n = n := wu64_id (by omega)
    refine Ev.step (fun k => by rw [bloom_places.l0, hw]) (ev_pos (by omega) (ev_neg (by omega) (ev_pos ?_ ?_)))
    · simp; omega
    rw [wrap64_id (by omega), show ((i : Int) + 1) = ((i + 1 : Nat) : Int) from by omega]
    have := ih (i + 1) (by omega)
    rw [List.range_succ, List.map_append] at this
    exact this
theorem places_ev (s : ByteArray) (hs : s.size ≤ 9223372036854775806) (q : Nat) (hq : q ≤ 255) {n : Int} (hn : 0 < n ∧ n ≤ 9223372036854775807) : Ev (fun k => bloom_places.f k s (q : Int) n) (pls s q n) := by
  refine Ev.congr (fun k => by rw [bloom_places.f]) (Ev.bind (Hash_ev s 0 hs) (Ev.bind (Hash_ev s 1 hs) ?_))
  exact places_l0 s q hq hn q 0 (by omega)

/-! ### the bits -/
/-- A bit is set. -/
def sb (b : List Int) (p : Int) : List Int := b.set (p / 8).toNat (Go.bits .or .u8 (rd b (p / 8)) (shl .u8 1 (p % 8)))
/-- Is bit k of a byte set? -/
def T (c k : Int) : Bool := Go.bits .and .u8 (shr .u8 c k) 1 != 0
def tb (b : List Int) (p : Int) : Bool := T (rd b (p / 8)) (p % 8)
theorem T_or : ∀ (c : Fin 256) (k j : Fin 8), T (Go.bits .or .u8 (c.val : Int) (shl .u8 1 (k.val : Int))) (j.val : Int) = (T (c.val : Int) (j.val : Int) || j.val == k.val) := by decide +kernel
theorem T_zero : ∀ j : Fin 8, T 0 (j.val : Int) = false := by decide +kernel
theorem or_def (x y : Int) : Go.bits .or .u8 x y = IntKind.u8.wrap (((BitVec.ofInt 8 x ||| BitVec.ofInt 8 y).toNat : Nat) : Int) := rfl
theorem or_range (x y : Int) : 0 ≤ Go.bits .or .u8 x y ∧ Go.bits .or .u8 x y < 256 := by rw [or_def, IntKind.wrap_u8]; omega
theorem or_ofInt (x y : Int) : BitVec.ofInt 8 (Go.bits .or .u8 x y) = BitVec.ofInt 8 x ||| BitVec.ofInt 8 y := by
  have h := (BitVec.ofInt 8 x ||| BitVec.ofInt 8 y).isLt
  rw [or_def, IntKind.wrap_u8, show (((BitVec.ofInt 8 x ||| BitVec.ofInt 8 y).toNat : Nat) : Int) % 256 = (((BitVec.ofInt 8 x ||| BitVec.ofInt 8 y).toNat : Nat) : Int) from by omega, BitVec.ofInt_natCast, BitVec.ofNat_toNat, BitVec.setWidth_eq]
theorem or_swap (x a b : Int) : Go.bits .or .u8 (Go.bits .or .u8 x a) b = Go.bits .or .u8 (Go.bits .or .u8 x b) a := by
  rw [or_def, or_def (Go.bits .or .u8 x b), or_ofInt, or_ofInt]
  congr 2
  rw [BitVec.or_assoc, BitVec.or_assoc, BitVec.or_comm (BitVec.ofInt 8 a)]
theorem sb_len (b : List Int) (p : Int) : (sb b p).length = b.length := by simp [sb]
theorem rd_set (b : List Int) (i j : Int) (v : Int) (hi : 0 ≤ i) (hj : 0 ≤ j) (hl : i < b.length) : rd (b.set i.toNat v) j = if i = j then v else rd b j := by
  unfold rd
  rw [List.getD_eq_getElem?_getD, List.getD_eq_getElem?_getD]
  by_cases h : i = j
  · subst h
    rw [if_pos rfl, List.getElem?_set_self (by omega)]
    rfl
  · rw [if_neg h, List.getElem?_set_ne (by omega)]
theorem rd_ok {b : List Int} (h : ok8 b) (i : Int) : 0 ≤ rd b i ∧ rd b i < 256 := by
  unfold rd
  rw [List.getD_eq_getElem?_getD]
  cases e : b[i.toNat]? with
  | none => simp
  | some x => exact h x (List.mem_of_getElem? e)
theorem sb_ok {b : List Int} (h : ok8 b) (p : Int) : ok8 (sb b p) := by
  intro x hx
  unfold sb at hx
  rcases List.mem_or_eq_of_mem_set hx with hx | rfl
  · exact h x hx
  · exact or_range _ _
theorem tb_sb {b : List Int} (h : ok8 b) {p q : Int} (hp : 0 ≤ p) (hq : 0 ≤ q) (hl : p / 8 < b.length) : tb (sb b p) q = (tb b q || q == p) := by
  unfold tb sb
  rw [rd_set _ _ _ _ (by omega) (by omega) hl]
  by_cases e : p / 8 = q / 8
  · rw [if_pos e]
    have hc := rd_ok h (p / 8)
    have := T_or ⟨(rd b (p / 8)).toNat, by omega⟩ ⟨(p % 8).toNat, by omega⟩ ⟨(q % 8).toNat, by omega⟩
    simp only at this
    rw [show (((rd b (p / 8)).toNat : Nat) : Int) = rd b (p / 8) from by omega, show (((p % 8).toNat : Nat) : Int) = p % 8 from by omega, show (((q % 8).toNat : Nat) : Int) = q % 8 from by omega] at this
    rw [this, e]
    congr 1
    rw [Bool.eq_iff_iff, beq_iff_eq, beq_iff_eq]
    omega
  · rw [if_neg e]
    have : (q == p) = false := by rw [beq_eq_false_iff_ne]; intro h; subst h; exact e rfl
    rw [this, Bool.or_false]
theorem sb_swap (b : List Int) {p q : Int} (hp : 0 ≤ p ∧ p / 8 < b.length) (hq : 0 ≤ q ∧ q / 8 < b.length) : sb (sb b p) q = sb (sb b q) p := by
  unfold sb
  rw [rd_set _ _ _ _ (by omega) (by omega) hp.2, rd_set _ _ _ _ (by omega) (by omega) hq.2]
  by_cases e : p / 8 = q / 8
  · rw [if_pos e, if_pos e.symm, e, List.set_set, List.set_set, or_swap]
  · rw [if_neg e, if_neg (fun h => e h.symm), List.set_comm _ _ (by omega)]
def sbs (b : List Int) (l : List Int) : List Int := l.foldl sb b
theorem sbs_len (l : List Int) : ∀ b, (sbs b l).length = b.length := by
  induction l with
  | nil => intro b; rfl
  | cons p l ih => intro b; exact (ih (sb b p)).trans (sb_len b p)
theorem sbs_ok (l : List Int) : ∀ {b}, ok8 b → ok8 (sbs b l) := by
  induction l with
  | nil => intro b h; exact h
  | cons p l ih => intro b h; exact ih (sb_ok h p)
theorem tb_sbs (l : List Int) : ∀ {b : List Int} {q : Int}, ok8 b → 0 ≤ q → (∀ p ∈ l, 0 ≤ p ∧ p / 8 < b.length) → tb (sbs b l) q = (tb b q || l.contains q) := by
  induction l with
  | nil => intro b q _ _ _; simp [sbs]
  | cons p l ih =>
    intro b q hb hq hl
    have hp := hl p (by simp)
    have := ih (sb_ok hb p) hq (fun x hx => by rw [sb_len]; exact hl x (by simp [hx]))
    rw [show sbs b (p :: l) = sbs (sb b p) l from rfl, this, tb_sb hb hp.1 hq hp.2, List.contains_cons, Bool.or_assoc]
theorem sbs_perm {l m : List Int} (h : l.Perm m) {b : List Int} (hl : ∀ p ∈ l, 0 ≤ p ∧ p / 8 < b.length) : sbs b l = sbs b m := by
  have key : ∀ {l m : List Int}, l.Perm m → ∀ b : List Int, (∀ p ∈ l, 0 ≤ p ∧ p / 8 < b.length) → sbs b l = sbs b m := by
    intro l m h
    induction h with
    | nil => intro b _; rfl
    | cons x h ih => intro b hb; exact ih (sb b x) (fun p hp => by rw [sb_len]; exact hb p (by simp [hp]))
    | swap x y l =>
      intro b hb
      show sbs (sb (sb b y) x) l = sbs (sb (sb b x) y) l
      rw [sb_swap b (hb y (by simp)) (hb x (by simp))]
    | trans h1 h2 ih1 ih2 => intro b hb; exact (ih1 b hb).trans (ih2 b (fun p hp => hb p (h1.mem_iff.2 hp)))
  exact key h b hl
/-! ### Make -/
/-- How many bits. -/
def bitsN (bits : Int) (len : Nat) : Int := (max (bits * len) 64 + 7) / 8 * 8
def mk (q : Nat) (n : Int) (keys : List ByteArray) : List Int := (sbs (List.replicate ((n / 8).toNat + 1) 0) (keys.flatMap fun s => pls s q n)).set (n / 8).toNat (q : Int)
theorem rdOf_nth (l : List ByteArray) (i : Nat) (h : i < l.length) : rdOf ByteArray.empty l (i : Int) = l[i] := by
  simp [rdOf, List.getElem?_eq_getElem h]
theorem rd_nth (l : List Int) (i : Nat) (h : i < l.length) : rd l (i : Int) = l[i] := by
  simp [rd, List.getD_eq_getElem?_getD, List.getElem?_eq_getElem h]
theorem Make_l1 (x1 n : Int) (hn : n ≤ 9223372036854775807) (keys : List ByteArray) (L i : Int) (P : List Int) (hP : ∀ p ∈ P, 0 ≤ p ∧ p < n) (hlen : P.length ≤ 255) (r : ByteArray × Int) (d : Nat) : ∀ (j : Nat) (b : List Int), j + d = P.length → (b.length : Int) = n / 8 + 1 →
    Ev (fun k => bloom_Make.l0 k x1 n (sbs b (P.drop j)) keys L (wrap64 (i + 1))) r → Ev (fun k => bloom_Make.l1 k x1 n b keys L i P (P.length : Int) (j : Int)) r := by
  induction d with
  | zero =>
    intro j b hj hb h
    rw [List.drop_of_length_le (by omega)] at h
    refine Ev.step (fun k => by rw [bloom_Make.l1]) ?_
    exact ev_neg (by omega) h
  | succ d ih =>
    intro j b hj hb h
    have hlt : j < P.length := by omega
    have hp := hP P[j] (List.getElem_mem hlt)
    have e1 : IntKind.u64.wrap (Int.tdiv P[j] 8) = P[j] / 8 := by rw [Int.tdiv_eq_ediv_of_nonneg hp.1]; exact wu64_id (by omega)
    have e2 : Int.tmod P[j] 8 = P[j] % 8 := Int.tmod_eq_emod_of_nonneg hp.1
    refine Ev.step (fun k => by rw [bloom_Make.l1, rd_nth P j hlt, e1, e2]) ?_
    refine ev_pos (by omega) (ev_pos (by omega) (ev_pos (by omega) (ev_pos (by omega) (ev_pos (by omega) (ev_pos (by omega) ?_)))))
    rw [wrap64_id (x := (j : Int) + 1) (by omega), show ((j : Int) + 1) = ((j + 1 : Nat) : Int) from by omega]
    rw [List.drop_eq_getElem_cons hlt] at h
    exact ih (j + 1) (sb b P[j]) (by omega) (by rw [sb_len]; exact hb) h
theorem Make_l0 (q : Nat) (hq : 1 ≤ q ∧ q ≤ 20) (n : Int) (hn : 8 ≤ n ∧ n ≤ 9223372036854775806) (keys : List ByteArray) (hk : ∀ s ∈ keys, s.size ≤ 9223372036854775806) (hl : keys.length ≤ 9223372036854775806) (d : Nat) : ∀ (i : Nat) (b : List Int), i + d = keys.length → (b.length : Int) = n / 8 + 1 →
    Ev (fun k => bloom_Make.l0 k (q : Int) n b keys (keys.length : Int) (i : Int)) (strOfNums ((sbs b ((keys.drop i).flatMap fun s => pls s q n)).set (n / 8).toNat (q : Int)), 0) := by
  have e3 : wrap64 (Int.tdiv n 8) = n / 8 := by rw [Int.tdiv_eq_ediv_of_nonneg (by omega)]; exact wrap64_id (by omega)
  induction d with
  | zero =>
    intro i b hi hb
    rw [List.drop_of_length_le (by omega)]
    refine Ev.step (fun k => by rw [bloom_Make.l0, e3]) ?_
    refine ev_neg (by omega) (ev_pos (by omega) (ev_pos (by omega) (ev_const ?_)))
    rw [show ((q : Int) % 256) = q from by omega]
    rfl
  | succ d ih =>
    intro i b hi hb
    have hlt : i < keys.length := by omega
    refine Ev.step (fun k => by rw [bloom_Make.l0, rdOf_nth keys i hlt]) ?_
    refine ev_pos (by omega) (ev_pos (by omega) (ev_pos (by omega) (Ev.bind (places_ev _ (hk _ (List.getElem_mem hlt)) q (by omega) (by omega)) ?_)))
    refine Make_l1 _ n (by omega) keys _ _ _ (pls_range _ q (by omega)) (by rw [pls_len]; omega) _ (pls keys[i] q n).length 0 b (by omega) hb ?_
    rw [wrap64_id (by omega), show ((i : Int) + 1) = ((i + 1 : Nat) : Int) from by omega, List.drop_zero]
    have := ih (i + 1) (sbs b (pls keys[i] q n)) (by omega) (by rw [sbs_len]; exact hb)
    rw [List.drop_eq_getElem_cons hlt, List.flatMap_cons]
    rw [show sbs b (pls keys[i] q n ++ (keys.drop (i + 1)).flatMap fun s => pls s q n) = sbs (sbs b (pls keys[i] q n)) ((keys.drop (i + 1)).flatMap fun s => pls s q n) from by simp [sbs]]
    exact this
theorem bitsN_range {bits : Int} {len : Nat} (hb : 1 ≤ bits ∧ bits ≤ 64) (hl : len ≤ 1000) : 64 ≤ bitsN bits len ∧ bitsN bits len ≤ 64008 ∧ bitsN bits len % 8 = 0 := by
  unfold bitsN
  have h1 : 0 ≤ bits * len := Int.mul_nonneg (by omega) (by omega)
  have h2 : bits * len ≤ 64 * 1000 := Int.mul_le_mul hb.2 (by omega) (by omega) (by omega)
  omega
theorem Make_yes {bits : Int} {q : Nat} {keys : List ByteArray} (hb : 1 ≤ bits ∧ bits ≤ 64) (hq : 1 ≤ q ∧ q ≤ 20) (hl : keys.length ≤ 1000) (hk : ∀ s ∈ keys, s.size ≤ 9223372036854775806) :
    Ev (fun k => bloom_Make.f k bits (q : Int) keys) (strOfNums (mk q (bitsN bits keys.length) keys), 0) := by
  have hr := bitsN_range hb hl
  have h1 : 0 ≤ bits * keys.length := Int.mul_nonneg (by omega) (by omega)
  have h2 : bits * keys.length ≤ 64 * 1000 := Int.mul_le_mul hb.2 (by omega) (by omega) (by omega)
  have h3 : wrap64 (bits * (keys.length : Int)) = bits * keys.length := wrap64_id (by omega)
  have h4 : mx (bits * (keys.length : Int)) 64 = max (bits * keys.length) 64 := by unfold mx; split <;> omega
  have h5 : wrap64 (Int.tdiv (wrap64 ((wrap64 ((max (bits * (keys.length : Int)) 64) + 8)) - 1)) 8) = (max (bits * keys.length) 64 + 7) / 8 := by
    rw [wrap64_id (x := max (bits * (keys.length : Int)) 64 + 8) (by omega), wrap64_id (x := max (bits * (keys.length : Int)) 64 + 8 - 1) (by omega), Int.tdiv_eq_ediv_of_nonneg (by omega), wrap64_id (by omega)]
    omega
  have h6 : wrap64 ((max (bits * (keys.length : Int)) 64 + 7) / 8 * 8) = bitsN bits keys.length := wrap64_id (by omega)
  have h7 : wrap64 (Int.tdiv (bitsN bits keys.length) 8) = bitsN bits keys.length / 8 := by rw [Int.tdiv_eq_ediv_of_nonneg (by omega)]; exact wrap64_id (by omega)
  have h8 : wrap64 (bitsN bits keys.length / 8 + 1) = bitsN bits keys.length / 8 + 1 := wrap64_id (by omega)
  have h9 : (16384 : Int) ≤ wrap64 (Int.tdiv (1048576 : Int) bits) := by
    rw [Int.tdiv_eq_ediv_of_nonneg (by omega), wrap64_id]
    · exact Int.le_ediv_of_mul_le (by omega) (by omega)
    · have g1 := Int.ediv_nonneg (a := 1048576) (b := bits) (by omega) (by omega)
      have g2 := Int.ediv_le_self (a := 1048576) bits (by omega)
      omega
  have hj : Ev (fun k => bloom_Make.j0 k bits (q : Int) keys false) (strOfNums (mk q (bitsN bits keys.length) keys), 0) := by
    refine Ev.step (fun k => by rw [bloom_Make.j0, h3, h4, h5, h6, h7, h8]) ?_
    refine ev_neg (by simp) (ev_neg (by omega) (ev_neg (by omega) (ev_neg (by omega) (ev_pos (by omega) (ev_pos (by omega) ?_)))))
    rw [show (bitsN bits keys.length / 8 + 1).toNat = (bitsN bits keys.length / 8).toNat + 1 from by omega]
    have := Make_l0 q hq (bitsN bits keys.length) (by omega) keys hk (by omega) keys.length 0 (List.replicate ((bitsN bits keys.length / 8).toNat + 1) 0) (by omega) (by rw [List.length_replicate]; omega)
    rw [List.drop_zero] at this
    exact this
  refine Ev.congr (fun k => by rw [bloom_Make.f]) ?_
  refine ev_neg (by omega) (ev_neg (by omega) (ev_neg (by omega) ?_))
  rw [decide_eq_false (show ¬ ((q : Int) > 20) by omega)]
  exact hj
theorem Make_no {bits q : Int} {keys : List ByteArray} (h : bits < 1 ∨ 64 < bits ∨ q < 1 ∨ 20 < q) : Ev (fun k => bloom_Make.f k bits q keys) (⟨#[]⟩, 1) := by
  have hj : Ev (fun k => bloom_Make.j0 k bits q keys true) (⟨#[]⟩, 1) := Ev.step (fun k => by rw [bloom_Make.j0]) (ev_pos rfl (ev_const rfl))
  refine Ev.congr (fun k => by rw [bloom_Make.f]) ?_
  by_cases h1 : bits < 1
  · exact ev_pos h1 hj
  refine ev_neg h1 ?_
  by_cases h2 : bits > 64
  · exact ev_pos h2 hj
  refine ev_neg h2 ?_
  by_cases h3 : q < 1
  · exact ev_pos h3 hj
  refine ev_neg h3 ?_
  rw [decide_eq_true (show q > 20 by omega)]
  exact hj

/-! ### Valid and May -/
def last (b : List Int) : Int := b.getLastD 0
def okF (b : List Int) : Bool := decide (2 ≤ b.length ∧ 1 ≤ last b ∧ last b ≤ 20)
theorem bt_last (f : ByteArray) (h : 1 ≤ f.size) : bt f ((f.size : Int) - 1) = last (bytesOf f) := by
  rw [show ((f.size : Int) - 1) = ((f.size - 1 : Nat) : Int) from by omega, bt_eq]
  unfold last
  have hl := bytesOf_length f
  rw [List.getD_eq_getElem?_getD, ← hl, List.getLastD_eq_getLast?, List.getLast?_eq_getElem?]
theorem Valid_eq (f : ByteArray) (hs : f.size ≤ 9223372036854775807) : bloom_Valid.f f = some (okF (bytesOf f)) := by
  have hl := bytesOf_length f
  unfold bloom_Valid.f okF
  rw [wrap64_id (x := (f.size : Int) - 1) (by omega), hl]
  by_cases h : (f.size : Int) - 1 ≥ 1
  · rw [if_pos h, if_pos (by omega), if_pos (by omega), bt_last f (by omega)]
    by_cases h1 : last (bytesOf f) ≥ 1
    · rw [if_pos h1]
      exact congrArg some (decide_eq_decide.2 (by omega))
    · rw [if_neg h1, decide_eq_false (by omega)]
  · rw [if_neg h, decide_eq_false (by omega)]
theorem tb_bytes (f : ByteArray) (p : Int) : bt f (p / 8) = rd (bytesOf f) (p / 8) := (rd_bytesOf f _).symm
theorem May_l0 (f : ByteArray) (P : List Int) (hP : ∀ p ∈ P, 0 ≤ p ∧ p / 8 < f.size) (hs : f.size ≤ 1152921504606846975) (hlen : P.length ≤ 255) (d : Nat) : ∀ j, j + d = P.length →
    Ev (fun k => bloom_May.l0 k f P (P.length : Int) (j : Int)) ((P.drop j).all (tb (bytesOf f))) := by
  induction d with
  | zero =>
    intro j hj
    refine Ev.step (fun k => by rw [bloom_May.l0]) ?_
    rw [List.drop_of_length_le (by omega)]
    exact ev_neg (by omega) (ev_const rfl)
  | succ d ih =>
    intro j hj
    have hlt : j < P.length := by omega
    have hp := hP P[j] (List.getElem_mem hlt)
    have e1 : IntKind.u64.wrap (Int.tdiv P[j] 8) = P[j] / 8 := by rw [Int.tdiv_eq_ediv_of_nonneg hp.1]; exact wu64_id (by omega)
    have e2 : Int.tmod P[j] 8 = P[j] % 8 := Int.tmod_eq_emod_of_nonneg hp.1
    refine Ev.step (fun k => by rw [bloom_May.l0, rd_nth P j hlt, e1, e2, tb_bytes f]) ?_
    refine ev_pos (by omega) (ev_pos (by omega) (ev_pos (by omega) (ev_pos (by omega) (ev_pos (by omega) (ev_pos (by omega) ?_)))))
    rw [List.drop_eq_getElem_cons hlt, List.all_cons]
    by_cases h : tb (bytesOf f) P[j] = true
    · have h' : ¬ Go.bits .and .u8 (shr .u8 (rd (bytesOf f) (P[j] / 8)) (P[j] % 8)) 1 = 0 := by
        unfold tb T at h
        rw [bne_iff_ne] at h
        exact h
      refine ev_neg h' ?_
      rw [h, Bool.true_and, wrap64_id (by omega), show ((j : Int) + 1) = ((j + 1 : Nat) : Int) from by omega]
      exact ih (j + 1) (by omega)
    · have h' : Go.bits .and .u8 (shr .u8 (rd (bytesOf f) (P[j] / 8)) (P[j] % 8)) 1 = 0 := by
        unfold tb T at h
        rw [bne_iff_ne] at h
        exact Decidable.not_not.1 h
      refine ev_pos h' ?_
      rw [Bool.eq_false_iff.2 h]
      exact ev_const rfl
theorem May_yes (f key : ByteArray) (hs : f.size ≤ 1000000000) (hk : key.size ≤ 9223372036854775806) (h : okF (bytesOf f) = true) :
    Ev (fun k => bloom_May.f k f key) ((pls key (last (bytesOf f)).toNat (((f.size : Int) - 1) * 8)).all (tb (bytesOf f))) := by
  have hl := bytesOf_length f
  have hv := Valid_eq f (by omega)
  rw [h] at hv
  unfold okF at h
  rw [decide_eq_true_iff, hl] at h
  refine Ev.congr (fun k => by rw [bloom_May.f, wrap64_id (x := (f.size : Int) - 1) (by omega), wrap64_id (x := ((f.size : Int) - 1) * 8) (by omega), bt_last f (by omega), wrap64_id (x := last (bytesOf f)) (by omega)]) (ev_call hv ?_)
  refine ev_pos rfl (ev_pos (by omega) (ev_pos (by omega) ?_))
  have hpl := places_ev key hk (last (bytesOf f)).toNat (by omega) (n := ((f.size : Int) - 1) * 8) (by omega)
  rw [show (((last (bytesOf f)).toNat : Nat) : Int) = last (bytesOf f) from by omega] at hpl
  refine Ev.bind hpl ?_
  have hr := pls_range key (last (bytesOf f)).toNat (n := ((f.size : Int) - 1) * 8) (by omega)
  have := May_l0 f _ (fun p hp => by have := hr p hp; omega) (by omega) (by rw [pls_len]; omega) (pls key (last (bytesOf f)).toNat (((f.size : Int) - 1) * 8)).length 0 (by omega)
  rw [List.drop_zero] at this
  exact this
theorem May_any (f key : ByteArray) (hs : f.size ≤ 1000000000) (h : okF (bytesOf f) = false) : Ev (fun k => bloom_May.f k f key) true := by
  have hv := Valid_eq f (by omega)
  rw [h] at hv
  refine Ev.congr (fun k => by rw [bloom_May.f]) (ev_call hv ?_)
  exact ev_neg (by simp) (ev_const rfl)

/-! ### what Make lays, May tells -/
section
variable {q : Nat} {n : Int} {keys : List ByteArray}
theorem mk_len (_ : 8 ≤ n) : (mk q n keys).length = (n / 8).toNat + 1 := by simp [mk, sbs_len]
theorem zeros_ok (m : Nat) : ok8 (List.replicate m 0) := fun x hx => by rw [List.eq_of_mem_replicate hx]; omega
theorem mk_ok (hq : q ≤ 20) : ok8 (mk q n keys) := by
  intro x hx
  rcases List.mem_or_eq_of_mem_set hx with hx | rfl
  · exact sbs_ok _ (zeros_ok _) x hx
  · omega
theorem mk_last (hn : 8 ≤ n) : last (mk q n keys) = q := by
  unfold last
  have hlen := mk_len (q := q) (keys := keys) hn
  rw [List.getLastD_eq_getLast?, List.getLast?_eq_getElem?, hlen]
  simp only [mk]
  rw [show (n / 8).toNat + 1 - 1 = (n / 8).toNat from by omega, List.getElem?_set_self (by simp [sbs_len])]
  rfl
theorem mk_okF (hn : 8 ≤ n) (hq : 1 ≤ q ∧ q ≤ 20) : okF (mk q n keys) = true := by
  unfold okF
  rw [mk_last hn, mk_len hn, decide_eq_true_iff]
  omega
theorem mk_tb (hn : 8 ≤ n ∧ n % 8 = 0) {p : Int} (hp : 0 ≤ p ∧ p < n) : tb (mk q n keys) p = (keys.flatMap fun s => pls s q n).contains p := by
  have e : tb (mk q n keys) p = tb (sbs (List.replicate ((n / 8).toNat + 1) 0) (keys.flatMap fun s => pls s q n)) p := by
    unfold tb mk
    have := rd_set (sbs (List.replicate ((n / 8).toNat + 1) 0) (keys.flatMap fun s => pls s q n)) (n / 8) (p / 8) (q : Int) (by omega) (by omega) (by rw [sbs_len, List.length_replicate]; omega)
    rw [this, if_neg (by omega)]
  rw [e, tb_sbs _ (zeros_ok _) hp.1]
  · have : tb (List.replicate ((n / 8).toNat + 1) 0) p = false := by
      unfold tb
      have h0 : rd (List.replicate ((n / 8).toNat + 1) 0) (p / 8) = 0 := by
        unfold rd
        rw [List.getD_eq_getElem?_getD, List.getElem?_replicate]
        split <;> rfl
      rw [h0]
      have := T_zero ⟨(p % 8).toNat, by omega⟩
      simpa [show (((p % 8).toNat : Nat) : Int) = p % 8 from by omega] using this
    rw [this, Bool.false_or]
  · intro x hx
    obtain ⟨s, _, hs⟩ := List.mem_flatMap.1 hx
    have := pls_range s q (n := n) (by omega) x hs
    rw [List.length_replicate]
    omega
theorem May_mk (hn : 8 ≤ n ∧ n % 8 = 0 ∧ n ≤ 1000000) (hq : 1 ≤ q ∧ q ≤ 20) (key : ByteArray) (hk : key.size ≤ 9223372036854775806) :
    Ev (fun k => bloom_May.f k (strOfNums (mk q n keys)) key) ((pls key q n).all fun p => (keys.flatMap fun s => pls s q n).contains p) := by
  have hsz : (strOfNums (mk q n keys)).size = (n / 8).toNat + 1 := by rw [S_size, mk_len hn.1]
  have := May_yes (strOfNums (mk q n keys)) key (by omega) hk (by rw [of_S (mk_ok hq.2)]; exact mk_okF hn.1 hq)
  rw [of_S (mk_ok hq.2), mk_last hn.1, hsz, show (((n / 8).toNat + 1 : Nat) : Int) - 1 = n / 8 from by omega, show n / 8 * 8 = n from by omega, Int.toNat_natCast] at this
  have e : (pls key q n).all (tb (mk q n keys)) = (pls key q n).all fun p => (keys.flatMap fun s => pls s q n).contains p := by
    rw [Bool.eq_iff_iff, List.all_eq_true, List.all_eq_true]
    have hr := pls_range key q (n := n) (by omega)
    exact ⟨fun h p hp => by rw [← mk_tb ⟨hn.1, hn.2.1⟩ (hr p hp)]; exact h p hp, fun h p hp => by rw [mk_tb ⟨hn.1, hn.2.1⟩ (hr p hp)]; exact h p hp⟩
  rw [e] at this
  exact this
theorem May_has (hn : 8 ≤ n ∧ n % 8 = 0 ∧ n ≤ 1000000) (hq : 1 ≤ q ∧ q ≤ 20) {key : ByteArray} (hk : key.size ≤ 9223372036854775806) (hin : key ∈ keys) :
    Ev (fun k => bloom_May.f k (strOfNums (mk q n keys)) key) true := by
  have := May_mk (keys := keys) hn hq key hk
  have e : ((pls key q n).all fun p => (keys.flatMap fun s => pls s q n).contains p) = true := by
    rw [List.all_eq_true]
    intro p hp
    rw [List.contains_iff_mem]
    exact List.mem_flatMap.2 ⟨key, hin, hp⟩
  rwa [e] at this
theorem May_none (hn : 8 ≤ n ∧ n % 8 = 0 ∧ n ≤ 1000000) (hq : 1 ≤ q ∧ q ≤ 20) (key : ByteArray) (hk : key.size ≤ 9223372036854775806) :
    Ev (fun k => bloom_May.f k (strOfNums (mk q n [])) key) false := by
  have := May_mk (keys := []) hn hq key hk
  have e : ((pls key q n).all fun p => (([] : List ByteArray).flatMap fun s => pls s q n).contains p) = false := by
    rw [List.flatMap_nil]
    obtain ⟨m, rfl⟩ : ∃ m, q = m + 1 := ⟨q - 1, by omega⟩
    unfold pls
    rw [List.range_succ_eq_map]
    rfl
  rwa [e] at this
end
end Go.Proofs.Ytmfnnialhegjmaa.PuBlm
