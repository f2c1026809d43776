/- Words for lists that are kept: rows of flat elements in blocks that may be written, what an append and a store leave of them. -/
import Derived.Test.YtchgpcgolgcfdaaWWords
import Derived.Test.YtchgpcgolgcfdaaWMore
import Derived.Test.YtchgpcgolgcfdaaWLast
import Derived.ArgAppend
import Derived.Maps.AppendAt
namespace Go.Proofs.Ytchgpcgolgcfdaa.BkW
open Go Go.RowKit Go.Proofs.YtchgpcgolgcfdaaW.PrintWords Go.Proofs.YtchgpcgolgcfdaaW.PrintLast Go.Proofs.YtchgpcgolgcfdaaW.PrintMore
set_option linter.unusedVariables false
/-- What a slice value reads: elements of sz cells each, type e, in a block that may be written; it may begin inside its block and end ahead of the block's end. -/
def Rw (w : World) (e : TypeId) (sz : Nat) (v : Value) (n : Nat) (cs : List Value) : Prop :=
  cs.length = n * sz ∧ ((v = .slice none 0 0 ∧ n = 0) ∨ ∃ g o c cur, v = .slice (some ⟨g, o, none⟩) n c ∧ w.heap[g]? = some (.cells cur e (0, 0)) ∧ n ≤ c ∧ c ≤ maxLen ∧ o + c * sz ≤ cur.size ∧ (cur.toList.drop o).take (n * sz) = cs)
section
variable {w w1 : World} {e : TypeId} {sz n base : Nat} {v : Value} {cs : List Value}
theorem Rw.of_own (h : w.ownsRow base e sz v n cs) : Rw w e sz v n cs := by
  obtain ⟨h1, h2⟩ := h
  refine ⟨h1, ?_⟩
  rcases h2 with h2 | ⟨g, cap, cur, rfl, hb, hh, hnc, hcm, hcs, ht⟩
  · exact .inl h2
  · exact .inr ⟨g, 0, cap, cur, rfl, hh, hnc, hcm, by omega, by rw [List.drop_zero]; exact ht⟩
theorem Rw.nil (w : World) (e : TypeId) (sz : Nat) : Rw w e sz (.slice none 0 0) 0 [] := ⟨by simp, .inl ⟨rfl, rfl⟩⟩
theorem Rw.move (h : Rw w e sz v n cs) (hm : ∀ k, v.ownBlock = some k → w1.heap[k]? = w.heap[k]?) : Rw w1 e sz v n cs := by
  obtain ⟨h1, h2⟩ := h
  refine ⟨h1, ?_⟩
  rcases h2 with h2 | ⟨g, o, c, cur, rfl, hh, r⟩
  · exact .inl h2
  · exact .inr ⟨g, o, c, cur, rfl, (hm g (by simp [Value.ownBlock])).trans hh, r⟩
theorem Rw.typed (h : Rw w e sz v n cs) (k : Nat) (hk : v.ownBlock = some k) : ∃ cur, w.heap[k]? = some (.cells cur e (0, 0)) := by
  rcases h.2 with ⟨rfl, _⟩ | ⟨g, o, c, cur, rfl, hh, r⟩
  · simp [Value.ownBlock] at hk
  · have : g = k := by simpa [Value.ownBlock] using hk
    subst this
    exact ⟨cur, hh⟩
theorem Rw.lt (h : Rw w e sz v n cs) (k : Nat) (hk : v.ownBlock = some k) : k < w.heap.size := by
  obtain ⟨cur, hc⟩ := h.typed k hk
  exact blk_lt hc
theorem Rw.below (h : Rw w e sz v n cs) (hb : Below w.heap.size w w1) : Rw w1 e sz v n cs := h.move (fun k hk => hb.block k (h.lt k hk))
theorem Rw.grown (h : Rw w e sz v n cs) {row : Option Nat} (hg : w.grownBy w1 row) (hne : v.ownBlock = none ∨ v.ownBlock ≠ row) : Rw w1 e sz v n cs := h.move (fun k hk => hg.block k (h.lt k hk) (by
  intro e
  rcases hne with h2 | h2
  · rw [h2] at hk; cases hk
  · exact h2 (hk.trans e)))
theorem Rw.slice (h : Rw w e sz v n cs) : ∃ A c, v = .slice A n c ∧ n ≤ c := by
  rcases h.2 with ⟨rfl, rfl⟩ | ⟨g, o, c, cur, rfl, hh, hnc, r⟩
  · exact ⟨none, 0, rfl, Nat.le_refl _⟩
  · exact ⟨_, c, rfl, hnc⟩
theorem Rw.form (h : Rw w e sz v n cs) (hn : 0 < n) : ∃ g o c, v = .slice (some ⟨g, o, none⟩) n c ∧ n ≤ c ∧ (∀ j, w.frozen? ⟨g, j, none⟩ = false) ∧ ∀ j u, cs[j]? = some u → w.cell? ⟨g, o + j, none⟩ = some u := by
  rcases h.2 with ⟨rfl, rfl⟩ | ⟨g, o, c, cur, rfl, hh, hnc, hcm, hcs, ht⟩
  · omega
  · refine ⟨g, o, c, rfl, hnc, fun j => blk_frozen hh j, fun j u hu => ?_⟩
    rw [cell_of_row w g _ cur e (0, 0) hh, ← Array.getElem?_toList]
    rw [← ht, List.getElem?_take] at hu
    split at hu
    · rw [List.getElem?_drop] at hu
      exact hu
    · cases hu
theorem Rw.take {A : Option Addr} {m c : Nat} (h : Rw w e sz (.slice A n c) n cs) (hm : m ≤ n) : Rw w e sz (.slice A m c) m (cs.take (m * sz)) := by
  have hle : m * sz ≤ n * sz := Nat.mul_le_mul_right _ hm
  refine ⟨by rw [List.length_take, h.1]; omega, ?_⟩
  rcases h.2 with ⟨h2, h3⟩ | ⟨g, o, c', cur, h2, hh, hnc, hcm, hcs, ht⟩
  · left
    injection h2 with h4 h5 h6
    subst h4; subst h6; subst h5
    obtain rfl : m = 0 := by omega
    exact ⟨rfl, rfl⟩
  · right
    injection h2 with h4 h5 h6
    subst h4; subst h6
    exact ⟨g, o, c, cur, rfl, hh, by omega, hcm, hcs, by rw [← ht, List.take_take, Nat.min_eq_left hle]⟩
/-- A row that is cut to its length, room and all. -/
theorem Rw.clip {A : Option Addr} {m c : Nat} (h : Rw w e sz (.slice A n c) n cs) (hm : m ≤ n) : Rw w e sz (.slice A m m) m (cs.take (m * sz)) := by
  have hle : m * sz ≤ n * sz := Nat.mul_le_mul_right _ hm
  refine ⟨by rw [List.length_take, h.1]; omega, ?_⟩
  rcases h.2 with ⟨h2, h3⟩ | ⟨g, o, c', cur, h2, hh, hnc, hcm, hcs, ht⟩
  · left
    injection h2 with h4 h5 h6
    subst h4; subst h6; subst h5
    obtain rfl : m = 0 := by omega
    exact ⟨rfl, rfl⟩
  · right
    injection h2 with h4 h5 h6
    subst h4; subst h6
    have : m * sz ≤ c * sz := Nat.mul_le_mul_right _ (by omega)
    exact ⟨g, o, m, cur, rfl, hh, by omega, by omega, by omega, by rw [← ht, List.take_take, Nat.min_eq_left hle]⟩
theorem Rw.max (h : Rw w e sz v n cs) : n ≤ 9223372036854775807 := by
  rcases h.2 with ⟨rfl, rfl⟩ | ⟨g, o, c, cur, rfl, hh, hnc, hcm, r⟩
  · omega
  · unfold maxLen at hcm; omega
/-- A run of cells is written inside the row. -/
theorem Rw.put {g o c : Nat} (h : Rw w e sz (.slice (some ⟨g, o, none⟩) n c) n cs) {p : Nat} {seg : List Value} (hp : p + seg.length ≤ cs.length) :
    Rw (w.setCells g (o + p) seg) e sz (.slice (some ⟨g, o, none⟩) n c) n (cs.take p ++ seg ++ cs.drop (p + seg.length)) := by
  obtain ⟨h1, h2⟩ := h
  rcases h2 with ⟨h2, _⟩ | ⟨g', o', c', cur, h2, hh, hnc, hcm, hcs, ht⟩
  · cases h2
  injection h2 with ha _ hc
  injection ha with ha
  injection ha with hg ho
  subst hg; subst ho; subst hc
  have hle : n * sz ≤ c * sz := Nat.mul_le_mul_right _ hnc
  have hcl : cur.toList.length = cur.size := Array.length_toList
  have hfit : o + p + seg.length ≤ cur.toList.length := by omega
  obtain ⟨cur', h3, h4, h5⟩ := setCells_row seg (o + p) w cur hh (by omega)
  refine ⟨by simp only [List.length_append, List.length_take, List.length_drop]; omega, .inr ⟨g, o, c, cur', rfl, h3, hnc, hcm, by rw [h4]; exact hcs, ?_⟩⟩
  apply List.ext_getElem?
  intro q
  rw [h5, List.getElem?_take, List.getElem?_drop, seg_get cur.toList seg (o + p) hfit (o + q), seg_get cs seg p (by omega) q]
  have hat : ∀ q, q < n * sz → cur.toList[o + q]? = cs[q]? := fun q hq => by rw [← ht, List.getElem?_take, if_pos hq, List.getElem?_drop]
  by_cases hq : q < n * sz
  · rw [if_pos hq]
    by_cases hq1 : q < p
    · rw [if_pos (by omega), if_pos hq1, hat q hq]
    · rw [if_neg (by omega), if_neg hq1]
      by_cases hq2 : q < p + seg.length
      · rw [if_pos (by omega), if_pos hq2]
        congr 1
        omega
      · rw [if_neg (by omega), if_neg hq2, hat q hq]
  · rw [if_neg hq, if_neg (by omega), if_neg (by omega), List.getElem?_eq_none (by omega)]
end
section
variable {P : Program}
/-- append(v, x...): v reads as it did besides. -/
theorem Rw.append (w : World) (t ty e : TypeId) (i : TypeInfo) (z : Value) (size bytes : Nat) (ht : P.underlying t = some (.slice e)) (hi : P.info? e = some i) (hz : i.zero = some z)
    (hsize : i.size = size) (hby : i.bytes = bytes) (hzs : z.cells.size = size) (hsz : 0 < size)
    (v : Value) (n : Nat) (xs : List Value) (hown : Rw w e size v n xs)
    (a : Addr) (m c : Nat) (news : List Value) (hl : news.length = m * size) (hnews : ∀ j u, news[j]? = some u → w.cell? (a.add j) = some u) (h1 : ∀ u ∈ news, u.oneCell' = true) (hm : 0 < m)
    (h63 : n + m ≤ maxLen) (hbytes : (n + m) * bytes ≤ 140737488355328) :
    ∃ v' w', (Builtin.append_ #[t, t] ty #[v, .slice (some a) m c]).run P w = .ok v' w' ∧ Rw w' e size v' (n + m) (xs ++ news) ∧ Rw w' e size v n xs ∧ w.grownBy w' v.ownBlock ∧ ((∃ A c', v = .slice A n c' ∧ v' = .slice A (n + m) c') ∨ ∃ b, v'.ownBlock = some b ∧ w.heap.size ≤ b) := by
  rcases hown.2 with ⟨hv, h0⟩ | ⟨g, o, cap, cur, hv, hg, hnc, hcm, hcs, htake⟩
  · have ho : w.ownsRow 0 e size v n xs := ⟨hown.1, .inl ⟨hv, h0⟩⟩
    obtain ⟨v', w', hr, ho', hgr, _, hat⟩ := run_append_own_at (P := P) w 0 t ty e i z size bytes ht hi hz hsize hby hzs hsz v n xs ho a m c news hl hnews h1 h63 hbytes (Nat.zero_le _)
    refine ⟨v', w', hr, Rw.of_own ho', hown.move (fun k hk => by rw [hv] at hk; simp [Value.ownBlock] at hk), hgr, ?_⟩
    obtain ⟨g', cap', he, hb, _⟩ := ho'.form (by omega)
    rcases hat with hat | hat
    · rw [hv, he] at hat
      simp [Value.ownBlock] at hat
    · exact .inr ⟨_, hat, Nat.le_refl _⟩
  · by_cases hroom : n + m ≤ cap
    · have hfit : o + n * size + news.length ≤ cur.size := by
        have : (n + m) * size ≤ cap * size := Nat.mul_le_mul_right _ hroom
        rw [hl]
        rw [Nat.add_mul] at this
        omega
      subst hsize
      have hr := run_append_room_cells (P := P) (w := w) t ty e i ht hi g o n cap a m c news hl hnews h1 hroom
        (fun j hj => by rw [cell_of_row w g _ cur e (0, 0) hg]; simp; omega) (fun j _ => blk_frozen hg _)
      obtain ⟨cur', h3, h4, h5⟩ := setCells_row news (o + n * i.size) w cur hg hfit
      obtain ⟨s1, s2, s3, s4⟩ := setCells_same g news (o + n * i.size) w
      have hxs : (cur'.toList.drop o).take ((n + m) * i.size) = xs ++ news := by
        rw [h5, List.append_assoc, List.drop_append_of_le_length (by rw [List.length_take, Array.length_toList]; omega), List.drop_take]
        rw [show o + n * i.size - o = n * i.size by omega, htake]
        rw [← List.append_assoc]
        exact List.take_left' (by rw [List.length_append, hown.1, hl, Nat.add_mul])
      refine ⟨_, _, by rw [hv]; exact hr, ⟨by rw [List.length_append, hown.1, hl, Nat.add_mul], .inr ⟨g, o, cap, cur', rfl, h3, hroom, hcm, by rw [h4]; exact hcs, hxs⟩⟩,
        ⟨hown.1, .inr ⟨g, o, cap, cur', hv, h3, hnc, hcm, by rw [h4]; exact hcs, ?_⟩⟩,
        ⟨s1, s2, s3, by rw [s4]; exact Nat.le_refl _, fun k _ hk => setCells_far news _ k (fun he => hk (by rw [hv, he]; simp [Value.ownBlock]))⟩, .inl ⟨_, cap, hv, rfl⟩⟩
      have h6 := congrArg (List.take (n * i.size)) hxs
      rw [List.take_take, Nat.min_eq_left (by rw [Nat.add_mul]; omega)] at h6
      rw [h6]
      exact List.take_left' hown.1
    · obtain ⟨v', w', hr, ho, hgr⟩ := run_append_arg_grows (P := P) (w := w) t ty e i z size bytes ht hi hz hsize hby hzs hsz ⟨g, o, none⟩ n cap xs hown.1 (fun j u hu => by
        rw [add_at, cell_of_row w g _ cur e (0, 0) hg]
        rw [← htake, List.getElem?_take] at hu
        split at hu
        · rw [List.getElem?_drop] at hu
          rw [← Array.getElem?_toList]
          exact hu
        · cases hu) a m c news hl hnews (by omega) h63 hbytes
      refine ⟨v', w', by rw [hv]; exact hr, Rw.of_own ho, hown.move (fun k hk => hgr.block k (hown.lt k hk) (by simp)), ⟨hgr.os, hgr.tape, hgr.output, hgr.size, fun k hk _ => hgr.block k hk (by simp)⟩, ?_⟩
      obtain ⟨g', cap', he, hb, _⟩ := ho.form (by omega)
      exact .inr ⟨g', by rw [he]; simp [Value.ownBlock], hb⟩
end
section
variable {P : Program}
/-- The same, where nothing may be added. -/
theorem Rw.append_any (w : World) (t ty e : TypeId) (i : TypeInfo) (z : Value) (size bytes : Nat) (ht : P.underlying t = some (.slice e)) (hi : P.info? e = some i) (hz : i.zero = some z)
    (hsize : i.size = size) (hby : i.bytes = bytes) (hzs : z.cells.size = size) (hsz : 0 < size)
    (v : Value) (n : Nat) (xs : List Value) (hown : Rw w e size v n xs)
    (A : Option Addr) (m c : Nat) (news : List Value) (hl : news.length = m * size) (hnews : 0 < m → ∃ a, A = some a ∧ ∀ j u, news[j]? = some u → w.cell? (a.add j) = some u) (h1 : ∀ u ∈ news, u.oneCell' = true)
    (h63 : n + m ≤ maxLen) (hbytes : (n + m) * bytes ≤ 140737488355328) :
    ∃ v' w', (Builtin.append_ #[t, t] ty #[v, .slice A m c]).run P w = .ok v' w' ∧ Rw w' e size v' (n + m) (xs ++ news) ∧ Rw w' e size v n xs ∧ w.grownBy w' v.ownBlock ∧ ((∃ A c', v = .slice A n c' ∧ v' = .slice A (n + m) c') ∨ ∃ b, v'.ownBlock = some b ∧ w.heap.size ≤ b) := by
  rcases Nat.eq_zero_or_pos m with h0 | h0
  · subst h0
    obtain rfl : news = [] := List.eq_nil_of_length_eq_zero (by rw [hl, Nat.zero_mul])
    rcases A with _ | ad
    · refine ⟨v, w, ?_, by rw [List.append_nil]; exact hown, hown, World.grownBy.refl w _, ?_⟩
      · rcases hown.2 with ⟨rfl, rfl⟩ | ⟨g, o, cap, cur, rfl, _, hnc, _⟩
        · simp [Builtin.append_, run_underlying ht, sizeOf, typeInfo, hi, Builtin.lenOf, Builtin.firstCells]
        · simp [Builtin.append_, run_underlying ht, sizeOf, typeInfo, hi, Builtin.lenOf, Builtin.firstCells, hnc, storeCells]
      · obtain ⟨A', c', e', _⟩ := hown.slice
        exact .inl ⟨A', c', e', e'⟩
    · rcases hown.2 with ⟨hv, hn0⟩ | ⟨g, o, cap, cur, hv, hg, hnc, hcm, hcs, htake⟩
      · have ho : w.ownsRow 0 e size v n xs := ⟨hown.1, .inl ⟨hv, hn0⟩⟩
        obtain ⟨v', w', hr, ho', hgr, hiff, hat⟩ := run_append_own_at (P := P) w 0 t ty e i z size bytes ht hi hz hsize hby hzs hsz v n xs ho ad 0 c [] (by simp) (fun j u hu => by simp at hu) h1 h63 hbytes (Nat.zero_le _)
        have hv' := hiff.2 ⟨hv, rfl⟩
        refine ⟨v', w', hr, Rw.of_own ho', hown.move (fun k hk => by rw [hv] at hk; simp [Value.ownBlock] at hk), hgr, .inl ⟨none, 0, by rw [hv, hn0], by rw [hv', hn0]⟩⟩
      · subst hsize
        have hr := run_append_room_cells (P := P) (w := w) t ty e i ht hi g o n cap ad 0 c [] (by simp) (fun j u hu => by simp at hu) h1 hnc (fun j hj => by simp at hj) (fun j hj => by simp at hj)
        refine ⟨_, _, by rw [hv]; exact hr, by rw [List.append_nil]; show Rw w e i.size (.slice (some ⟨g, o, none⟩) n cap) n xs; rw [← hv]; exact hown, hown, World.grownBy.refl w _, .inl ⟨_, cap, hv, rfl⟩⟩
  · obtain ⟨a, rfl, hc⟩ := hnews h0
    exact Rw.append w t ty e i z size bytes ht hi hz hsize hby hzs hsz v n xs hown a m c news hl hc h1 h0 h63 hbytes
end
/-! ### flat kinds -/
/-- Each element is told by its cells alone. -/
structure Flat {α : Type} (d : Kd α) (enc : α → List Value) : Prop where
  len : ∀ x, (enc x).length = d.sz
  Mo : ∀ {w base ok x cs}, d.M w base ok x cs → cs = enc x
  Km : ∀ w x, d.K w x (enc x)
  Ko : ∀ {w x cs}, d.K w x cs → cs = enc x
section
variable {α : Type} {d : Kd α} {enc : α → List Value} {w W : World} {base e : Nat} {ok : Nat → Prop} {v : Value} {xs : List α}
def encL (enc : α → List Value) (xs : List α) : List Value := xs.flatMap enc
theorem encL_append (xs ys : List α) : encL enc (xs ++ ys) = encL enc xs ++ encL enc ys := by simp [encL]
theorem Flat.lenL (h : Flat d enc) (xs : List α) : (encL enc xs).length = xs.length * d.sz := by
  induction xs with
  | nil => simp [encL]
  | cons x r ih =>
    have : encL enc (x :: r) = enc x ++ encL enc r := rfl
    rw [this, List.length_append, ih, h.len, List.length_cons, Nat.succ_mul]
    omega
theorem Flat.at_ (h : Flat d enc) : ∀ (xs : List α) (j : Nat) (x : α), xs[j]? = some x → ((encL enc xs).drop (j * d.sz)).take d.sz = enc x
  | [], j, x, hj => by simp at hj
  | y :: r, 0, x, hj => by
    have hy : y = x := by simpa using hj
    subst hy
    have : encL enc (y :: r) = enc y ++ encL enc r := rfl
    rw [this, Nat.zero_mul, List.drop_zero]
    exact List.take_left' (h.len y)
  | y :: r, j + 1, x, hj => by
    have hj' : r[j]? = some x := by simpa using hj
    have : encL enc (y :: r) = enc y ++ encL enc r := rfl
    rw [this, Nat.succ_mul, ← h.at_ r j x hj']
    rw [List.drop_append, List.drop_eq_nil_of_le (by rw [h.len]; omega), h.len, List.nil_append]
    congr 2
    omega
theorem Flat.cell (h : Flat d enc) {xs : List α} {j : Nat} {x : α} (hj : xs[j]? = some x) {i : Nat} {u : Value} (hu : (enc x)[i]? = some u) : (encL enc xs)[j * d.sz + i]? = some u := by
  rw [← h.at_ xs j x hj, List.getElem?_take] at hu
  split at hu
  · rw [List.getElem?_drop] at hu
    exact hu
  · cases hu
theorem Flat.set (h : Flat d enc) : ∀ (xs : List α) (j : Nat) (x : α), j < xs.length → (encL enc xs).take (j * d.sz) ++ enc x ++ (encL enc xs).drop (j * d.sz + (enc x).length) = encL enc (xs.set j x)
  | [], j, x, hj => by simp at hj
  | y :: r, 0, x, _ => by
    have : encL enc (y :: r) = enc y ++ encL enc r := rfl
    rw [this, Nat.zero_mul, List.take_zero, List.nil_append, Nat.zero_add, List.drop_left' (by rw [h.len, h.len])]
    rfl
  | y :: r, j + 1, x, hj => by
    have : encL enc (y :: r) = enc y ++ encL enc r := rfl
    have h2 := h.set r j x (by simpa using hj)
    have e1 : (j + 1) * d.sz = (enc y).length + j * d.sz := by rw [h.len, Nat.succ_mul]; omega
    rw [this, e1, List.take_append, List.drop_append, List.take_of_length_le (by omega), List.drop_eq_nil_of_le (by omega)]
    rw [show (enc y).length + j * d.sz - (enc y).length = j * d.sz from by omega, show (enc y).length + j * d.sz + (enc x).length - (enc y).length = j * d.sz + (enc x).length from by omega]
    rw [List.nil_append, List.append_assoc, List.append_assoc, ← List.append_assoc ((encL enc r).take _), h2]
    rfl
theorem Flat.reps (h : Flat d enc) {inner : List Value} (hr : Reps (d.M w base ok) d.sz xs inner) : inner = encL enc xs := by
  apply List.ext_getElem?
  intro q
  have hl := h.lenL xs
  by_cases hs : d.sz = 0
  · have h1 : inner = [] := List.eq_nil_of_length_eq_zero (by rw [hr.1, hs, Nat.mul_zero])
    have h2 : encL enc xs = [] := List.eq_nil_of_length_eq_zero (by rw [hl, hs, Nat.mul_zero])
    rw [h1, h2]
  · by_cases hq : q < xs.length * d.sz
    · have hj : q / d.sz < xs.length := Nat.div_lt_of_lt_mul (by rw [Nat.mul_comm]; exact hq)
      have h2 := h.Mo (hr.2 (q / d.sz) _ (List.getElem?_eq_getElem hj))
      have h3 := h.at_ xs (q / d.sz) _ (List.getElem?_eq_getElem hj)
      have h4 := h2.trans h3.symm
      have hm : q % d.sz < d.sz := Nat.mod_lt _ (by omega)
      have he : q / d.sz * d.sz + q % d.sz = q := by rw [Nat.mul_comm]; exact Nat.div_add_mod q d.sz
      have h5 := congrArg (fun l => l[q % d.sz]?) h4
      simp only [List.getElem?_take, if_pos hm, List.getElem?_drop, he] at h5
      exact h5
    · rw [List.getElem?_eq_none (by rw [hr.1]; omega), List.getElem?_eq_none (by rw [hl]; omega)]
/-- A row of the call's own. -/
theorem Flat.of_R (h : Flat d enc) (hR : d.R e w base ok v xs) : Rw w e d.sz v xs.length (encL enc xs) := by
  obtain ⟨_, inner, ho, hr⟩ := hR
  rw [← h.reps hr]
  exact Rw.of_own ho
theorem Flat.to_C (h : Flat d enc) {A : Option Addr} {n c : Nat} (hw : Rw w e d.sz (.slice A n c) n (encL enc xs)) (hn : xs.length = n) : d.C w A n xs := by
  refine ⟨hn, hw.max, fun h0 => ?_⟩
  obtain ⟨g, o, c', he, _, _, hc⟩ := hw.form h0
  injection he with he
  subst he
  refine ⟨_, rfl, fun j p hj => ⟨enc p, h.len p, h.Km w p, fun i u hu => ?_⟩⟩
  rw [add_at]
  exact hc _ u (h.cell hj hu)
theorem Flat.news (h : Flat d enc) {A : Option Addr} {n : Nat} (hC : d.C w A n xs) (h0 : 0 < n) : ∃ a, A = some a ∧ ∀ j u, (encL enc xs)[j]? = some u → w.cell? (a.add j) = some u := by
  obtain ⟨ad, rfl, hc⟩ := hC.2.2 h0
  refine ⟨ad, rfl, fun q u hu => ?_⟩
  have hl := h.lenL xs
  have hq : q < xs.length * d.sz := by rw [← hl]; exact (List.getElem?_eq_some_iff.1 hu).1
  have hs : 0 < d.sz := Nat.pos_of_ne_zero (fun z => by rw [z, Nat.mul_zero] at hq; omega)
  have hj : q / d.sz < xs.length := Nat.div_lt_of_lt_mul (by rw [Nat.mul_comm]; exact hq)
  obtain ⟨c, _, hK, hcell⟩ := hc (q / d.sz) _ (List.getElem?_eq_getElem hj)
  have he : q / d.sz * d.sz + q % d.sz = q := by rw [Nat.mul_comm]; exact Nat.div_add_mod q d.sz
  rw [← he]
  refine hcell _ u ?_
  rw [h.Ko hK, ← h.at_ xs _ _ (List.getElem?_eq_getElem hj), List.getElem?_take, if_pos (Nat.mod_lt _ hs), List.getElem?_drop, he]
  exact hu
theorem Flat.one (h : Flat d enc) (w : World) : ∀ u ∈ encL enc xs, u.oneCell' = true := by
  intro u hu
  obtain ⟨x, _, hx⟩ := List.mem_flatMap.1 hu
  exact d.K_one (h.Km w x) u hx
end
section
variable {P : Program} {ops : Array Oper} {rest : List Oper} {o : Oper} {a : Act} {Q : Exit → Act → World → Prop} {α : Type} {d : Kd α} {enc : α → List Value}
/-- append(v, ys...) behind 'at_builtin'. -/
theorem wp_append_rw (hf : Flat d enc) {W : World} (hgd : o.guard = none) (s x : Operand) (t e : TypeId) (z : Value) (bytes : Nat)
    (ho : o.op = .call { callee := .builtin .append, args := #[s, x], argTypes := #[t, t] })
    (ht : P.underlying t = some (.slice e)) (hinfo : (P.info? e).map (fun i => (i.zero, i.size, i.bytes)) = some (some z, d.sz, bytes)) (hz : z.cells.size = d.sz) (hs0 : 0 < d.sz)
    (v : Value) (xs ys : List α) (A : Option Addr) (m c : Nat) (hs : a.eval s = v) (hx : a.eval x = .slice A m c) (HO : Rw W e d.sz v xs.length (encL enc xs)) (HR : d.C W A m ys) (hm : 0 < m)
    (hl : (xs.length + m) * bytes ≤ 140737488355328) (hl2 : xs.length + m ≤ maxLen)
    (h : ∀ v1 w1, Rw w1 e d.sz v1 (xs ++ ys).length (encL enc (xs ++ ys)) → Rw w1 e d.sz v xs.length (encL enc xs) → W.grownBy w1 v.ownBlock → ((∃ A' c', v = .slice A' xs.length c' ∧ v1 = .slice A' (xs.length + m) c') ∨ ∃ b, v1.ownBlock = some b ∧ W.heap.size ≤ b) → wpList P ops Q rest (a.put o.dst v1) w1) :
    wpList P ops Q (o :: rest) a W := by
  obtain ⟨i0, hi, hzz⟩ := Option.map_eq_some_iff.1 hinfo
  simp only [Prod.mk.injEq] at hzz
  obtain ⟨hz0, hz1, hz2⟩ := hzz
  have hn : ys.length = m := HR.1
  obtain ⟨ad, rfl, hnews⟩ := hf.news HR hm
  obtain ⟨v1, w1, hr, h1, h2, h3, h4⟩ := Rw.append (P := P) W t o.type e i0 z d.sz bytes ht hi hz0 hz1 hz2 hz hs0 v xs.length _ HO ad m c (encL enc ys) (by rw [hf.lenL, hn]) hnews (hf.one W) hm hl2 hl
  refine wpList_plain hgd fun K hK => ?_
  unfold Oper.wp execOp
  simp only [ho, resolve, invoke, builtin, Sem.run_bind, Sem.run_pure, Result.andThen_ok, List.map_toArray, List.map_cons, List.map_nil, hs, hx, hr]
  exact hK _ _ (h v1 w1 (by rw [List.length_append, hn, encL_append]; exact h1) h2 h3 h4)
end
section
variable {P : Program} {ops : Array Oper} {o : Oper} {a : Act} {Q : Exit → Act → World → Prop} {Kc : Act → World → Prop} {α : Type} {d : Kd α} {enc : α → List Value}
/-- append(v, ys...) as one step of a region that draws its order; nothing may be added. -/
theorem step_append_rw (hf : Flat d enc) {W : World} (hw : Region.wanted o (yielded ops a.tmps) = true) (s x : Operand) (t e : TypeId) (z : Value) (bytes : Nat)
    (ho : o.op = .call { callee := .builtin .append, args := #[s, x], argTypes := #[t, t] })
    (ht : P.underlying t = some (.slice e)) (hinfo : (P.info? e).map (fun i => (i.zero, i.size, i.bytes)) = some (some z, d.sz, bytes)) (hz : z.cells.size = d.sz) (hs0 : 0 < d.sz)
    (v : Value) (xs ys : List α) (A : Option Addr) (m c : Nat) (hs : a.eval s = v) (hx : a.eval x = .slice A m c) (HO : Rw W e d.sz v xs.length (encL enc xs)) (HR : d.C W A m ys)
    (hl : (xs.length + m) * bytes ≤ 140737488355328) (hl2 : xs.length + m ≤ maxLen)
    (h : ∀ v1 w1, Rw w1 e d.sz v1 (xs ++ ys).length (encL enc (xs ++ ys)) → Rw w1 e d.sz v xs.length (encL enc xs) → W.grownBy w1 v.ownBlock → ((∃ A' c', v = .slice A' xs.length c' ∧ v1 = .slice A' (xs.length + m) c') ∨ ∃ b, v1.ownBlock = some b ∧ W.heap.size ≤ b) → Kc (a.put o.dst v1) w1) :
    if Region.wanted o (yielded ops a.tmps) = true then Oper.wp P o a W Kc Q else Kc (a.put o.dst undef) W := by
  obtain ⟨i0, hi, hzz⟩ := Option.map_eq_some_iff.1 hinfo
  simp only [Prod.mk.injEq] at hzz
  obtain ⟨hz0, hz1, hz2⟩ := hzz
  have hn : ys.length = m := HR.1
  obtain ⟨v1, w1, hr, h1, h2, h3, h4⟩ := Rw.append_any (P := P) W t o.type e i0 z d.sz bytes ht hi hz0 hz1 hz2 hz hs0 v xs.length _ HO A m c (encL enc ys) (by rw [hf.lenL, hn]) (fun h0 => hf.news HR h0) (hf.one W) hl2 hl
  rw [if_pos hw]
  unfold Oper.wp execOp
  simp only [ho, resolve, invoke, builtin, Sem.run_bind, Sem.run_pure, Result.andThen_ok, List.map_toArray, List.map_cons, List.map_nil, hs, hx, hr]
  exact h v1 w1 (by rw [List.length_append, hn, encL_append]; exact h1) h2 h3 h4
end
/-! ### what stays by its type -/
/-- Blocks of other types than these stay. -/
def Still (T : List TypeId) (w w1 : World) : Prop := ∀ k, k < w.heap.size → (∀ cur t, t ∈ T → w.heap[k]? ≠ some (.cells cur t (0, 0))) → w1.heap[k]? = w.heap[k]?
section
variable {T : List TypeId} {w w1 w2 : World}
theorem Still.refl (T : List TypeId) (w : World) : Still T w w := fun _ _ _ => rfl
theorem Still.trans (h : Still T w w1) (hs : w.heap.size ≤ w1.heap.size) (k : Still T w1 w2) : Still T w w2 := fun i hi hn => by
  have h1 := h i hi hn
  exact (k i (by omega) (fun cur t ht => by rw [h1]; exact hn cur t ht)).trans h1
theorem Still.of_below (h : Below w.heap.size w w1) : Still T w w1 := fun k hk _ => h.block k hk
theorem Still.below (h : Still T w w1) (hs : w.heap.size ≤ w1.heap.size) (hb : Below w1.heap.size w1 w2) : Still T w w2 := h.trans hs (Still.of_below hb)
theorem Still.of_grown {row : Option Nat} (h : w.grownBy w1 row) (hr : ∀ k, row = some k → ∃ cur t, t ∈ T ∧ w.heap[k]? = some (.cells cur t (0, 0))) : Still T w w1 := fun k hk hn => h.block k hk (fun e => by
  obtain ⟨cur, t, ht, hc⟩ := hr k e.symm
  exact hn cur t ht hc)
theorem Still.of_far {g : Nat} (h : ∀ k, k ≠ g → w1.heap[k]? = w.heap[k]?) (hg : ∃ cur t, t ∈ T ∧ w.heap[g]? = some (.cells cur t (0, 0))) : Still T w w1 := fun k hk hn => h k (fun e => by
  subst e
  obtain ⟨cur, t, ht, hc⟩ := hg
  exact hn cur t ht hc)
theorem Still.more {T' : List TypeId} (h : Still T w w1) (hT : ∀ t, t ∈ T → t ∈ T') : Still T' w w1 := fun k hk hn => h k hk (fun cur t ht => hn cur t (hT t ht))
theorem Still.blk (h : Still T w w1) {k : Nat} {cur : Array Value} {t : TypeId} (hk : w.heap[k]? = some (.cells cur t (0, 0))) (ht : t ∉ T) : w1.heap[k]? = some (.cells cur t (0, 0)) := (h k (blk_lt hk) (fun cur' t' ht' e => by
  rw [hk] at e
  injection e with e
  injection e with _ e
  exact ht (e ▸ ht'))).trans hk
theorem Still.own (h : Still T w w1) {base n sz : Nat} {e : TypeId} {v : Value} {xs : List Value} (ho : w.ownsRow base e sz v n xs) (ht : e ∉ T) : w1.ownsRow base e sz v n xs := own_move ho (fun k hk => by
  obtain ⟨cur, hc⟩ := own_typed ho k hk
  exact (h.blk hc ht).trans hc.symm)
theorem Still.rw_ (h : Still T w w1) {n sz : Nat} {e : TypeId} {v : Value} {xs : List Value} (ho : Rw w e sz v n xs) (ht : e ∉ T) : Rw w1 e sz v n xs := ho.move (fun k hk => by
  obtain ⟨cur, hc⟩ := ho.typed k hk
  exact (h.blk hc ht).trans hc.symm)
end
/-! ### lists that are kept -/
/-- In blocks of their own. -/
def ap (a b : Value) : Prop := ∀ k, a.ownBlock = some k → b.ownBlock ≠ some k
theorem ap.symm {a b : Value} (h : ap a b) : ap b a := fun k hb ha => h k ha hb
theorem ap.ne {a b : Value} (h : ap a b) : a.ownBlock = none ∨ a.ownBlock ≠ b.ownBlock := by
  cases e : a.ownBlock with
  | none => exact .inl rfl
  | some k => exact .inr (fun h2 => h k e h2.symm)
structure Ent (α : Type) where
  v : Value
  u : Value
  xs : List α
/-- p: the lists, each in memory of its own; q: their copies. tS: the type of a list, tE: of an element. -/
structure Kept {α : Type} (enc : α → List Value) (sz : Nat) (tS tE : TypeId) (w : World) (base : Nat) (p q : Value) (es : List (Ent α)) : Prop where
  rp : w.ownsRow base tS 1 p es.length (es.map (·.v))
  rq : w.ownsRow base tS 1 q es.length (es.map (·.u))
  el : ∀ x ∈ es, Rw w tE sz x.v x.xs.length (encL enc x.xs) ∧ Rw w tE sz x.u x.xs.length (encL enc x.xs) ∧ ∀ k, x.v.ownBlock = some k → base ≤ k
  dv : (es.map (·.v)).Pairwise ap
  dpq : ap p q
/-- One list more, its copy not yet. -/
structure Half {α : Type} (enc : α → List Value) (sz : Nat) (tS tE : TypeId) (w : World) (base : Nat) (p q : Value) (es : List (Ent α)) (v : Value) (xs : List α) : Prop where
  rp : w.ownsRow base tS 1 p (es.length + 1) (es.map (·.v) ++ [v])
  rq : w.ownsRow base tS 1 q es.length (es.map (·.u))
  el : ∀ x ∈ es, Rw w tE sz x.v x.xs.length (encL enc x.xs) ∧ Rw w tE sz x.u x.xs.length (encL enc x.xs) ∧ ∀ k, x.v.ownBlock = some k → base ≤ k
  ev : Rw w tE sz v xs.length (encL enc xs) ∧ ∀ k, v.ownBlock = some k → base ≤ k
  dv : (es.map (·.v) ++ [v]).Pairwise ap
  dpq : ap p q
section
variable {α : Type} {enc : α → List Value} {sz base : Nat} {tS tE : TypeId} {w w1 w2 : World} {p q p1 q1 v u : Value} {es : List (Ent α)} {xs : List α}
theorem Kept.none_ (enc : α → List Value) (sz : Nat) (tS tE : TypeId) (w : World) (base : Nat) : Kept enc sz tS tE w base (.slice none 0 0) (.slice none 0 0) [] :=
  ⟨own_nil _ _ _ _, own_nil _ _ _ _, fun x hx => by simp at hx, List.Pairwise.nil, fun k hk => by simp [Value.ownBlock] at hk⟩
theorem Kept.still (h : Kept enc sz tS tE w base p q es) {T : List TypeId} (hs : Still T w w1) (h1 : tS ∉ T) (h2 : tE ∉ T) : Kept enc sz tS tE w1 base p q es :=
  ⟨hs.own h.rp h1, hs.own h.rq h1, fun x hx => ⟨hs.rw_ (h.el x hx).1 h2, hs.rw_ (h.el x hx).2.1 h2, (h.el x hx).2.2⟩, h.dv, h.dpq⟩
theorem Kept.below (h : Kept enc sz tS tE w base p q es) (hb : Below w.heap.size w w1) : Kept enc sz tS tE w1 base p q es := h.still (T := []) (Still.of_below hb) (by simp) (by simp)
theorem Half.still (h : Half enc sz tS tE w base p q es v xs) {T : List TypeId} (hs : Still T w w1) (h1 : tS ∉ T) (h2 : tE ∉ T) : Half enc sz tS tE w1 base p q es v xs :=
  ⟨hs.own h.rp h1, hs.own h.rq h1, fun x hx => ⟨hs.rw_ (h.el x hx).1 h2, hs.rw_ (h.el x hx).2.1 h2, (h.el x hx).2.2⟩, ⟨hs.rw_ h.ev.1 h2, h.ev.2⟩, h.dv, h.dpq⟩
theorem Half.below (h : Half enc sz tS tE w base p q es v xs) (hb : Below w.heap.size w w1) : Half enc sz tS tE w1 base p q es v xs := h.still (T := []) (Still.of_below hb) (by simp) (by simp)
theorem rw_over (h : Rw w tE sz v xs.length (encL enc xs)) {b n : Nat} {ys : List Value} (hp : w.ownsRow b tS 1 p n ys) (hg : w.grownBy w1 p.ownBlock) (hne : tS ≠ tE) : Rw w1 tE sz v xs.length (encL enc xs) := h.grown hg (by
  cases e : v.ownBlock with
  | none => exact .inl rfl
  | some k =>
    right
    intro h2
    obtain ⟨c1, hc1⟩ := h.typed k e
    obtain ⟨c2, hc2⟩ := own_typed hp k h2.symm
    rw [hc1] at hc2
    injection hc2 with hc2
    injection hc2 with _ hc2
    exact hne hc2.symm)
theorem ap_new (h : ap p q) (hat : p1.ownBlock = p.ownBlock ∨ ∃ b, p1.ownBlock = some b ∧ w.heap.size ≤ b) {b n : Nat} {ys : List Value} (hq : w.ownsRow b tS 1 q n ys) : ap p1 q := fun k hk => by
  rcases hat with hat | ⟨b, hb, hle⟩
  · exact h k (hat ▸ hk)
  · intro hq2
    have := own_lt hq k hq2
    rw [hb] at hk
    injection hk with hk
    omega
theorem Kept.step1 (h : Kept enc sz tS tE w base p q es) (hne : tS ≠ tE) (hv : Rw w tE sz v xs.length (encL enc xs)) (hvb : ∀ k, v.ownBlock = some k → base ≤ k) (hva : ∀ x ∈ es, ap x.v v)
    (ho : w1.ownsRow base tS 1 p1 (es.length + 1) (es.map (·.v) ++ [v])) (hg : w.grownBy w1 p.ownBlock) (hat : p1.ownBlock = p.ownBlock ∨ ∃ b, p1.ownBlock = some b ∧ w.heap.size ≤ b) : Half enc sz tS tE w1 base p1 q es v xs :=
  ⟨ho, own_other h.rq hg h.dpq.symm.ne, fun x hx => ⟨rw_over (h.el x hx).1 h.rp hg hne, rw_over (h.el x hx).2.1 h.rp hg hne, (h.el x hx).2.2⟩, ⟨rw_over hv h.rp hg hne, hvb⟩,
    List.pairwise_append.2 ⟨h.dv, List.pairwise_singleton _ _, fun a ha b hb => by
      rw [List.mem_singleton.1 hb]
      obtain ⟨x, hx, rfl⟩ := List.mem_map.1 ha
      exact hva x hx⟩, ap_new h.dpq hat h.rq⟩
theorem Half.step2 (h : Half enc sz tS tE w base p q es v xs) (hne : tS ≠ tE) (hu : Rw w tE sz u xs.length (encL enc xs))
    (ho : w1.ownsRow base tS 1 q1 (es.length + 1) (es.map (·.u) ++ [u])) (hg : w.grownBy w1 q.ownBlock) (hat : q1.ownBlock = q.ownBlock ∨ ∃ b, q1.ownBlock = some b ∧ w.heap.size ≤ b) : Kept enc sz tS tE w1 base p q1 (es ++ [⟨v, u, xs⟩]) := by
  refine ⟨?_, ?_, fun x hx => ?_, by simpa using h.dv, (ap_new h.dpq.symm hat h.rp).symm⟩
  · simpa using own_other h.rp hg h.dpq.ne
  · simpa using ho
  · rcases List.mem_append.1 hx with hx | hx
    · exact ⟨rw_over (h.el x hx).1 h.rq hg hne, rw_over (h.el x hx).2.1 h.rq hg hne, (h.el x hx).2.2⟩
    · rw [List.mem_singleton.1 hx]
      exact ⟨rw_over h.ev.1 h.rq hg hne, rw_over hu h.rq hg hne, h.ev.2⟩
end
/-! ### lists that are marked -/
/-- p: the lists vs; list i reads X i. -/
structure Held {α : Type} (enc : α → List Value) (sz : Nat) (tS tE : TypeId) (w : World) (base : Nat) (p : Value) (vs : List Value) (X : Nat → List α) : Prop where
  rp : w.ownsRow base tS 1 p vs.length vs
  el : ∀ i v, vs[i]? = some v → Rw w tE sz v (X i).length (encL enc (X i)) ∧ ∀ k, v.ownBlock = some k → base ≤ k
  dv : vs.Pairwise ap
section
variable {α : Type} {enc : α → List Value} {sz base : Nat} {tS tE : TypeId} {w w1 w2 : World} {p q p1 q1 v u : Value} {es : List (Ent α)} {vs : List Value} {X Y : Nat → List α}
theorem Kept.held (h : Kept enc sz tS tE w base p q es) : Held enc sz tS tE w base p (es.map (·.v)) (fun i => ((es.map (·.xs))[i]?).getD []) := by
  refine ⟨by simpa using h.rp, fun i v hv => ?_, h.dv⟩
  rw [List.getElem?_map] at hv
  obtain ⟨x, hx, rfl⟩ := Option.map_eq_some_iff.1 hv
  have e : ((es.map (·.xs))[i]?).getD [] = x.xs := by rw [List.getElem?_map, hx]; rfl
  have hm : x ∈ es := List.mem_of_getElem? hx
  simp only [e]
  exact ⟨(h.el x hm).1, (h.el x hm).2.2⟩
theorem Held.still (h : Held enc sz tS tE w base p vs X) {T : List TypeId} (hs : Still T w w1) (h1 : tS ∉ T) (h2 : tE ∉ T) : Held enc sz tS tE w1 base p vs X :=
  ⟨hs.own h.rp h1, fun i v hv => ⟨hs.rw_ (h.el i v hv).1 h2, (h.el i v hv).2⟩, h.dv⟩
theorem Held.below (h : Held enc sz tS tE w base p vs X) (hb : Below w.heap.size w w1) : Held enc sz tS tE w1 base p vs X := h.still (T := []) (Still.of_below hb) (by simp) (by simp)
theorem Held.congr (h : Held enc sz tS tE w base p vs X) (hx : ∀ i, i < vs.length → X i = Y i) : Held enc sz tS tE w base p vs Y :=
  ⟨h.rp, fun i v hv => by rw [← hx i (List.getElem?_eq_some_iff.1 hv).1]; exact h.el i v hv, h.dv⟩
theorem ap_of (h : vs.Pairwise ap) {i j : Nat} {a b : Value} (hi : vs[i]? = some a) (hj : vs[j]? = some b) (hne : i ≠ j) : ap a b := by
  obtain ⟨li, ei⟩ := List.getElem?_eq_some_iff.1 hi
  obtain ⟨lj, ej⟩ := List.getElem?_eq_some_iff.1 hj
  subst ei; subst ej
  rcases Nat.lt_or_gt_of_ne hne with h2 | h2
  · exact List.pairwise_iff_getElem.1 h i j li lj h2
  · exact (List.pairwise_iff_getElem.1 h j i lj li h2).symm
/-- Element m of list i is written. -/
theorem Held.put {d : Kd α} (hf : Flat d enc) (h : Held enc d.sz tS tE w base p vs X) (hne : tS ≠ tE) {i m g o n c : Nat} (hv : vs[i]? = some (.slice (some ⟨g, o, none⟩) n c)) (hm : m < (X i).length) (x : α) :
    Held enc d.sz tS tE (w.setCells g (o + m * d.sz) (enc x)) base p vs (fun k => if k = i then (X i).set m x else X k) := by
  have h1 := (h.el i _ hv).1
  obtain rfl : n = (X i).length := by
    obtain ⟨A, c', e, _⟩ := h1.slice
    injection e
  have hlen := hf.lenL (X i)
  have hle : (m + 1) * d.sz ≤ (X i).length * d.sz := Nat.mul_le_mul_right _ hm
  rw [Nat.succ_mul] at hle
  have h2 := h1.put (p := m * d.sz) (seg := enc x) (by rw [hf.len, hlen]; exact hle)
  rw [hf.set _ _ _ hm] at h2
  have hfar : ∀ k, k ≠ g → (w.setCells g (o + m * d.sz) (enc x)).heap[k]? = w.heap[k]? := fun k hk => setCells_far _ _ k hk
  refine ⟨own_move h.rp (fun k hk => hfar k ?_), fun j v hj => ⟨?_, (h.el j v hj).2⟩, h.dv⟩
  · rintro rfl
    obtain ⟨c1, hc1⟩ := own_typed h.rp k hk
    obtain ⟨c2, hc2⟩ := h1.typed k (by simp [Value.ownBlock])
    rw [hc1] at hc2
    injection hc2 with hc2
    injection hc2 with _ hc2
    exact hne hc2
  · by_cases hji : j = i
    · subst hji
      rw [hv] at hj
      injection hj with hj
      subst hj
      simp only [if_pos]
      rw [List.length_set]
      exact h2
    · simp only [if_neg hji]
      refine (h.el j v hj).1.move (fun k hk => hfar k ?_)
      rintro rfl
      exact ap_of h.dv hj hv hji k hk (by simp [Value.ownBlock])
end
section
variable {w : World} {g o : Nat} {vs : List Value}
theorem below_setCells {B : Nat} {a : World} (h : Below B a w) (hg : B ≤ g) : Below B a (w.setCells g o vs) := by
  obtain ⟨s1, s2, s3, s4⟩ := setCells_same g vs o w
  exact h.trans ⟨s1, s2, s3, by rw [s4]; exact Nat.le_refl _, fun k hk => setCells_far vs o k (by omega)⟩
theorem still_setCells {T : List TypeId} {cur : Array Value} {t : TypeId} (hb : w.heap[g]? = some (.cells cur t (0, 0))) (ht : t ∈ T) : Still T w (w.setCells g o vs) := Still.of_far (g := g) (fun k hk => setCells_far vs o k hk) ⟨cur, t, ht, hb⟩
theorem size_setCells : (w.setCells g o vs).heap.size = w.heap.size := (setCells_same g vs o w).2.2.2
end
theorem Still.grown_new {T : List TypeId} {w w1 w2 : World} (h : Still T w w1) (hs : w.heap.size ≤ w1.heap.size) {row : Option Nat} (hg : w1.grownBy w2 row) (hr : ∀ k, row = some k → w.heap.size ≤ k) : Still T w w2 := fun k hk hn => (hg.block k (by omega) (fun e => by have := hr k e.symm; omega)).trans (h k hk hn)
theorem own_sl (A : Option Addr) (n c n' c' : Nat) : (Value.slice A n c).ownBlock = (Value.slice A n' c').ownBlock := by cases A <;> rfl
theorem xs_le {α : Type} {es : List (Ent α)} {N : Nat} (h : ∀ x ∈ es, x.xs.length ≤ N) (i : Nat) : (((es.map (·.xs))[i]?).getD []).length ≤ N := by
  rw [List.getElem?_map]
  cases e : es[i]? with
  | none => exact Nat.zero_le _
  | some x => exact h x (List.mem_of_getElem? e)
theorem mem_snoc_imp {α : Type} {P : α → Prop} {es : List α} {y : α} (h1 : ∀ x ∈ es, P x) (h2 : P y) : ∀ x ∈ es ++ [y], P x := fun x hx => by
  rcases List.mem_append.1 hx with h | h
  · exact h1 x h
  · rw [List.mem_singleton.1 h]
    exact h2
end Go.Proofs.Ytchgpcgolgcfdaa.BkW
