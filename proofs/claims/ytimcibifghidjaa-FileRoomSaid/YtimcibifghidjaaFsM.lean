/- A file system of package file in memory, told by plain lists: its directories (names and files' blocks), its files' bytes, what is pending. -/
import Derived.Test.YtimcibifghidjaaPFilx0
import Derived.Test.YtimcibifghidjaaWRd
import Derived.Maps.OwnSet
import Derived.Maps.Ext
import Derived.Maps.RangeWalk
import Derived.Sort.KeysCollected
import Derived.WideKeyArgs2
namespace Go.Proofs.Ytimcibifghidjaa.FsM
open Go Go.RowKit Go.Maps Go.Sort Go.Proofs.Ytimcibifghidjaa.PFil Go.Proofs.YtimcibifghidjaaW.PrintWords Go.Proofs.YtimcibifghidjaaW.PrintMore
abbrev K8 := List UInt8
def bs (s : ByteArray) : K8 := s.data.toList
theorem bs_inj {a b : ByteArray} (h : bs a = bs b) : a = b := by
  cases a; cases b; simp [bs] at h; simp [h]
def ky (s : K8) : Lit := .string s
theorem isKey (s : K8) : WideAt.IsKeyLit (ky s) := trivial
def dB (b : Nat) : DataW Unit := .lit (.int .u64 (b : Int))
def dN : DataW Unit := .lit (.bool false)
def pB (b : Nat) : Value := .pointer (some ⟨b, 0, none⟩)
/-- How a pointer to a file reads. -/
def RB : Value → Option (DataW Unit × List MemPlace)
  | .pointer none => some (dN, [])
  | .pointer (some ⟨b, 0, none⟩) => some (dB b, [])
  | _ => none
theorem RB_mk (b : Nat) : RB (pB b) = some (dB b, []) := rfl
theorem RB_nil : RB (.pointer none) = some (dN, []) := rfl
theorem RB_inv {v : Value} {b : Nat} {ps : List MemPlace} (h : RB v = some (dB b, ps)) : v = pB b := by
  unfold RB at h
  split at h
  · simp [dN, dB] at h
  · rename_i c
    simp only [dB, Option.some.injEq, Prod.mk.injEq, DataW.lit.injEq, Lit.int.injEq, true_and] at h
    have : c = b := by have := h.1; omega
    subst this
    rfl
  · cases h
theorem RB_inv0 {v : Value} {ps : List MemPlace} (h : RB v = some (dN, ps)) : v = .pointer none := by
  unfold RB at h
  split at h
  · rfl
  · simp [dN, dB] at h
  · cases h
/-- A directory: names, and the blocks of their files. -/
abbrev Dir := List (K8 × Nat)
def lk : Dir → K8 → Option Nat
  | [], _ => none
  | p :: r, k => if p.1 = k then some p.2 else lk r k
def del (d : Dir) (k : K8) : Dir := d.filter fun p => !decide (p.1 = k)
def put (d : Dir) (k : K8) (b : Nat) : Dir := del d k ++ [(k, b)]
theorem lk_app (p q : Dir) (k : K8) : lk (p ++ q) k = (lk p k).or (lk q k) := by
  induction p with
  | nil => rfl
  | cons x r ih =>
    rw [List.cons_append, lk, lk]
    split
    · rfl
    · exact ih
theorem lk_del_same (d : Dir) (k : K8) : lk (del d k) k = none := by
  induction d with
  | nil => rfl
  | cons x r ih =>
    unfold del
    rw [List.filter_cons]
    by_cases h : x.1 = k
    · simp [h]
      exact ih
    · simp [h]
      rw [lk, if_neg h]
      exact ih
theorem lk_del_other (d : Dir) {k k' : K8} (hk : k' ≠ k) : lk (del d k) k' = lk d k' := by
  induction d with
  | nil => rfl
  | cons x r ih =>
    unfold del
    rw [List.filter_cons]
    by_cases h : x.1 = k
    · simp [h]
      rw [lk, if_neg (by rw [h]; exact fun e => hk e.symm)]
      exact ih
    · simp [h]
      rw [lk, lk]
      split
      · rfl
      · exact ih
theorem lk_put_same (d : Dir) (k : K8) (b : Nat) : lk (put d k b) k = some b := by
  unfold put
  rw [lk_app, lk_del_same]
  simp [lk]
theorem lk_put_other (d : Dir) {k k' : K8} (b : Nat) (hk : k' ≠ k) : lk (put d k b) k' = lk d k' := by
  unfold put
  rw [lk_app, lk_del_other d hk, lk, if_neg (fun e => hk e.symm)]
  cases lk d k' <;> rfl
theorem lk_mem {d : Dir} {k : K8} {b : Nat} (h : lk d k = some b) : (k, b) ∈ d := by
  induction d with
  | nil => cases h
  | cons x r ih =>
    rw [lk] at h
    split at h
    · rename_i hx
      obtain rfl := Option.some.inj h
      rw [← hx]
      simp
    · exact List.mem_cons_of_mem _ (ih h)
theorem lk_some_iff (d : Dir) (k : K8) : (lk d k).isSome = true ↔ k ∈ d.map (·.1) := by
  induction d with
  | nil => simp [lk]
  | cons x r ih =>
    rw [lk, List.map_cons, List.mem_cons]
    by_cases h : x.1 = k
    · simp [h]
    · rw [if_neg h, ih]
      exact ⟨Or.inr, fun z => z.resolve_left (fun e => h e.symm)⟩
theorem lk_of_mem {d : Dir} (hn : (d.map (·.1)).Nodup) {p : K8 × Nat} (h : p ∈ d) : lk d p.1 = some p.2 := by
  induction d with
  | nil => cases h
  | cons x r ih =>
    rw [List.map_cons, List.nodup_cons] at hn
    rw [lk]
    rcases List.mem_cons.1 h with rfl | h
    · rw [if_pos rfl]
    · rw [if_neg, ih hn.2 h]
      intro e
      exact hn.1 (by rw [e]; exact List.mem_map.2 ⟨p, h, rfl⟩)
theorem nd_del {d : Dir} (h : (d.map (·.1)).Nodup) (k : K8) : ((del d k).map (·.1)).Nodup := (List.filter_sublist.map _).nodup h
theorem nd_put {d : Dir} (h : (d.map (·.1)).Nodup) (k : K8) (b : Nat) : ((put d k b).map (·.1)).Nodup := by
  unfold put
  rw [List.map_append, List.nodup_append]
  refine ⟨nd_del h k, by simp, ?_⟩
  intro a ha c hc
  simp at hc
  subst hc
  rintro rfl
  have := (lk_some_iff (del d a) a).2 ha
  rw [lk_del_same] at this
  cases this
theorem mem_del {d : Dir} {k : K8} {p : K8 × Nat} (h : p ∈ del d k) : p ∈ d := (List.mem_filter.1 h).1
theorem mem_put {d : Dir} {k : K8} {b : Nat} {p : K8 × Nat} (h : p ∈ put d k b) : p ∈ d ∨ p = (k, b) := by
  rcases List.mem_append.1 h with h | h
  · exact Or.inl (mem_del h)
  · exact Or.inr (by simpa using h)
/-- What a map's reading shows of a directory. -/
structure View (D : DataW Unit) (d : Dir) : Prop where
  tidy : Tidy D
  str : ∀ es, D = .map es → ∀ p ∈ es, ∃ x, p.1 = Lit.string x
  at_ : ∀ k z, D.atKey (ky k) z = match lk d k with | some b => dB b | none => z
  has : ∀ k, has D (ky k) = (lk d k).isSome
  nd : (d.map (·.1)).Nodup
theorem View.empty : View (.map []) [] := ⟨tidy_empty, fun es h p hp => by injection h with h; subst h; simp at hp, fun _ _ => rfl, fun _ => rfl, by simp⟩
theorem View.put {D : DataW Unit} {d : Dir} (h : View D d) (k : K8) (b : Nat) : View (D.put (ky k) (dB b)) (put d k b) := by
  refine ⟨h.tidy.put (isKey _) _, ?_, fun k' z => ?_, fun k' => ?_, nd_put h.nd k b⟩
  · intro es he p hp
    obtain ⟨es0, he0, _⟩ := h.tidy
    rw [he0] at he
    simp only [DataW.put, DataW.map.injEq] at he
    subst he
    rcases Go.ChangeMaps.mem_insert_iff.1 hp with rfl | hp
    · exact ⟨_, rfl⟩
    · exact h.str es0 he0 p (List.mem_filter.1 hp).1
  · by_cases e : k' = k
    · subst e
      rw [atKey_put_same h.tidy.isMap (isKey _), lk_put_same]
    · rw [atKey_put_other (by simp only [ky, ne_eq, Lit.string.injEq]; exact e), lk_put_other d b e, h.at_]
  · by_cases e : k' = k
    · subst e
      rw [has_put_same h.tidy.isMap (isKey _), lk_put_same]
      rfl
    · rw [has_put_other (by simp only [ky, ne_eq, Lit.string.injEq]; exact e), lk_put_other d b e, h.has]
theorem View.del {D : DataW Unit} {d : Dir} (h : View D d) (k : K8) : View (D.del (ky k)) (del d k) := by
  refine ⟨h.tidy.del _, ?_, fun k' z => ?_, fun k' => ?_, nd_del h.nd k⟩
  · intro es he p hp
    obtain ⟨es0, he0, _⟩ := h.tidy
    rw [he0] at he
    simp only [DataW.del, DataW.map.injEq] at he
    subst he
    exact h.str es0 he0 p (List.mem_filter.1 hp).1
  · by_cases e : k' = k
    · subst e
      rw [atKey_del_same, lk_del_same]
    · rw [atKey_del_other (by simp only [ky, ne_eq, Lit.string.injEq]; exact e), lk_del_other d e, h.at_]
  · by_cases e : k' = k
    · subst e
      rw [has_del_same, lk_del_same]
      rfl
    · rw [has_del_other (by simp only [ky, ne_eq, Lit.string.injEq]; exact e), lk_del_other d e, h.has]
theorem perm_of_same {α : Type} [DecidableEq α] : ∀ {a b : List α}, a.Nodup → b.Nodup → (∀ x, x ∈ a ↔ x ∈ b) → a.Perm b
  | [], b, _, _, h => by
    cases b with
    | nil => exact List.Perm.refl _
    | cons y r => exact absurd ((h y).2 (by simp)) (by simp)
  | x :: r, b, ha, hb, h => by
    have hx : x ∈ b := (h x).1 (by simp)
    have h1 := List.perm_cons_erase hx
    refine List.Perm.trans (List.Perm.cons x (perm_of_same (List.nodup_cons.1 ha).2 (hb.erase x) (fun y => ?_))) h1.symm
    rw [hb.mem_erase_iff]
    have h2 := h y
    rw [List.mem_cons] at h2
    constructor
    · intro hy
      exact ⟨fun e => (List.nodup_cons.1 ha).1 (e ▸ hy), h2.1 (Or.inr hy)⟩
    · rintro ⟨hne, hy⟩
      exact (h2.2 hy).resolve_left hne
theorem View.keys {D : DataW Unit} {d : Dir} (h : View D d) : (strKeys D).Perm (d.map (·.1)) := by
  obtain ⟨es, he, hp⟩ := h.tidy
  have hs := h.str es he
  refine perm_of_same ?_ h.nd (fun k => ?_)
  · rw [he]
    show (es.map fun p => strOf p.1).Nodup
    refine List.pairwise_map.2 (hp.imp_of_mem fun {p q} hp' hq' hne e => hne ?_)
    obtain ⟨a, ha⟩ := hs p hp'
    obtain ⟨b, hb⟩ := hs q hq'
    rw [ha, hb] at e ⊢
    exact congrArg _ e
  · rw [← lk_some_iff, ← h.has, he, has_eq, List.any_eq_true]
    show k ∈ es.map (fun p => strOf p.1) ↔ _
    rw [List.mem_map]
    constructor
    · rintro ⟨p, hp', rfl⟩
      obtain ⟨a, ha⟩ := hs p hp'
      exact ⟨p, hp', by rw [ha]; simp [Lit.sameKey, strOf, ky]⟩
    · rintro ⟨p, hp', hk⟩
      obtain ⟨a, ha⟩ := hs p hp'
      rw [ha] at hk
      exact ⟨p, hp', by rw [ha]; simpa [Lit.sameKey, strOf, ky] using hk⟩
theorem View.size {D : DataW Unit} {d : Dir} (h : View D d) : Maps.size D = d.length := by
  have h1 := h.keys.length_eq
  obtain ⟨es, he, _⟩ := h.tidy
  rw [he] at h1 ⊢
  simpa [strKeys, Maps.size] using h1
/-- Block b holds a directory. -/
def Own (V : World) (b : Nat) (d : Dir) : Prop := ∃ D, V.ownsMap Try.prog 9 RB b d.length D ∧ View D d
theorem own_tight {V : World} {b n : Nat} {D : DataW Unit} (h : V.ownsMap Try.prog 9 RB b n D) : V.ownsMap Try.prog 9 RB b (Maps.size D) D := by
  obtain ⟨es, clock, hb, F, hs, hD⟩ := h
  refine ⟨es, clock, hb, F, ?_, hD⟩
  rw [hD]
  show es.size ≤ ((es.toList.map (Go.WideElems.rg Try.prog 9 RB)).foldr DataW.insert []).length
  rw [length_sorted]
  simp
theorem own_of {V : World} {b n : Nat} {D : DataW Unit} {d : Dir} (h : V.ownsMap Try.prog 9 RB b n D) (hv : View D d) : Own V b d := ⟨D, by rw [← hv.size]; exact own_tight h, hv⟩
theorem Own.below {V V1 : World} {b : Nat} {d : Dir} (h : Own V b d) (hb : Below V.heap.size V V1) : Own V1 b d := by
  obtain ⟨D, h1, h2⟩ := h
  exact ⟨D, World.ownsMap.kept h1 (grown_of_below hb none) (by simp), h2⟩
theorem Own.ne {V : World} {b g : Nat} {d : Dir} (h : Own V b d) {cs : Array Value} {t : TypeId} {fr : Nat × Nat} (hg : V.heap[g]? = some (.cells cs t fr)) : b ≠ g := by
  rintro rfl
  obtain ⟨D, ⟨es, c, hb, _⟩, _⟩ := h
  rw [hb] at hg
  cases hg
theorem Own.far {V : World} {b g i : Nat} {d : Dir} (h : Own V b d) {cs : Array Value} {t : TypeId} {fr : Nat × Nat} (hg : V.heap[g]? = some (.cells cs t fr)) (u : Value) : Own (V.setCell ⟨g, i, none⟩ u) b d := by
  have hne := h.ne hg
  obtain ⟨D, h1, h2⟩ := h
  exact ⟨D, World.ownsMap.setCell h1 hne u, h2⟩
theorem Own.same {V V1 : World} {b : Nat} {d : Dir} (h : Own V b d) (hb : V1.heap[b]? = V.heap[b]?) : Own V1 b d := by
  obtain ⟨D, ⟨es, c, h1, h2⟩, h3⟩ := h
  exact ⟨D, ⟨es, c, hb.trans h1, h2⟩, h3⟩
theorem Own.lt {V : World} {b : Nat} {d : Dir} (h : Own V b d) : b < V.heap.size := by
  obtain ⟨D, h1, _⟩ := h
  exact h1.lt
theorem Own.nd {V : World} {b : Nat} {d : Dir} (h : Own V b d) : (d.map (·.1)).Nodup := by
  obtain ⟨D, _, h2⟩ := h
  exact h2.nd
/-- A change: of what name, to what name, of what file. -/
structure Ch where
  from_ : ByteArray
  to_ : ByteArray
  made : Option Nat
def pO (o : Option Nat) : Value := .pointer (o.map fun b => ⟨b, 0, none⟩)
def kP : Kd (Option Nat) := Kd.scalar pO (fun _ => rfl)
def kCh : Kd Ch := Kd.iso (Kd.pair Kd.string (Kd.pair Kd.string kP)) (fun c : Ch => (c.from_, c.to_, c.made))
theorem kCh_mk (w : World) (c : Ch) : kCh.K w c [.string c.from_, .string c.to_, pO c.made] := ⟨[.string c.from_], [.string c.to_, pO c.made], rfl, rfl, ⟨[.string c.to_], [pO c.made], rfl, rfl, rfl⟩⟩
theorem kCh_mkM (w : World) (base : Nat) (ok : Nat → Prop) (c : Ch) : kCh.M w base ok c [.string c.from_, .string c.to_, pO c.made] := ⟨[.string c.from_], [.string c.to_, pO c.made], rfl, rfl, ⟨[.string c.to_], [pO c.made], rfl, rfl, rfl⟩⟩
theorem kCh_open {w : World} {c : Ch} {cs : List Value} (h : kCh.K w c cs) : cs = [.string c.from_, .string c.to_, pO c.made] := by
  obtain ⟨p, q, rfl, h1, ⟨p2, q2, rfl, h2, h3⟩⟩ := h
  cases h1; cases h2; cases h3
  rfl
/-- A file: its block, its bytes, how many are synced. -/
structure Bd where
  b : Nat
  d : ByteArray
  s : Nat
def cellsB (x : Bd) : Array Value := #[.string x.d, .int .i64 (x.s : Int)]
/-- A file system. -/
structure Sy where
  room : Int
  on : Bool
  fs : Bool
  fl : Int
  bs : Bool
  bl : Int
  steps : Int
  at_ : Dir
  sy : Dir
  pend : List Ch
  bd : List Bd
def cellsS (S : Sy) (ma ms : Nat) (vp : Value) : Array Value := #[.int .i64 S.room, .bool S.on, .bool S.fs, .int .i64 S.fl, .bool S.bs, .int .i64 S.bl, .int .i64 S.steps, .map (some ma), .map (some ms), vp]
def blks (l : List Bd) : List Nat := l.map (·.b)
structure Fx (w0 V : World) (g ma ms : Nat) (vp : Value) (S : Sy) : Prop where
  hd : V.heap[g]? = some (.cells (cellsS S ma ms vp) 55 (0, 0))
  oa : Own V ma S.at_
  os : Own V ms S.sy
  ne : ma ≠ ms
  pr : Kd.R kCh 64 V w0.heap.size (fun k => vp.ownBlock = some k) vp S.pend
  bd : ∀ x ∈ S.bd, V.heap[x.b]? = some (.cells (cellsB x) 62 (0, 0))
  gg : w0.heap.size ≤ g
  ga : w0.heap.size ≤ ma
  gs : w0.heap.size ≤ ms
  gb : ∀ x ∈ S.bd, w0.heap.size ≤ x.b
  nd : (blks S.bd).Nodup
  ia : ∀ p ∈ S.at_, p.2 ∈ blks S.bd
  is_ : ∀ p ∈ S.sy, p.2 ∈ blks S.bd
  ip : ∀ c ∈ S.pend, ∀ b, c.made = some b → b ∈ blks S.bd
def IsF (w0 V : World) (g : Nat) (S : Sy) : Prop := ∃ ma ms vp, Fx w0 V g ma ms vp S
/-- The blocks of a system. -/
def Ft (g ma ms : Nat) (vp : Value) (S : Sy) (k : Nat) : Prop := k = g ∨ k = ma ∨ k = ms ∨ vp.ownBlock = some k ∨ k ∈ blks S.bd
theorem Fx.same {w0 V V1 : World} {g ma ms : Nat} {vp : Value} {S : Sy} (h : Fx w0 V g ma ms vp S) (hk : ∀ k, Ft g ma ms vp S k → V1.heap[k]? = V.heap[k]?) : Fx w0 V1 g ma ms vp S :=
  ⟨(hk g (.inl rfl)).trans h.hd, h.oa.same (hk _ (.inr (.inl rfl))), h.os.same (hk _ (.inr (.inr (.inl rfl)))), h.ne, Kd.R_move h.pr (fun k hk2 => hk k (.inr (.inr (.inr (.inl hk2))))), fun x hx => (hk x.b (.inr (.inr (.inr (.inr (List.mem_map.2 ⟨x, hx, rfl⟩)))))).trans (h.bd x hx), h.gg, h.ga, h.gs, h.gb, h.nd, h.ia, h.is_, h.ip⟩
theorem Fx.lt {w0 V : World} {g ma ms : Nat} {vp : Value} {S : Sy} (h : Fx w0 V g ma ms vp S) : ∀ k, Ft g ma ms vp S k → k < V.heap.size := by
  rintro k (rfl | rfl | rfl | hk | hk)
  · exact blk_lt h.hd
  · exact h.oa.lt
  · exact h.os.lt
  · exact Kd.R_lt h.pr k hk
  · obtain ⟨x, hx, rfl⟩ := List.mem_map.1 hk
    exact blk_lt (h.bd x hx)
theorem Fx.below {w0 V V1 : World} {g ma ms : Nat} {vp : Value} {S : Sy} (h : Fx w0 V g ma ms vp S) (hb : Below V.heap.size V V1) : Fx w0 V1 g ma ms vp S := h.same (fun k hk => hb.block k (h.lt k hk))
theorem IsF.below {w0 V V1 : World} {g : Nat} {S : Sy} (h : IsF w0 V g S) (hb : Below V.heap.size V V1) : IsF w0 V1 g S := by
  obtain ⟨ma, ms, vp, h⟩ := h
  exact ⟨ma, ms, vp, h.below hb⟩
theorem IsF.ge {w0 V : World} {g : Nat} {S : Sy} (h : IsF w0 V g S) : w0.heap.size ≤ g := by
  obtain ⟨ma, ms, vp, h⟩ := h
  exact h.gg
/-- What a cell of the system's own block holds is told by its plain state. -/
theorem Fx.apart {w0 V : World} {g ma ms : Nat} {vp : Value} {S : Sy} (h : Fx w0 V g ma ms vp S) : (∀ k, vp.ownBlock = some k → k ≠ g ∧ k ∉ blks S.bd) ∧ g ∉ blks S.bd ∧ ma ≠ g ∧ ms ≠ g ∧ ma ∉ blks S.bd ∧ ms ∉ blks S.bd := by
  have hb : ∀ k, k ∈ blks S.bd → ∃ cs, V.heap[k]? = some (.cells cs 62 (0, 0)) := fun k hk => by
    obtain ⟨x, hx, rfl⟩ := List.mem_map.1 hk
    exact ⟨_, h.bd x hx⟩
  refine ⟨fun k hk => ⟨fun e => ?_, fun hm => ?_⟩, fun hm => ?_, h.oa.ne h.hd, h.os.ne h.hd, fun hm => ?_, fun hm => ?_⟩
  · subst e
    exact Kd.R_ne h.pr h.hd (by decide) hk.symm
  · obtain ⟨cs, hc⟩ := hb k hm
    exact Kd.R_ne h.pr hc (by decide) hk.symm
  · obtain ⟨cs, hc⟩ := hb g hm
    rw [h.hd] at hc
    simp only [Option.some.injEq, Obj.cells.injEq] at hc
    exact absurd hc.2.1 (by decide)
  · obtain ⟨cs, hc⟩ := hb _ hm
    exact h.oa.ne hc rfl
  · obtain ⟨cs, hc⟩ := hb _ hm
    exact h.os.ne hc rfl
theorem Fx.row_ne {w0 V : World} {g ma ms : Nat} {vp : Value} {S : Sy} (h : Fx w0 V g ma ms vp S) : some ma ≠ vp.ownBlock ∧ some ms ≠ vp.ownBlock := by
  obtain ⟨inner, ho⟩ := Kd.R_own h.pr
  refine ⟨fun e => ?_, fun e => ?_⟩
  · obtain ⟨cells, hc⟩ := own_typed ho ma e.symm
    exact h.oa.ne hc rfl
  · obtain ⟨cells, hc⟩ := own_typed ho ms e.symm
    exact h.os.ne hc rfl
/-- The directory is turned. -/
theorem Fx.dir {w0 V V1 : World} {g ma ms : Nat} {vp : Value} {S : Sy} {d' : Dir} (h : Fx w0 V g ma ms vp S) (hO : Own V1 ma d') (hg : V.grownBy V1 (some ma)) (hin : ∀ p ∈ d', p.2 ∈ blks S.bd) : Fx w0 V1 g ma ms vp {S with at_ := d'} := by
  have q := h.apart
  have hk : ∀ k, k < V.heap.size → k ≠ ma → V1.heap[k]? = V.heap[k]? := fun k h1 h2 => hg.block k h1 (fun e => h2 (Option.some.inj e))
  exact ⟨(hk g (blk_lt h.hd) q.2.2.1.symm).trans h.hd, hO, h.os.same (hk ms h.os.lt h.ne.symm), h.ne, Kd.R_step h.pr (fun k hk2 hlt => hk k hlt (fun e => h.row_ne.1 (by rw [← e]; exact hk2.symm))), fun x hx => (hk x.b (blk_lt (h.bd x hx)) (fun e => q.2.2.2.2.1 (by rw [← e]; exact List.mem_map.2 ⟨x, hx, rfl⟩))).trans (h.bd x hx), h.gg, h.ga, h.gs, h.gb, h.nd, hin, h.is_, h.ip⟩
/-- The row of what is pending is another one. -/
theorem Fx.row {w0 V V1 : World} {g ma ms : Nat} {vp vp' : Value} {S : Sy} {l : List Ch} (h : Fx w0 V g ma ms vp S) (hr : Kd.R kCh 64 V1 w0.heap.size (fun k => vp'.ownBlock = some k) vp' l) (hg : V.grownBy V1 vp.ownBlock) (hne : ∀ k, vp'.ownBlock = some k → vp.ownBlock = some k ∨ V.heap.size ≤ k) (hip : ∀ c ∈ l, ∀ b, c.made = some b → b ∈ blks S.bd) : Fx w0 (V1.setCell ⟨g, 9, none⟩ vp') g ma ms vp' {S with pend := l} := by
  have q := h.apart
  have hgl := blk_lt h.hd
  have hk : ∀ k, k < V.heap.size → some k ≠ vp.ownBlock → V1.heap[k]? = V.heap[k]? := fun k h1 h2 => hg.block k h1 h2
  have hs : ∀ k, k ≠ g → (V1.setCell ⟨g, 9, none⟩ vp').heap[k]? = V1.heap[k]? := fun k hk => Below.heap_setCell V1 ⟨g, 9, none⟩ vp' k hk
  have hgv : some g ≠ vp.ownBlock := fun e => (q.1 g e.symm).1 rfl
  refine ⟨blk_put ((hk g hgl hgv).trans h.hd) 9 vp' rfl, (h.oa.same (hk ma h.oa.lt h.row_ne.1)).same (hs ma q.2.2.1), (h.os.same (hk ms h.os.lt h.row_ne.2)).same (hs ms q.2.2.2.1), h.ne, Kd.R_move hr (fun k hk2 => hs k ?_), ?_, h.gg, h.ga, h.gs, h.gb, h.nd, h.ia, h.is_, hip⟩
  · rcases hne k hk2 with e | e
    · exact (q.1 k e).1
    · omega
  · intro x hx
    have hxm : x.b ∈ blks S.bd := List.mem_map.2 ⟨x, hx, rfl⟩
    exact (hs x.b (fun e => q.2.1 (by rw [← e]; exact hxm))).trans ((hk x.b (blk_lt (h.bd x hx)) (fun e => (q.1 x.b e.symm).2 hxm)).trans (h.bd x hx))
/-- A cell of the system's own block is turned. -/
theorem Fx.turn {w0 V : World} {g ma ms i : Nat} {vp u : Value} {S S' : Sy} (h : Fx w0 V g ma ms vp S) (hu : (cellsS S ma ms vp).setIfInBounds i u = cellsS S' ma ms vp) (ha : S'.at_ = S.at_) (hs : S'.sy = S.sy) (hp : S'.pend = S.pend) (hb : S'.bd = S.bd) : Fx w0 (V.setCell ⟨g, i, none⟩ u) g ma ms vp S' := by
  have q := h.apart
  have nh : ∀ k, k ≠ g → (V.setCell ⟨g, i, none⟩ u).heap[k]? = V.heap[k]? := fun k hk => Below.heap_setCell V ⟨g, i, none⟩ u k hk
  refine ⟨blk_put h.hd i u hu, by rw [ha]; exact h.oa.far h.hd u, by rw [hs]; exact h.os.far h.hd u, h.ne, by rw [hp]; exact Kd.R_move h.pr (fun k hk => nh k (q.1 k hk).1), ?_, h.gg, h.ga, h.gs, by rw [hb]; exact h.gb, by rw [hb]; exact h.nd, by rw [ha, hb]; exact h.ia, by rw [hs, hb]; exact h.is_, by rw [hp, hb]; exact h.ip⟩
  rw [hb]
  intro x hx
  exact (nh x.b (fun e => q.2.1 (by rw [← e]; exact List.mem_map.2 ⟨x, hx, rfl⟩))).trans (h.bd x hx)
theorem Fx.cells {w0 V : World} {g ma ms : Nat} {vp : Value} {S : Sy} (h : Fx w0 V g ma ms vp S) : V.cell? ⟨g, 0, none⟩ = some (.int .i64 S.room) ∧ V.cell? ⟨g, 1, none⟩ = some (.bool S.on) ∧ V.cell? ⟨g, 2, none⟩ = some (.bool S.fs) ∧ V.cell? ⟨g, 3, none⟩ = some (.int .i64 S.fl) ∧ V.cell? ⟨g, 4, none⟩ = some (.bool S.bs) ∧ V.cell? ⟨g, 5, none⟩ = some (.int .i64 S.bl) ∧ V.cell? ⟨g, 6, none⟩ = some (.int .i64 S.steps) ∧ V.cell? ⟨g, 7, none⟩ = some (.map (some ma)) ∧ V.cell? ⟨g, 8, none⟩ = some (.map (some ms)) ∧ V.cell? ⟨g, 9, none⟩ = some vp :=
  ⟨(blk_cell h.hd 0).trans rfl, (blk_cell h.hd 1).trans rfl, (blk_cell h.hd 2).trans rfl, (blk_cell h.hd 3).trans rfl, (blk_cell h.hd 4).trans rfl, (blk_cell h.hd 5).trans rfl, (blk_cell h.hd 6).trans rfl, (blk_cell h.hd 7).trans rfl, (blk_cell h.hd 8).trans rfl, (blk_cell h.hd 9).trans rfl⟩
theorem Fx.thaw {w0 V : World} {g ma ms : Nat} {vp : Value} {S : Sy} (h : Fx w0 V g ma ms vp S) (i : Nat) : V.frozen? ⟨g, i, none⟩ = false := blk_frozen h.hd i
end Go.Proofs.Ytimcibifghidjaa.FsM
