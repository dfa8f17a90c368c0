/- Small laws on worlds, blocks and owned slices, over any program: what a call leaves as it was, and what a slice's block holds. No conditions beyond each law's own. -/
import Derived.WalkKit
import Derived.Laws.OwnMore
import Derived.Laws.IdiomCopy
import Derived.Deep.Draws
import Derived.Maps.AppendAt
import Derived.BigQuiet
import Derived.Deep.QuietTactic
import Derived.Deep.RegionLaw
import Derived.Deep.DeepCutAuto
import Derived.Deep.CutBlock
import Derived.Deep.LoopGhost
import Derived.Outline
set_option linter.unusedVariables false
set_option linter.unusedSimpArgs false
namespace Go.Cn
open Go.RowKit

/-- A fact that the walk's simp does not look into. -/
structure Bx (p : Prop) : Prop where mk :: (out : p)

/-! ### worlds -/
/-- w' is w, but for the blocks in S and for new blocks. -/
structure Chg (S : Nat → Prop) (w w' : World) : Prop where
  os : w'.os = w.os
  tape : w'.tape = w.tape
  output : w'.output = w.output
  size : w.heap.size ≤ w'.heap.size
  block : ∀ k, k < w.heap.size → ¬ S k → w'.heap[k]? = w.heap[k]?

theorem Chg.refl (S : Nat → Prop) (w : World) : Chg S w w := ⟨rfl, rfl, rfl, Nat.le_refl _, fun _ _ _ => rfl⟩
theorem Chg.trans {S : Nat → Prop} {a b c : World} (h : Chg S a b) (k : Chg S b c) : Chg S a c :=
  ⟨k.os.trans h.os, k.tape.trans h.tape, k.output.trans h.output, Nat.le_trans h.size k.size, fun i hi hs => (k.block i (Nat.lt_of_lt_of_le hi h.size) hs).trans (h.block i hi hs)⟩
theorem Chg.mono {S S' : Nat → Prop} {a b : World} (h : Chg S a b) (hs : ∀ k, k < a.heap.size → S k → S' k) : Chg S' a b :=
  ⟨h.os, h.tape, h.output, h.size, fun i hi hn => h.block i hi (fun x => hn (hs i hi x))⟩
/-- Two steps, the second of which may turn new blocks too. -/
theorem Chg.then {S S' : Nat → Prop} {a b c : World} (h : Chg S a b) (k : Chg S' b c) (hs : ∀ i, S' i → S i ∨ a.heap.size ≤ i) : Chg S a c :=
  ⟨k.os.trans h.os, k.tape.trans h.tape, k.output.trans h.output, Nat.le_trans h.size k.size, fun i hi hn =>
    (k.block i (Nat.lt_of_lt_of_le hi h.size) (fun x => by rcases hs i x with y | y; exact hn y; omega)).trans (h.block i hi hn)⟩
theorem Chg.drew {S : Nat → Prop} {a b : World} (h : Chg S a b) : Chg S a b.drew := ⟨h.os, h.tape, h.output, h.size, h.block⟩
theorem Chg.drewN {S : Nat → Prop} {a b : World} (h : Chg S a b) (n : Nat) : Chg S a (b.drewN n) := by
  induction n generalizing b with
  | zero => exact h
  | succ n ih => rw [← World.drew_drewN]; exact (ih h).drew
theorem Chg.alloc {S : Nat → Prop} {a b : World} (h : Chg S a b) (o : Obj) : Chg S a (b.alloc o) :=
  h.trans ⟨rfl, rfl, rfl, by simp, fun k hk _ => Below.heap_alloc _ _ _ hk⟩
theorem Chg.setCell {S : Nat → Prop} {a b : World} (h : Chg S a b) {p : Addr} (hp : S p.block ∨ a.heap.size ≤ p.block) (u : Value) : Chg S a (b.setCell p u) :=
  ⟨h.os, h.tape, h.output, by have := h.size; simpa [World.setCell] using this, fun k hk hn => by
    rw [Below.heap_setCell _ _ _ _ (by rintro rfl; rcases hp with y | y; exact hn y; omega)]; exact h.block k hk hn⟩
theorem Chg.of_grown {w w' : World} {row : Option Nat} (h : w.grownBy w' row) : Chg (fun k => row = some k) w w' :=
  ⟨h.os, h.tape, h.output, h.size, fun k hk hn => h.block k hk (fun e => hn e.symm)⟩
theorem Chg.grown {S : Nat → Prop} {a w w' : World} {row : Option Nat} (c : Chg S a w) (h : w.grownBy w' row) (hs : ∀ k, row = some k → S k ∨ a.heap.size ≤ k) : Chg S a w' :=
  c.then (Chg.of_grown h) (fun i hi => hs i hi)
theorem Chg.below {S : Nat → Prop} {w w' : World} (h : Chg S w w') {B : Nat} (hB : B ≤ w.heap.size) (hs : ∀ k, S k → B ≤ k) : Below B w w' :=
  ⟨h.os, h.tape, h.output, h.size, fun k hk => h.block k (by omega) (fun x => by have := hs k x; omega)⟩
theorem Chg.none_of_below {w w' : World} (h : Below w.heap.size w w') (S : Nat → Prop) : Chg S w w' := ⟨h.os, h.tape, h.output, h.size, fun k hk _ => h.block k hk⟩
theorem Chg.of_below {B : Nat} {w w' : World} (h : Below B w w') : Chg (fun k => B ≤ k) w w' := ⟨h.os, h.tape, h.output, h.size, fun k hk hn => h.block k (by omega)⟩
theorem Chg.heap {S : Nat → Prop} {w w' : World} (h : Chg S w w') {k : Nat} {o : Obj} (hk : w.heap[k]? = some o) (hn : ¬ S k) : w'.heap[k]? = some o :=
  (h.block k (Array.getElem?_eq_some_iff.1 hk).1 hn).trans hk
theorem Chg.cell {S : Nat → Prop} {w w' : World} (h : Chg S w w') {a : Addr} {v : Value} (hc : w.cell? a = some v) (hn : ¬ S a.block) : w'.cell? a = some v :=
  (World.cell?_of_block (h.block a.block (World.block_lt_of_cell? w a hc) hn)).trans hc

/-- What a step turned lies from n0 on. -/
theorem _root_.Go.RowKit.Below.step {n0 : Nat} {w w1 w2 : World} {S : Nat → Prop} (h : Below n0 w w1) (c : Chg S w1 w2) (hn : n0 ≤ w1.heap.size) (hs : ∀ k, S k → n0 ≤ k) : Below n0 w w2 := h.trans (c.below hn hs)
theorem own_in {n0 : Nat} {g : Nat} {F : Option Nat} (hg : n0 ≤ g) (hF : ∀ k, F = some k → n0 ≤ k) : ∀ k, k = g ∨ F = some k → n0 ≤ k := fun k h => by
  rcases h with rfl | h
  · exact hg
  · exact hF k h
theorem F_next {n0 : Nat} {F F' : Option Nat} {m : Nat} (hF : ∀ k, F = some k → n0 ≤ k) (h : ∀ k, F' = some k → F = some k ∨ m ≤ k) (hm : n0 ≤ m) : ∀ k, F' = some k → n0 ≤ k := fun k hk => by
  rcases h k hk with h | h
  · exact hF k h
  · omega

/-! ### blocks -/
theorem blk_lt {w : World} {g : Nat} {o : Obj} (h : w.heap[g]? = some o) : g < w.heap.size := (Array.getElem?_eq_some_iff.1 h).1
theorem blk_cell {w : World} {g : Nat} {cs : Array Value} {t : TypeId} {fr : Nat × Nat} (h : w.heap[g]? = some (.cells cs t fr)) (i : Nat) : w.cell? ⟨g, i, none⟩ = cs[i]? := by
  simp [World.cell?, h]
theorem blk_frozen {w : World} {g : Nat} {cs : Array Value} {t : TypeId} (h : w.heap[g]? = some (.cells cs t (0, 0))) (i : Nat) : w.frozen? ⟨g, i, none⟩ = false := by
  simp [World.frozen?, h]
theorem blk_set {w : World} {g : Nat} {cs : Array Value} {t : TypeId} {fr : Nat × Nat} (h : w.heap[g]? = some (.cells cs t fr)) (i : Nat) (u : Value) :
    (w.setCell ⟨g, i, none⟩ u).heap[g]? = some (.cells (cs.setIfInBounds i u) t fr) := by
  simp [World.setCell, Array.getElem?_modify, h]
theorem blk_far {w : World} {g : Nat} {o : Obj} {p : Addr} (h : w.heap[g]? = some o) (hn : g ≠ p.block) (u : Value) : (w.setCell p u).heap[g]? = some o := by
  rw [Below.heap_setCell _ _ _ _ hn]; exact h
theorem blk_alloc {w : World} {g : Nat} {o : Obj} (h : w.heap[g]? = some o) (o' : Obj) : (w.alloc o').heap[g]? = some o := by
  rw [Below.heap_alloc _ _ _ (blk_lt h)]; exact h
theorem blk_new (w : World) (o : Obj) : (w.alloc o).heap[w.heap.size]? = some o := heap_alloc_new w o
theorem blk_drew {w : World} {g : Nat} {o : Obj} (h : w.heap[g]? = some o) : w.drew.heap[g]? = some o := h
theorem blk_drewN {w : World} {g : Nat} {o : Obj} (h : w.heap[g]? = some o) (n : Nat) : (w.drewN n).heap[g]? = some o := by
  induction n generalizing w with
  | zero => exact h
  | succ n ih => rw [← World.drew_drewN]; exact ih (blk_drew h)

/-- Many cells from o on are written: the block holds them. -/
theorem blk_setCells {g : Nat} {t : TypeId} {fr : Nat × Nat} : ∀ (vs : List Value) (o : Nat) (w : World) (cs : Array Value), w.heap[g]? = some (.cells cs t fr) → o + vs.length ≤ cs.size →
    (w.setCells g o vs).heap[g]? = some (.cells (cs.toList.take o ++ vs ++ cs.toList.drop (o + vs.length)).toArray t fr)
  | [], o, w, cs, h, hl => by
    simp only [World.setCells, List.append_nil, List.length_nil, Nat.add_zero, List.take_append_drop]
    exact h
  | v :: r, o, w, cs, h, hl => by
    simp only [World.setCells]
    have hl' : o < cs.size := by simp at hl; omega
    rw [blk_setCells r (o + 1) _ _ (blk_set h o v) (by simp at hl ⊢; omega)]
    congr 3
    have e : (cs.setIfInBounds o v).toList = cs.toList.take o ++ v :: cs.toList.drop (o + 1) := by
      rw [Array.toList_setIfInBounds, List.set_eq_take_append_cons_drop, if_pos (by simpa using hl')]
    rw [e]
    have l1 : (cs.toList.take o).length = o := by simp; omega
    have e1 : List.take (o + 1) (cs.toList.take o ++ v :: cs.toList.drop (o + 1)) = cs.toList.take o ++ [v] := by
      rw [List.take_append, l1, List.take_of_length_le (by omega)]; simp
    have e2 : List.drop (o + 1 + r.length) (cs.toList.take o ++ v :: cs.toList.drop (o + 1)) = cs.toList.drop (o + (v :: r).length) := by
      rw [List.drop_append, l1, List.drop_eq_nil_of_le (by omega), List.nil_append, show o + 1 + r.length - o = r.length + 1 by omega, List.drop_succ_cons, List.drop_drop]
      congr 1; simp; omega
    rw [e1, e2]; simp
theorem Chg.setCells {S : Nat → Prop} {a : World} {g : Nat} (hp : S g ∨ a.heap.size ≤ g) : ∀ (vs : List Value) (o : Nat) {b : World}, Chg S a b → Chg S a (b.setCells g o vs)
  | [], _, _, h => h
  | v :: r, o, _, h => Chg.setCells hp r (o + 1) (h.setCell (p := ⟨g, o, none⟩) hp v)

/-! ### owned slices: exact form -/
/-- A slice that is not nil, at the head of block g, whose first n elements' cells are xs. -/
def RowAt (w : World) (e : TypeId) (sz g n cap : Nat) (xs : List Value) : Prop :=
  xs.length = n * sz ∧ ∃ cur : Array Value, w.heap[g]? = some (.cells cur e (0, 0)) ∧ n ≤ cap ∧ cap ≤ maxLen ∧ cur.size = cap * sz ∧ cur.toList.take (n * sz) = xs
/-- v: the nil slice, without elements; or one at the head of a block of the call's own. F: the blocks that it owns. -/
def Own (w : World) (e : TypeId) (sz : Nat) (v : Value) (n : Nat) (xs : List Value) (F : Option Nat) : Prop :=
  (v = .slice none 0 0 ∧ n = 0 ∧ xs = [] ∧ F = none) ∨ ∃ g cap, v = .slice (some ⟨g, 0, none⟩) n cap ∧ F = some g ∧ RowAt w e sz g n cap xs
theorem Own.row {w : World} {e : TypeId} {sz : Nat} {v : Value} {n : Nat} {xs : List Value} {F : Option Nat} (h : Own w e sz v n xs F) : w.ownsRow 0 e sz v n xs ∧ v.ownBlock = F := by
  rcases h with ⟨rfl, rfl, rfl, rfl⟩ | ⟨g, cap, rfl, rfl, hl, cur, hb, h1, h2, h3, h4⟩
  · exact ⟨⟨by simp, .inl ⟨rfl, rfl⟩⟩, rfl⟩
  · exact ⟨⟨hl, .inr ⟨g, cap, cur, rfl, Nat.zero_le _, hb, h1, h2, h3, h4⟩⟩, rfl⟩
theorem Own.of_row {w : World} {e : TypeId} {sz : Nat} {v : Value} {n : Nat} {xs : List Value} {base : Nat} (h : w.ownsRow base e sz v n xs) : Own w e sz v n xs v.ownBlock := by
  rcases h with ⟨hl, ⟨rfl, rfl⟩ | ⟨g, cap, cur, rfl, _, hb, h1, h2, h3, h4⟩⟩
  · exact .inl ⟨rfl, rfl, List.eq_nil_of_length_eq_zero (by simpa using hl), rfl⟩
  · exact .inr ⟨g, cap, rfl, rfl, hl, cur, hb, h1, h2, h3, h4⟩
theorem RowAt.lt {w : World} {e : TypeId} {sz g n cap : Nat} {xs : List Value} (h : RowAt w e sz g n cap xs) : g < w.heap.size := by
  obtain ⟨_, cur, hb, _⟩ := h; exact blk_lt hb
theorem RowAt.chg {w w' : World} {e : TypeId} {sz g n cap : Nat} {xs : List Value} {S : Nat → Prop} (h : RowAt w e sz g n cap xs) (c : Chg S w w') (hn : ¬ S g) : RowAt w' e sz g n cap xs := by
  obtain ⟨hl, cur, hb, r⟩ := h; exact ⟨hl, cur, c.heap hb hn, r⟩
theorem RowAt.cap_le {w : World} {e : TypeId} {sz g n cap : Nat} {xs : List Value} (h : RowAt w e sz g n cap xs) : n ≤ cap ∧ cap ≤ 9223372036854775807 := by
  obtain ⟨_, cur, _, h1, h2, _⟩ := h; exact ⟨h1, by simpa [maxLen] using h2⟩
theorem RowAt.cell {w : World} {e : TypeId} {sz g n cap : Nat} {xs : List Value} (h : RowAt w e sz g n cap xs) (j : Nat) (hj : j < n * sz) : w.cell? ⟨g, j, none⟩ = xs[j]? := by
  obtain ⟨hl, cur, hb, _, _, _, ht⟩ := h
  rw [blk_cell hb, ← ht, List.getElem?_take, if_pos hj]; simp
theorem RowAt.cellAny {w : World} {e : TypeId} {sz g n cap : Nat} {xs : List Value} (h : RowAt w e sz g n cap xs) (j : Nat) (hj : j < cap * sz) : (w.cell? ⟨g, j, none⟩).isSome = true := by
  obtain ⟨hl, cur, hb, _, _, hs, ht⟩ := h
  rw [blk_cell hb, Array.getElem?_eq_getElem (by omega)]; rfl
theorem RowAt.frozen {w : World} {e : TypeId} {sz g n cap : Nat} {xs : List Value} (h : RowAt w e sz g n cap xs) (j : Nat) : w.frozen? ⟨g, j, none⟩ = false := by
  obtain ⟨_, cur, hb, _⟩ := h; exact blk_frozen hb j
theorem Own.chg {w w' : World} {e : TypeId} {sz : Nat} {v : Value} {n : Nat} {xs : List Value} {F : Option Nat} {S : Nat → Prop} (h : Own w e sz v n xs F) (c : Chg S w w') (hn : ∀ g, F = some g → ¬ S g) : Own w' e sz v n xs F := by
  rcases h with h | ⟨g, cap, rfl, rfl, hr⟩
  · exact .inl h
  · exact .inr ⟨g, cap, rfl, rfl, hr.chg c (hn g rfl)⟩
theorem Own.lt {w : World} {e : TypeId} {sz : Nat} {v : Value} {n : Nat} {xs : List Value} {F : Option Nat} (h : Own w e sz v n xs F) {g : Nat} (hg : F = some g) : g < w.heap.size := by
  rcases h with ⟨_, _, _, rfl⟩ | ⟨g', cap, rfl, rfl, hr⟩
  · cases hg
  · cases hg; exact hr.lt
theorem Own.nil (w : World) (e : TypeId) (sz : Nat) : Own w e sz (.slice none 0 0) 0 [] none := .inl ⟨rfl, rfl, rfl, rfl⟩
/-- The shape of what is owned. -/
theorem Own.shape {w : World} {e : TypeId} {sz : Nat} {v : Value} {n : Nat} {xs : List Value} {F : Option Nat} (h : Own w e sz v n xs F) : ∃ A cap, v = .slice A n cap ∧ n ≤ cap ∧ cap ≤ 9223372036854775807 := by
  rcases h with ⟨rfl, rfl, _, _⟩ | ⟨g, cap, rfl, _, hr⟩
  · exact ⟨none, 0, rfl, by omega, by omega⟩
  · exact ⟨_, cap, rfl, hr.cap_le⟩
theorem Own.pos {w : World} {e : TypeId} {sz : Nat} {v : Value} {n : Nat} {xs : List Value} {F : Option Nat} (h : Own w e sz v n xs F) (hn : 0 < n) : ∃ g cap, v = .slice (some ⟨g, 0, none⟩) n cap ∧ F = some g ∧ RowAt w e sz g n cap xs := by
  rcases h with ⟨_, h0, _⟩ | h
  · omega
  · exact h

/-! ### append, in one law -/
/-- What the program's table says of a slice type t over elements of type e: zero value, cells, bytes. -/
structure ElemTy (P : Program) (t e : TypeId) (z : Value) (sz bytes : Nat) : Prop where
  und : P.underlying t = some (.slice e)
  info : ∃ i : TypeInfo, P.info? e = some i ∧ i.zero = some z ∧ i.size = sz ∧ i.bytes = bytes
  cells : z.cells.size = sz
  pos : 0 < sz
theorem ElemTy.mk' {P : Program} {t e : TypeId} {z : Value} {sz bytes : Nat} (h : P.underlying t = some (.slice e)) (hi : (P.info? e).map (fun i => (i.zero, i.size, i.bytes)) = some (some z, sz, bytes)) (hc : z.cells.size = sz) (hp : 0 < sz) : ElemTy P t e z sz bytes := by
  obtain ⟨i, h1, h2, h3, h4⟩ := info_parts hi
  exact ⟨h, ⟨i, h1, h2, h3, h4⟩, hc, hp⟩
/-- The cells that a slice value at A leads to. -/
def Src (w : World) (A : Option Addr) (news : List Value) : Prop := ∀ (j : Nat) (u : Value), news[j]? = some u → ∃ ad : Addr, A = some ad ∧ w.cell? (ad.add j) = some u
theorem Src.nil (w : World) (A : Option Addr) : Src w A [] := fun j u h => by simp at h
theorem Src.one {w : World} {ad : Addr} {x : Value} (h : w.cell? ad = some x) : Src w (some ad) [x] := fun j u hj => by
  match j, hj with
  | 0, hj => simp at hj; subst hj; exact ⟨ad, rfl, by simpa [Addr.add] using h⟩
theorem add_block (ad : Addr) (j : Nat) : (ad.add j).block = ad.block := by unfold Addr.add; split <;> rfl
theorem Src.chg {S : Nat → Prop} {w w' : World} {A : Option Addr} {news : List Value} (h : Src w A news) (c : Chg S w w') (hn : ∀ ad, A = some ad → ¬ S ad.block) : Src w' A news := fun j u hj => by
  obtain ⟨ad, rfl, hc⟩ := h j u hj
  exact ⟨ad, rfl, c.cell hc (by rw [add_block]; exact hn ad rfl)⟩
theorem Src.new (w : World) (x : Value) (e : TypeId) : Src (w.alloc (.cells #[x] e)) (some ⟨w.heap.size, 0, none⟩) [x] := Src.one (by rw [blk_cell (blk_new w _)]; rfl)
theorem oneCell_one {x : Value} (h : x.oneCell' = true) : ∀ u ∈ [x], u.oneCell' = true := fun u hu => by simp at hu; subst hu; exact h
theorem Own.src {w : World} {e : TypeId} {sz : Nat} {A : Option Addr} {cap : Nat} {n : Nat} {xs : List Value} {F : Option Nat} (h : Own w e sz (.slice A n cap) n xs F) : Src w A xs := fun j u hj => by
  rcases h with ⟨_, _, rfl, _⟩ | ⟨g, cap', hv, _, hr⟩
  · simp at hj
  · simp only [Value.slice.injEq] at hv
    obtain ⟨rfl, _, rfl⟩ := hv
    refine ⟨_, rfl, ?_⟩
    have hj' : j < xs.length := (List.getElem?_eq_some_iff.1 hj).1
    have hadd : (⟨g, 0, none⟩ : Addr).add j = ⟨g, j, none⟩ := by unfold Addr.add; split <;> simp_all
    rw [hadd, hr.cell j (by rw [← hr.1]; exact hj')]; exact hj
theorem app_run {P : Program} {w : World} {t e : TypeId} {z : Value} {sz bytes : Nat} (T : ElemTy P t e z sz bytes) {v : Value} {n : Nat} {xs : List Value} {F : Option Nat} (ho : Own w e sz v n xs F) (A : Option Addr) (m c : Nat) (news : List Value)
    (hl : news.length = m * sz) (hs : Src w A news) (h1 : ∀ u ∈ news, u.oneCell' = true) (hb : (n + m) * bytes ≤ 140737488355328) (hb2 : n + m ≤ 9223372036854775807) (ty : TypeId) :
    ∃ A' cap F' w', (Builtin.append_ #[t, t] ty #[v, .slice A m c]).run P w = .ok (.slice A' (n + m) cap) w' ∧ Own w' e sz (.slice A' (n + m) cap) (n + m) (xs ++ news) F' ∧ Chg (fun k => F = some k) w w' ∧ (∀ k, F' = some k → F = some k ∨ k = w.heap.size) := by
  obtain ⟨i, hi, hz, hsz, hby⟩ := T.info
  obtain ⟨hrow, hF⟩ := ho.row
  cases A with
  | none =>
    have hn : news = [] := by
      cases news with
      | nil => rfl
      | cons a r => obtain ⟨ad, h, _⟩ := hs 0 a rfl; cases h
    subst hn
    have hm0 : m = 0 := by
      have hp := T.pos
      have h0 : m * sz = 0 := by simpa using hl.symm
      rcases Nat.mul_eq_zero.1 h0 with h | h
      · exact h
      · omega
    subst hm0
    obtain ⟨A', cap, rfl, _⟩ := ho.shape
    refine ⟨A', cap, F, w, ?_, by simpa using ho, Chg.refl _ _, fun k h => .inl h⟩
    rcases ho with ⟨hv, rfl, _, _⟩ | ⟨g, cap', hv, _, hr⟩
    · simp only [Value.slice.injEq] at hv
      obtain ⟨rfl, _, rfl⟩ := hv
      simp [Builtin.append_, run_underlying T.und, sizeOf, typeInfo, hi, Builtin.lenOf, Builtin.firstCells]
    · simp only [Value.slice.injEq] at hv
      obtain ⟨rfl, _, rfl⟩ := hv
      simp [Builtin.append_, run_underlying T.und, sizeOf, typeInfo, hi, Builtin.lenOf, Builtin.firstCells, hr.cap_le.1, storeCells]
  | some ad =>
    obtain ⟨v', w', hr, h2, h3, _, h5⟩ := run_append_own_at (P := P) w 0 t ty e i z sz bytes T.und hi hz hsz hby T.cells T.pos v n xs hrow ad m c news hl (fun j u hj => by obtain ⟨ad', h, hc⟩ := hs j u hj; cases h; exact hc) h1 (by simpa [maxLen] using hb2) hb (Nat.zero_le _)
    have ho' := Own.of_row h2
    obtain ⟨A', cap, rfl, _⟩ := ho'.shape
    rw [hF] at h3 h5
    refine ⟨A', cap, _, w', hr, ho', Chg.of_grown h3, fun k hk => ?_⟩
    rcases h5 with h5 | h5
    · left; rw [← h5]; exact hk
    · right; rw [h5] at hk; simpa using hk.symm

/-- append within the capacity: in place. -/
theorem app_room {P : Program} {w : World} {t e : TypeId} {z : Value} {sz bytes : Nat} (T : ElemTy P t e z sz bytes) {g n n0 cap : Nat} {xs all : List Value} (hr : RowAt w e sz g n0 cap all) (hx : xs = all.take (n * sz)) (hn : n ≤ n0) (A : Addr) (m c : Nat) (news : List Value)
    (hl : news.length = m * sz) (hs : Src w (some A) news) (h1 : ∀ u ∈ news, u.oneCell' = true) (hroom : n + m ≤ cap) (ty : TypeId) :
    ∃ w', (Builtin.append_ #[t, t] ty #[.slice (some ⟨g, 0, none⟩) n cap, .slice (some A) m c]).run P w = .ok (.slice (some ⟨g, 0, none⟩) (n + m) cap) w' ∧ RowAt w' e sz g (n + m) cap (xs ++ news) ∧ Chg (fun k => k = g) w w' := by
  obtain ⟨i, hi, hz, rfl, hby⟩ := T.info
  obtain ⟨hla, cur, hb, h2, h3, h4, h5⟩ := hr
  have hle : n * i.size ≤ n0 * i.size := Nat.mul_le_mul_right _ hn
  have hle2 : n * i.size + m * i.size ≤ cap * i.size := by rw [← Nat.add_mul]; exact Nat.mul_le_mul_right _ hroom
  have hrun := run_append_room_cells (P := P) w t ty e i T.und hi g 0 n cap A m c news hl (fun j u hj => by obtain ⟨ad', h, hc⟩ := hs j u hj; cases h; exact hc) h1 hroom
    (fun j hj => by rw [blk_cell hb, Array.getElem?_eq_getElem (by omega)]; rfl) (fun j hj => blk_frozen hb _)
  refine ⟨_, hrun, ?_, Chg.setCells (S := fun k => k = g) (.inl rfl) _ _ (Chg.refl _ _)⟩
  have hx' : xs = cur.toList.take (n * i.size) := by rw [hx, ← h5, List.take_take, Nat.min_eq_left hle]
  have hlx : xs.length = n * i.size := by rw [hx']; simp; omega
  refine ⟨by rw [List.length_append, hlx, hl, Nat.add_mul], _, blk_setCells news _ w cur hb (by omega), by omega, h3, by simp; omega, ?_⟩
  rw [Nat.zero_add, ← hx', Nat.add_mul]
  rw [show n * i.size + m * i.size = (xs ++ news).length by rw [List.length_append, hlx, hl]]
  exact List.take_left
/-- clear of k elements behind the first n: these stay. -/
theorem clear_run {P : Program} {w : World} {t e : TypeId} {z : Value} {sz bytes : Nat} (T : ElemTy P t e z sz bytes) (hz1 : ∀ u ∈ z.cells.toList, u.oneCell' = true) {g n cap : Nat} {xs : List Value} (hr : RowAt w e sz g n cap xs) (k c : Nat) (hk : 0 < k) (hroom : n + k ≤ cap) (off : Nat) (hoff : off = n * sz) (ty : TypeId) :
    ∃ w', (Builtin.clear_ #[t] ty #[.slice (some ⟨g, off, none⟩) k c]).run P w = .ok (.tuple #[]) w' ∧ RowAt w' e sz g n cap xs ∧ Chg (fun k => k = g) w w' := by
  subst hoff
  obtain ⟨i, hi, hz, rfl, hby⟩ := T.info
  obtain ⟨hla, cur, hb, h2, h3, h4, h5⟩ := hr
  have hle2 : n * i.size + k * i.size ≤ cap * i.size := by rw [← Nat.add_mul]; exact Nat.mul_le_mul_right _ hroom
  obtain ⟨vs, hvs⟩ : ∃ vs, vs = (Builtin.zeroCells z.cells k).toList := ⟨_, rfl⟩
  have hlen : vs.length = k * i.size := by rw [hvs]; simp [Builtin.zeroCells, T.cells]
  have h1 : ∀ u ∈ vs, u.oneCell' = true := by
    intro u hu
    rw [hvs] at hu
    simp only [Builtin.zeroCells, Array.toList_map, List.mem_map] at hu
    obtain ⟨j, _, rfl⟩ := hu
    apply hz1
    have hp := T.pos
    have hj : j % z.cells.size < z.cells.size := Nat.mod_lt _ (by rw [T.cells]; exact hp)
    rw [getElem!_pos z.cells (j % z.cells.size) hj]
    simp
  have hst := run_storeCells_cells (P := P) g (n * i.size) vs 0 w (fun j hj => by rw [blk_cell hb, Array.getElem?_eq_getElem (by omega)]; rfl) (fun j hj => blk_frozen hb _) h1
  simp only [Nat.add_zero] at hst
  refine ⟨w.setCells g (n * i.size) vs, ?_, ?_, Chg.setCells (S := fun k => k = g) (.inl rfl) vs (n * i.size) (Chg.refl _ w)⟩
  · obtain ⟨m, rfl⟩ : ∃ m, k = m + 1 := ⟨k - 1, by omega⟩
    simp [Builtin.clear_, run_underlying T.und, zeroValue, typeInfo, hi, hz, ← hvs, hst]
  · refine ⟨hla, _, blk_setCells vs _ w cur hb (by omega), h2, h3, by simp; omega, ?_⟩
    simp only [List.append_assoc]
    rw [List.take_append_of_le_length (by simp; omega), List.take_take, Nat.min_self, h5]

/-- A new row without elements. -/
theorem own_empty (w : World) (e : TypeId) (sz : Nat) : Own (w.alloc (.cells #[] e)) e sz (.slice (some ⟨w.heap.size, 0, none⟩) 0 0) 0 [] (some w.heap.size) :=
  .inr ⟨w.heap.size, 0, rfl, rfl, by simp, #[], blk_new _ _, by omega, by unfold maxLen; omega, by simp, by simp⟩
/-- 'append([]T{}, xs...)': a row of the call's own, apart. -/
theorem apart_run {P : Program} {w : World} {t e : TypeId} {z : Value} {sz bytes : Nat} (T : ElemTy P t e z sz bytes) (A : Option Addr) (m c : Nat) (news : List Value)
    (hl : news.length = m * sz) (hs : Src w A news) (h1 : ∀ u ∈ news, u.oneCell' = true) (hb : m * bytes ≤ 140737488355328) (hb2 : m ≤ 9223372036854775807) (ty : TypeId) :
    ∃ A' cap F' w', (Builtin.append_ #[t, t] ty #[.slice (some ⟨w.heap.size, 0, none⟩) 0 0, .slice A m c]).run P (w.alloc (.cells #[] e)) = .ok (.slice A' m cap) w' ∧ Own w' e sz (.slice A' m cap) m news F' ∧ Chg (fun _ => False) w w' ∧ (∀ k, F' = some k → w.heap.size ≤ k) := by
  obtain ⟨A', cap, F', w', h, ho, hc, hf⟩ := app_run T (own_empty w e sz) A m c news hl (hs.chg ((Chg.refl (fun _ => False) w).alloc _) (fun _ _ h => h)) h1 (by simpa using hb) (by simpa using hb2) ty
  rw [Nat.zero_add] at h ho
  refine ⟨A', cap, F', w', h, by simpa using ho, ?_, fun k hk => ?_⟩
  · exact ((Chg.refl (fun _ => False) w).alloc _).then hc (fun i hi => .inr (by cases hi; exact Nat.le_refl _))
  · rcases hf k hk with h | h
    · cases h; exact Nat.le_refl _
    · simp at h; omega
/-- 'append(append([]T{}, xs...), x)': whatever order the two makings take. -/
theorem apart1_runs {P : Program} {w : World} {t e : TypeId} {z : Value} {bytes : Nat} (T : ElemTy P t e z 1 bytes) (A : Option Addr) (m c : Nat) (xs : List Value) (x : Value)
    (hl : xs.length = m) (hs : Src w A xs) (h1 : ∀ u ∈ xs, u.oneCell' = true) (hx : x.oneCell' = true) (hb : (m + 1) * bytes ≤ 140737488355328) (hm : m ≤ 140737488355328) (ty : TypeId) :
    (∃ A1 c1 w2, (Builtin.append_ #[t, t] ty #[.slice (some ⟨w.heap.size, 0, none⟩) 0 0, .slice A m c]).run P (w.alloc (.cells #[] e)) = .ok (.slice A1 m c1) w2 ∧ Chg (fun _ => False) w w2 ∧
      ∃ A2 c2 F2 w3, (Builtin.append_ #[t, t] ty #[.slice A1 m c1, .slice (some ⟨w2.heap.size, 0, none⟩) 1 1]).run P (w2.alloc (.cells #[x] e)) = .ok (.slice A2 (m + 1) c2) w3 ∧ Own w3 e 1 (.slice A2 (m + 1) c2) (m + 1) (xs ++ [x]) F2 ∧ Chg (fun _ => False) w w3 ∧ (∀ k, F2 = some k → w.heap.size ≤ k)) ∧
    (∃ A1 c1 w2, (Builtin.append_ #[t, t] ty #[.slice (some ⟨w.heap.size, 0, none⟩) 0 0, .slice A m c]).run P ((w.alloc (.cells #[] e)).alloc (.cells #[x] e)) = .ok (.slice A1 m c1) w2 ∧ Chg (fun _ => False) w w2 ∧
      ∃ A2 c2 F2 w3, (Builtin.append_ #[t, t] ty #[.slice A1 m c1, .slice (some ⟨w.heap.size + 1, 0, none⟩) 1 1]).run P w2 = .ok (.slice A2 (m + 1) c2) w3 ∧ Own w3 e 1 (.slice A2 (m + 1) c2) (m + 1) (xs ++ [x]) F2 ∧ Chg (fun _ => False) w w3 ∧ (∀ k, F2 = some k → w.heap.size ≤ k)) ∧
    (∃ A1 c1 w2, (Builtin.append_ #[t, t] ty #[.slice (some ⟨w.heap.size + 1, 0, none⟩) 0 0, .slice A m c]).run P ((w.alloc (.cells #[x] e)).alloc (.cells #[] e)) = .ok (.slice A1 m c1) w2 ∧ Chg (fun _ => False) w w2 ∧
      ∃ A2 c2 F2 w3, (Builtin.append_ #[t, t] ty #[.slice A1 m c1, .slice (some ⟨w.heap.size, 0, none⟩) 1 1]).run P w2 = .ok (.slice A2 (m + 1) c2) w3 ∧ Own w3 e 1 (.slice A2 (m + 1) c2) (m + 1) (xs ++ [x]) F2 ∧ Chg (fun _ => False) w w3 ∧ (∀ k, F2 = some k → w.heap.size ≤ k)) := by
  have hbm : m * bytes ≤ 140737488355328 := Nat.le_trans (Nat.mul_le_mul_right _ (Nat.le_succ m)) hb
  have fin : ∀ {W w2 : World} {A1 : Option Addr} {c1 : Nat} {F1 : Option Nat} (bx : Nat), Chg (fun _ => False) w W → Own W e 1 (.slice A1 m c1) m xs F1 → (∀ k, F1 = some k → w.heap.size ≤ k) → W.cell? ⟨bx, 0, none⟩ = some x →
      ∃ A2 c2 F2 w3, (Builtin.append_ #[t, t] ty #[.slice A1 m c1, .slice (some ⟨bx, 0, none⟩) 1 1]).run P W = .ok (.slice A2 (m + 1) c2) w3 ∧ Own w3 e 1 (.slice A2 (m + 1) c2) (m + 1) (xs ++ [x]) F2 ∧ Chg (fun _ => False) w w3 ∧ (∀ k, F2 = some k → w.heap.size ≤ k) := by
    intro W w2 A1 c1 F1 bx hc ho hf hcx
    obtain ⟨A2, c2, F2, w3, h, ho2, hc2, hf2⟩ := app_run T ho (some ⟨bx, 0, none⟩) 1 1 [x] rfl (Src.one hcx) (oneCell_one hx) hb (by omega) ty
    refine ⟨A2, c2, F2, w3, h, ho2, hc.then hc2 (fun i hi => .inr (hf i hi)), fun k hk => ?_⟩
    rcases hf2 k hk with h | h
    · exact hf k h
    · have := hc.size; omega
  refine ⟨?_, ?_, ?_⟩
  · obtain ⟨A1, c1, F1, w2, h, ho, hc, hf⟩ := apart_run T A m c xs (by simpa using hl) hs h1 hbm (by omega) ty
    refine ⟨A1, c1, w2, h, hc, ?_⟩
    exact fin (w2 := w2) (F1 := F1) w2.heap.size (hc.alloc _) (ho.chg ((Chg.refl (fun _ => False) w2).alloc _) (fun _ _ h => h)) hf (by rw [blk_cell (blk_new w2 _)]; rfl)
  · have ho0 := (own_empty w e 1).chg ((Chg.refl (fun _ => False) (w.alloc (.cells #[] e))).alloc (.cells #[x] e)) (fun _ _ h => h)
    have hcw : Chg (fun _ => False) w ((w.alloc (.cells #[] e)).alloc (.cells #[x] e)) := ((Chg.refl _ w).alloc _).alloc _
    obtain ⟨A1, c1, F1, w2, h, ho, hc, hf⟩ := app_run T ho0 A m c xs (by simpa using hl) (hs.chg hcw (fun _ _ h => h)) h1 (by simpa using hbm) (by simp; omega) ty
    rw [Nat.zero_add] at h ho
    have hsz : (w.alloc (.cells #[] e)).heap.size = w.heap.size + 1 := by simp
    have hcx : w2.cell? ⟨w.heap.size + 1, 0, none⟩ = some x := hc.cell (by rw [← hsz, blk_cell (blk_new _ _)]; rfl) (by simp)
    exact ⟨A1, c1, w2, h, hcw.then hc (fun i hi => .inr (by cases hi; exact Nat.le_refl _)), fin (w2 := w2) (F1 := F1) (w.heap.size + 1) (hcw.then hc (fun i hi => .inr (by cases hi; exact Nat.le_refl _))) (by simpa using ho) (fun k hk => by rcases hf k hk with h | h; (cases h; exact Nat.le_refl _); (simp at h; omega)) hcx⟩
  · have hsz : (w.alloc (.cells #[x] e)).heap.size = w.heap.size + 1 := by simp
    have ho0 := own_empty (w.alloc (.cells #[x] e)) e 1
    rw [hsz] at ho0
    have hcw : Chg (fun _ => False) w ((w.alloc (.cells #[x] e)).alloc (.cells #[] e)) := ((Chg.refl _ w).alloc _).alloc _
    obtain ⟨A1, c1, F1, w2, h, ho, hc, hf⟩ := app_run T ho0 A m c xs (by simpa using hl) (hs.chg hcw (fun _ _ h => h)) h1 (by simpa using hbm) (by simp; omega) ty
    rw [Nat.zero_add] at h ho
    have hcx : w2.cell? ⟨w.heap.size, 0, none⟩ = some x := hc.cell (by rw [blk_cell (blk_alloc (blk_new w _) _)]; rfl) (by simp)
    exact ⟨A1, c1, w2, h, hcw.then hc (fun i hi => .inr (by cases hi; omega)), fin (w2 := w2) (F1 := F1) w.heap.size (hcw.then hc (fun i hi => .inr (by cases hi; omega))) (by simpa using ho) (fun k hk => by rcases hf k hk with h | h; (cases h; omega); (simp at h; omega)) hcx⟩
/-- 'append(append([]T{}, xs[:k]...), xs[k+1:]...)', xs a row of one-cell elements of the call's own. -/
theorem cut_runs {P : Program} {w : World} {t e : TypeId} {z : Value} {bytes : Nat} (T : ElemTy P t e z 1 bytes) {g n cap k : Nat} {xs : List Value} (hr : RowAt w e 1 g n cap xs) (hk : k < n) (h1 : ∀ u ∈ xs, u.oneCell' = true) (hb : n * bytes ≤ 140737488355328) (ty : TypeId) :
    ∃ A, (if cap = k + 1 then some (⟨g, 0, none⟩ : Addr) else some ⟨g, k + 1, none⟩) = some A ∧ ∃ A1 c1 w2, (Builtin.append_ #[t, t] ty #[.slice (some ⟨w.heap.size, 0, none⟩) 0 0, .slice (some ⟨g, 0, none⟩) k cap]).run P (w.alloc (.cells #[] e)) = .ok (.slice A1 k c1) w2 ∧
    ∃ A2 c2 F2 w3, (Builtin.append_ #[t, t] ty #[.slice A1 k c1, .slice (some A) (n - (k + 1)) (cap - (k + 1))]).run P w2 = .ok (.slice A2 (n - 1) c2) w3 ∧ Own w3 e 1 (.slice A2 (n - 1) c2) (n - 1) (xs.take k ++ xs.drop (k + 1)) F2 ∧ Chg (fun _ => False) w w3 ∧ (∀ k, F2 = some k → w.heap.size ≤ k) := by
  have hlen : xs.length = n := by have := hr.1; omega
  have hcap := hr.cap_le
  have hbk : ∀ q, q ≤ n → q * bytes ≤ 140737488355328 := fun q hq => Nat.le_trans (Nat.mul_le_mul_right _ hq) hb
  obtain ⟨A, hA, hsrc⟩ : ∃ A : Addr, (if cap = k + 1 then some (⟨g, 0, none⟩ : Addr) else some ⟨g, k + 1, none⟩) = some A ∧ (A.block = g ∧ Src w (some A) (xs.drop (k + 1))) := by
    by_cases h : cap = k + 1
    · refine ⟨⟨g, 0, none⟩, by simp [h], rfl, ?_⟩
      rw [List.drop_eq_nil_of_le (by omega)]
      exact Src.nil _ _
    · refine ⟨⟨g, k + 1, none⟩, by simp [h], rfl, fun j u hu => ⟨_, rfl, ?_⟩⟩
      rw [List.getElem?_drop] at hu
      have hk := (List.getElem?_eq_some_iff.1 hu).1
      rw [Addr.add_lit, hr.cell (k + 1 + j) (by omega)]
      exact hu
  obtain ⟨A1, c1, F1, w2, h2, ho2, hc2, hf2⟩ := apart_run T (some ⟨g, 0, none⟩) k cap (xs.take k) (by simp; omega) (fun j u hj => by
    rw [List.getElem?_take] at hj
    split at hj
    · refine ⟨_, rfl, ?_⟩
      rw [Addr.add_lit, Nat.zero_add, hr.cell j (by omega)]; exact hj
    · cases hj) (fun u hu => h1 u (List.mem_of_mem_take hu)) (hbk k (by omega)) (by omega) ty
  obtain ⟨A2, c2, F2, w3, h3, ho3, hc3, hf3⟩ := app_run T ho2 (some A) (n - (k + 1)) (cap - (k + 1)) (xs.drop (k + 1)) (by simp; omega) (hsrc.2.chg hc2 (fun _ _ h => h)) (fun u hu => h1 u (List.mem_of_mem_drop hu)) (hbk _ (by omega)) (by omega) ty
  have e1 : k + (n - (k + 1)) = n - 1 := by omega
  rw [e1] at h3 ho3
  refine ⟨A, hA, A1, c1, w2, h2, A2, c2, F2, w3, h3, ho3, hc2.then hc3 (fun i hi => .inr (hf2 i hi)), fun j hj => ?_⟩
  rcases hf3 j hj with h | h
  · exact hf2 j h
  · have := hc2.size; omega

/-! ### a call of append or clear whose run is known -/
section
variable {P : Program} {w : World} {ops : Array Oper} {rest : List Oper} {o : Oper} {a : Act} {Q : Exit → Act → World → Prop} {K : Act → World → Prop}
theorem wp_append_run (s x : Operand) (t t' : TypeId) (ho : o.op = .call { callee := .builtin .append, args := #[s, x], argTypes := #[t, t'] }) (vs vx : Value) (hs : a.eval s = vs) (hx : a.eval x = vx)
    {v : Value} {w' : World} (hr : (Builtin.append_ #[t, t'] o.type #[vs, vx]).run P w = .ok v w') (h : K (a.put o.dst v) w') : o.wp P a w K Q := by
  unfold Oper.wp execOp
  simp only [ho, resolve, invoke, builtin, Sem.run_bind, Sem.run_pure, Result.andThen_ok, List.map_toArray, List.map_cons, List.map_nil, hs, hx, hr]
  exact h
theorem wpList_append_run (hgd : o.guard = none) (s x : Operand) (t t' : TypeId) (ho : o.op = .call { callee := .builtin .append, args := #[s, x], argTypes := #[t, t'] }) (vs vx : Value) (hs : a.eval s = vs) (hx : a.eval x = vx)
    {v : Value} {w' : World} (hr : (Builtin.append_ #[t, t'] o.type #[vs, vx]).run P w = .ok v w') (h : wpList P ops Q rest (a.put o.dst v) w') : wpList P ops Q (o :: rest) a w :=
  wpList_plain hgd fun _ hK => wp_append_run s x t t' ho vs vx hs hx hr (hK _ _ h)
theorem step_append_run {E : Prop} (hgd : o.guard = none) (s x : Operand) (t t' : TypeId) (ho : o.op = .call { callee := .builtin .append, args := #[s, x], argTypes := #[t, t'] }) (vs vx : Value) (hs : a.eval s = vs) (hx : a.eval x = vx)
    {v : Value} {w' : World} (hr : (Builtin.append_ #[t, t'] o.type #[vs, vx]).run P w = .ok v w') (h : K (a.put o.dst v) w') : if Region.wanted o (yielded ops a.tmps) = true then Oper.wp P o a w K Q else E := by
  have hw : Region.wanted o (yielded ops a.tmps) = true := by simp [Region.wanted, hgd]
  rw [if_pos hw]
  exact wp_append_run s x t t' ho vs vx hs hx hr h
theorem wp_clear_run (x : Operand) (t : TypeId) (ho : o.op = .call { callee := .builtin .clear, args := #[x], argTypes := #[t] }) (vx : Value) (hx : a.eval x = vx)
    {v : Value} {w' : World} (hr : (Builtin.clear_ #[t] o.type #[vx]).run P w = .ok v w') (h : K (a.put o.dst v) w') : o.wp P a w K Q := by
  unfold Oper.wp execOp
  simp only [ho, resolve, invoke, builtin, Sem.run_bind, Sem.run_pure, Result.andThen_ok, List.map_toArray, List.map_cons, List.map_nil, hx, hr]
  exact h
theorem wpList_clear_run (hgd : o.guard = none) (x : Operand) (t : TypeId) (ho : o.op = .call { callee := .builtin .clear, args := #[x], argTypes := #[t] }) (vx : Value) (hx : a.eval x = vx)
    {v : Value} {w' : World} (hr : (Builtin.clear_ #[t] o.type #[vx]).run P w = .ok v w') (h : wpList P ops Q rest (a.put o.dst v) w') : wpList P ops Q (o :: rest) a w :=
  wpList_plain hgd fun _ hK => wp_clear_run x t ho vx hx hr (hK _ _ h)
end
end Go.Cn
