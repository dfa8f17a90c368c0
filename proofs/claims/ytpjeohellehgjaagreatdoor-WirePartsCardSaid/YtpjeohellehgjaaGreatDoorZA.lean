import Derived.Test.YtpjeohellehgjaaGreatDoorL0
import Derived.Test.YtpjeohellehgjaaGreatDoorV2
import Derived.Test.YtpjeohellehgjaaGreatDoorL3
import Derived.Laws.MakeOwn
import Derived.Laws.OwnMore
import Derived.Test.YtpjeohellehgjaaGreatDoorV4
import Derived.Lib.AppendZerosOnto
import Derived.Lib.Overlaps
import Derived.Laws.IdiomCopy
import Derived.Deep.MidRow
import Derived.Laws.Bits64
import Derived.Laws.Bits64b
import Derived.Laws.BitsLemmas
import Derived.Laws.BytesArg
import Derived.Lib.AppendStr
import Derived.Test.YtpjeohellehgjaaGreatDoorVG
import Derived.Test.YtpjeohellehgjaaGreatDoorV3
section
/- More of what L0 has: delete-by-copy with the world between. -/
set_option linter.unusedVariables false
set_option linter.unusedSimpArgs false
namespace Go.Cn
open Go.RowKit
theorem cut_runs2 {P : Program} {w : World} {t e : TypeId} {z : Value} {bytes : Nat} (T : ElemTy P t e z 1 bytes) {g n cap k : Nat} {xs : List Value} (hr : RowAt w e 1 g n cap xs) (hk : k < n) (h1 : ∀ u ∈ xs, u.oneCell' = true) (hb : n * bytes ≤ 140737488355328) (ty : TypeId) :
    ∃ A, (if cap = k + 1 then some (⟨g, 0, none⟩ : Addr) else some ⟨g, k + 1, none⟩) = some A ∧ ∃ A1 c1 w2, (Builtin.append_ #[t, t] ty #[.slice (some ⟨w.heap.size, 0, none⟩) 0 0, .slice (some ⟨g, 0, none⟩) k cap]).run P (w.alloc (.cells #[] e)) = .ok (.slice A1 k c1) w2 ∧ Chg (fun _ => False) w w2 ∧
    ∃ A2 c2 F2 w3, (Builtin.append_ #[t, t] ty #[.slice A1 k c1, .slice (some A) (n - (k + 1)) (cap - (k + 1))]).run P w2 = .ok (.slice A2 (n - 1) c2) w3 ∧ Own w3 e 1 (.slice A2 (n - 1) c2) (n - 1) (xs.take k ++ xs.drop (k + 1)) F2 ∧ Chg (fun _ => False) w w3 ∧ (∀ k, F2 = some k → w.heap.size ≤ k) := by
  have hlen : xs.length = n := by have := hr.1; omega
  have hcap := hr.cap_le
  have hbk : ∀ q, q ≤ n → q * bytes ≤ 140737488355328 := fun q hq => Nat.le_trans (Nat.mul_le_mul_right _ hq) hb
  obtain ⟨A, hA, hsrc⟩ : ∃ A : Addr, (if cap = k + 1 then some (⟨g, 0, none⟩ : Addr) else some ⟨g, k + 1, none⟩) = some A ∧ (A.block = g ∧ Src w (some A) (xs.drop (k + 1))) := by
    by_cases h : cap = k + 1
    · refine ⟨⟨g, 0, none⟩, by simp [h], rfl, ?_⟩
      rw [List.drop_eq_nil_of_le (by omega)]
      exact Src.nil _ _
    · refine ⟨⟨g, k + 1, none⟩, by simp [h], rfl, fun j u hu => ⟨_, rfl, ?_⟩⟩
      rw [List.getElem?_drop] at hu
      have hk := (List.getElem?_eq_some_iff.1 hu).1
      rw [Addr.add_lit, hr.cell (k + 1 + j) (by omega)]
      exact hu
  obtain ⟨A1, c1, F1, w2, h2, ho2, hc2, hf2⟩ := apart_run T (some ⟨g, 0, none⟩) k cap (xs.take k) (by simp; omega) (fun j u hj => by
    rw [List.getElem?_take] at hj
    split at hj
    · refine ⟨_, rfl, ?_⟩
      rw [Addr.add_lit, Nat.zero_add, hr.cell j (by omega)]; exact hj
    · cases hj) (fun u hu => h1 u (List.mem_of_mem_take hu)) (hbk k (by omega)) (by omega) ty
  obtain ⟨A2, c2, F2, w3, h3, ho3, hc3, hf3⟩ := app_run T ho2 (some A) (n - (k + 1)) (cap - (k + 1)) (xs.drop (k + 1)) (by simp; omega) (hsrc.2.chg hc2 (fun _ _ h => h)) (fun u hu => h1 u (List.mem_of_mem_drop hu)) (hbk _ (by omega)) (by omega) ty
  have e1 : k + (n - (k + 1)) = n - 1 := by omega
  rw [e1] at h3 ho3
  refine ⟨A, hA, A1, c1, w2, h2, hc2, A2, c2, F2, w3, h3, ho3, hc2.then hc3 (fun i hi => .inr (hf2 i hi)), fun j hj => ?_⟩
  rcases hf3 j hj with h | h
  · exact hf2 j h
  · have := hc2.size; omega
end Go.Cn
end

section
/- Rows made, and stored into. -/
set_option linter.unusedVariables false
set_option linter.unusedSimpArgs false
namespace Go.Cn
open Go.RowKit
theorem RowAt.store {w : World} {e : TypeId} {g n cap : Nat} {xs : List Value} (h : RowAt w e 1 g n cap xs) (p : Nat) (v : Value) : RowAt (w.setCell ⟨g, p, none⟩ v) e 1 g n cap (xs.set p v) := by
  obtain ⟨hl, cur, hb, h1, h2, h3, h4⟩ := h
  refine ⟨by simpa using hl, cur.setIfInBounds p v, blk_set hb p v, h1, h2, by simpa using h3, ?_⟩
  rw [← h4]
  simp [List.take_set]
theorem RowAt.own {w : World} {e : TypeId} {g n cap : Nat} {xs : List Value} (h : RowAt w e 1 g n cap xs) : Own w e 1 (.slice (some ⟨g, 0, none⟩) n cap) n xs (some g) := .inr ⟨g, cap, rfl, rfl, h⟩
theorem makeK {P : Program} {t e : TypeId} {z : Value} {bytes : Nat} (T : ElemTy P t e z 1 bytes) (hz : z.cells = #[z]) (n : Nat) (hn : bytes * n ≤ 281474976710656) (hn2 : n ≤ 9223372036854775807) {K : Value → World → Prop} {w : World}
    (h : ∀ w', RowAt w' e 1 w.heap.size n n (List.replicate n z) → Qt w w' → K (.slice (some ⟨w.heap.size, 0, none⟩) n n) w') : ValK P (Instr.makeSlice t (.int .i64 n) (.int .i64 n)) K w := by
  obtain ⟨i, hi, hz', hsz, hby⟩ := T.info
  obtain ⟨w', hr, ho, hg⟩ := run_make_full (P := P) w 0 t e i z 1 T.und hi hz' hsz .i64 .i64 n (by rw [hby]; exact hn) (by unfold maxLen; omega) (Nat.zero_le _)
  unfold ValK
  rw [hr]
  refine h w' ?_ ((Chg.of_grown hg).mono (fun k _ h => by cases h))
  have := Own.of_row ho
  rcases this with ⟨h, _⟩ | ⟨g, cap, hv, _, hrow⟩
  · cases h
  · cases hv
    rw [hz] at hrow
    have e : (madeCells #[z] (n * 1)).toList = List.replicate n z := by
      simp only [madeCells, Array.toList_map, Array.toList_range, Nat.mul_one]
      apply List.ext_getElem
      · simp
      · intro i h1 h2
        simp [Nat.mod_one]
    rw [e] at hrow
    exact hrow
end Go.Cn
end

section
/- Structs of four fields as arguments; rows of structs as flat cells. -/
set_option linter.unusedVariables false
set_option linter.unusedSimpArgs false
namespace Go.Cn
open Go.RowKit
theorem opens_struct4 {P : Program} {t : TypeId} {f0 f1 f2 f3 : Field} {α β γ δ : Type} {R : World → List Value → α → Prop} {S : World → List Value → β → Prop} {T : World → List Value → γ → Prop} {U : World → List Value → δ → Prop} (n0 n1 n2 n3 : Nat) (h : P.underlying t = some (.struct #[f0, f1, f2, f3]))
    (h0 : Opens P f0.type R) (h1 : Opens P f1.type S) (h2 : Opens P f2.type T) (h3 : Opens P f3.type U)
    (o0 : f0.offset = 0) (c0 : P.cellsOf f0.type = n0) (o1 : f1.offset = n0) (c1 : P.cellsOf f1.type = n1) (o2 : f2.offset = n0 + n1) (c2 : P.cellsOf f2.type = n2) (o3 : f3.offset = n0 + n1 + n2) (c3 : P.cellsOf f3.type = n3) (ct : P.cellsOf t = n0 + n1 + n2 + n3) : Opens P t (RPair n0 R (RPair n1 S (RPair n2 T U))) := fun H enc w spare held fuel cs x hx => by
  obtain ⟨y0, y1, y2, y3, n, _, hl, e0, e1, e2, e3⟩ := Go.Joins.trod_struct4 h hx
  obtain ⟨a, ha⟩ := h0 H enc w spare held n _ _ e0
  obtain ⟨b, hb⟩ := h1 H enc w spare held n _ _ e1
  obtain ⟨c, hc⟩ := h2 H enc w spare held n _ _ e2
  obtain ⟨d, hd⟩ := h3 H enc w spare held n _ _ e3
  refine ⟨(a, b, c, d), ?_, ?_, ?_, ?_⟩
  · rw [o0, c0] at ha; simpa using ha
  · rw [o1, c1] at hb; exact hb
  · rw [o2, c2] at hc
    rw [List.drop_drop]; exact hc
  · rw [o3, c3, List.take_of_length_le (by simp; omega)] at hd
    rw [List.drop_drop, List.drop_drop, ← Nat.add_assoc]; exact hd
theorem flat_len {α : Type} {enc : α → List Value} {sz : Nat} (hz : ∀ x, (enc x).length = sz) (l : List α) : (l.flatMap enc).length = l.length * sz := by
  induction l with
  | nil => simp
  | cons a l ih => rw [List.flatMap_cons, List.length_append, hz, ih, List.length_cons, Nat.succ_mul, Nat.add_comm]
theorem flat_get {α : Type} {enc : α → List Value} {sz : Nat} (hz : ∀ x, (enc x).length = sz) : ∀ (l : List α) (i : Nat) (hi : i < l.length) (j : Nat), j < sz → (l.flatMap enc)[i * sz + j]? = (enc l[i])[j]?
  | a :: l, 0, _, j, hj => by
    rw [List.flatMap_cons, Nat.zero_mul, Nat.zero_add, List.getElem?_append_left (by rw [hz]; exact hj)]; rfl
  | a :: l, i + 1, hi, j, hj => by
    rw [List.flatMap_cons, List.getElem?_append_right (by rw [hz, Nat.succ_mul]; omega), hz, Nat.succ_mul]
    have e : i * sz + sz + j - sz = i * sz + j := by omega
    rw [e, flat_get hz l i (by simpa using hi) j hj]; rfl
theorem Reads.of_rows {sz : Nat} (hsz : 0 < sz) {α : Type} {enc : α → List Value} (hz : ∀ x, (enc x).length = sz) {R : World → List Value → α → Prop} (hR : ∀ w cs x, R w cs x → cs.length = sz → cs = enc x) {w : World} {A : Option Addr} {l : List α} (h : RRow sz R w A l) : Reads w A (l.flatMap enc) := by
  by_cases hl : 0 < l.length
  · obtain ⟨b, off, rfl, _, hc⟩ := h.flat hsz hl
    refine .inr ⟨b, off, rfl, fun j hj => ?_⟩
    rw [flat_len hz] at hj
    have e : j = j / sz * sz + j % sz := by rw [Nat.mul_comm]; exact (Nat.div_add_mod j sz).symm
    have hi : j / sz < l.length := by rw [Nat.div_lt_iff_lt_mul hsz]; exact hj
    have hm : j % sz < sz := Nat.mod_lt _ hsz
    obtain ⟨cs, h1, h3, h2⟩ := hc (j / sz) hi
    have h4 := h2 (j % sz) hm
    rw [hR _ _ _ h1 h3] at h4
    rw [← flat_get hz l (j / sz) hi (j % sz) hm, ← e] at h4
    exact h4
  · exact .inl (by rw [List.eq_nil_of_length_eq_zero (show l.length = 0 by omega)]; rfl)
/-- A cell of the i-th. -/
theorem Reads.at {sz : Nat} {α : Type} [Inhabited α] {enc : α → List Value} (hz : ∀ x, (enc x).length = sz) {w : World} {A : Option Addr} {l : List α} (h : Reads w A (l.flatMap enc)) {i : Nat} (hi : i < l.length) (hsz : 0 < sz) : ∃ g o, A = some ⟨g, o, none⟩ ∧ ∀ j, j < sz → w.cell? ⟨g, o + (i * sz + j), none⟩ = (enc (l.getD i default))[j]? := by
  have hp : ∀ j, j < sz → i * sz + j < (l.flatMap enc).length := by
    intro j hj
    rw [flat_len hz]
    have : (i + 1) * sz ≤ l.length * sz := Nat.mul_le_mul_right _ (by omega)
    rw [Nat.succ_mul] at this; omega
  rcases h with h | ⟨g, o, rfl, h⟩
  · have := hp 0 hsz
    rw [h] at this; simp at this
  · refine ⟨g, o, rfl, fun j hj => ?_⟩
    rw [h _ (hp j hj), flat_get hz l i hi j hj]
    simp [hi]
end Go.Cn
end

section
/- Rows of things of any size: copy into them, zeros behind them, a call of an outer function. -/
set_option linter.unusedVariables false
set_option linter.unusedSimpArgs false
namespace Go.Cn
open Go.RowKit
theorem callV_ext {P : Program} {f : FuncId} {fn : Func} {e : Array Value → Sem Value} (hf : P.funcs[f]? = some fn) (hname : (fn.name == "runtime.NumGoroutine") = false) (hb : fn.body.isNone = true) (hn : Extern.findNext fn = none) (he : Extern.find fn = some e)
    {args : Array Value} {w w' : World} {v : Value} {K : Value → World → Prop} (hr : (e args).run P w = .ok v w') (h : K v w') : CallV P (.func (.func f) #[] #[]) args K w := by
  unfold CallV
  have h1 := run_callFunc_extern (P := P) hf hname hb hn he args w
  simp only [Sem.run_bind, Deferred.ofValue]
  simp only [Sem.run_pure, Result.andThen_ok, invoke, List.append_nil, Array.append_empty]
  simp [h1, hr, NextK, h]
/-- copy over a row's cells, whatever the size of an element: all is read before anything is written. -/
theorem copy_run {P : Program} {w : World} {t e : TypeId} {z : Value} {sz bytes : Nat} (T : ElemTy P t e z sz bytes) (t' ty : TypeId) {g n cap : Nat} {xs : List Value} (hr : RowAt w e sz g n cap xs) (off dLen dCap : Nat) (A : Option Addr) (sLen sCap : Nat) (cs : List Value)
    (hl : cs.length = min sLen dLen * sz) (hs : Src w A cs) (hfit : off + cs.length ≤ cap * sz) (h1 : ∀ v ∈ cs, v.oneCell' = true) (hA : A = none → sLen = 0 ∧ sCap = 0) :
    (Builtin.copy_ #[t, t'] ty #[.slice (some ⟨g, off, none⟩) dLen dCap, .slice A sLen sCap]).run P w = .ok (goInt ((min sLen dLen : Nat) : Int)) (w.setCells g off cs) := by
  obtain ⟨i, hi, hz, rfl, hby⟩ := T.info
  obtain ⟨hla, cur, hb, h2, h3, h4, h5⟩ := hr
  have hst := run_storeCells_cells (P := P) g off cs 0 w (fun j hj => by rw [blk_cell hb, Array.getElem?_eq_getElem (by omega)]; rfl) (fun j hj => blk_frozen hb _) h1
  simp only [Nat.add_zero] at hst
  have hmm : Nat.min sLen dLen = min sLen dLen := rfl
  cases A with
  | none =>
    obtain ⟨rfl, rfl⟩ := hA rfl
    have hcs : cs = [] := List.eq_nil_of_length_eq_zero (by simpa using hl)
    subst hcs
    simp [Builtin.copy_, run_underlying T.und, Builtin.lenOf, Builtin.firstCells, sizeOf, typeInfo, hi, storeCells, World.setCells]
  | some a =>
    have hld := run_loadCells_list (P := P) w a cs (fun j v hj => by obtain ⟨ad, h, hc⟩ := hs j v hj; cases h; exact hc)
    rw [hl] at hld
    simp [Builtin.copy_, run_underlying T.und, Builtin.lenOf, Builtin.firstCells, sizeOf, typeInfo, hi, hmm, hld, hst]
/-- What a row holds behind it. -/
theorem RowAt.put {w : World} {e : TypeId} {sz g n cap : Nat} {xs : List Value} (h : RowAt w e sz g n cap xs) (off : Nat) (cs : List Value) (hoff : off ≤ n * sz) (m : Nat) (hm : m ≤ cap) (hnm : n ≤ m) (hl : off + cs.length ≤ cap * sz) (hfull : m * sz ≤ max (n * sz) (off + cs.length)) :
    RowAt (w.setCells g off cs) e sz g m cap ((xs.take off ++ cs ++ xs.drop (off + cs.length)).take (m * sz)) := by
  obtain ⟨hla, cur, hb, h2, h3, h4, h5⟩ := h
  have hns : n * sz ≤ m * sz := Nat.mul_le_mul_right _ hnm
  have hmc : m * sz ≤ cap * sz := Nat.mul_le_mul_right _ hm
  have key : (cur.toList.take off ++ cs ++ cur.toList.drop (off + cs.length)).take (m * sz) = (xs.take off ++ cs ++ xs.drop (off + cs.length)).take (m * sz) := by
    have e1 : xs.take off = cur.toList.take off := by rw [← h5, List.take_take, Nat.min_eq_left hoff]
    rw [e1]
    have hl1 : (cur.toList.take off).length = off := by simp; omega
    have e2 : xs.drop (off + cs.length) = (cur.toList.drop (off + cs.length)).take (n * sz - (off + cs.length)) := by rw [← h5, List.drop_take]
    rw [e2]
    simp only [List.append_assoc, List.take_append, hl1, List.take_take]
    congr 3
    omega
  refine ⟨?_, _, blk_setCells cs off w cur hb (by omega), hm, h3, by simp; omega, key⟩
  rw [← key]
  simp
  omega
theorem Chg.sets {w : World} {g off : Nat} {cs : List Value} : Chg (fun k => k = g) w (w.setCells g off cs) := Chg.setCells (S := fun k => k = g) (.inl rfl) cs off (Chg.refl _ w)
/-- append(s[:i], make([]T, k)...) that grows. -/
theorem zeros_run {P : Program} {w : World} {t tn ty e : TypeId} {z : Value} {sz bytes : Nat} (T : ElemTy P t e z sz bytes) {kn : IntKind} (htn : P.underlying tn = some (.int kn)) {g n cap : Nat} {xs : List Value} (hr : RowAt w e sz g n cap xs) (i k : Nat) (hi : i ≤ n) (hk : 0 < k) (hg : cap < i + k) (hb : (i + k) * bytes ≤ 140737488355328) (hb2 : i + k ≤ 9223372036854775807) :
    ∃ c' zs w', (Builtin.append_ #[t, tn] ty #[.slice (some ⟨g, 0, none⟩) i cap, .int .i64 k]).run P w = .ok (.slice (some ⟨w.heap.size, 0, none⟩) (i + k) c') w' ∧ RowAt w' e sz w.heap.size (i + k) c' (xs.take (i * sz) ++ zs) ∧ zs.length = k * sz ∧ Chg (fun _ => False) w w' := by
  obtain ⟨ti, hti, hz, rfl, hby⟩ := T.info
  subst hby
  have hle : i * ti.size ≤ n * ti.size := Nat.mul_le_mul_right _ hi
  have hxl := hr.1
  have hold : (Builtin.firstCells ti.size i (.slice (some ⟨g, 0, none⟩) i cap)).run P w.drew = .ok (xs.take (i * ti.size)).toArray w.drew := by
    have hld := run_loadCells_list (P := P) w.drew ⟨g, 0, none⟩ (xs.take (i * ti.size)) (fun j v hj => by
      have hjl := (List.getElem?_eq_some_iff.1 hj).1
      simp at hjl
      rw [List.getElem?_take, if_pos (by omega)] at hj
      rw [World.cell?_drew, Addr.add_lit, Nat.zero_add, hr.cell j (by omega)]; exact hj)
    have hlen : (xs.take (i * ti.size)).length = i * ti.size := by simp; omega
    rw [hlen] at hld
    simpa [Builtin.firstCells] using hld
  have hfit : Builtin.nextslicecap (i + k) cap * ti.bytes ≤ 281474976710656 := by
    have h1 := Nat.mul_le_mul_right ti.bytes (nextslicecap_le (need := i + k) (old := cap) hg)
    have h2 : 2 * (i + k) * ti.bytes = 2 * ((i + k) * ti.bytes) := Nat.mul_assoc _ _ _
    omega
  have h48 : k * ti.bytes ≤ 281474976710656 := by
    have := Nat.mul_le_mul_right ti.bytes (show k ≤ i + k by omega)
    omega
  have hrun := Go.Lib.run_append_grow_zeros (P := P) w t tn ty e ti z .i64 kn T.und htn hti hz (some ⟨g, 0, none⟩) i cap (xs.take (i * ti.size)) hold k hk T.pos hg (by omega) h48 hfit
  refine ⟨_, (Builtin.zeroCells z.cells k).toList, _, hrun, ?_, by simp [Builtin.zeroCells, T.cells], ?_⟩
  · have hge := grownCap_ge w (i + k) cap e
    have hmx := grownCap_le_maxLen w (i + k) cap e (by unfold maxLen; omega)
    have hx : (xs.take (i * ti.size)).length = i * ti.size := by simp; omega
    have hz1 : (Builtin.zeroCells z.cells k).size = k * ti.size := by simp [Builtin.zeroCells, T.cells]
    have hz2 : (Builtin.zeroCells z.cells (grownCap w (i + k) cap e - (i + k))).size = (grownCap w (i + k) cap e - (i + k)) * ti.size := by simp [Builtin.zeroCells, T.cells]
    have hsum : i * ti.size + k * ti.size + (grownCap w (i + k) cap e - (i + k)) * ti.size = grownCap w (i + k) cap e * ti.size := by
      rw [← Nat.add_mul, ← Nat.add_mul]; congr 1; omega
    refine ⟨?_, (xs.take (i * ti.size)).toArray ++ Builtin.zeroCells z.cells k ++ Builtin.zeroCells z.cells (grownCap w (i + k) cap e - (i + k)), blk_new w.drew _, hge, hmx, ?_, ?_⟩
    · rw [List.length_append, hx, Array.length_toList, hz1, Nat.add_mul]
    · simp only [Array.size_append, List.size_toArray, hx, hz1, hz2]; omega
    · rw [Array.toList_append, Array.toList_append, List.take_append_of_le_length]
      · rw [List.take_of_length_le]
        simp only [List.length_append, Array.length_toList, hz1, hx, Nat.add_mul]; omega
      · simp only [List.length_append, Array.length_toList, hz1, hx, Nat.add_mul]; omega
  · exact ((Chg.refl (fun _ => False) w).drew).alloc _
end Go.Cn
end

section
/- A struct as an argument: its cells read. -/
set_option linter.unusedVariables false
set_option linter.unusedSimpArgs false
namespace Go.Cn
open Go.RowKit Go.ChangeShapes Go.WideShapes
theorem agg_opened {P : Program} {t : TypeId} {fs : Array Field} {sz : Nat} {α : Type} {R : World → List Value → α → Prop} {H : Type} {enc : TypeId × Value → H} {w : World} {spare : Nat → Bool} {held : Bool} {v : Value} {d : DataW H} {ps : List MemPlace}
    (hu : P.underlying t = some (.struct fs)) (hs : P.cellsOf t = sz) (he : Opens P t R) (hv : Value.okWide P w .any 0 t v) (hx : DataW.Trod enc P w 0 spare held t v d ps) : ∃ (cs : Array Value) (x : α), v = .agg cs ∧ cs.toList.length = sz ∧ R w cs.toList x := by
  obtain ⟨fuel, hf⟩ := hx
  simp only [Value.okWide, hu] at hv
  obtain ⟨cs, rfl, hsz, _⟩ := hv
  obtain ⟨x, hx⟩ := he H enc w spare held fuel _ _ hf
  exact ⟨cs, x, rfl, by rw [← hs, ← hsz]; rfl, hx⟩
theorem take_of {P : Program} {S : World → Prop} {s : Sem Value} {K : Value → Prop} (v : Value) (h : ∀ w, S w → s.run P w = .ok v w) (hk : K v) : TakeS P S s (@hid _ ⟨K⟩) := ⟨v, h, hk⟩
theorem take_txt {P : Program} {S : World → Prop} {t : TypeId} {x y : ByteArray} {K : Value → Prop} (op : BinOp) (v : Value) (h : ∀ w, S w → BinK P op t (.string x) (.string y) (@hid _ ⟨fun v' w' => v' = v ∧ w' = w⟩) w) (hk : K v) : BinT P S op t (.string x) (.string y) (@hid _ ⟨K⟩) := ⟨v, fun w hw => ⟨(h w hw).1, resK_is (h w hw).2⟩, hk⟩
theorem arr_eq {cs : Array Value} {l : List Value} (h : cs.toList = l) : cs = l.toArray := by rw [← h]
theorem aggStoreK {P : Program} {ty : TypeId} {b o : Nat} {cells : Array Value} {K : Value → World → Prop} {w : World} (ht : World.there w b o cells.size) (hi : (P.info? ty).map (·.size) = some cells.size) (h1 : cells.all (·.oneCell') = true)
    (hK : K undef (w.setCells b o cells.toList)) : StoreK P ty (.pointer (some ⟨b, o, none⟩)) (.agg cells) K w := by
  unfold StoreK UnitK
  rw [run_storeAt_mid w b o ty cells ht hi h1]
  exact hK
end Go.Cn
end

section
/- Bit operations over words: for values that are a word's number. -/
set_option linter.unusedVariables false
set_option linter.unusedSimpArgs false
namespace Go.Cn
open Go.RowKit Go.Lib
theorem ofInt_toNat {n : Nat} (a : BitVec n) : BitVec.ofInt n (a.toNat : Int) = a := by
  apply BitVec.eq_of_toNat_eq
  simp [BitVec.toNat_ofInt]
theorem wrap_u32_word (a : BitVec 32) : IntKind.u32.wrap (a.toNat : Int) = a.toNat := by
  have := a.isLt
  simp [IntKind.wrap, IntKind.bits, IntKind.signed]; omega
theorem wrap_u64_word (a : BitVec 64) : IntKind.u64.wrap (a.toNat : Int) = a.toNat := by
  have := a.isLt
  simp [IntKind.wrap, IntKind.bits, IntKind.signed]; omega
theorem wrap_u8_word (a : BitVec 8) : IntKind.u8.wrap (a.toNat : Int) = a.toNat := by
  have := a.isLt
  simp [IntKind.wrap, IntKind.bits, IntKind.signed]; omega
theorem xor_u32 (a b : BitVec 32) : bits .xor .u32 a.toNat b.toNat = ((a ^^^ b).toNat : Int) := by
  show IntKind.u32.wrap (((BitVec.ofInt 32 (a.toNat : Int)) ^^^ (BitVec.ofInt 32 (b.toNat : Int))).toNat : Int) = _
  rw [ofInt_toNat, ofInt_toNat, wrap_u32_word]
theorem and_u32 (a b : BitVec 32) : bits .and .u32 a.toNat b.toNat = ((a &&& b).toNat : Int) := by
  show IntKind.u32.wrap (((BitVec.ofInt 32 (a.toNat : Int)) &&& (BitVec.ofInt 32 (b.toNat : Int))).toNat : Int) = _
  rw [ofInt_toNat, ofInt_toNat, wrap_u32_word]
theorem xor_u8 (a b : BitVec 8) : bits .xor .u8 a.toNat b.toNat = ((a ^^^ b).toNat : Int) := by
  show IntKind.u8.wrap (((BitVec.ofInt 8 (a.toNat : Int)) ^^^ (BitVec.ofInt 8 (b.toNat : Int))).toNat : Int) = _
  rw [ofInt_toNat, ofInt_toNat, wrap_u8_word]
theorem or_u8 (a b : BitVec 8) : bits .or .u8 a.toNat b.toNat = ((a ||| b).toNat : Int) := by
  show IntKind.u8.wrap (((BitVec.ofInt 8 (a.toNat : Int)) ||| (BitVec.ofInt 8 (b.toNat : Int))).toNat : Int) = _
  rw [ofInt_toNat, ofInt_toNat, wrap_u8_word]
theorem andNot_u8 (a b : BitVec 8) : bits .andNot .u8 a.toNat b.toNat = ((a &&& ~~~b).toNat : Int) := by
  show IntKind.u8.wrap (((BitVec.ofInt 8 (a.toNat : Int)) &&& ~~~(BitVec.ofInt 8 (b.toNat : Int))).toNat : Int) = _
  rw [ofInt_toNat, ofInt_toNat, wrap_u8_word]
/-- Bytes as values. -/
def vb (b : UInt8) : Value := .int .u8 b.toNat
theorem vb_one (l : List UInt8) : ∀ u ∈ l.map vb, u.oneCell' = true := by
  intro u hu
  obtain ⟨s, _, rfl⟩ := List.mem_map.1 hu
  rfl
/-- The text of bytes. -/
def txt (l : List UInt8) : ByteArray := ⟨l.toArray⟩
theorem txt_inj {a b : List UInt8} (h : txt a = txt b) : a = b := by
  have := congrArg (fun x => x.data.toList) h
  simpa [txt] using this
theorem txt_list (s : ByteArray) : txt s.data.toList = s := by cases s; simp [txt]
theorem txt_toList (l : List UInt8) : (txt l).toList = l := by rw [ByteArray.toList_eq]; simp [txt]
theorem txt_size (l : List UInt8) : (txt l).size = l.length := by simp [txt, ByteArray.size]
theorem conv_run {P : Program} {w : World} {src dst e : TypeId} (hs : P.underlying src = some (.slice e)) (he : P.underlying e = some (.int .u8)) (hd : P.underlying dst = some .string) {A : Option Addr} {l : List UInt8} {c : Nat} (hr : Reads w A (l.map vb)) :
    (convert src dst (.slice A l.length c)).run P w = .ok (.string (txt l)) w := by
  match A, hr with
  | none, hr =>
    obtain rfl : l = [] := by
      rcases hr with h | ⟨g, o, h, _⟩
      · exact List.map_eq_nil_iff.1 h
      · cases h
    exact run_convert_bytes_nil w src e hs he 0 c dst hd
  | some ad, hr =>
    by_cases hl : 0 < l.length
    · obtain ⟨g, o, hA, hc⟩ := hr.all hl
      cases hA
      have h := run_convert_bytes_arg w src e hs he g o l.length c (l.map fun b => (b.toNat : Int)) (by simp) (fun i hi => by rw [hc i hi]; simp [vb, hi]) dst hd
      rw [h]
      have e : List.map ((fun n : Int => UInt8.ofNat n.toNat) ∘ fun b : UInt8 => (b.toNat : Int)) l = l := by
        have : ((fun n : Int => UInt8.ofNat n.toNat) ∘ fun b : UInt8 => (b.toNat : Int)) = id := by funext b; simp
        rw [this, List.map_id]
      simp [strOfNums, txt, e]
    · obtain rfl : l = [] := List.eq_nil_of_length_eq_zero (by omega)
      obtain ⟨b, off, sp⟩ := ad
      cases sp with
      | none => exact run_convert_bytes_arg w src e hs he b off 0 c [] rfl (fun i hi => by omega) dst hd
      | some q =>
        rw [List.length_nil, run_convert_bytes_string w src dst e _ 0 c hs he hd]
        simp [Conv.bytesToString, loadCells]
        rfl
theorem convK {P : Program} {w : World} {src dst e : TypeId} (hs : P.underlying src = some (.slice e)) (he : P.underlying e = some (.int .u8)) (hd : P.underlying dst = some .string) {A : Option Addr} {l : List UInt8} {c : Nat} (hr : Reads w A (l.map vb)) {K : Value → World → Prop} (h : K (.string (txt l)) w) :
    ConvK P src dst (.slice A l.length c) K w := by
  unfold ConvK
  rw [conv_run hs he hd hr]; exact h
theorem strCells_eq (s : ByteArray) : strCells s = s.data.toList.map vb := by
  rfl
/-- append(b, s...): a text's bytes behind a row of bytes. -/
theorem appendS_run {P : Program} {w : World} {t u e : TypeId} (T : ElemTy P t e (.int .u8 0) 1 1) (hu : P.underlying u = some .string) {v : Value} {n : Nat} {xs : List Value} {F : Option Nat} (ho : Own w e 1 v n xs F) (s : ByteArray)
    (hb : n + s.size ≤ 140737488355328) (ty : TypeId) :
    ∃ A' cap F' w', (Builtin.append_ #[t, u] ty #[v, .string s]).run P w = .ok (.slice A' (n + s.size) cap) w' ∧ Own w' e 1 (.slice A' (n + s.size) cap) (n + s.size) (xs ++ s.data.toList.map vb) F' ∧ Chg (fun k => F = some k) w w' ∧ (∀ k, F' = some k → F = some k ∨ w.heap.size ≤ k) := by
  obtain ⟨i, hi, hz, hsz, hby⟩ := T.info
  obtain ⟨hrow, hF⟩ := ho.row
  rcases ho with ⟨rfl, rfl, rfl, rfl⟩ | ⟨g, cap, rfl, rfl, hr⟩
  · obtain ⟨v', w', h1, h2, h3, h4⟩ := run_append_own_string (P := P) w w.heap.size t u ty e i T.und hu hi hz hsz hby (.slice none 0 0) 0 [] ⟨rfl, .inl ⟨rfl, rfl⟩⟩ s (by unfold maxLen; omega) hb (Nat.le_refl _)
    have ho' := Own.of_row h2
    obtain ⟨A', cap, rfl, _⟩ := ho'.shape
    refine ⟨A', cap, _, w', h1, ho', (Chg.of_grown h3).mono (fun k _ h => by cases h), fun k hk => .inr ?_⟩
    rcases h2.2 with ⟨hv, _⟩ | ⟨g, cap', cur, hv, hb', _⟩
    · injection hv with e1 e2 e3; subst e1; cases hk
    · injection hv with e1 e2 e3; subst e1; cases hk; exact hb'
  · obtain ⟨v', w', h1, h2, h3, h4⟩ := run_append_own_string (P := P) w 0 t u ty e i T.und hu hi hz hsz hby (.slice (some ⟨g, 0, none⟩) n cap) n xs hrow s (by unfold maxLen; omega) hb (Nat.zero_le _)
    have ho' := Own.of_row h2
    obtain ⟨A', cap', rfl, _⟩ := ho'.shape
    rw [hF] at h3
    refine ⟨A', cap', _, w', h1, ho', Chg.of_grown h3, fun k hk => ?_⟩
    obtain ⟨hl, cur, hb', q1, q2, q3, q4⟩ := hr
    by_cases hroom : n + s.size ≤ cap
    · have := run_append_room_string (P := P) w t u ty e i T.und hu hi hsz g n cap cur hb' s hroom (by omega)
      rw [this] at h1
      simp only [Result.ok.injEq, Value.slice.injEq] at h1
      obtain ⟨⟨rfl, _⟩, _⟩ := h1
      exact .inl hk
    · have := run_append_grow_string (P := P) w t u ty e i (.int .u8 0) T.und hu hi hz ⟨g, 0, none⟩ n cap xs (by rw [hsz]; exact hl) (fun j v hj => by
        have hjl := (List.getElem?_eq_some_iff.1 hj).1
        rw [Addr.add_lit, Nat.zero_add, blk_cell hb', ← hj, ← q4, List.getElem?_take, if_pos (by omega)]; simp) s (by omega) (by omega) (by rw [hby, Nat.mul_one]; exact Nat.le_trans (nextslicecap_le (by omega)) (by omega))
      rw [this] at h1
      simp only [Result.ok.injEq, Value.slice.injEq] at h1
      obtain ⟨⟨rfl, _⟩, _⟩ := h1
      cases hk
      exact .inr (Nat.le_refl _)
end Go.Cn
end

section
/- The sum of bytes as a plain function of words of 32 bits, and what a burst of up to 32 bits does to it. No program in sight. -/
set_option linter.unusedVariables false
set_option linter.unusedSimpArgs false
namespace Go.Cn.Crc
abbrev W := BitVec 32
def poly : W := 0xEDB88320#32
/-- One bit's step. -/
def step (s : W) : W := if s.getLsbD 0 then (s >>> 1) ^^^ poly else s >>> 1
def steps : Nat → W → W
  | 0, s => s
  | n + 1, s => steps n (step s)
theorem steps_add (m n : Nat) (s : W) : steps (m + n) s = steps n (steps m s) := by
  induction m generalizing s with
  | zero => simp [steps]
  | succ m ih => rw [Nat.succ_add]; exact ih (step s)
theorem step_xor (a b : W) : step (a ^^^ b) = step a ^^^ step b := by
  unfold step
  rw [BitVec.getLsbD_xor]
  have hs : (a ^^^ b) >>> 1 = (a >>> 1) ^^^ (b >>> 1) := by
    apply BitVec.eq_of_getLsbD_eq; intro i hi
    simp only [BitVec.getLsbD_ushiftRight, BitVec.getLsbD_xor]
  rw [hs]
  generalize a >>> 1 = x
  generalize b >>> 1 = y
  cases a.getLsbD 0 <;> cases b.getLsbD 0 <;> simp
  · rw [BitVec.xor_assoc]
  · rw [BitVec.xor_assoc, BitVec.xor_assoc, BitVec.xor_comm y poly]
  · rw [BitVec.xor_assoc, BitVec.xor_comm poly (y ^^^ poly), BitVec.xor_assoc y poly poly, BitVec.xor_self, BitVec.xor_zero]
theorem steps_xor (n : Nat) (a b : W) : steps n (a ^^^ b) = steps n a ^^^ steps n b := by
  induction n generalizing a b with
  | zero => rfl
  | succ n ih => simp only [steps]; rw [step_xor, ih]
theorem step_eq_zero {s : W} (h : step s = 0) : s = 0 := by
  unfold step at h
  have hz : ∀ i, i < 32 → s.getLsbD i = false := by
    cases h0 : s.getLsbD 0 with
    | true =>
      rw [h0, if_pos rfl] at h
      have := congrArg (fun x => BitVec.getLsbD x 31) h
      simp [poly, BitVec.getLsbD_ushiftRight] at this
    | false =>
      rw [h0] at h
      simp only [Bool.false_eq_true, if_false] at h
      intro i hi
      cases i with
      | zero => exact h0
      | succ i =>
        have := congrArg (fun x => BitVec.getLsbD x i) h
        simp [BitVec.getLsbD_ushiftRight] at this
        rw [Nat.add_comm] at this
        exact this
  apply BitVec.eq_of_getLsbD_eq; intro i hi
  rw [hz i hi]; simp
theorem steps_eq_zero (n : Nat) {s : W} (h : steps n s = 0) : s = 0 := by
  induction n generalizing s with
  | zero => exact h
  | succ n ih => exact step_eq_zero (ih h)
theorem step_shl (y : W) (h : y.getLsbD 31 = false) : step (y <<< 1) = y := by
  unfold step
  have h0 : (y <<< 1).getLsbD 0 = false := by simp [BitVec.getLsbD_shiftLeft]
  rw [h0]
  simp only [Bool.false_eq_true, if_false]
  apply BitVec.eq_of_getLsbD_eq; intro i hi
  simp only [BitVec.getLsbD_ushiftRight, BitVec.getLsbD_shiftLeft]
  by_cases h31 : i = 31
  · subst h31; rw [h]; simp
  · have e1 : 1 + i < 32 := by omega
    simp [e1, show ¬ (1 + i < 1) by omega]
theorem steps_shl : ∀ (n : Nat) (y : W), (∀ i, 32 - n ≤ i → y.getLsbD i = false) → n ≤ 32 → steps n (y <<< n) = y
  | 0, y, _, _ => by simp [steps]
  | n + 1, y, h, hn => by
    have e : y <<< (n + 1) = (y <<< n) <<< 1 := by rw [BitVec.shiftLeft_add]
    rw [steps, e, step_shl]
    · exact steps_shl n y (fun i hi => h i (by omega)) (by omega)
    · simp only [BitVec.getLsbD_shiftLeft]
      by_cases hlt : 31 < n
      · simp [hlt]
      · rw [h (31 - n) (by omega)]; simp
def byteW (b : UInt8) : W := BitVec.ofNat 32 b.toNat
theorem byteW_bit (b : UInt8) (i : Nat) (hi : 8 ≤ i) : (byteW b).getLsbD i = false := by
  unfold byteW
  rw [BitVec.getLsbD_ofNat]
  have : b.toNat < 2 ^ i := Nat.lt_of_lt_of_le (UInt8.toNat_lt b) (Nat.pow_le_pow_right (by omega) hi)
  simp [Nat.testBit_lt_two_pow this]
/-- A byte taken in. -/
def take (s : W) (b : UInt8) : W := steps 8 (s ^^^ byteW b)
def run (s : W) (l : List UInt8) : W := l.foldl take s
def sum (l : List UInt8) : W := ~~~ run (BitVec.allOnes 32) l
theorem run_append (s : W) (a b : List UInt8) : run s (a ++ b) = run (run s a) b := List.foldl_append ..
/-- The word of four bytes, the least first. -/
def word (a b c d : UInt8) : W := byteW a ^^^ (byteW b <<< 8) ^^^ (byteW c <<< 16) ^^^ (byteW d <<< 24)
theorem run_word (s : W) (a b c d : UInt8) : run s [a, b, c, d] = steps 32 (s ^^^ word a b c d) := by
  have hb : ∀ (x : UInt8) (n : Nat), n ≤ 24 → steps n (byteW x <<< n) = byteW x := fun x n hn => steps_shl n _ (fun i hi => byteW_bit x i (by omega)) (by omega)
  have e8 : steps 32 (s ^^^ word a b c d) = steps 8 (steps 24 (s ^^^ word a b c d)) := by rw [← steps_add]
  have e24 : ∀ x, steps 24 x = steps 8 (steps 16 x) := fun x => by rw [← steps_add]
  have e16 : ∀ x, steps 16 x = steps 8 (steps 8 x) := fun x => by rw [← steps_add]
  simp only [run, List.foldl_cons, List.foldl_nil, take]
  rw [e8]
  congr 1
  have w1 : s ^^^ word a b c d = (s ^^^ byteW a) ^^^ (byteW b <<< 8) ^^^ (byteW c <<< 16) ^^^ (byteW d <<< 24) := by
    unfold word; simp only [BitVec.xor_assoc]
  have key : steps 24 (s ^^^ byteW a ^^^ byteW b <<< 8 ^^^ byteW c <<< 16 ^^^ byteW d <<< 24) = steps 24 (s ^^^ byteW a) ^^^ steps 24 (byteW b <<< 8) ^^^ steps 24 (byteW c <<< 16) ^^^ steps 24 (byteW d <<< 24) := by rw [steps_xor, steps_xor, steps_xor]
  have f24 : ∀ x, steps 24 x = steps 16 (steps 8 x) := fun x => by rw [← steps_add]
  have g24 : ∀ x, steps 24 x = steps 8 (steps 16 x) := fun x => by rw [← steps_add]
  rw [w1, key, hb d 24 (by omega), f24 (byteW b <<< 8), hb b 8 (by omega), g24 (byteW c <<< 16), hb c 16 (by omega)]
  rw [steps_xor, steps_xor, steps_xor, e24 (s ^^^ byteW a), e16 (s ^^^ byteW a), e16 (byteW b)]
/-- Bytes turned, one by one. -/
def turn (l e : List UInt8) : List UInt8 := List.zipWith (· ^^^ ·) l e
theorem byteW_xor (a b : UInt8) : byteW (a ^^^ b) = byteW a ^^^ byteW b := by
  unfold byteW
  apply BitVec.eq_of_getLsbD_eq; intro i hi
  simp only [BitVec.getLsbD_ofNat, BitVec.getLsbD_xor, UInt8.toNat_xor, Nat.testBit_xor]
  simp [hi]
theorem take_xor (s t : W) (a b : UInt8) : take (s ^^^ t) (a ^^^ b) = take s a ^^^ take t b := by
  unfold take
  rw [byteW_xor, ← steps_xor]
  congr 1
  rw [BitVec.xor_assoc, BitVec.xor_assoc, ← BitVec.xor_assoc t, BitVec.xor_comm t, BitVec.xor_assoc (byteW a)]
theorem run_turn : ∀ (l e : List UInt8) (s t : W), l.length = e.length → run (s ^^^ t) (turn l e) = run s l ^^^ run t e
  | [], [], s, t, _ => rfl
  | a :: l, b :: e, s, t, h => by
    simp only [turn, List.zipWith_cons_cons, run, List.foldl_cons]
    rw [take_xor]
    exact run_turn l e _ _ (by simpa using h)
theorem run_zeros (n : Nat) (s : W) : run s (List.replicate n 0) = steps (8 * n) s := by
  induction n generalizing s with
  | zero => rfl
  | succ n ih =>
    rw [List.replicate_succ, run, List.foldl_cons, show 8 * (n + 1) = 8 + 8 * n by omega, steps_add]
    have : take s 0 = steps 8 s := by unfold take byteW; simp
    rw [this]; exact ih _
theorem steps_zero (n : Nat) : steps n 0 = 0 := by
  induction n with
  | zero => rfl
  | succ n ih => rw [steps, show step 0 = 0 from rfl]; exact ih
theorem allOnes_xor (x : W) : x ^^^ ~~~ x = BitVec.allOnes 32 := by
  apply BitVec.eq_of_getLsbD_eq; intro i hi
  rw [BitVec.getLsbD_xor, BitVec.getLsbD_not, BitVec.getLsbD_allOnes]
  cases x.getLsbD i <;> simp [hi]
/-- Four bytes behind l are its sum just when the whole runs to a fixed word. -/
theorem seal_iff (l : List UInt8) (a b c d : UInt8) : word a b c d = sum l ↔ run (BitVec.allOnes 32) (l ++ [a, b, c, d]) = steps 32 (BitVec.allOnes 32) := by
  rw [run_append, run_word]
  constructor
  · intro h; rw [h, sum, allOnes_xor]
  · intro h
    have h1 : steps 32 ((run (BitVec.allOnes 32) l ^^^ word a b c d) ^^^ BitVec.allOnes 32) = 0 := by rw [steps_xor, h, BitVec.xor_self]; rfl
    have h2 := steps_eq_zero 32 h1
    unfold sum
    apply BitVec.eq_of_getLsbD_eq; intro i hi
    have := congrArg (fun x => BitVec.getLsbD x i) h2
    simp only [BitVec.getLsbD_xor, BitVec.getLsbD_allOnes, hi, decide_true] at this
    rw [BitVec.getLsbD_not]
    simp only [hi, decide_true, Bool.true_and]
    have hz : (0 : W).getLsbD i = false := by simp
    rw [hz] at this
    revert this
    cases (run (BitVec.allOnes 32) l).getLsbD i <;> cases (word a b c d).getLsbD i <;> simp
/-- A burst of up to 32 bits, anywhere, turns what the whole runs to. -/
theorem burst (l : List UInt8) (k m : Nat) (a b c d : UInt8) (hl : l.length = k + 4 + m) (hw : word a b c d ≠ 0) :
    run (BitVec.allOnes 32) (turn l (List.replicate k 0 ++ [a, b, c, d] ++ List.replicate m 0)) ≠ run (BitVec.allOnes 32) l := by
  intro h
  have h1 := run_turn l (List.replicate k 0 ++ [a, b, c, d] ++ List.replicate m 0) (BitVec.allOnes 32) 0 (by simp [hl]; omega)
  rw [show BitVec.allOnes 32 ^^^ (0 : W) = BitVec.allOnes 32 from rfl, h] at h1
  have h2 : run 0 (List.replicate k 0 ++ [a, b, c, d] ++ List.replicate m 0) = 0 := by
    have : run (BitVec.allOnes 32) l ^^^ run (BitVec.allOnes 32) l = run (BitVec.allOnes 32) l ^^^ (run (BitVec.allOnes 32) l ^^^ run 0 (List.replicate k 0 ++ [a, b, c, d] ++ List.replicate m 0)) := by rw [← h1]
    rw [← BitVec.xor_assoc, BitVec.xor_self, BitVec.zero_xor] at this
    exact this.symm
  rw [run_append, run_append, run_zeros, run_zeros, steps_zero, run_word, show (0 : W) ^^^ word a b c d = word a b c d from BitVec.zero_xor] at h2
  exact hw (steps_eq_zero _ (steps_eq_zero _ h2))
end Go.Cn.Crc
end

section
/- slices.Clone, slices.Clip over bytes; codec.sum, cantonref7.Sum; Seal, Open of both: each by what it computes. Conditions: at most 10000000 bytes. -/
set_option maxRecDepth 10000000
set_option linter.unusedVariables false
set_option linter.unusedSimpArgs false
namespace Go.Proofs.YtpjeohellehgjaaGreatDoor
open Go.RowKit Go.Cn
theorem Tryz.info5 : (Tryz.prog.info? 5).map (fun i => (i.zero, i.size, i.bytes)) = some (some (.int .u8 0), 1, 1) := by kernel_rfl
theorem tyU8 : ElemTy Tryz.prog 29 5 (.int .u8 0) 1 1 := ElemTy.mk' Tryz.underlying29 Tryz.info5 rfl (by decide)
theorem and1_u32 (a : BitVec 32) : bits .and .u32 (a.toNat : Int) 1 = if a.getLsbD 0 then 1 else 0 := by
  have := and_u32 a 1#32
  rw [show (((1#32).toNat : Nat) : Int) = 1 from rfl] at this
  rw [this]
  have e : (a &&& 1#32).toNat = a.toNat % 2 := by rw [BitVec.toNat_and]; exact Nat.and_one_is_mod _
  rw [e, BitVec.getLsbD, Nat.testBit_zero]
  by_cases h : a.toNat % 2 = 1
  · simp [h]
  · simp [h]; omega
theorem shr1_u32 (a : BitVec 32) : (a.toNat : Int) / (2 : Int) ^ min (Int.toNat 1) 32 = ((a >>> 1).toNat : Int) := by
  rw [BitVec.toNat_ushiftRight, Nat.shiftRight_eq_div_pow]
  simp
theorem xorPoly_u32 (a : BitVec 32) : bits .xor .u32 (a.toNat : Int) 3988292384 = ((a ^^^ Crc.poly).toNat : Int) := xor_u32 a Crc.poly
theorem byte_u32 (b : UInt8) : IntKind.u32.wrap (b.toNat : Int) = ((Crc.byteW b).toNat : Int) := by
  have := UInt8.toNat_lt b
  have e : (Crc.byteW b).toNat = b.toNat := by unfold Crc.byteW; rw [BitVec.toNat_ofNat, Nat.mod_eq_of_lt (by omega)]
  rw [e]
  simp [IntKind.wrap, IntKind.bits, IntKind.signed]; omega
theorem not_u32 (a : BitVec 32) : bits .xor .u32 (if IntKind.u32.signed then -1 else IntKind.u32.max) (a.toNat : Int) = ((~~~a).toNat : Int) := by
  have h := xor_u32 (BitVec.allOnes 32) a
  have e : (((BitVec.allOnes 32).toNat : Nat) : Int) = (if IntKind.u32.signed then -1 else IntKind.u32.max) := by decide
  rw [e] at h
  rw [h]
  have e2 : BitVec.allOnes 32 ^^^ a = ~~~a := by
   apply BitVec.eq_of_getLsbD_eq; intro i hi
   rw [BitVec.getLsbD_xor, BitVec.getLsbD_not, BitVec.getLsbD_allOnes]
   cases a.getLsbD i <;> simp [hi]
  rw [e2]
theorem steps_snoc (n : Nat) (s : Crc.W) : Crc.steps (n + 1) s = Crc.step (Crc.steps n s) := Crc.steps_add n 1 s
theorem run_snoc (s : Crc.W) (l : List UInt8) (i : Nat) (hi : i < l.length) : Crc.run s (l.take (i + 1)) = Crc.take (Crc.run s (l.take i)) (l.getD i default) := by
  rw [List.take_succ_eq_append_getElem hi, Crc.run_append]
  simp [Crc.run, hi]
theorem sum_any {l : List UInt8} {A : Option Addr} {c : Nat} {w : World} {K : Value → World → Prop} (hr : Reads w A (l.map vb)) (hc : l.length ≤ 10000000)
    (hK : K (.int .u32 ((Crc.sum l).toNat : Int)) w) : CallK Tryz.prog 112 #[.slice A l.length c] K w := by
  refine F112_calls _ _ _ ?_; unfold F112
  simp (maxSteps := 1000000) (disch := omega) only [genAll, decAll, tk_nil, st112]
  refine loopK2 (fun s v w' => w' = w ∧ ∃ i : Nat, v = .int .i64 i ∧ i ≤ l.length ∧ s = .int .u32 ((Crc.run (BitVec.allOnes 32) (l.take i)).toNat : Int)) (fun _ v _ => l.length - (intOf v).toNat) ⟨rfl, 0, rfl, by omega, rfl⟩ ?_
  rintro _ _ _ w' ⟨hw, i, rfl, hi, rfl⟩
  obtain rfl : w' = w := hw
  by_cases hlt : i < l.length
  · obtain ⟨g, o, rfl, hcell⟩ := hr.get hlt
    have hsn := run_snoc (BitVec.allOnes 32) l i hlt
    generalize l.getD i default = b at *
    generalize Crc.run (BitVec.allOnes 32) (l.take i) = s at *
    simp only [vb] at hcell
    simp (maxSteps := 1000000) (disch := omega) only [genAll, decAll, tk_nil, st112, hcell, byte_u32, xor_u32]
    refine loopK2 (fun t v w'' => w'' = w' ∧ ∃ j : Nat, v = .int .i64 j ∧ j ≤ 8 ∧ t = .int .u32 ((Crc.steps j (s ^^^ Crc.byteW b)).toNat : Int)) (fun _ v _ => 8 - (intOf v).toNat) ⟨rfl, 0, rfl, by omega, rfl⟩ ?_
    rintro _ _ _ w2 ⟨hw, j, rfl, hj, rfl⟩
    obtain rfl : w2 = w' := hw
    have hst := steps_snoc j (s ^^^ Crc.byteW b)
    by_cases hlt2 : j < 8
    · generalize Crc.steps j (s ^^^ Crc.byteW b) = t at *
      unfold Crc.step at hst
      have ha := and1_u32 t
      cases hb : t.getLsbD 0 with
      | true =>
        rw [hb, if_pos rfl] at hst ha
        simp (maxSteps := 1000000) (disch := omega) only [genAll, decAll, tk_nil, st112, ha, shr1_u32, xorPoly_u32]
        exact ⟨⟨rfl, j + 1, by go_num, by omega, by rw [hst]⟩, by simp [rel, intOf]; omega⟩
      | false =>
        rw [hb, if_neg (by simp)] at hst ha
        simp (maxSteps := 1000000) (disch := omega) only [genAll, decAll, tk_nil, st112, ha, shr1_u32, xorPoly_u32]
        exact ⟨⟨rfl, j + 1, by go_num, by omega, by rw [hst]⟩, by simp [rel, intOf]; omega⟩
    · have e : j = 8 := by omega
      subst e
      simp (maxSteps := 1000000) (disch := omega) only [genAll, decAll, tk_nil, st112]
      refine ⟨⟨rfl, i + 1, by go_num, by omega, ?_⟩, by simp [rel, intOf]; omega⟩
      rw [hsn]; rfl
  · simp (maxSteps := 1000000) (disch := omega) only [genAll, decAll, tk_nil, st112, not_u32]
    rw [List.take_of_length_le (by omega)]
    exact hK
theorem sumR_any {l : List UInt8} {A : Option Addr} {c : Nat} {w : World} {K : Value → World → Prop} (hr : Reads w A (l.map vb)) (hc : l.length ≤ 10000000)
    (hK : K (.int .u32 ((Crc.sum l).toNat : Int)) w) : CallK Tryz.prog 58 #[.slice A l.length c] K w := by
  refine F58_calls _ _ _ ?_; unfold F58
  refine loopK2 (fun s v w' => w' = w ∧ ∃ i : Nat, v = .int .i64 i ∧ i ≤ l.length ∧ s = .int .u32 ((Crc.run (BitVec.allOnes 32) (l.take i)).toNat : Int)) (fun _ v _ => l.length - (intOf v).toNat) ⟨rfl, 0, rfl, by omega, rfl⟩ ?_
  rintro _ _ _ w' ⟨hw, i, rfl, hi, rfl⟩
  obtain rfl : w' = w := hw
  by_cases hlt : i < l.length
  · obtain ⟨g, o, rfl, hcell⟩ := hr.get hlt
    have hsn := run_snoc (BitVec.allOnes 32) l i hlt
    generalize l.getD i default = b at *
    generalize Crc.run (BitVec.allOnes 32) (l.take i) = s at *
    simp only [vb] at hcell
    simp (maxSteps := 1000000) (disch := omega) only [genAll, decAll, tk_nil, st58, hcell, byte_u32, xor_u32]
    refine loopK2 (fun t v w'' => w'' = w' ∧ ∃ j : Nat, v = .int .i64 j ∧ j ≤ 8 ∧ t = .int .u32 ((Crc.steps j (s ^^^ Crc.byteW b)).toNat : Int)) (fun _ v _ => 8 - (intOf v).toNat) ⟨rfl, 0, rfl, by omega, rfl⟩ ?_
    rintro _ _ _ w2 ⟨hw, j, rfl, hj, rfl⟩
    obtain rfl : w2 = w' := hw
    have hst := steps_snoc j (s ^^^ Crc.byteW b)
    by_cases hlt2 : j < 8
    · generalize Crc.steps j (s ^^^ Crc.byteW b) = t at *
      unfold Crc.step at hst
      have ha := and1_u32 t
      cases hb : t.getLsbD 0 with
      | true =>
        rw [hb, if_pos rfl] at hst ha
        simp (maxSteps := 1000000) (disch := omega) only [genAll, decAll, tk_nil, st58, ha, shr1_u32, xorPoly_u32]
        exact ⟨⟨rfl, j + 1, by go_num, by omega, by rw [hst]⟩, by simp [rel, intOf]; omega⟩
      | false =>
        rw [hb, if_neg (by simp)] at hst ha
        simp (maxSteps := 1000000) (disch := omega) only [genAll, decAll, tk_nil, st58, ha, shr1_u32, xorPoly_u32]
        exact ⟨⟨rfl, j + 1, by go_num, by omega, by rw [hst]⟩, by simp [rel, intOf]; omega⟩
    · have e : j = 8 := by omega
      subst e
      simp (maxSteps := 1000000) (disch := omega) only [genAll, decAll, tk_nil, st58]
      refine ⟨⟨rfl, i + 1, by go_num, by omega, ?_⟩, by simp [rel, intOf]; omega⟩
      rw [hsn]; rfl
  · simp (maxSteps := 1000000) (disch := omega) only [genAll, decAll, tk_nil, st58, not_u32]
    rw [List.take_of_length_le (by omega)]
    exact hK
theorem clone_any {l : List UInt8} {A : Option Addr} {c : Nat} {w : World} {K : Value → World → Prop} (hr : Reads w A (l.map vb)) (hl : l.length ≤ 10000000)
    (hK : ∀ A' c' F w', Own w' 5 1 (.slice A' l.length c') l.length (l.map vb) F → Qt w w' → (∀ k, F = some k → w.heap.size ≤ k) → K (.slice A' l.length c') w') : CallK Tryz.prog 71 #[.slice A l.length c] K w := by
  refine F71_calls _ _ _ ?_; unfold F71
  match A, hr with
  | none, hr =>
    obtain rfl : l = [] := by
      rcases hr with h | ⟨g, o, h, _⟩
      · exact List.map_eq_nil_iff.1 h
      · cases h
    simp (maxSteps := 1000000) (disch := omega) only [genAll, decAll, tk_nil, st71]
    exact hK none 0 none w (Own.nil _ _ _) Qt.refl (fun _ h => by cases h)
  | some ad, hr =>
    simp (maxSteps := 1000000) (disch := omega) only [genAll, decAll, tk_nil, st71]
    obtain ⟨A', cap, F', w', h, ho, hc, hf⟩ := apart_run (P := Tryz.prog) (w := w) tyU8 (some ad) l.length c (l.map vb) (by simp) hr.src (vb_one l) (by omega) (by omega) 29
    refine appK h ?_
    simp (maxSteps := 1000000) (disch := omega) only [genAll, decAll, tk_nil, st71]
    exact hK A' cap F' w' ho hc hf
theorem own_clip {w : World} {e : TypeId} {A : Option Addr} {n c : Nat} {xs : List Value} {F : Option Nat} (h : Own w e 1 (.slice A n c) n xs F) : (A = none → n = 0 ∧ c = 0) ∧ (∀ ad, A = some ad → ad.spot = none) ∧ n ≤ c := by
  rcases h with ⟨hv, rfl, _, _⟩ | ⟨g, cap, hv, _, hr⟩
  · cases hv; exact ⟨fun _ => ⟨rfl, rfl⟩, fun _ h => (by cases h), Nat.le_refl _⟩
  · cases hv; exact ⟨fun h => (by cases h), fun _ h => (by cases h; rfl), hr.cap_le.1⟩
theorem clip_any {A : Option Addr} {n c : Nat} {xs : List Value} {F : Option Nat} {w : World} {K : Value → World → Prop} (ho : Own w 5 1 (.slice A n c) n xs F) (hK : K (.slice A n n) w) : CallK Tryz.prog 70 #[.slice A n c] K w := by
  obtain ⟨hs, hsp, hc⟩ := own_clip ho
  clear ho
  refine F70_calls _ _ _ ?_; unfold F70
  match A, hs, hsp with
  | none, hs, _ =>
    obtain ⟨rfl, rfl⟩ := hs rfl
    simp (maxSteps := 1000000) (disch := omega) only [genAll, decAll, tk_nil, st70]
    have e : ((0 : Nat) : Int) = 0 := rfl
    rw [e]
    simp (maxSteps := 1000000) (disch := omega) only [genAll, decAll, tk_nil, st70]
    exact hK
  | some ⟨g, o, sp⟩, _, hsp =>
    obtain rfl : sp = none := hsp _ rfl
    simp (maxSteps := 1000000) (disch := omega) only [genAll, decAll, tk_nil, st70]
    exact hK
theorem append1_run {P : Program} {w : World} {t e : TypeId} {z : Value} {bytes : Nat} (T : ElemTy P t e z 1 bytes) {v : Value} {n : Nat} {xs : List Value} {F : Option Nat} (ho : Own w e 1 v n xs F) (x : Value) (h1 : x.oneCell' = true)
    (hb : (n + 1) * bytes ≤ 140737488355328) (hb2 : n + 1 ≤ 9223372036854775807) (ty : TypeId) :
    ∃ A' cap F' w', (Builtin.append_ #[t, t] ty #[v, .slice (some ⟨w.heap.size, 0, none⟩) 1 1]).run P (w.alloc (.cells #[x] e)) = .ok (.slice A' (n + 1) cap) w' ∧ Own w' e 1 (.slice A' (n + 1) cap) (n + 1) (xs ++ [x]) F' ∧ Chg (fun k => F = some k) w w' ∧ (∀ k, F' = some k → F = some k ∨ w.heap.size ≤ k) := by
  have hc := (Chg.refl (fun _ => False) w).alloc (.cells #[x] e)
  obtain ⟨A', cap, F', w', h, ho', hc', hf⟩ := app_run T (ho.chg hc (fun _ _ h => h)) (some ⟨w.heap.size, 0, none⟩) 1 1 [x] (by simp) (Go.Cn.Src.one (by rw [blk_cell (blk_new _ _)]; rfl)) (by simpa using h1) hb hb2 ty
  refine ⟨A', cap, F', w', h, ho', ?_, fun k hk => ?_⟩
  · exact (hc.mono (fun _ _ h => h.elim)).trans hc'
  · rcases hf k hk with h | h
    · exact .inl h
    · simp at h; omega
/-- The i-th byte of a word. -/
def leB (s : Crc.W) (i : Nat) : UInt8 := UInt8.ofNat (s.toNat / 2 ^ (8 * i))
def le4 (s : Crc.W) : List UInt8 := (List.range 4).map (leB s)
def sealed (l : List UInt8) : List UInt8 := l ++ le4 (Crc.sum l)
theorem leB_val (s : Crc.W) (i : Nat) (hi : i < 4) : IntKind.u8.wrap ((s.toNat : Int) / (2 : Int) ^ min (8 * (i : Int)).toNat 32) = ((leB s i).toNat : Int) := by
  have e : min (8 * (i : Int)).toNat 32 = 8 * i := by omega
  rw [e]
  unfold leB
  have e2 : ((s.toNat : Int) / (2 : Int) ^ (8 * i)) = ((s.toNat / 2 ^ (8 * i) : Nat) : Int) := by simp
  rw [e2]
  simp [IntKind.wrap, IntKind.bits, IntKind.signed]
theorem seal_any {l : List UInt8} {A : Option Addr} {c : Nat} {w : World} {K : Value → World → Prop} (hr : Reads w A (l.map vb)) (hl : l.length ≤ 10000000)
    (hK : ∀ A' c' w', (sealed l).length ≤ c' → Reads w' A' ((sealed l).map vb) → Qt w w' → K (.slice A' (sealed l).length c') w') : CallK Tryz.prog 90 #[.slice A l.length c] K w := by
  refine F90_calls _ _ _ ?_; unfold F90
  refine ck71 (clone_any hr hl ?_)
  intro A1 c1 F1 w1 o1 q1 f1
  simp (maxSteps := 1000000) (disch := omega) only [genAll, decAll, tk_nil, st90]
  refine ck112 (sum_any (hr.quiet q1) hl ?_)
  have hsl : sealed l = l ++ le4 (Crc.sum l) := rfl
  generalize Crc.sum l = s at *
  simp (maxSteps := 1000000) (disch := omega) only [genAll, decAll, tk_nil, st90]
  refine loopK2 (fun o v w' => ∃ (i : Nat) (G : Option Nat), v = .int .i64 i ∧ i ≤ 4 ∧ Own w' 5 1 o (l.length + i) ((l ++ (List.range i).map (leB s)).map vb) G ∧ Qt w w' ∧ (∀ k, G = some k → w.heap.size ≤ k)) (fun _ v _ => 4 - (intOf v).toNat) ⟨0, F1, rfl, by omega, by simpa using o1, q1, f1⟩ ?_
  rintro _ o _ w' ⟨i, G, rfl, hi, hoo, hq, hG⟩
  by_cases hlt : i < 4
  · simp (maxSteps := 1000000) (disch := omega) only [genAll, decAll, tk_nil, st90, leB_val s i hlt]
    obtain ⟨A2, c2, G2, w2, ha, hoo2, hc2, hf2⟩ := append1_run (P := Tryz.prog) (w := w') tyU8 hoo (.int .u8 (leB s i).toNat) rfl (by omega) (by omega) 29
    refine appK ha ?_
    simp (maxSteps := 1000000) (disch := omega) only [genAll, decAll, tk_nil, st90]
    refine ⟨⟨i + 1, G2, by go_num, by omega, ?_, hq.then hc2 hG, fun k hk => ?_⟩, by simp [rel, intOf]; omega⟩
    · have e : (l ++ (List.range (i + 1)).map (leB s)).map vb = (l ++ (List.range i).map (leB s)).map vb ++ [vb (leB s i)] := by simp [List.range_succ]
      rw [e]
      exact hoo2
    · rcases hf2 k hk with h | h
      · exact hG k h
      · have := hq.size; omega
  · obtain ⟨Ao, co, rfl, hco1, hco2⟩ := hoo.shape
    have e : i = 4 := by omega
    subst e
    have e4 : l ++ (List.range 4).map (leB s) = sealed l := hsl.symm
    have e5 : l.length + 4 = (sealed l).length := by rw [hsl]; simp [le4]
    rw [e4] at hoo
    simp (maxSteps := 1000000) (disch := omega) only [genAll, decAll, tk_nil, st90]
    refine ck70 (clip_any hoo ?_)
    simp (maxSteps := 1000000) (disch := omega) only [genAll, decAll, tk_nil, st90]
    have := Reads.of_own hoo
    rw [e5]
    exact hK Ao _ w' (Nat.le_refl _) this hq
end Go.Proofs.YtpjeohellehgjaaGreatDoor
end

section
/- Seal and Open of both packages: what they answer. Conditions: at most 10000000 bytes. -/
set_option maxRecDepth 10000000
set_option linter.unusedVariables false
set_option linter.unusedSimpArgs false
namespace Go.Proofs.YtpjeohellehgjaaGreatDoor
open Go.RowKit Go.Cn
def openL (b : List UInt8) : Int × List UInt8 := if b.length < 4 then (3, []) else if sealed (b.take (b.length - 4)) = b then (0, b.take (b.length - 4)) else (10, [])
theorem openL_short {b : List UInt8} (h : b.length < 4) : openL b = (3, []) := if_pos h
theorem openL_ok {b : List UInt8} (h : ¬ b.length < 4) (h2 : sealed (b.take (b.length - 4)) = b) : openL b = (0, b.take (b.length - 4)) := by unfold openL; rw [if_neg h, if_pos h2]
theorem openL_bad {b : List UInt8} (h : ¬ b.length < 4) (h2 : ¬ sealed (b.take (b.length - 4)) = b) : openL b = (10, []) := by unfold openL; rw [if_neg h, if_neg h2]
theorem take_of {P : Program} {S : World → Prop} {s : Sem Value} {K : Value → Prop} (v : Value) (h : ∀ w, S w → s.run P w = .ok v w) (hk : K v) : TakeS P S s (@hid _ ⟨K⟩) := ⟨v, h, hk⟩
theorem take_txt {P : Program} {S : World → Prop} {t : TypeId} {x y : ByteArray} {K : Value → Prop} (op : BinOp) (v : Value) (h : ∀ w, S w → BinK P op t (.string x) (.string y) (@hid _ ⟨fun v' w' => v' = v ∧ w' = w⟩) w) (hk : K v) : BinT P S op t (.string x) (.string y) (@hid _ ⟨K⟩) := ⟨v, fun w hw => ⟨(h w hw).1, resK_is (h w hw).2⟩, hk⟩
theorem reads_take {w : World} {g o : Nat} {l : List UInt8} (hr : Reads w (some ⟨g, o, none⟩) (l.map vb)) (k : Nat) : Reads w (some ⟨g, o, none⟩) ((l.take k).map vb) := by
  rcases hr with h | ⟨g', o', e, h⟩
  · rw [List.map_eq_nil_iff] at h; subst h; simp; exact .inl rfl
  · cases e
    refine .inr ⟨g, o, rfl, fun j hj => ?_⟩
    simp at hj
    rw [h j (by simp; omega), List.getElem?_map, List.getElem?_map, List.getElem?_take, if_pos (by omega)]
theorem seal_len (l : List UInt8) : (sealed l).length = l.length + 4 := by simp [sealed, le4]
theorem open_any {b : List UInt8} {A : Option Addr} {c : Nat} {w : World} {K : Value → World → Prop} (hr : Reads w A (b.map vb)) (hl : b.length ≤ 10000000) (hc : b.length ≤ c)
    (hK : ∀ A' n' c' w', n' = (openL b).2.length → Reads w' A' ((openL b).2.map vb) → Qt w w' → K (.tuple #[.slice A' n' c', .int .i64 (openL b).1]) w') : CallK Tryz.prog 91 #[.slice A b.length c] K w := by
  refine F91_calls _ _ _ ?_; unfold F91
  by_cases h4 : b.length < 4
  · rw [openL_short h4] at hK
    simp (maxSteps := 1000000) (disch := omega) only [genAll, decAll, tk_nil, st91]
    exact hK none 0 0 w rfl (.inl rfl) Qt.refl
  obtain ⟨g, o, rfl, _⟩ := hr.all (by omega)
  have ht : ((b.length : Int) - 4).toNat = b.length - 4 := by omega
  have hlt : (b.take (b.length - 4)).length = b.length - 4 := by simp
  have hrt := reads_take hr (b.length - 4)
  simp (maxSteps := 1000000) (disch := omega) only [genAll, decAll, tk_nil, st91, ht]
  refine drawK_by (fun w' => Qt w w') (Qt.drew Qt.refl) ?_
  refine take_of (.string (txt b)) (fun w' hq => conv_run Tryz.underlying29 Tryz.underlying5 Tryz.underlying9 (hr.quiet hq)) ?_
  refine ⟨?_, trivial⟩
  rw [← hlt]
  refine ck90 (seal_any (hrt.quiet (Qt.drew Qt.refl)) (by omega) ?_)
  intro A2 c2 w2 _ r2 q2
  have q2' : Qt w w2 := (Qt.drew Qt.refl).trans q2
  simp (maxSteps := 1000000) (disch := omega) only [genAll, decAll, tk_nil, st91]
  refine ⟨q2', ?_, trivial⟩
  refine convK Tryz.underlying29 Tryz.underlying5 Tryz.underlying9 r2 ?_
  simp (maxSteps := 1000000) (disch := omega) only [genAll, decAll, tk_nil, st91]
  refine ⟨q2', ?_⟩
  by_cases he : sealed (b.take (b.length - 4)) = b
  · rw [openL_ok h4 he] at hK
    rw [he]
    refine take_txt .neq (.bool false) (fun w' _ => by simp (maxSteps := 1000000) (disch := omega) only [genAll, decAll, tk_nil, st91, beq_self_eq_true, Bool.not_true, here_rfl]; try (exact ⟨trivial, trivial⟩)) ?_
    simp (maxSteps := 1000000) (disch := omega) only [genAll, decAll, tk_nil, st91]
    refine ck71 (clone_any (hrt.quiet q2') (by omega) ?_)
    intro A3 c3 F3 w3 o3 q3 f3
    simp (maxSteps := 1000000) (disch := omega) only [genAll, decAll, tk_nil, st91]
    refine ck70 (clip_any o3 ?_)
    simp (maxSteps := 1000000) (disch := omega) only [genAll, decAll, tk_nil, st91]
    exact hK A3 _ _ w3 rfl (Reads.of_own o3) (q2'.trans q3)
  · rw [openL_bad h4 he] at hK
    have hb : ((txt (sealed (b.take (b.length - 4)))).toList == (txt b).toList) = false := by
      rw [txt_toList, txt_toList]; exact beq_eq_false_iff_ne.2 he
    refine take_txt .neq (.bool true) (fun w' _ => by simp (maxSteps := 1000000) (disch := omega) only [genAll, decAll, tk_nil, st91, hb, Bool.not_false, here_rfl]; try (exact ⟨trivial, trivial⟩)) ?_
    simp (maxSteps := 1000000) (disch := omega) only [genAll, decAll, tk_nil, st91]
    exact hK none 0 0 w2 rfl (.inl rfl) q2'
theorem leB_val0 (s : Crc.W) : IntKind.u8.wrap (s.toNat : Int) = ((leB s 0).toNat : Int) := by
  have := leB_val s 0 (by omega)
  simpa using this
theorem leB_val1 (s : Crc.W) : IntKind.u8.wrap ((s.toNat : Int) / (2 : Int) ^ min (Int.toNat 8) 32) = ((leB s 1).toNat : Int) := leB_val s 1 (by omega)
theorem leB_val2 (s : Crc.W) : IntKind.u8.wrap ((s.toNat : Int) / (2 : Int) ^ min (Int.toNat 16) 32) = ((leB s 2).toNat : Int) := leB_val s 2 (by omega)
theorem leB_val3 (s : Crc.W) : IntKind.u8.wrap ((s.toNat : Int) / (2 : Int) ^ min (Int.toNat 24) 32) = ((leB s 3).toNat : Int) := leB_val s 3 (by omega)
theorem sealR_any {l : List UInt8} {A : Option Addr} {c : Nat} {w : World} {K : Value → World → Prop} (hr : Reads w A (l.map vb)) (hl : l.length ≤ 10000000)
    (hK : ∀ A' c' w', Reads w' A' ((sealed l).map vb) → Qt w w' → K (.slice A' (sealed l).length c') w') : CallK Tryz.prog 21 #[.slice A l.length c] K w := by
  refine F21_calls _ _ _ ?_; unfold F21
  refine ck58 (sumR_any hr hl ?_)
  have hsl : sealed l = l ++ le4 (Crc.sum l) := rfl
  generalize Crc.sum l = s at *
  simp (maxSteps := 1000000) (disch := omega) only [genAll, decAll, tk_nil, st21]
  obtain ⟨A2, c2, F2, w2, p2, o2, k2, f2⟩ := apart_run (P := Tryz.prog) (w := w) tyU8 A l.length c (l.map vb) (by simp) hr.src (vb_one l) (by omega) (by omega) 29
  refine appK p2 ?_
  simp (maxSteps := 1000000) (disch := omega) only [genAll, decAll, tk_nil, st21, leB_val0, leB_val1, leB_val2, leB_val3]
  have hc := (Chg.refl (fun _ => False) w2).alloc (.cells #[.int .u8 (leB s 0).toNat, .int .u8 (leB s 1).toNat, .int .u8 (leB s 2).toNat, .int .u8 (leB s 3).toNat] 5)
  obtain ⟨A3, c3, F3, w3, p3, o3, k3, f3⟩ := app_run (P := Tryz.prog) tyU8 (o2.chg hc (fun _ _ h => h)) (some ⟨w2.heap.size, 0, none⟩) 4 4 ((le4 s).map vb) (by simp [le4]) (by
    intro j u hj
    refine ⟨_, rfl, ?_⟩
    rw [Addr.add_lit, Nat.zero_add, blk_cell (blk_new _ _), ← hj]
    simp [le4, List.range_succ, vb]) (vb_one _) (by omega) (by omega) 29
  refine appK p3 ?_
  simp (maxSteps := 1000000) (disch := omega) only [genAll, decAll, tk_nil, st21]
  have q3 : Qt w w3 := (k2.trans hc).then k3 (fun k hk => .inr (f2 k hk))
  have hll : l.length + 4 = (sealed l).length := (seal_len l).symm
  have := Reads.of_own o3
  rw [hll]
  exact hK A3 c3 w3 (by rw [hsl, List.map_append]; exact this) q3
theorem openR_any {b : List UInt8} {A : Option Addr} {c : Nat} {w : World} {K : Value → World → Prop} (hr : Reads w A (b.map vb)) (hl : b.length ≤ 10000000) (hc : b.length ≤ c)
    (hK : ∀ A' n' c' w', n' = (openL b).2.length → Reads w' A' ((openL b).2.map vb) → Qt w w' → K (.tuple #[.slice A' n' c', .int .i64 (openL b).1]) w') : CallK Tryz.prog 59 #[.slice A b.length c] K w := by
  refine F59_calls _ _ _ ?_; unfold F59
  by_cases h4 : b.length < 4
  · rw [openL_short h4] at hK
    simp (maxSteps := 1000000) (disch := omega) only [genAll, decAll, tk_nil, st59]
    exact hK none 0 0 w rfl (.inl rfl) Qt.refl
  obtain ⟨g, o, rfl, _⟩ := hr.all (by omega)
  have ht : ((b.length : Int) - 4).toNat = b.length - 4 := by omega
  have hlt : (b.take (b.length - 4)).length = b.length - 4 := by simp
  have hrt := reads_take hr (b.length - 4)
  simp (maxSteps := 1000000) (disch := omega) only [genAll, decAll, tk_nil, st59, ht]
  refine drawK_by (fun w' => Qt w w') (Qt.drew Qt.refl) ?_
  refine take_slice (.slice (some ⟨g, o, none⟩) (b.length - 4) c) (fun w' hq => by (simp (maxSteps := 1000000) (disch := omega) only [genAll, decAll, tk_nil, st59, ht]; try (exact ⟨trivial, trivial⟩))) ?_
  refine take_of (.string (txt b)) (fun w' hq => conv_run Tryz.underlying29 Tryz.underlying5 Tryz.underlying9 (hr.quiet hq)) ?_
  refine ⟨?_, trivial⟩
  rw [← hlt]
  refine ck21 (sealR_any (hrt.quiet (Qt.drew Qt.refl)) (by omega) ?_)
  intro A2 c2 w2 r2 q2
  have q2' : Qt w w2 := (Qt.drew Qt.refl).trans q2
  simp (maxSteps := 1000000) (disch := omega) only [genAll, decAll, tk_nil, st59]
  refine ⟨q2', ?_, trivial⟩
  refine convK Tryz.underlying29 Tryz.underlying5 Tryz.underlying9 r2 ?_
  simp (maxSteps := 1000000) (disch := omega) only [genAll, decAll, tk_nil, st59]
  refine ⟨q2', ?_⟩
  by_cases he : sealed (b.take (b.length - 4)) = b
  · rw [openL_ok h4 he] at hK
    rw [he]
    refine take_txt .neq (.bool false) (fun w' _ => by simp (maxSteps := 1000000) (disch := omega) only [genAll, decAll, tk_nil, st59, beq_self_eq_true, Bool.not_true, here_rfl]; try (exact ⟨trivial, trivial⟩)) ?_
    simp (maxSteps := 1000000) (disch := omega) only [genAll, decAll, tk_nil, st59, ht]
    have hrt2 := hrt.quiet q2'
    obtain ⟨A3, c3, F3, w3, p3, o3, k3, f3⟩ := apart_run (P := Tryz.prog) (w := w2) tyU8 (some ⟨g, o, none⟩) (b.length - 4) c ((b.take (b.length - 4)).map vb) (by simp) hrt2.src (vb_one _) (by omega) (by omega) 29
    refine appK p3 ?_
    simp (maxSteps := 1000000) (disch := omega) only [genAll, decAll, tk_nil, st59]
    exact hK A3 _ _ w3 hlt.symm (Reads.of_own o3) (q2'.trans k3)
  · rw [openL_bad h4 he] at hK
    have hb : ((txt (sealed (b.take (b.length - 4)))).toList == (txt b).toList) = false := by
      rw [txt_toList, txt_toList]; exact beq_eq_false_iff_ne.2 he
    refine take_txt .neq (.bool true) (fun w' _ => by simp (maxSteps := 1000000) (disch := omega) only [genAll, decAll, tk_nil, st59, hb, Bool.not_false, here_rfl]; try (exact ⟨trivial, trivial⟩)) ?_
    simp (maxSteps := 1000000) (disch := omega) only [genAll, decAll, tk_nil, st59]
    exact hK none 0 0 w2 rfl (.inl rfl) q2'
end Go.Proofs.YtpjeohellehgjaaGreatDoor
end

section
/- Numbers as bytes, plain: zigzag, seven bits a byte, and back. No program in sight. -/
set_option linter.unusedVariables false
set_option linter.unusedSimpArgs false
namespace Go.Cn.Num
def zz (n : Int) : Nat := if 0 ≤ n then (2 * n).toNat else (-2 * n - 1).toNat
def uz (v : Nat) : Int := if v % 2 = 0 then (v / 2 : Nat) else -((v / 2 : Nat) : Int) - 1
theorem uz_zz (n : Int) : uz (zz n) = n := by
  unfold zz uz
  by_cases h : 0 ≤ n
  · rw [if_pos h, if_pos (by omega)]; omega
  · rw [if_neg h, if_neg (by omega)]; omega
theorem zz_lt (n : Int) (h0 : -9223372036854775808 ≤ n) (h1 : n ≤ 9223372036854775807) : zz n < 2 ^ 64 := by
  unfold zz; split <;> omega
def vbytes (v : Nat) : List UInt8 := if h : v < 128 then [UInt8.ofNat v] else UInt8.ofNat (v % 128 + 128) :: vbytes (v / 128)
termination_by v
theorem vbytes_small {v : Nat} (h : v < 128) : vbytes v = [UInt8.ofNat v] := by rw [vbytes, dif_pos h]
theorem vbytes_big {v : Nat} (h : ¬ v < 128) : vbytes v = UInt8.ofNat (v % 128 + 128) :: vbytes (v / 128) := by rw [vbytes, dif_neg h]
theorem vbytes_len (k : Nat) : ∀ v : Nat, v < 128 ^ (k + 1) → 1 ≤ (vbytes v).length ∧ (vbytes v).length ≤ k + 1 := by
  induction k with
  | zero => intro v h; rw [vbytes_small (by simpa using h)]; simp
  | succ k ih =>
    intro v h
    by_cases hs : v < 128
    · rw [vbytes_small hs]; simp
    · rw [vbytes_big hs]
      have := ih (v / 128) (by rw [Nat.div_lt_iff_lt_mul (by omega)]; rw [Nat.pow_succ] at h; exact h)
      simp only [List.length_cons]
      omega
def putInt (n : Int) : List UInt8 := vbytes (zz n)
theorem putInt_len (n : Int) (h0 : -9223372036854775808 ≤ n) (h1 : n ≤ 9223372036854775807) : 1 ≤ (putInt n).length ∧ (putInt n).length ≤ 10 :=
  vbytes_len 9 _ (Nat.lt_of_lt_of_le (zz_lt n h0 h1) (by decide))
def putText (s : List UInt8) : List UInt8 := putInt s.length ++ s
/-- A number out of bytes: why not (3: too short, 2: no form), the number, what is left. -/
def numD : Nat → Nat → List UInt8 → Int × Nat × List UInt8
  | _, _, [] => (3, 0, [])
  | i, v, c :: r => if (i = 9 ∧ 1 < c.toNat) ∨ (0 < i ∧ c.toNat = 0) then (2, 0, []) else if c.toNat < 128 then (0, v + (c.toNat % 128) * 2 ^ (7 * i), r) else numD (i + 1) (v + (c.toNat % 128) * 2 ^ (7 * i)) r
theorem numD_put : ∀ (k i v x : Nat) (r : List UInt8), i + k = 9 → x < 2 ^ (64 - 7 * i) → (0 < i → 0 < x) → numD i v (vbytes x ++ r) = (0, v + x * 2 ^ (7 * i), r) := by
  intro k
  induction k with
  | zero =>
    intro i v x r hi hx h0
    obtain rfl : i = 9 := by omega
    have hx2 : x < 2 := by simpa using hx
    rw [vbytes_small (by omega)]
    have e : (UInt8.ofNat x).toNat = x := by simp; omega
    rw [List.singleton_append, numD, e, if_neg (by have := h0 (by omega); omega), if_pos (by omega), Nat.mod_eq_of_lt (by omega)]
  | succ k ih =>
    intro i v x r hi hx h0
    by_cases hs : x < 128
    · rw [vbytes_small hs]
      have e : (UInt8.ofNat x).toNat = x := by simp; omega
      rw [List.singleton_append, numD, e, if_neg (by intro h; rcases h with h | h; omega; have := h0 h.1; omega), if_pos hs, Nat.mod_eq_of_lt hs]
    · rw [vbytes_big hs]
      have e : (UInt8.ofNat (x % 128 + 128)).toNat = x % 128 + 128 := by simp; omega
      rw [List.cons_append, numD, e, if_neg (by omega), if_neg (by omega), ih (i + 1) _ (x / 128) r (by omega) ?_ (fun _ => by omega)]
      · have e2 : (x % 128 + 128) % 128 = x % 128 := by omega
        rw [e2]
        have e3 : 2 ^ (7 * (i + 1)) = 128 * 2 ^ (7 * i) := by rw [show 7 * (i + 1) = 7 + 7 * i by omega, Nat.pow_add]
        rw [e3]
        have e4 : x / 128 * (128 * 2 ^ (7 * i)) = (x / 128 * 128) * 2 ^ (7 * i) := by rw [Nat.mul_assoc]
        rw [e4, Nat.add_assoc, ← Nat.add_mul]
        have e5 : x % 128 + x / 128 * 128 = x := by omega
        rw [e5]
      · rw [Nat.div_lt_iff_lt_mul (by omega)]
        have e6 : 2 ^ (64 - 7 * (i + 1)) * 128 = 2 ^ (64 - 7 * i) := by
          rw [show 64 - 7 * i = (64 - 7 * (i + 1)) + 7 by omega, Nat.pow_add]
        rw [e6]; exact hx
theorem num_put (x : Nat) (hx : x < 2 ^ 64) (r : List UInt8) : numD 0 0 (vbytes x ++ r) = (0, x, r) := by
  rw [numD_put 9 0 0 x r rfl (by simpa using hx) (fun h => absurd h (by omega))]
  simp
end Go.Cn.Num
end

section
/- The encoder: numbers and texts put behind what it holds. Conditions: it holds at most 10000000 bytes. -/
set_option maxRecDepth 10000000
set_option linter.unusedVariables false
set_option linter.unusedSimpArgs false
namespace Go.Proofs.YtpjeohellehgjaaGreatDoor
open Go.RowKit Go.Cn Go.Cn.Num
/-- The encoder at g holds bs; F: the block of its bytes. -/
def EncAt (w : World) (g : Nat) (bs : List UInt8) (F : Option Nat) : Prop := ∃ v, w.heap[g]? = some (.cells #[v] 67 (0, 0)) ∧ Own w 5 1 v bs.length (bs.map vb) F ∧ F ≠ some g
theorem EncAt.chg {w w' : World} {g : Nat} {bs : List UInt8} {F : Option Nat} {S : Nat → Prop} (h : EncAt w g bs F) (c : Chg S w w') (hg : ¬ S g) (hF : ∀ k, F = some k → ¬ S k) : EncAt w' g bs F := by
  obtain ⟨v, h1, h2, h3⟩ := h; exact ⟨v, c.heap h1 hg, h2.chg c hF, h3⟩
theorem EncAt.lt {w : World} {g : Nat} {bs : List UInt8} {F : Option Nat} (h : EncAt w g bs F) : g < w.heap.size ∧ ∀ k, F = some k → k < w.heap.size := by
  obtain ⟨v, h1, h2, h3⟩ := h; exact ⟨blk_lt h1, fun k hk => h2.lt hk⟩
theorem enc_set {w : World} {g : Nat} {v x : Value} (h : w.heap[g]? = some (.cells #[v] 67 (0, 0))) : (w.setCell ⟨g, 0, none⟩ x).heap[g]? = some (.cells #[x] 67 (0, 0)) := by
  rw [blk_set h]; rfl
/-- One byte behind: what the three steps see and leave. -/
theorem EncAt.put {w : World} {g : Nat} {bs : List UInt8} {F : Option Nat} (h : EncAt w g bs F) (hsz : bs.length ≤ 100000000) (b : UInt8) :
    ∃ v A' cap F' w', w.cell? ⟨g, 0, none⟩ = some v ∧ (Builtin.append_ #[29, 29] 29 #[v, .slice (some ⟨w.heap.size, 0, none⟩) 1 1]).run Tryz.prog (w.alloc (.cells #[.int .u8 (b.toNat : Int)] 5)) = .ok (.slice A' (bs.length + 1) cap) w' ∧
      w'.cell? ⟨g, 0, none⟩ = some v ∧ w'.frozen? ⟨g, 0, none⟩ = false ∧ EncAt (w'.setCell ⟨g, 0, none⟩ (.slice A' (bs.length + 1) cap)) g (bs ++ [b]) F' ∧ Chg (fun k => k = g ∨ F = some k) w (w'.setCell ⟨g, 0, none⟩ (.slice A' (bs.length + 1) cap)) ∧ (∀ k, F' = some k → F = some k ∨ w.heap.size ≤ k) := by
  have hlt := h.lt
  obtain ⟨v, h1, h2, h3⟩ := h
  obtain ⟨A', cap, F', w', ha, ho, hc, hf⟩ := append1_run (P := Tryz.prog) (w := w) tyU8 h2 (.int .u8 b.toNat) rfl (by omega) (by omega) 29
  have hb' : w'.heap[g]? = some (.cells #[v] 67 (0, 0)) := hc.heap h1 h3
  have hFg : F' ≠ some g := fun e => by
    rcases hf g e with h | h
    · exact h3 h
    · have := hlt.1; omega
  refine ⟨v, A', cap, F', w', by rw [blk_cell h1]; rfl, ha, by rw [blk_cell hb']; rfl, blk_frozen hb' 0, ⟨_, enc_set hb', ?_, hFg⟩, ?_, hf⟩
  · rw [List.length_append, List.map_append]
    exact ho.chg ((Chg.refl (fun k => k = g) w').setCell (p := ⟨g, 0, none⟩) (.inl rfl) _) (fun k hk e => hFg (by rw [hk, e]))
  · exact (hc.mono (fun _ _ h => .inr h)).setCell (p := ⟨g, 0, none⟩) (.inl (.inl rfl)) _
set_option maxRecDepth 10000000 in
theorem or_more (v : Nat) : bits .or .u8 (IntKind.u8.wrap (v : Int)) 128 = ((UInt8.ofNat (v % 128 + 128)).toNat : Int) := by
  have e : IntKind.u8.wrap (v : Int) = ((BitVec.ofNat 8 v).toNat : Int) := by
    simp [IntKind.wrap, IntKind.bits, IntKind.signed]
  have h := or_u8 (BitVec.ofNat 8 v) 128#8
  rw [show (((128#8).toNat : Nat) : Int) = 128 from rfl] at h
  rw [e, h]
  have key : ∀ x : Fin 256, ((BitVec.ofNat 8 x.val) ||| 128#8).toNat = x.val % 128 + 128 := by decide
  have k2 := key ⟨v % 256, by omega⟩
  have e2 : BitVec.ofNat 8 (v % 256) = BitVec.ofNat 8 v := by apply BitVec.eq_of_toNat_eq; simp
  simp only [e2] at k2
  rw [k2]
  simp
  omega
theorem byte_of (v : Nat) (h : v < 128) : IntKind.u8.wrap (v : Int) = ((UInt8.ofNat v).toNat : Int) := by
  simp [IntKind.wrap, IntKind.bits, IntKind.signed]
theorem shr7 (v : Nat) : (v : Int) / (2 : Int) ^ min (Int.toNat 7) 64 = ((v / 128 : Nat) : Int) := by
  rw [show min (Int.toNat 7) 64 = 7 from rfl]; omega
theorem zz_code (n : Int) (h0 : -9223372036854775808 ≤ n) (h1 : n ≤ 9223372036854775807) :
    bits .xor .u64 (IntKind.u64.wrap (IntKind.u64.wrap n * (2 : Int) ^ min (Int.toNat 1) 64)) (IntKind.u64.wrap (n / (2 : Int) ^ min (Int.toNat 63) 64)) = (zz n : Int) := by
  rw [show min (Int.toNat 1) 64 = 1 from rfl, show min (Int.toNat 63) 64 = 63 from rfl]
  have w1 : IntKind.u64.wrap (IntKind.u64.wrap n * (2 : Int) ^ 1) = ((2 * n) % 18446744073709551616) := by
    simp [IntKind.wrap, IntKind.bits, IntKind.signed]; omega
  by_cases h : 0 ≤ n
  · have d : n / (2 : Int) ^ 63 = 0 := by omega
    obtain ⟨m, rfl⟩ := Int.eq_ofNat_of_zero_le h
    have e1 : (2 * (m : Int)) % 18446744073709551616 = ((2 * m : Nat) : Int) := by omega
    have e2 : IntKind.u64.wrap 0 = ((0 : Nat) : Int) := by decide
    rw [w1, d, e1, e2, bits_xor_u64_nat _ _ (by omega) (by omega)]
    unfold zz; rw [if_pos h]; simp; omega
  · have d : n / (2 : Int) ^ 63 = -1 := by omega
    have e2 : IntKind.u64.wrap (-1) = ((18446744073709551615 : Nat) : Int) := by decide
    obtain ⟨m, hm⟩ : ∃ m : Nat, (m : Int) = -2 * n - 1 := ⟨(-2 * n - 1).toNat, by omega⟩
    have e1 : (2 * n) % 18446744073709551616 = ((18446744073709551615 - m : Nat) : Int) := by omega
    rw [w1, d, e1, e2, bits_xor_u64_nat _ _ (by omega) (by omega)]
    have e3 : (18446744073709551615 - m) ^^^ 18446744073709551615 = m := by
      have hm2 : m < 2 ^ 64 := by omega
      have : 18446744073709551615 - m = 2 ^ 64 - (m + 1) := by omega
      apply Nat.eq_of_testBit_eq; intro i
      rw [Nat.testBit_xor, this, Nat.testBit_two_pow_sub_succ hm2, show 18446744073709551615 = 2 ^ 64 - 1 from rfl, Nat.testBit_two_pow_sub_one]
      by_cases hi : i < 64
      · simp [hi]
      · have : m < 2 ^ i := Nat.lt_of_lt_of_le hm2 (Nat.pow_le_pow_right (by omega) (by omega))
        simp [hi, Nat.testBit_lt_two_pow this]
    rw [e3]
    unfold zz; rw [if_neg h]; omega
theorem flat_take (ns : List Int) (i : Nat) (hi : i < ns.length) : (ns.take (i + 1)).flatMap putInt = (ns.take i).flatMap putInt ++ putInt (ns.getD i default) := by
  rw [List.take_succ_eq_append_getElem hi, List.flatMap_append]
  simp [hi]
theorem enc_ints {ns : List Int} {B : Option Addr} {c : Nat} {g : Nat} {bs : List UInt8} {F : Option Nat} {w : World} {K : Value → World → Prop} (hn : ∀ x ∈ ns, -9223372036854775808 ≤ x ∧ x ≤ 9223372036854775807) (hr : Reads w B (ns.map (Value.int .i64)))
    (hB : ∀ ad, B = some ad → ad.block ≠ g ∧ F ≠ some ad.block ∧ ad.block < w.heap.size) (he : EncAt w g bs F) (hsz : bs.length + 10 * ns.length ≤ 10000000)
    (hK : ∀ F' w', EncAt w' g (bs ++ ns.flatMap putInt) F' → Chg (fun k => k = g ∨ F = some k) w w' → (∀ k, F' = some k → F = some k ∨ w.heap.size ≤ k) → K (.tuple #[]) w') : CallK Tryz.prog 63 #[.pointer (some ⟨g, 0, none⟩), .slice B ns.length c] K w := by
  refine F63_calls _ _ _ _ ?_; unfold F63
  simp (maxSteps := 1000000) (disch := omega) only [genAll, decAll, tk_nil, st63]
  refine loopK1 (fun v w' => ∃ (i : Nat) (F' : Option Nat), v = .int .i64 i ∧ i ≤ ns.length ∧ EncAt w' g (bs ++ (ns.take i).flatMap putInt) F' ∧ Chg (fun k => k = g ∨ F = some k) w w' ∧ (∀ k, F' = some k → F = some k ∨ w.heap.size ≤ k) ∧ (bs ++ (ns.take i).flatMap putInt).length ≤ bs.length + 10 * i) (fun v _ => ns.length - (intOf v).toNat) ⟨0, F, rfl, by omega, by simpa using he, Chg.refl _ _, fun _ h => .inl h, by simp⟩ ?_
  rintro _ _ w' ⟨i, F', rfl, hi, he', hc, hF', hlen⟩
  by_cases hlt : i < ns.length
  · have hr' : Reads w' B (ns.map (Value.int .i64)) := hr.chg hc (fun ad e h => by
      obtain ⟨h1, h2, h3⟩ := hB ad e
      rcases h with h | h
      · exact h1 h
      · exact h2 h)
    obtain ⟨b, o, rfl, hcell⟩ := hr'.get hlt
    have hft := flat_take ns i hlt
    have hx := hn (ns.getD i default) (by rw [List.getD_eq_getElem?_getD, List.getElem?_eq_getElem hlt]; exact List.getElem_mem hlt)
    generalize ns.getD i default = x at *
    have hpl := putInt_len x hx.1 hx.2
    have hzl := zz_lt x hx.1 hx.2
    generalize hb0 : bs ++ (ns.take i).flatMap putInt = b0 at *
    simp (maxSteps := 1000000) (disch := omega) only [genAll, decAll, tk_nil, st63, hcell, zz_code x hx.1 hx.2]
    refine loopK1 (fun v w2 => ∃ (u : Nat) (b1 : List UInt8) (F2 : Option Nat), v = .int .u64 u ∧ u < 2 ^ 64 ∧ b1 ++ vbytes u = b0 ++ putInt x ∧ EncAt w2 g b1 F2 ∧ Chg (fun k => k = g ∨ F = some k) w w2 ∧ (∀ k, F2 = some k → F = some k ∨ w.heap.size ≤ k)) (fun v _ => (match v with | .int _ u => u.toNat | _ => 0)) ⟨zz x, b0, F', rfl, hzl, rfl, he', hc, hF'⟩ ?_
    rintro _ _ w2 ⟨u, b1, F2, rfl, hu, hbu, he2, hc2, hF2⟩
    have hl1 : b1.length + (vbytes u).length = b0.length + (putInt x).length := by rw [← List.length_append, hbu, List.length_append]
    by_cases h128 : u < 128
    · obtain ⟨v, A3, cap3, F3, w3, e1, e2, e3, e4, e5, e6, e7⟩ := he2.put (by omega) (UInt8.ofNat u)
      rw [vbytes_small h128] at hbu
      rw [vbytes_small h128, List.length_singleton] at hl1
      simp (maxSteps := 1000000) (disch := omega) only [genAll, decAll, tk_nil, st63, e1, byte_of u h128]
      refine appK e2 ?_
      simp (maxSteps := 1000000) (disch := omega) only [genAll, decAll, tk_nil, st63, e3, e4]
      refine ⟨⟨i + 1, F3, by go_num, by omega, ?_, hc2.then e6 (fun k hk => ?_), fun k hk => ?_, ?_⟩, by simp [rel, intOf]; omega⟩
      · rw [hft, ← List.append_assoc, hb0, ← hbu]; exact e5
      · rcases hk with h | h
        · exact .inl (.inl h)
        · rcases hF2 k h with h | h
          · exact .inl (.inr h)
          · exact .inr h
      · rcases e7 k hk with h | h
        · exact hF2 k h
        · have := hc2.size; omega
      · rw [hft, ← List.append_assoc, hb0, List.length_append]; omega
    · obtain ⟨v, A3, cap3, F3, w3, e1, e2, e3, e4, e5, e6, e7⟩ := he2.put (by omega) (UInt8.ofNat (u % 128 + 128))
      rw [vbytes_big h128] at hbu
      simp (maxSteps := 1000000) (disch := omega) only [genAll, decAll, tk_nil, st63, e1, or_more u]
      refine appK e2 ?_
      simp (maxSteps := 1000000) (disch := omega) only [genAll, decAll, tk_nil, st63, e3, e4, shr7 u]
      refine ⟨⟨u / 128, b1 ++ [UInt8.ofNat (u % 128 + 128)], F3, rfl, by omega, ?_, e5, hc2.then e6 (fun k hk => ?_), fun k hk => ?_⟩, by simp only [rel]; omega⟩
      · rw [List.append_assoc]; exact hbu
      · rcases hk with h | h
        · exact .inl (.inl h)
        · rcases hF2 k h with h | h
          · exact .inl (.inr h)
          · exact .inr h
      · rcases e7 k hk with h | h
        · exact hF2 k h
        · have := hc2.size; omega
  · simp (maxSteps := 1000000) (disch := omega) only [genAll, decAll, tk_nil, st63]
    rw [List.take_of_length_le (by omega)] at he'
    exact hK F' w' he' hc hF'
end Go.Proofs.YtpjeohellehgjaaGreatDoor
end

section
/- The encoder's texts and bytes; cantonref7.PutInt, PutText. Conditions: at most 10000000 bytes. -/
set_option maxRecDepth 10000000
set_option linter.unusedVariables false
set_option linter.unusedSimpArgs false
namespace Go.Proofs.YtpjeohellehgjaaGreatDoor
open Go.RowKit Go.Cn Go.Cn.Num
theorem reads_new (w : World) (xs : List Value) (e : TypeId) : Reads (w.alloc (.cells xs.toArray e)) (some ⟨w.heap.size, 0, none⟩) xs := by
  refine .inr ⟨_, _, rfl, fun j hj => ?_⟩
  rw [blk_cell (blk_new _ _)]
  simp
theorem Reads.cell {α : Type} [Inhabited α] {enc : α → Value} {w : World} {g o : Nat} {l : List α} (h : Reads w (some ⟨g, o, none⟩) (l.map enc)) (j : Nat) (hj : j < l.length) : w.cell? ⟨g, o + j, none⟩ = some (enc (l.getD j default)) := by
  obtain ⟨g', o', e, hc⟩ := h.get hj
  cases e
  exact hc
/-- One number behind. -/
theorem enc_int {n : Int} {g : Nat} {bs : List UInt8} {F : Option Nat} {w : World} {K : Value → World → Prop} (hn : -9223372036854775808 ≤ n ∧ n ≤ 9223372036854775807) (he : EncAt w g bs F) (hsz : bs.length + 10 ≤ 10000000)
    (hK : ∀ F' w', EncAt w' g (bs ++ putInt n) F' → Chg (fun k => k = g ∨ F = some k) w w' → (∀ k, F' = some k → F = some k ∨ w.heap.size ≤ k) → K (.tuple #[]) w') : CallK Tryz.prog 63 #[.pointer (some ⟨g, 0, none⟩), .slice (some ⟨w.heap.size, 0, none⟩) 1 1] K (w.alloc (.cells #[.int .i64 n] 2)) := by
  have hlt := he.lt
  have hc0 := (Chg.refl (fun _ => False) w).alloc (.cells #[.int .i64 n] 2)
  have hr := reads_new w (List.map (Value.int .i64) [n]) 2
  refine enc_ints (ns := [n]) (by simpa using hn) hr (fun ad e => ?_) (he.chg hc0 (fun h => h) (fun _ _ h => h)) (by simpa using hsz) ?_
  · cases e
    refine ⟨?_, ?_, by simp⟩
    · have := hlt.1
      show w.heap.size ≠ g
      omega
    · intro e
      have := hlt.2 _ e
      exact absurd this (Nat.lt_irrefl _)
  · intro F' w' h1 h2 h3
    refine hK F' w' (by simpa using h1) ((hc0.mono (fun _ _ h => h.elim)).trans h2) (fun k hk => ?_)
    rcases h3 k hk with h | h
    · exact .inl h
    · simp at h; omega
theorem EncAt.puts {w : World} {g : Nat} {bs : List UInt8} {F : Option Nat} (h : EncAt w g bs F) (s : ByteArray) (hsz : bs.length + s.size ≤ 100000000) :
    ∃ v A' cap F' w', w.cell? ⟨g, 0, none⟩ = some v ∧ (Builtin.append_ #[29, 9] 29 #[v, .string s]).run Tryz.prog w = .ok (.slice A' (bs.length + s.size) cap) w' ∧
      w'.cell? ⟨g, 0, none⟩ = some v ∧ w'.frozen? ⟨g, 0, none⟩ = false ∧ EncAt (w'.setCell ⟨g, 0, none⟩ (.slice A' (bs.length + s.size) cap)) g (bs ++ s.data.toList) F' ∧ Chg (fun k => k = g ∨ F = some k) w (w'.setCell ⟨g, 0, none⟩ (.slice A' (bs.length + s.size) cap)) ∧ (∀ k, F' = some k → F = some k ∨ w.heap.size ≤ k) := by
  have hlt := h.lt
  obtain ⟨v, h1, h2, h3⟩ := h
  obtain ⟨A', cap, F', w', ha, ho, hc, hf⟩ := appendS_run (P := Tryz.prog) (w := w) tyU8 Tryz.underlying9 h2 s (by omega) 29
  have hb' : w'.heap[g]? = some (.cells #[v] 67 (0, 0)) := hc.heap h1 h3
  have hFg : F' ≠ some g := fun e => by
    rcases hf g e with h | h
    · exact h3 h
    · have := hlt.1; omega
  refine ⟨v, A', cap, F', w', by rw [blk_cell h1]; rfl, ha, by rw [blk_cell hb']; rfl, blk_frozen hb' 0, ⟨_, enc_set hb', ?_, hFg⟩, ?_, hf⟩
  · rw [List.length_append, List.map_append]
    exact ho.chg ((Chg.refl (fun k => k = g) w').setCell (p := ⟨g, 0, none⟩) (.inl rfl) _) (fun k hk e => hFg (by rw [hk, e]))
  · exact (hc.mono (fun _ _ h => .inr h)).setCell (p := ⟨g, 0, none⟩) (.inl (.inl rfl)) _
/-- One text behind. -/
theorem enc_text {s : ByteArray} {g : Nat} {bs : List UInt8} {F : Option Nat} {w : World} {K : Value → World → Prop} (he : EncAt w g bs F) (hsz : bs.length + 10 + s.size ≤ 10000000)
    (hK : ∀ F' w', EncAt w' g (bs ++ putText s.data.toList) F' → Chg (fun k => k = g ∨ F = some k) w w' → (∀ k, F' = some k → F = some k ∨ w.heap.size ≤ k) → K (.tuple #[]) w') : CallK Tryz.prog 64 #[.pointer (some ⟨g, 0, none⟩), .slice (some ⟨w.heap.size, 0, none⟩) 1 1] K (w.alloc (.cells #[.string s] 9)) := by
  refine F64_calls _ _ _ _ ?_; unfold F64
  have hlt := he.lt
  have hc0 := (Chg.refl (fun _ => False) w).alloc (.cells #[.string s] 9)
  have hr := reads_new w (List.map Value.string [s]) 9
  have hcell := Reads.cell hr 0 (by simp)
  simp only [Nat.add_zero, List.getD_cons_zero] at hcell
  have hsz0 : (w.alloc (.cells #[.string s] 9)).heap.size = w.heap.size + 1 := by simp
  replace he := he.chg hc0 (fun h => h) (fun _ _ h => h)
  have e1' : ((1 : Nat) : Int) = 1 := rfl
  simp only [List.map_cons, List.map_nil] at hcell
  generalize (w.alloc (.cells #[.string s] 9)) = w1 at *
  simp (maxSteps := 1000000) (disch := omega) only [genAll, decAll, tk_nil, st64]
  refine loopK1 (fun v w' => (v = .int .i64 0 ∧ w' = w1) ∨ (v = .int .i64 1 ∧ ∃ F', EncAt w' g (bs ++ putText s.data.toList) F' ∧ Chg (fun k => k = g ∨ F = some k) w w' ∧ (∀ k, F' = some k → F = some k ∨ w.heap.size ≤ k))) (fun v _ => 1 - (intOf v).toNat) (.inl ⟨rfl, rfl⟩) ?_
  rintro _ _ w' (⟨rfl, hw⟩ | ⟨rfl, F', h1, h2, h3⟩)
  · obtain rfl : w' = w1 := hw
    have hb : (s.size : Int) ≤ 9223372036854775807 := by omega
    simp (maxSteps := 1000000) (disch := omega) only [genAll, decAll, tk_nil, st64, e1', hcell, Int.toNat_zero]
    refine ck63 (enc_int ⟨by omega, hb⟩ he (by omega) ?_)
    intro F2 w2 he2 hc2 hf2
    have hpl := putInt_len (s.size : Int) (by omega) hb
    obtain ⟨v, A3, cap3, F3, w3, q1, q2, q3, q4, q5, q6, q7⟩ := he2.puts s (by rw [List.length_append]; omega)
    simp (maxSteps := 1000000) (disch := omega) only [genAll, decAll, tk_nil, st64, q1]
    refine appK q2 ?_
    simp (maxSteps := 1000000) (disch := omega) only [genAll, decAll, tk_nil, st64, q3, q4]
    refine ⟨.inr ⟨rfl, F3, ?_, ((hc0.mono (fun _ _ h => h.elim)).trans hc2).then q6 (fun k hk => ?_), fun k hk => ?_⟩, by simp [rel, intOf]⟩
    · have e : putText s.data.toList = putInt s.size ++ s.data.toList := rfl
      rw [e, ← List.append_assoc]; exact q5
    · rcases hk with h | h
      · exact .inl (.inl h)
      · rcases hf2 k h with h | h
        · exact .inl (.inr h)
        · exact .inr (by omega)
    · rcases q7 k hk with h | h
      · rcases hf2 k h with h | h
        · exact .inl h
        · exact .inr (by omega)
      · have := hc2.size; exact .inr (by omega)
  · simp (maxSteps := 1000000) (disch := omega) only [genAll, decAll, tk_nil, st64, e1']
    exact hK F' w' h1 h2 h3
theorem enc_bytes {g : Nat} {bs : List UInt8} {F : Option Nat} {w : World} {K : Value → World → Prop} (he : EncAt w g bs F) (hsz : bs.length ≤ 10000000)
    (hK : ∀ A' c' w', Reads w' A' (bs.map vb) → Qt w w' → K (.slice A' bs.length c') w') : CallK Tryz.prog 33 #[.pointer (some ⟨g, 0, none⟩)] K w := by
  refine F33_calls _ _ _ ?_; unfold F33
  obtain ⟨v, h1, h2, h3⟩ := he
  have hc : w.cell? ⟨g, 0, none⟩ = some v := by rw [blk_cell h1]; rfl
  obtain ⟨A, c, rfl, _⟩ := h2.shape
  simp (maxSteps := 1000000) (disch := omega) only [genAll, decAll, tk_nil, st33, hc]
  refine ck71 (clone_any (Reads.of_own h2) hsz ?_)
  intro A2 c2 F2 w2 o2 q2 f2
  simp (maxSteps := 1000000) (disch := omega) only [genAll, decAll, tk_nil, st33]
  refine ck70 (clip_any o2 ?_)
  simp (maxSteps := 1000000) (disch := omega) only [genAll, decAll, tk_nil, st33]
  exact hK A2 _ w2 (Reads.of_own o2) q2
theorem enc_new (w : World) : EncAt (w.alloc (.cells #[.slice none 0 0] 67)) w.heap.size [] none := ⟨_, blk_new _ _, Own.nil _ _ _, fun h => by cases h⟩
/-- cantonref7.PutInt. -/
theorem zz_ref_neg (n : Int) (h0 : -9223372036854775808 ≤ n) (h1 : n < 0) : bits .or .u64 (IntKind.u64.wrap (IntKind.u64.wrap (0 - (n + 1)) * (2 : Int) ^ min (Int.toNat 1) 64)) 1 = (zz n : Int) := by
  rw [show min (Int.toNat 1) 64 = 1 from rfl]
  obtain ⟨m, hm⟩ : ∃ m : Nat, (m : Int) = -n - 1 := ⟨(-n - 1).toNat, by omega⟩
  have w1 : IntKind.u64.wrap (IntKind.u64.wrap (0 - (n + 1)) * (2 : Int) ^ 1) = ((2 * m : Nat) : Int) := by
    simp [IntKind.wrap, IntKind.bits, IntKind.signed]; omega
  have h := bits_or_u64_nat (2 * m) 1 (by omega) (by omega)
  rw [show ((1 : Nat) : Int) = 1 from rfl] at h
  rw [w1, h]
  have e : 2 * m ||| 1 = 2 * m + 1 := by
    have := Nat.two_pow_add_eq_or_of_lt (i := 1) (b := 1) (by omega) m
    simpa [Nat.mul_comm] using this.symm
  rw [e]
  unfold zz; rw [if_neg (by omega)]; omega
theorem zz_ref_pos (n : Int) (h0 : 0 ≤ n) (h1 : n ≤ 9223372036854775807) : IntKind.u64.wrap (IntKind.u64.wrap n * (2 : Int) ^ min (Int.toNat 1) 64) = (zz n : Int) := by
  rw [show min (Int.toNat 1) 64 = 1 from rfl]
  unfold zz; rw [if_pos h0]
  simp [IntKind.wrap, IntKind.bits, IntKind.signed]; omega
theorem or_ref (u : Nat) : IntKind.u8.wrap (bits .or .u64 (bits .and .u64 (u : Int) 127) 128) = ((UInt8.ofNat (u % 128 + 128)).toNat : Int) ∨ ¬ u < 2 ^ 64 := by
  by_cases hu : u < 2 ^ 64
  · left
    have h := bits_and_u64_nat u 127 (by omega) (by omega)
    rw [show ((127 : Nat) : Int) = 127 from rfl] at h
    have e : u &&& 127 = u % 128 := Nat.and_two_pow_sub_one_eq_mod u 7
    have h2 := bits_or_u64_nat (u % 128) 128 (by omega) (by omega)
    rw [show ((128 : Nat) : Int) = 128 from rfl] at h2
    have e2 : u % 128 ||| 128 = u % 128 + 128 := by
      have := Nat.two_pow_add_eq_or_of_lt (i := 7) (b := u % 128) (by omega) 1
      rw [Nat.or_comm]; simpa [Nat.add_comm] using this.symm
    rw [h, e, h2, e2]
    simp [IntKind.wrap, IntKind.bits, IntKind.signed]
  · exact .inr hu
theorem putInt_any {n : Int} {w : World} {K : Value → World → Prop} (h0 : -9223372036854775808 ≤ n) (h1 : n ≤ 9223372036854775807)
    (hK : ∀ A' c' F w', Own w' 5 1 (.slice A' (putInt n).length c') (putInt n).length ((putInt n).map vb) F → Qt w w' → (∀ k, F = some k → w.heap.size ≤ k) → K (.slice A' (putInt n).length c') w') : CallK Tryz.prog 54 #[.int .i64 n] K w := by
  refine F54_calls _ _ _ ?_; unfold F54
  simp (maxSteps := 1000000) (disch := omega) only [genAll, decAll, tk_nil, st54]
  refine cutK1 (fun v w' => v = .int .u64 (zz n) ∧ w' = w) ?_ ?_
  · by_cases h : n < 0
    · simp (maxSteps := 1000000) (disch := omega) only [genAll, decAll, tk_nil, st54, zz_ref_neg n h0 h]
      exact ⟨by have := zz_ref_neg n h0 h; rw [wrap_in64 (n := 0 - (n + 1)) (by omega)] at this; rw [this], rfl⟩
    · simp (maxSteps := 1000000) (disch := omega) only [genAll, decAll, tk_nil, st54, zz_ref_pos n (show 0 ≤ n by omega) h1]
      exact ⟨by have := zz_ref_pos n (show 0 ≤ n by omega) h1; rw [wrap_in64 (n := n) (by omega)] at this; rw [this], rfl⟩
  rintro _ _ w' ⟨rfl, hw⟩
  obtain rfl : w' = w := hw
  have hpl := putInt_len n h0 h1
  refine loopK2 (fun v o w2 => ∃ (u : Nat) (b : List UInt8) (F : Option Nat), v = .int .u64 u ∧ u < 2 ^ 64 ∧ b ++ vbytes u = putInt n ∧ Own w2 5 1 o b.length (b.map vb) F ∧ Qt w' w2 ∧ (∀ k, F = some k → w'.heap.size ≤ k)) (fun v _ _ => (match v with | .int _ u => u.toNat | _ => 0)) ⟨zz n, [], none, rfl, zz_lt n h0 h1, rfl, Own.nil _ _ _, Qt.refl, fun _ h => (by cases h)⟩ ?_
  rintro _ o _ w2 ⟨u, b, F, rfl, hu, hb, ho, hq, hF⟩
  have hl1 : b.length + (vbytes u).length = (putInt n).length := by rw [← hb, List.length_append]
  by_cases h128 : u < 128
  · rw [vbytes_small h128] at hb hl1
    simp (maxSteps := 1000000) (disch := omega) only [genAll, decAll, tk_nil, st54, byte_of u h128]
    obtain ⟨A3, c3, F3, w3, ha, ho3, hc3, hf3⟩ := append1_run (P := Tryz.prog) tyU8 ho (.int .u8 (UInt8.ofNat u).toNat) rfl (by simp at hl1; omega) (by simp at hl1; omega) 29
    refine appK ha ?_
    simp (maxSteps := 1000000) (disch := omega) only [genAll, decAll, tk_nil, st54]
    have e : (putInt n).length = b.length + 1 := by rw [← hb]; simp
    rw [← e] at ho3 ⊢
    refine hK A3 c3 F3 w3 ?_ (hq.then hc3 hF) (fun k hk => ?_)
    · rw [← hb, List.map_append, hb]; exact ho3
    · rcases hf3 k hk with h | h
      · exact hF k h
      · have := hq.size; omega
  · rw [vbytes_big h128] at hb
    have hor : IntKind.u8.wrap (bits .or .u64 (bits .and .u64 (u : Int) 127) 128) = ((UInt8.ofNat (u % 128 + 128)).toNat : Int) := by
      rcases or_ref u with h | h
      · exact h
      · exact absurd hu h
    simp (maxSteps := 1000000) (disch := omega) only [genAll, decAll, tk_nil, st54, hor, shr7 u]
    obtain ⟨A3, c3, F3, w3, ha, ho3, hc3, hf3⟩ := append1_run (P := Tryz.prog) tyU8 ho (.int .u8 (UInt8.ofNat (u % 128 + 128)).toNat) rfl (by omega) (by omega) 29
    refine appK ha ?_
    simp (maxSteps := 1000000) (disch := omega) only [genAll, decAll, tk_nil, st54, shr7 u]
    refine ⟨⟨u / 128, b ++ [UInt8.ofNat (u % 128 + 128)], F3, rfl, by omega, by rw [List.append_assoc]; exact hb, by rw [List.length_append, List.map_append]; exact ho3, hq.then hc3 hF, fun k hk => ?_⟩, by simp only [rel]; omega⟩
    rcases hf3 k hk with h | h
    · exact hF k h
    · have := hq.size; omega
theorem putText_any {s : ByteArray} {w : World} {K : Value → World → Prop} (hs : s.size ≤ 10000000)
    (hK : ∀ A' c' F w', Own w' 5 1 (.slice A' (putText s.data.toList).length c') (putText s.data.toList).length ((putText s.data.toList).map vb) F → Qt w w' → (∀ k, F = some k → w.heap.size ≤ k) → K (.slice A' (putText s.data.toList).length c') w') : CallK Tryz.prog 69 #[.string s] K w := by
  refine F69_calls _ _ _ ?_; unfold F69
  simp (maxSteps := 1000000) (disch := omega) only [genAll, decAll, tk_nil, st69]
  have hpl := putInt_len (s.size : Int) (by omega) (by omega)
  refine ck54 (putInt_any (by omega) (by omega) ?_)
  intro A1 c1 F1 w1 o1 q1 f1
  simp (maxSteps := 1000000) (disch := omega) only [genAll, decAll, tk_nil, st69]
  obtain ⟨A2, c2, F2, w2, ha, ho, hc, hf⟩ := appendS_run (P := Tryz.prog) tyU8 Tryz.underlying9 o1 s (by omega) 29
  refine appK ha ?_
  simp (maxSteps := 1000000) (disch := omega) only [genAll, decAll, tk_nil, st69]
  have e : (putText s.data.toList).length = (putInt s.size).length + s.size := by
    have : putText s.data.toList = putInt s.size ++ s.data.toList := rfl
    rw [this, List.length_append]; rfl
  have e2 : (putText s.data.toList).map vb = (putInt s.size).map vb ++ s.data.toList.map vb := by
    have : putText s.data.toList = putInt s.size ++ s.data.toList := rfl
    rw [this, List.map_append]
  rw [← e] at ho ⊢
  refine hK A2 c2 F2 w2 (by rw [e2]; exact ho) (q1.then hc f1) (fun k hk => ?_)
  rcases hf k hk with h | h
  · exact f1 k h
  · have := q1.size; omega
end Go.Proofs.YtpjeohellehgjaaGreatDoor
end
