import Derived.Test.YtpjeohellehgjaaDoorL0
import Derived.Test.YtpjeohellehgjaaDoorV2
import Derived.Test.YtpjeohellehgjaaDoorL3
import Derived.Laws.MakeOwn
import Derived.Laws.OwnMore
import Derived.Test.YtpjeohellehgjaaDoorV4
import Derived.Lib.AppendZerosOnto
import Derived.Lib.Overlaps
import Derived.Laws.IdiomCopy
import Derived.Deep.MidRow
import Derived.Laws.Bits64
import Derived.Laws.Bits64b
import Derived.Laws.BitsLemmas
import Derived.Laws.BytesArg
import Derived.Lib.AppendStr
import Derived.Lib.Split
import Derived.Lib.SplitLaws
import Derived.Lib.ParseIntB
import Derived.Lib.ItoaNum
import Derived.Shelf.Strings.Builder1
import Derived.Shelf.Strings.Builder2
import Derived.Shelf.Utf8.RuneCount
import Derived.Shelf.Strings.Search1
import Derived.Shelf.Strings.Search2
import Derived.Shelf.Strings.Search3
import Derived.Shelf.Strings.Count
import Derived.Shelf.LaysM
import Derived.Shelf.Strings.Shaped
import Derived.Shelf.Strings.Split
import Derived.Shelf.Strings.SplitShaped
import Derived.Shelf.Unicode.Decode
import Derived.Shelf.Strings.RuneCount
import Derived.Shelf.Strings.Explode
import Derived.Shelf.Unicode.DecodeSlow
import Derived.Shelf.Unicode.DecodeAny
import Derived.Test.YtpjeohellehgjaaDoorProg
section
/- More of what L0 has: delete-by-copy with the world between. -/
set_option linter.unusedVariables false
set_option linter.unusedSimpArgs false
namespace Go.Cn
open Go.RowKit
theorem cut_runs2 {P : Program} {w : World} {t e : TypeId} {z : Value} {bytes : Nat} (T : ElemTy P t e z 1 bytes) {g n cap k : Nat} {xs : List Value} (hr : RowAt w e 1 g n cap xs) (hk : k < n) (h1 : ∀ u ∈ xs, u.oneCell' = true) (hb : n * bytes ≤ 140737488355328) (ty : TypeId) :
    ∃ A, (if cap = k + 1 then some (⟨g, 0, none⟩ : Addr) else some ⟨g, k + 1, none⟩) = some A ∧ ∃ A1 c1 w2, (Builtin.append_ #[t, t] ty #[.slice (some ⟨w.heap.size, 0, none⟩) 0 0, .slice (some ⟨g, 0, none⟩) k cap]).run P (w.alloc (.cells #[] e)) = .ok (.slice A1 k c1) w2 ∧ Chg (fun _ => False) w w2 ∧
    ∃ A2 c2 F2 w3, (Builtin.append_ #[t, t] ty #[.slice A1 k c1, .slice (some A) (n - (k + 1)) (cap - (k + 1))]).run P w2 = .ok (.slice A2 (n - 1) c2) w3 ∧ Own w3 e 1 (.slice A2 (n - 1) c2) (n - 1) (xs.take k ++ xs.drop (k + 1)) F2 ∧ Chg (fun _ => False) w w3 ∧ (∀ k, F2 = some k → w.heap.size ≤ k) := by
  have hlen : xs.length = n := by have := hr.1; omega
  have hcap := hr.cap_le
  have hbk : ∀ q, q ≤ n → q * bytes ≤ 140737488355328 := fun q hq => Nat.le_trans (Nat.mul_le_mul_right _ hq) hb
  obtain ⟨A, hA, hsrc⟩ : ∃ A : Addr, (if cap = k + 1 then some (⟨g, 0, none⟩ : Addr) else some ⟨g, k + 1, none⟩) = some A ∧ (A.block = g ∧ Src w (some A) (xs.drop (k + 1))) := by
    by_cases h : cap = k + 1
    · refine ⟨⟨g, 0, none⟩, by simp [h], rfl, ?_⟩
      rw [List.drop_eq_nil_of_le (by omega)]
      exact Src.nil _ _
    · refine ⟨⟨g, k + 1, none⟩, by simp [h], rfl, fun j u hu => ⟨_, rfl, ?_⟩⟩
      rw [List.getElem?_drop] at hu
      have hk := (List.getElem?_eq_some_iff.1 hu).1
      rw [Addr.add_lit, hr.cell (k + 1 + j) (by omega)]
      exact hu
  obtain ⟨A1, c1, F1, w2, h2, ho2, hc2, hf2⟩ := apart_run T (some ⟨g, 0, none⟩) k cap (xs.take k) (by simp; omega) (fun j u hj => by
    rw [List.getElem?_take] at hj
    split at hj
    · refine ⟨_, rfl, ?_⟩
      rw [Addr.add_lit, Nat.zero_add, hr.cell j (by omega)]; exact hj
    · cases hj) (fun u hu => h1 u (List.mem_of_mem_take hu)) (hbk k (by omega)) (by omega) ty
  obtain ⟨A2, c2, F2, w3, h3, ho3, hc3, hf3⟩ := app_run T ho2 (some A) (n - (k + 1)) (cap - (k + 1)) (xs.drop (k + 1)) (by simp; omega) (hsrc.2.chg hc2 (fun _ _ h => h)) (fun u hu => h1 u (List.mem_of_mem_drop hu)) (hbk _ (by omega)) (by omega) ty
  have e1 : k + (n - (k + 1)) = n - 1 := by omega
  rw [e1] at h3 ho3
  refine ⟨A, hA, A1, c1, w2, h2, hc2, A2, c2, F2, w3, h3, ho3, hc2.then hc3 (fun i hi => .inr (hf2 i hi)), fun j hj => ?_⟩
  rcases hf3 j hj with h | h
  · exact hf2 j h
  · have := hc2.size; omega
end Go.Cn
end

section
/- Rows made, and stored into. -/
set_option linter.unusedVariables false
set_option linter.unusedSimpArgs false
namespace Go.Cn
open Go.RowKit
theorem RowAt.store {w : World} {e : TypeId} {g n cap : Nat} {xs : List Value} (h : RowAt w e 1 g n cap xs) (p : Nat) (v : Value) : RowAt (w.setCell ⟨g, p, none⟩ v) e 1 g n cap (xs.set p v) := by
  obtain ⟨hl, cur, hb, h1, h2, h3, h4⟩ := h
  refine ⟨by simpa using hl, cur.setIfInBounds p v, blk_set hb p v, h1, h2, by simpa using h3, ?_⟩
  rw [← h4]
  simp [List.take_set]
theorem RowAt.own {w : World} {e : TypeId} {g n cap : Nat} {xs : List Value} (h : RowAt w e 1 g n cap xs) : Own w e 1 (.slice (some ⟨g, 0, none⟩) n cap) n xs (some g) := .inr ⟨g, cap, rfl, rfl, h⟩
theorem makeK {P : Program} {t e : TypeId} {z : Value} {bytes : Nat} (T : ElemTy P t e z 1 bytes) (hz : z.cells = #[z]) (n : Nat) (hn : bytes * n ≤ 281474976710656) (hn2 : n ≤ 9223372036854775807) {K : Value → World → Prop} {w : World}
    (h : ∀ w', RowAt w' e 1 w.heap.size n n (List.replicate n z) → Qt w w' → K (.slice (some ⟨w.heap.size, 0, none⟩) n n) w') : ValK P (Instr.makeSlice t (.int .i64 n) (.int .i64 n)) K w := by
  obtain ⟨i, hi, hz', hsz, hby⟩ := T.info
  obtain ⟨w', hr, ho, hg⟩ := run_make_full (P := P) w 0 t e i z 1 T.und hi hz' hsz .i64 .i64 n (by rw [hby]; exact hn) (by unfold maxLen; omega) (Nat.zero_le _)
  unfold ValK
  rw [hr]
  refine h w' ?_ ((Chg.of_grown hg).mono (fun k _ h => by cases h))
  have := Own.of_row ho
  rcases this with ⟨h, _⟩ | ⟨g, cap, hv, _, hrow⟩
  · cases h
  · cases hv
    rw [hz] at hrow
    have e : (madeCells #[z] (n * 1)).toList = List.replicate n z := by
      simp only [madeCells, Array.toList_map, Array.toList_range, Nat.mul_one]
      apply List.ext_getElem
      · simp
      · intro i h1 h2
        simp [Nat.mod_one]
    rw [e] at hrow
    exact hrow
end Go.Cn
end

section
/- Structs of four fields as arguments; rows of structs as flat cells. -/
set_option linter.unusedVariables false
set_option linter.unusedSimpArgs false
namespace Go.Cn
open Go.RowKit
theorem opens_struct4 {P : Program} {t : TypeId} {f0 f1 f2 f3 : Field} {α β γ δ : Type} {R : World → List Value → α → Prop} {S : World → List Value → β → Prop} {T : World → List Value → γ → Prop} {U : World → List Value → δ → Prop} (n0 n1 n2 n3 : Nat) (h : P.underlying t = some (.struct #[f0, f1, f2, f3]))
    (h0 : Opens P f0.type R) (h1 : Opens P f1.type S) (h2 : Opens P f2.type T) (h3 : Opens P f3.type U)
    (o0 : f0.offset = 0) (c0 : P.cellsOf f0.type = n0) (o1 : f1.offset = n0) (c1 : P.cellsOf f1.type = n1) (o2 : f2.offset = n0 + n1) (c2 : P.cellsOf f2.type = n2) (o3 : f3.offset = n0 + n1 + n2) (c3 : P.cellsOf f3.type = n3) (ct : P.cellsOf t = n0 + n1 + n2 + n3) : Opens P t (RPair n0 R (RPair n1 S (RPair n2 T U))) := fun H enc w spare held fuel cs x hx => by
  obtain ⟨y0, y1, y2, y3, n, _, hl, e0, e1, e2, e3⟩ := Go.Joins.trod_struct4 h hx
  obtain ⟨a, ha⟩ := h0 H enc w spare held n _ _ e0
  obtain ⟨b, hb⟩ := h1 H enc w spare held n _ _ e1
  obtain ⟨c, hc⟩ := h2 H enc w spare held n _ _ e2
  obtain ⟨d, hd⟩ := h3 H enc w spare held n _ _ e3
  refine ⟨(a, b, c, d), ?_, ?_, ?_, ?_⟩
  · rw [o0, c0] at ha; simpa using ha
  · rw [o1, c1] at hb; exact hb
  · rw [o2, c2] at hc
    rw [List.drop_drop]; exact hc
  · rw [o3, c3, List.take_of_length_le (by simp; omega)] at hd
    rw [List.drop_drop, List.drop_drop, ← Nat.add_assoc]; exact hd
theorem flat_len {α : Type} {enc : α → List Value} {sz : Nat} (hz : ∀ x, (enc x).length = sz) (l : List α) : (l.flatMap enc).length = l.length * sz := by
  induction l with
  | nil => simp
  | cons a l ih => rw [List.flatMap_cons, List.length_append, hz, ih, List.length_cons, Nat.succ_mul, Nat.add_comm]
theorem flat_get {α : Type} {enc : α → List Value} {sz : Nat} (hz : ∀ x, (enc x).length = sz) : ∀ (l : List α) (i : Nat) (hi : i < l.length) (j : Nat), j < sz → (l.flatMap enc)[i * sz + j]? = (enc l[i])[j]?
  | a :: l, 0, _, j, hj => by
    rw [List.flatMap_cons, Nat.zero_mul, Nat.zero_add, List.getElem?_append_left (by rw [hz]; exact hj)]; rfl
  | a :: l, i + 1, hi, j, hj => by
    rw [List.flatMap_cons, List.getElem?_append_right (by rw [hz, Nat.succ_mul]; omega), hz, Nat.succ_mul]
    have e : i * sz + sz + j - sz = i * sz + j := by omega
    rw [e, flat_get hz l i (by simpa using hi) j hj]; rfl
theorem Reads.of_rows {sz : Nat} (hsz : 0 < sz) {α : Type} {enc : α → List Value} (hz : ∀ x, (enc x).length = sz) {R : World → List Value → α → Prop} (hR : ∀ w cs x, R w cs x → cs.length = sz → cs = enc x) {w : World} {A : Option Addr} {l : List α} (h : RRow sz R w A l) : Reads w A (l.flatMap enc) := by
  by_cases hl : 0 < l.length
  · obtain ⟨b, off, rfl, _, hc⟩ := h.flat hsz hl
    refine .inr ⟨b, off, rfl, fun j hj => ?_⟩
    rw [flat_len hz] at hj
    have e : j = j / sz * sz + j % sz := by rw [Nat.mul_comm]; exact (Nat.div_add_mod j sz).symm
    have hi : j / sz < l.length := by rw [Nat.div_lt_iff_lt_mul hsz]; exact hj
    have hm : j % sz < sz := Nat.mod_lt _ hsz
    obtain ⟨cs, h1, h3, h2⟩ := hc (j / sz) hi
    have h4 := h2 (j % sz) hm
    rw [hR _ _ _ h1 h3] at h4
    rw [← flat_get hz l (j / sz) hi (j % sz) hm, ← e] at h4
    exact h4
  · exact .inl (by rw [List.eq_nil_of_length_eq_zero (show l.length = 0 by omega)]; rfl)
/-- A cell of the i-th. -/
theorem Reads.at {sz : Nat} {α : Type} [Inhabited α] {enc : α → List Value} (hz : ∀ x, (enc x).length = sz) {w : World} {A : Option Addr} {l : List α} (h : Reads w A (l.flatMap enc)) {i : Nat} (hi : i < l.length) (hsz : 0 < sz) : ∃ g o, A = some ⟨g, o, none⟩ ∧ ∀ j, j < sz → w.cell? ⟨g, o + (i * sz + j), none⟩ = (enc (l.getD i default))[j]? := by
  have hp : ∀ j, j < sz → i * sz + j < (l.flatMap enc).length := by
    intro j hj
    rw [flat_len hz]
    have : (i + 1) * sz ≤ l.length * sz := Nat.mul_le_mul_right _ (by omega)
    rw [Nat.succ_mul] at this; omega
  rcases h with h | ⟨g, o, rfl, h⟩
  · have := hp 0 hsz
    rw [h] at this; simp at this
  · refine ⟨g, o, rfl, fun j hj => ?_⟩
    rw [h _ (hp j hj), flat_get hz l i hi j hj]
    simp [hi]
end Go.Cn
end

section
/- Rows of things of any size: copy into them, zeros behind them, a call of an outer function. -/
set_option linter.unusedVariables false
set_option linter.unusedSimpArgs false
namespace Go.Cn
open Go.RowKit
theorem callV_ext {P : Program} {f : FuncId} {fn : Func} {e : Array Value → Sem Value} (hf : P.funcs[f]? = some fn) (hname : (fn.name == "runtime.NumGoroutine") = false) (hb : fn.body.isNone = true) (hn : Extern.findNext fn = none) (he : Extern.find fn = some e)
    {args : Array Value} {w w' : World} {v : Value} {K : Value → World → Prop} (hr : (e args).run P w = .ok v w') (h : K v w') : CallV P (.func (.func f) #[] #[]) args K w := by
  unfold CallV
  have h1 := run_callFunc_extern (P := P) hf hname hb hn he args w
  simp only [Sem.run_bind, Deferred.ofValue]
  simp only [Sem.run_pure, Result.andThen_ok, invoke, List.append_nil, Array.append_empty]
  simp [h1, hr, NextK, h]
/-- copy over a row's cells, whatever the size of an element: all is read before anything is written. -/
theorem copy_run {P : Program} {w : World} {t e : TypeId} {z : Value} {sz bytes : Nat} (T : ElemTy P t e z sz bytes) (t' ty : TypeId) {g n cap : Nat} {xs : List Value} (hr : RowAt w e sz g n cap xs) (off dLen dCap : Nat) (A : Option Addr) (sLen sCap : Nat) (cs : List Value)
    (hl : cs.length = min sLen dLen * sz) (hs : Src w A cs) (hfit : off + cs.length ≤ cap * sz) (h1 : ∀ v ∈ cs, v.oneCell' = true) (hA : A = none → sLen = 0 ∧ sCap = 0) :
    (Builtin.copy_ #[t, t'] ty #[.slice (some ⟨g, off, none⟩) dLen dCap, .slice A sLen sCap]).run P w = .ok (goInt ((min sLen dLen : Nat) : Int)) (w.setCells g off cs) := by
  obtain ⟨i, hi, hz, rfl, hby⟩ := T.info
  obtain ⟨hla, cur, hb, h2, h3, h4, h5⟩ := hr
  have hst := run_storeCells_cells (P := P) g off cs 0 w (fun j hj => by rw [blk_cell hb, Array.getElem?_eq_getElem (by omega)]; rfl) (fun j hj => blk_frozen hb _) h1
  simp only [Nat.add_zero] at hst
  have hmm : Nat.min sLen dLen = min sLen dLen := rfl
  cases A with
  | none =>
    obtain ⟨rfl, rfl⟩ := hA rfl
    have hcs : cs = [] := List.eq_nil_of_length_eq_zero (by simpa using hl)
    subst hcs
    simp [Builtin.copy_, run_underlying T.und, Builtin.lenOf, Builtin.firstCells, sizeOf, typeInfo, hi, storeCells, World.setCells]
  | some a =>
    have hld := run_loadCells_list (P := P) w a cs (fun j v hj => by obtain ⟨ad, h, hc⟩ := hs j v hj; cases h; exact hc)
    rw [hl] at hld
    simp [Builtin.copy_, run_underlying T.und, Builtin.lenOf, Builtin.firstCells, sizeOf, typeInfo, hi, hmm, hld, hst]
/-- What a row holds behind it. -/
theorem RowAt.put {w : World} {e : TypeId} {sz g n cap : Nat} {xs : List Value} (h : RowAt w e sz g n cap xs) (off : Nat) (cs : List Value) (hoff : off ≤ n * sz) (m : Nat) (hm : m ≤ cap) (hnm : n ≤ m) (hl : off + cs.length ≤ cap * sz) (hfull : m * sz ≤ max (n * sz) (off + cs.length)) :
    RowAt (w.setCells g off cs) e sz g m cap ((xs.take off ++ cs ++ xs.drop (off + cs.length)).take (m * sz)) := by
  obtain ⟨hla, cur, hb, h2, h3, h4, h5⟩ := h
  have hns : n * sz ≤ m * sz := Nat.mul_le_mul_right _ hnm
  have hmc : m * sz ≤ cap * sz := Nat.mul_le_mul_right _ hm
  have key : (cur.toList.take off ++ cs ++ cur.toList.drop (off + cs.length)).take (m * sz) = (xs.take off ++ cs ++ xs.drop (off + cs.length)).take (m * sz) := by
    have e1 : xs.take off = cur.toList.take off := by rw [← h5, List.take_take, Nat.min_eq_left hoff]
    rw [e1]
    have hl1 : (cur.toList.take off).length = off := by simp; omega
    have e2 : xs.drop (off + cs.length) = (cur.toList.drop (off + cs.length)).take (n * sz - (off + cs.length)) := by rw [← h5, List.drop_take]
    rw [e2]
    simp only [List.append_assoc, List.take_append, hl1, List.take_take]
    congr 3
    omega
  refine ⟨?_, _, blk_setCells cs off w cur hb (by omega), hm, h3, by simp; omega, key⟩
  rw [← key]
  simp
  omega
theorem Chg.sets {w : World} {g off : Nat} {cs : List Value} : Chg (fun k => k = g) w (w.setCells g off cs) := Chg.setCells (S := fun k => k = g) (.inl rfl) cs off (Chg.refl _ w)
/-- append(s[:i], make([]T, k)...) that grows. -/
theorem zeros_run {P : Program} {w : World} {t tn ty e : TypeId} {z : Value} {sz bytes : Nat} (T : ElemTy P t e z sz bytes) {kn : IntKind} (htn : P.underlying tn = some (.int kn)) {g n cap : Nat} {xs : List Value} (hr : RowAt w e sz g n cap xs) (i k : Nat) (hi : i ≤ n) (hk : 0 < k) (hg : cap < i + k) (hb : (i + k) * bytes ≤ 140737488355328) (hb2 : i + k ≤ 9223372036854775807) :
    ∃ c' zs w', (Builtin.append_ #[t, tn] ty #[.slice (some ⟨g, 0, none⟩) i cap, .int .i64 k]).run P w = .ok (.slice (some ⟨w.heap.size, 0, none⟩) (i + k) c') w' ∧ RowAt w' e sz w.heap.size (i + k) c' (xs.take (i * sz) ++ zs) ∧ zs.length = k * sz ∧ Chg (fun _ => False) w w' := by
  obtain ⟨ti, hti, hz, rfl, hby⟩ := T.info
  subst hby
  have hle : i * ti.size ≤ n * ti.size := Nat.mul_le_mul_right _ hi
  have hxl := hr.1
  have hold : (Builtin.firstCells ti.size i (.slice (some ⟨g, 0, none⟩) i cap)).run P w.drew = .ok (xs.take (i * ti.size)).toArray w.drew := by
    have hld := run_loadCells_list (P := P) w.drew ⟨g, 0, none⟩ (xs.take (i * ti.size)) (fun j v hj => by
      have hjl := (List.getElem?_eq_some_iff.1 hj).1
      simp at hjl
      rw [List.getElem?_take, if_pos (by omega)] at hj
      rw [World.cell?_drew, Addr.add_lit, Nat.zero_add, hr.cell j (by omega)]; exact hj)
    have hlen : (xs.take (i * ti.size)).length = i * ti.size := by simp; omega
    rw [hlen] at hld
    simpa [Builtin.firstCells] using hld
  have hfit : Builtin.nextslicecap (i + k) cap * ti.bytes ≤ 281474976710656 := by
    have h1 := Nat.mul_le_mul_right ti.bytes (nextslicecap_le (need := i + k) (old := cap) hg)
    have h2 : 2 * (i + k) * ti.bytes = 2 * ((i + k) * ti.bytes) := Nat.mul_assoc _ _ _
    omega
  have h48 : k * ti.bytes ≤ 281474976710656 := by
    have := Nat.mul_le_mul_right ti.bytes (show k ≤ i + k by omega)
    omega
  have hrun := Go.Lib.run_append_grow_zeros (P := P) w t tn ty e ti z .i64 kn T.und htn hti hz (some ⟨g, 0, none⟩) i cap (xs.take (i * ti.size)) hold k hk T.pos hg (by omega) h48 hfit
  refine ⟨_, (Builtin.zeroCells z.cells k).toList, _, hrun, ?_, by simp [Builtin.zeroCells, T.cells], ?_⟩
  · have hge := grownCap_ge w (i + k) cap e
    have hmx := grownCap_le_maxLen w (i + k) cap e (by unfold maxLen; omega)
    have hx : (xs.take (i * ti.size)).length = i * ti.size := by simp; omega
    have hz1 : (Builtin.zeroCells z.cells k).size = k * ti.size := by simp [Builtin.zeroCells, T.cells]
    have hz2 : (Builtin.zeroCells z.cells (grownCap w (i + k) cap e - (i + k))).size = (grownCap w (i + k) cap e - (i + k)) * ti.size := by simp [Builtin.zeroCells, T.cells]
    have hsum : i * ti.size + k * ti.size + (grownCap w (i + k) cap e - (i + k)) * ti.size = grownCap w (i + k) cap e * ti.size := by
      rw [← Nat.add_mul, ← Nat.add_mul]; congr 1; omega
    refine ⟨?_, (xs.take (i * ti.size)).toArray ++ Builtin.zeroCells z.cells k ++ Builtin.zeroCells z.cells (grownCap w (i + k) cap e - (i + k)), blk_new w.drew _, hge, hmx, ?_, ?_⟩
    · rw [List.length_append, hx, Array.length_toList, hz1, Nat.add_mul]
    · simp only [Array.size_append, List.size_toArray, hx, hz1, hz2]; omega
    · rw [Array.toList_append, Array.toList_append, List.take_append_of_le_length]
      · rw [List.take_of_length_le]
        simp only [List.length_append, Array.length_toList, hz1, hx, Nat.add_mul]; omega
      · simp only [List.length_append, Array.length_toList, hz1, hx, Nat.add_mul]; omega
  · exact ((Chg.refl (fun _ => False) w).drew).alloc _
end Go.Cn
end

section
/- A struct as an argument: its cells read. -/
set_option linter.unusedVariables false
set_option linter.unusedSimpArgs false
namespace Go.Cn
open Go.RowKit Go.ChangeShapes Go.WideShapes
theorem agg_opened {P : Program} {t : TypeId} {fs : Array Field} {sz : Nat} {α : Type} {R : World → List Value → α → Prop} {H : Type} {enc : TypeId × Value → H} {w : World} {spare : Nat → Bool} {held : Bool} {v : Value} {d : DataW H} {ps : List MemPlace}
    (hu : P.underlying t = some (.struct fs)) (hs : P.cellsOf t = sz) (he : Opens P t R) (hv : Value.okWide P w .any 0 t v) (hx : DataW.Trod enc P w 0 spare held t v d ps) : ∃ (cs : Array Value) (x : α), v = .agg cs ∧ cs.toList.length = sz ∧ R w cs.toList x := by
  obtain ⟨fuel, hf⟩ := hx
  simp only [Value.okWide, hu] at hv
  obtain ⟨cs, rfl, hsz, _⟩ := hv
  obtain ⟨x, hx⟩ := he H enc w spare held fuel _ _ hf
  exact ⟨cs, x, rfl, by rw [← hs, ← hsz]; rfl, hx⟩
theorem take_of {P : Program} {S : World → Prop} {s : Sem Value} {K : Value → Prop} (v : Value) (h : ∀ w, S w → s.run P w = .ok v w) (hk : K v) : TakeS P S s (@hid _ ⟨K⟩) := ⟨v, h, hk⟩
theorem take_txt {P : Program} {S : World → Prop} {t : TypeId} {x y : ByteArray} {K : Value → Prop} (op : BinOp) (v : Value) (h : ∀ w, S w → BinK P op t (.string x) (.string y) (@hid _ ⟨fun v' w' => v' = v ∧ w' = w⟩) w) (hk : K v) : BinT P S op t (.string x) (.string y) (@hid _ ⟨K⟩) := ⟨v, fun w hw => ⟨(h w hw).1, resK_is (h w hw).2⟩, hk⟩
theorem arr_eq {cs : Array Value} {l : List Value} (h : cs.toList = l) : cs = l.toArray := by rw [← h]
theorem aggStoreK {P : Program} {ty : TypeId} {b o : Nat} {cells : Array Value} {K : Value → World → Prop} {w : World} (ht : World.there w b o cells.size) (hi : (P.info? ty).map (·.size) = some cells.size) (h1 : cells.all (·.oneCell') = true)
    (hK : K undef (w.setCells b o cells.toList)) : StoreK P ty (.pointer (some ⟨b, o, none⟩)) (.agg cells) K w := by
  unfold StoreK UnitK
  rw [run_storeAt_mid w b o ty cells ht hi h1]
  exact hK
end Go.Cn
end

section
/- Bit operations over words: for values that are a word's number. -/
set_option linter.unusedVariables false
set_option linter.unusedSimpArgs false
namespace Go.Cn
open Go.RowKit Go.Lib
theorem ofInt_toNat {n : Nat} (a : BitVec n) : BitVec.ofInt n (a.toNat : Int) = a := by
  apply BitVec.eq_of_toNat_eq
  simp [BitVec.toNat_ofInt]
theorem wrap_u32_word (a : BitVec 32) : IntKind.u32.wrap (a.toNat : Int) = a.toNat := by
  have := a.isLt
  simp [IntKind.wrap, IntKind.bits, IntKind.signed]; omega
theorem wrap_u64_word (a : BitVec 64) : IntKind.u64.wrap (a.toNat : Int) = a.toNat := by
  have := a.isLt
  simp [IntKind.wrap, IntKind.bits, IntKind.signed]; omega
theorem wrap_u8_word (a : BitVec 8) : IntKind.u8.wrap (a.toNat : Int) = a.toNat := by
  have := a.isLt
  simp [IntKind.wrap, IntKind.bits, IntKind.signed]; omega
theorem xor_u32 (a b : BitVec 32) : bits .xor .u32 a.toNat b.toNat = ((a ^^^ b).toNat : Int) := by
  show IntKind.u32.wrap (((BitVec.ofInt 32 (a.toNat : Int)) ^^^ (BitVec.ofInt 32 (b.toNat : Int))).toNat : Int) = _
  rw [ofInt_toNat, ofInt_toNat, wrap_u32_word]
theorem and_u32 (a b : BitVec 32) : bits .and .u32 a.toNat b.toNat = ((a &&& b).toNat : Int) := by
  show IntKind.u32.wrap (((BitVec.ofInt 32 (a.toNat : Int)) &&& (BitVec.ofInt 32 (b.toNat : Int))).toNat : Int) = _
  rw [ofInt_toNat, ofInt_toNat, wrap_u32_word]
theorem xor_u8 (a b : BitVec 8) : bits .xor .u8 a.toNat b.toNat = ((a ^^^ b).toNat : Int) := by
  show IntKind.u8.wrap (((BitVec.ofInt 8 (a.toNat : Int)) ^^^ (BitVec.ofInt 8 (b.toNat : Int))).toNat : Int) = _
  rw [ofInt_toNat, ofInt_toNat, wrap_u8_word]
theorem or_u8 (a b : BitVec 8) : bits .or .u8 a.toNat b.toNat = ((a ||| b).toNat : Int) := by
  show IntKind.u8.wrap (((BitVec.ofInt 8 (a.toNat : Int)) ||| (BitVec.ofInt 8 (b.toNat : Int))).toNat : Int) = _
  rw [ofInt_toNat, ofInt_toNat, wrap_u8_word]
theorem andNot_u8 (a b : BitVec 8) : bits .andNot .u8 a.toNat b.toNat = ((a &&& ~~~b).toNat : Int) := by
  show IntKind.u8.wrap (((BitVec.ofInt 8 (a.toNat : Int)) &&& ~~~(BitVec.ofInt 8 (b.toNat : Int))).toNat : Int) = _
  rw [ofInt_toNat, ofInt_toNat, wrap_u8_word]
/-- Bytes as values. -/
def vb (b : UInt8) : Value := .int .u8 b.toNat
theorem vb_one (l : List UInt8) : ∀ u ∈ l.map vb, u.oneCell' = true := by
  intro u hu
  obtain ⟨s, _, rfl⟩ := List.mem_map.1 hu
  rfl
/-- The text of bytes. -/
def txt (l : List UInt8) : ByteArray := ⟨l.toArray⟩
theorem txt_inj {a b : List UInt8} (h : txt a = txt b) : a = b := by
  have := congrArg (fun x => x.data.toList) h
  simpa [txt] using this
theorem txt_list (s : ByteArray) : txt s.data.toList = s := by cases s; simp [txt]
theorem txt_toList (l : List UInt8) : (txt l).toList = l := by rw [ByteArray.toList_eq]; simp [txt]
theorem txt_size (l : List UInt8) : (txt l).size = l.length := by simp [txt, ByteArray.size]
theorem conv_run {P : Program} {w : World} {src dst e : TypeId} (hs : P.underlying src = some (.slice e)) (he : P.underlying e = some (.int .u8)) (hd : P.underlying dst = some .string) {A : Option Addr} {l : List UInt8} {c : Nat} (hr : Reads w A (l.map vb)) :
    (convert src dst (.slice A l.length c)).run P w = .ok (.string (txt l)) w := by
  match A, hr with
  | none, hr =>
    obtain rfl : l = [] := by
      rcases hr with h | ⟨g, o, h, _⟩
      · exact List.map_eq_nil_iff.1 h
      · cases h
    exact run_convert_bytes_nil w src e hs he 0 c dst hd
  | some ad, hr =>
    by_cases hl : 0 < l.length
    · obtain ⟨g, o, hA, hc⟩ := hr.all hl
      cases hA
      have h := run_convert_bytes_arg w src e hs he g o l.length c (l.map fun b => (b.toNat : Int)) (by simp) (fun i hi => by rw [hc i hi]; simp [vb, hi]) dst hd
      rw [h]
      have e : List.map ((fun n : Int => UInt8.ofNat n.toNat) ∘ fun b : UInt8 => (b.toNat : Int)) l = l := by
        have : ((fun n : Int => UInt8.ofNat n.toNat) ∘ fun b : UInt8 => (b.toNat : Int)) = id := by funext b; simp
        rw [this, List.map_id]
      simp [strOfNums, txt, e]
    · obtain rfl : l = [] := List.eq_nil_of_length_eq_zero (by omega)
      obtain ⟨b, off, sp⟩ := ad
      cases sp with
      | none => exact run_convert_bytes_arg w src e hs he b off 0 c [] rfl (fun i hi => by omega) dst hd
      | some q =>
        rw [List.length_nil, run_convert_bytes_string w src dst e _ 0 c hs he hd]
        simp [Conv.bytesToString, loadCells]
        rfl
theorem convK {P : Program} {w : World} {src dst e : TypeId} (hs : P.underlying src = some (.slice e)) (he : P.underlying e = some (.int .u8)) (hd : P.underlying dst = some .string) {A : Option Addr} {l : List UInt8} {c : Nat} (hr : Reads w A (l.map vb)) {K : Value → World → Prop} (h : K (.string (txt l)) w) :
    ConvK P src dst (.slice A l.length c) K w := by
  unfold ConvK
  rw [conv_run hs he hd hr]; exact h
theorem strCells_eq (s : ByteArray) : strCells s = s.data.toList.map vb := by
  rfl
/-- append(b, s...): a text's bytes behind a row of bytes. -/
theorem appendS_run {P : Program} {w : World} {t u e : TypeId} (T : ElemTy P t e (.int .u8 0) 1 1) (hu : P.underlying u = some .string) {v : Value} {n : Nat} {xs : List Value} {F : Option Nat} (ho : Own w e 1 v n xs F) (s : ByteArray)
    (hb : n + s.size ≤ 140737488355328) (ty : TypeId) :
    ∃ A' cap F' w', (Builtin.append_ #[t, u] ty #[v, .string s]).run P w = .ok (.slice A' (n + s.size) cap) w' ∧ Own w' e 1 (.slice A' (n + s.size) cap) (n + s.size) (xs ++ s.data.toList.map vb) F' ∧ Chg (fun k => F = some k) w w' ∧ (∀ k, F' = some k → F = some k ∨ w.heap.size ≤ k) := by
  obtain ⟨i, hi, hz, hsz, hby⟩ := T.info
  obtain ⟨hrow, hF⟩ := ho.row
  rcases ho with ⟨rfl, rfl, rfl, rfl⟩ | ⟨g, cap, rfl, rfl, hr⟩
  · obtain ⟨v', w', h1, h2, h3, h4⟩ := run_append_own_string (P := P) w w.heap.size t u ty e i T.und hu hi hz hsz hby (.slice none 0 0) 0 [] ⟨rfl, .inl ⟨rfl, rfl⟩⟩ s (by unfold maxLen; omega) hb (Nat.le_refl _)
    have ho' := Own.of_row h2
    obtain ⟨A', cap, rfl, _⟩ := ho'.shape
    refine ⟨A', cap, _, w', h1, ho', (Chg.of_grown h3).mono (fun k _ h => by cases h), fun k hk => .inr ?_⟩
    rcases h2.2 with ⟨hv, _⟩ | ⟨g, cap', cur, hv, hb', _⟩
    · injection hv with e1 e2 e3; subst e1; cases hk
    · injection hv with e1 e2 e3; subst e1; cases hk; exact hb'
  · obtain ⟨v', w', h1, h2, h3, h4⟩ := run_append_own_string (P := P) w 0 t u ty e i T.und hu hi hz hsz hby (.slice (some ⟨g, 0, none⟩) n cap) n xs hrow s (by unfold maxLen; omega) hb (Nat.zero_le _)
    have ho' := Own.of_row h2
    obtain ⟨A', cap', rfl, _⟩ := ho'.shape
    rw [hF] at h3
    refine ⟨A', cap', _, w', h1, ho', Chg.of_grown h3, fun k hk => ?_⟩
    obtain ⟨hl, cur, hb', q1, q2, q3, q4⟩ := hr
    by_cases hroom : n + s.size ≤ cap
    · have := run_append_room_string (P := P) w t u ty e i T.und hu hi hsz g n cap cur hb' s hroom (by omega)
      rw [this] at h1
      simp only [Result.ok.injEq, Value.slice.injEq] at h1
      obtain ⟨⟨rfl, _⟩, _⟩ := h1
      exact .inl hk
    · have := run_append_grow_string (P := P) w t u ty e i (.int .u8 0) T.und hu hi hz ⟨g, 0, none⟩ n cap xs (by rw [hsz]; exact hl) (fun j v hj => by
        have hjl := (List.getElem?_eq_some_iff.1 hj).1
        rw [Addr.add_lit, Nat.zero_add, blk_cell hb', ← hj, ← q4, List.getElem?_take, if_pos (by omega)]; simp) s (by omega) (by omega) (by rw [hby, Nat.mul_one]; exact Nat.le_trans (nextslicecap_le (by omega)) (by omega))
      rw [this] at h1
      simp only [Result.ok.injEq, Value.slice.injEq] at h1
      obtain ⟨⟨rfl, _⟩, _⟩ := h1
      cases hk
      exact .inr (Nat.le_refl _)
end Go.Cn
end

section
/- Texts as rows of bytes: index, slices, concatenation; the parts of a path. -/
set_option linter.unusedVariables false
set_option linter.unusedSimpArgs false
namespace Go.Cn
open Go.RowKit
theorem txt_data (l : List UInt8) : (txt l).data.toList = l := rfl
theorem data_inj {a b : ByteArray} (h : a.data.toList = b.data.toList) : a = b := by
  cases a; cases b; simp at h; simp [h]
theorem txt_extract (l : List UInt8) (a b : Nat) : (txt l).extract a b = txt ((l.drop a).take (b - a)) := by
  apply data_inj
  rw [Go.Lib.extract_data]
  simp [txt_data]
theorem txt_app (a b : List UInt8) : txt a ++ txt b = txt (a ++ b) := by
  apply data_inj
  simp [txt, ByteArray.data_append]
theorem index_txt {P : Program} {t : TypeId} (hu : P.underlying t = some .string) (l : List UInt8) (k : IntKind) (i : Int) (h : 0 ≤ i ∧ i < (l.length : Int)) (K : Value → World → Prop) (w : World) : ValK P (Instr.index t (.string (txt l)) (.int k i)) K w = K (.int .u8 ((l.getD i.toNat 0).toNat : Int)) w := by
  have hs : (txt l).size = l.length := txt_size l
  unfold ValK
  rw [run_index_string w t (txt l) k i hu, dif_pos (by omega)]
  have e : (txt l)[i.toNat]'(by omega) = l.getD i.toNat 0 := by
    have hl : i.toNat < l.length := by omega
    show (txt l).data[i.toNat]'_ = _
    simp [txt, hl]
  show K _ w = _
  rw [e]
theorem slice_txt_l {P : Program} {t : TypeId} (hu : P.underlying t = some .string) (l : List UInt8) (n : Nat) (h : n ≤ l.length) (K : Value → World → Prop) (w : World) : SliceK P t (.string (txt l)) (some (.int .i64 n)) none none K w = K (.string (txt (l.drop n))) w := by
  have hs : (txt l).size = l.length := txt_size l
  unfold SliceK
  rw [run_sliceAt_string w t _ _ _ _ hu, run_slice_string_l w t (txt l) hu .i64 n (by omega) (by omega)]
  have e : (txt l).extract (n : Int).toNat (txt l).size = txt (l.drop n) := by
    rw [txt_extract, hs, List.take_of_length_le (by simp)]; rfl
  rw [e]; rfl
theorem slice_txt_h {P : Program} {t : TypeId} (hu : P.underlying t = some .string) (l : List UInt8) (n : Nat) (h : n ≤ l.length) (K : Value → World → Prop) (w : World) : SliceK P t (.string (txt l)) none (some (.int .i64 n)) none K w = K (.string (txt (l.take n))) w := by
  have hs : (txt l).size = l.length := txt_size l
  unfold SliceK
  rw [run_sliceAt_string w t _ _ _ _ hu, run_slice_string_h w t (txt l) hu .i64 n (by omega) (by omega)]
  have e : (txt l).extract 0 (n : Int).toNat = txt (l.take n) := by
    rw [txt_extract]; rfl
  rw [e]; rfl
theorem slice_txt_lh {P : Program} {t : TypeId} (hu : P.underlying t = some .string) (l : List UInt8) (a b : Nat) (h : a ≤ b ∧ b ≤ l.length) (K : Value → World → Prop) (w : World) : SliceK P t (.string (txt l)) (some (.int .i64 a)) (some (.int .i64 b)) none K w = K (.string (txt ((l.drop a).take (b - a)))) w := by
  have hs : (txt l).size = l.length := txt_size l
  unfold SliceK
  rw [run_sliceAt_string w t _ _ _ _ hu, run_slice_string w t (txt l) .i64 .i64 a b hu (by omega) (by omega) (by omega)]
  have e : (txt l).extract (a : Int).toNat (b : Int).toNat = txt ((l.drop a).take (b - a)) := by
    rw [txt_extract]; rfl
  rw [e]; rfl
theorem add_txt {P : Program} {t : TypeId} (a b : List UInt8) (h : a.length + b.length ≤ 9223372036854775807) (K : Value → World → Prop) (w : World) : BinK P .add t (.string (txt a)) (.string (txt b)) K w = K (.string (txt (a ++ b))) w := by
  have h1 : (txt a).size = a.length := txt_size a
  have h2 : (txt b).size = b.length := txt_size b
  have hn : ¬ 9223372036854775807 < a.length + b.length := by omega
  rw [← txt_app]
  unfold BinK; go_simp
  exact Iff.rfl
/-- A text cut at every stroke. -/
def splitL : List UInt8 → List (List UInt8)
  | [] => [[]]
  | c :: l => if c = 47 then [] :: splitL l else (c :: (splitL l).headD []) :: (splitL l).tail
theorem splitL_pos (l : List UInt8) : 0 < (splitL l).length := by
  cases l with
  | nil => simp [splitL]
  | cons c l => rw [splitL]; split <;> simp
theorem splitL_ne (l : List UInt8) : splitL l ≠ [] := fun h => by have := splitL_pos l; rw [h] at this; simp at this
theorem splitL_none : ∀ (l : List UInt8), (47 : UInt8) ∉ l → splitL l = [l]
  | [], _ => rfl
  | c :: l, h => by
    have hc : c ≠ 47 := fun e => h (by simp [e])
    rw [splitL, if_neg hc, splitL_none l (fun h2 => h (by simp [h2]))]; rfl
theorem splitL_hit : ∀ (a b : List UInt8), (47 : UInt8) ∉ a → splitL (a ++ 47 :: b) = a :: splitL b
  | [], b, _ => by rw [List.nil_append, splitL, if_pos rfl]
  | c :: a, b, h => by
    have hc : c ≠ 47 := fun e => h (by simp [e])
    rw [List.cons_append, splitL, if_neg hc, splitL_hit a b (fun h2 => h (by simp [h2]))]; rfl
theorem index47 : ∀ (l : List UInt8), (Go.Lib.index l [47] = -1 ∧ (47 : UInt8) ∉ l) ∨ ∃ a b, l = a ++ 47 :: b ∧ (47 : UInt8) ∉ a ∧ Go.Lib.index l [47] = a.length
  | [] => .inl ⟨rfl, by simp⟩
  | c :: l => by
    by_cases hc : c = 47
    · subst hc
      right
      refine ⟨[], l, rfl, by simp, ?_⟩
      rw [Go.Lib.index, if_pos (by simp [List.isPrefixOf])]; rfl
    · have hp : ¬ ([47] : List UInt8).isPrefixOf (c :: l) = true := by
        simp [List.isPrefixOf]; exact fun h => hc h.symm
      rw [Go.Lib.index, if_neg hp]
      rcases index47 l with ⟨h1, h2⟩ | ⟨a, b, h1, h2, h3⟩
      · left
        rw [if_pos (by rw [h1]; rfl)]
        exact ⟨rfl, by simp [h2]; intro h; exact hc h.symm⟩
      · right
        refine ⟨c :: a, b, by rw [h1]; rfl, by simp [h2]; exact fun h => hc h.symm, ?_⟩
        have hn : ¬ (Go.Lib.index l [47] == -1) = true := by rw [h3]; simp
        rw [if_neg hn, h3]; simp
theorem splitK_eq : ∀ (n : Nat) (l : List UInt8), l.length ≤ n → Go.Lib.splitK [47] 0 (Go.Lib.count l [47]) l = splitL l
  | n, l, hn => by
    rcases index47 l with ⟨h1, h2⟩ | ⟨a, b, h1, h2, h3⟩
    · rw [Go.Lib.count_miss h1, Go.Lib.splitK, splitL_none l h2]
    · have hd : l.drop (a.length + 1) = b := by rw [h1]; simp
      have hl : b.length < l.length := by rw [h1]; simp; omega
      rw [Go.Lib.count_hit (by simp) h3, Nat.add_comm, Go.Lib.splitK, if_neg (by rw [h3]; simp), h3]
      simp only [Int.toNat_natCast, List.length_cons, List.length_nil, Nat.add_zero, Nat.zero_add]
      cases n with
      | zero => omega
      | succ n =>
        rw [hd, splitK_eq n b (by omega), h1, splitL_hit a b h2]
        simp
theorem split_txt (l : List UInt8) : Go.Lib.splitB (txt [47]) 0 (Go.Lib.countB (txt l) (txt [47])) (txt l) = (splitL l).map txt := by
  have h := Go.Lib.splitB_data (txt [47]) 0 (Go.Lib.countB (txt l) (txt [47])) (txt l)
  rw [txt_data, txt_data] at h
  have e : Go.Lib.splitK [47] 0 (Go.Lib.countB (txt l) (txt [47])) l = splitL l := splitK_eq l.length l (Nat.le_refl _)
  rw [e] at h
  rw [← h, List.map_map]
  have : (txt ∘ fun x : ByteArray => x.data.toList) = id := by funext x; exact txt_list x
  rw [this, List.map_id]
theorem split_count (l : List UInt8) : Go.Lib.countB (txt l) (txt [47]) + 1 = (splitL l).length := by
  have h := Go.Lib.splitB_all (txt [47]) (by rw [txt_size]; simp) 0 _ (txt l) rfl
  rw [← h, split_txt, List.length_map]
def joinL : List (List UInt8) → List UInt8
  | [] => []
  | p :: r => p ++ r.flatMap (fun q => 47 :: q)
end Go.Cn
end

section
/- Numerals in decimal: as Go's library reads and writes them, and as the document does. No program in sight. -/
set_option linter.unusedVariables false
set_option linter.unusedSimpArgs false
namespace Go.Cn
open Go.Lib
def digB (c : UInt8) : Bool := decide (48 ≤ c.toNat) && decide (c.toNat ≤ 57)
def stepN (a : Nat) (c : UInt8) : Nat := 10 * a + (c.toNat - 48)
def valN (d : List UInt8) : Nat := d.foldl stepN 0
theorem digB_iff (c : UInt8) : digB c = true ↔ 48 ≤ c.toNat ∧ c.toNat ≤ 57 := by simp [digB]
theorem valN_snoc (d : List UInt8) (c : UInt8) : valN (d ++ [c]) = 10 * valN d + (c.toNat - 48) := by
  unfold valN; rw [List.foldl_append]; rfl
theorem byte_dig {c : UInt8} (h : 48 ≤ c.toNat) : UInt8.ofNat (48 + (c.toNat - 48)) = c := by
  rw [show 48 + (c.toNat - 48) = c.toNat by omega]; simp
theorem dig_toNat {n : Nat} (h : n < 10) : (UInt8.ofNat (48 + n)).toNat = 48 + n := by simp; omega
theorem dec_one {u : Nat} (h : u < 10) : decDigits u = [UInt8.ofNat (48 + u)] := decDigits_one h
theorem dec_more {u : Nat} (h : ¬ u < 10) : decDigits u = decDigits (u / 10) ++ [UInt8.ofNat (48 + u % 10)] := by rw [decDigits, dif_neg h]
theorem dec_all : ∀ (u : Nat), (decDigits u).all digB = true ∧ valN (decDigits u) = u ∧ decDigits u ≠ [] ∧ (u ≠ 0 → (decDigits u).headD 0 ≠ 48) := by
  intro u
  induction u using Nat.strongRecOn with
  | _ u ih =>
    by_cases h : u < 10
    · have e := dig_toNat h
      rw [dec_one h]
      refine ⟨?_, ?_, by simp, fun h0 => ?_⟩
      · rw [List.all_cons, List.all_nil, Bool.and_true, digB_iff, e]; omega
      · show 10 * 0 + _ = _
        rw [e]; omega
      · show UInt8.ofNat (48 + u) ≠ 48
        intro he
        have := congrArg UInt8.toNat he
        rw [e] at this
        have h48 : (48 : UInt8).toNat = 48 := rfl
        omega
    · obtain ⟨h1, h2, h3, h4⟩ := ih (u / 10) (by omega)
      have e := dig_toNat (n := u % 10) (by omega)
      rw [dec_more h]
      refine ⟨?_, ?_, by simp, fun _ => ?_⟩
      · rw [List.all_append, h1, List.all_cons, List.all_nil, Bool.and_true, Bool.true_and, digB_iff, e]; omega
      · rw [valN_snoc, h2, e]; omega
      · have := h4 (by omega)
        cases hd : decDigits (u / 10) with
        | nil => exact absurd hd h3
        | cons a r => rw [hd] at this; exact this
/-- A numeral that does not begin with nought. -/
theorem dec_back : ∀ (n : Nat) (d : List UInt8), d.length = n + 1 → d.all digB = true → d.headD 0 ≠ 48 → 1 ≤ valN d ∧ decDigits (valN d) = d ∧ valN d < 10 ^ (n + 1)
  | 0, d, hl, ha, hh => by
    match d, hl with
    | [c], _ =>
      rw [List.all_cons, List.all_nil, Bool.and_true, digB_iff] at ha
      have hc : c.toNat ≠ 48 := fun e => hh (by show c = 48; exact UInt8.toNat_inj.1 e)
      have hv : valN [c] = c.toNat - 48 := by show 10 * 0 + _ = _; omega
      rw [hv]
      exact ⟨by omega, by rw [dec_one (by omega), byte_dig ha.1], by omega⟩
  | n + 1, d, hl, ha, hh => by
    obtain ⟨e, c, rfl⟩ : ∃ e c, d = e ++ [c] := by
      have hne : d ≠ [] := fun h => by rw [h] at hl; cases hl
      exact ⟨d.dropLast, d.getLast hne, (List.dropLast_concat_getLast hne).symm⟩
    have hel : e.length = n + 1 := by simpa using hl
    rw [List.all_append, Bool.and_eq_true] at ha
    obtain ⟨ha1, ha2⟩ := ha
    rw [List.all_cons, List.all_nil, Bool.and_true, digB_iff] at ha2
    have heh : e.headD 0 ≠ 48 := by
      cases e with
      | nil => cases hel
      | cons a r => exact hh
    obtain ⟨h1, h2, h3⟩ := dec_back n e hel ha1 heh
    rw [valN_snoc]
    have hd : (10 * valN e + (c.toNat - 48)) / 10 = valN e := by omega
    have hm : (10 * valN e + (c.toNat - 48)) % 10 = c.toNat - 48 := by omega
    refine ⟨by omega, ?_, ?_⟩
    · rw [dec_more (by omega), hd, hm, h2, byte_dig ha2.1]
    · rw [Nat.pow_succ]; omega
theorem dec_len {u k : Nat} (h : u < 10 ^ (k + 1)) : (decDigits u).length ≤ k + 1 := by
  induction k generalizing u with
  | zero => rw [dec_one (by simpa using h)]; simp
  | succ k ih =>
    by_cases h1 : u < 10
    · rw [dec_one h1]; simp
    · rw [dec_more h1, List.length_append]
      have := ih (u := u / 10) (by rw [Nat.pow_succ] at h; omega)
      simp; omega
/-- The document's numerals. -/
def numR (l : List UInt8) : Option Int :=
  let neg := decide (l.headD 0 = 45)
  let d := if neg = true then l.tail else l
  if d = [] ∨ 19 < d.length ∨ (d.headD 0 = 48 ∧ (1 < d.length ∨ neg = true)) then none
  else if d.all digB = false then none
  else if neg = true ∧ valN d = 9223372036854775808 then some (-9223372036854775808)
  else if 9223372036854775808 ≤ valN d then none
  else if neg = true then some (-(valN d : Int)) else some (valN d : Int)
def in64 (v : Int) : Prop := -9223372036854775808 ≤ v ∧ v ≤ 9223372036854775807
theorem head_dig {d : List UInt8} (h : d.all digB = true) (hn : d ≠ []) : d.headD 0 ≠ 45 := by
  cases d with
  | nil => exact absurd rfl hn
  | cons c r =>
    rw [List.all_cons, Bool.and_eq_true, digB_iff] at h
    intro e
    have : c = 45 := e
    subst this
    exact absurd h.1.1 (by decide)
theorem numR_itoa {v : Int} (h : in64 v) : numR (itoa v) = some v := by
  obtain ⟨h1, h2⟩ := h
  unfold itoa
  by_cases hv : v < 0
  · rw [if_pos hv]
    obtain ⟨a1, a2, a3, a4⟩ := dec_all v.natAbs
    have hl := dec_len (u := v.natAbs) (k := 18) (by omega)
    have a4' := a4 (by omega)
    unfold numR
    simp only [List.headD_cons, List.tail_cons, decide_true, if_true, true_and]
    rw [if_neg (by rintro (e | e | ⟨e, _⟩); exact a3 e; omega; exact a4' e), if_neg (by rw [a1]; decide), a2]
    by_cases hm : v.natAbs = 9223372036854775808
    · rw [if_pos hm]; congr 1; omega
    · rw [if_neg hm, if_neg (by omega)]; congr 1; omega
  · rw [if_neg hv]
    obtain ⟨a1, a2, a3, a4⟩ := dec_all v.toNat
    have hl := dec_len (u := v.toNat) (k := 18) (by omega)
    have hn : decide ((decDigits v.toNat).headD 0 = 45) = false := decide_eq_false (head_dig a1 a3)
    unfold numR
    simp only [hn, Bool.false_eq_true, if_false, or_false, false_and]
    rw [if_neg, if_neg (by rw [a1]; decide), a2, if_neg (by omega)]
    · congr 1; omega
    · rintro (e | e | ⟨e, e2⟩)
      · exact a3 e
      · omega
      · by_cases h0 : v.toNat = 0
        · rw [h0, dec_one (by omega)] at e2; simp at e2
        · exact a4 h0 e
theorem numR_some {l : List UInt8} {v : Int} (h : numR l = some v) : in64 v ∧ l = itoa v := by
  unfold numR at h
  simp only at h
  by_cases hn : l.headD 0 = 45
  · rw [decide_eq_true hn] at h
    simp only [if_true, true_and, or_true, and_true] at h
    have hl : l = 45 :: l.tail := by
      cases l with
      | nil => exact absurd hn (by decide)
      | cons a r => rw [show a = 45 from hn]; rfl
    generalize l.tail = d at *
    split at h
    · cases h
    · rename_i h1
      split at h
      · cases h
      · rename_i h2
        have h2' : d.all digB = true := by simpa using h2
        have hd0 : d ≠ [] := fun e => h1 (.inl e)
        have hdl : 0 < d.length := List.length_pos_iff.2 hd0
        obtain ⟨b1, b2, b3⟩ := dec_back (d.length - 1) d (by omega) h2' (fun e => h1 (.inr (.inr e)))
        split at h
        · rename_i h3
          cases h
          refine ⟨⟨by omega, by omega⟩, ?_⟩
          rw [hl]
          show _ = 45 :: decDigits 9223372036854775808
          rw [← h3, b2]
        · split at h
          · cases h
          · rename_i h3 h4
            cases h
            refine ⟨⟨by omega, by omega⟩, ?_⟩
            unfold itoa
            rw [if_pos (by omega), hl]
            have : (-(valN d : Int)).natAbs = valN d := by omega
            rw [this, b2]
  · rw [decide_eq_false hn] at h
    simp only [Bool.false_eq_true, if_false, or_false, false_and] at h
    split at h
    · cases h
    · rename_i h1
      split at h
      · cases h
      · rename_i h2
        have h2' : l.all digB = true := by simpa using h2
        split at h
        · cases h
        · rename_i h3
          cases h
          refine ⟨⟨by omega, by omega⟩, ?_⟩
          unfold itoa
          rw [if_neg (by omega)]
          have e : ((valN l : Int)).toNat = valN l := by omega
          rw [e]
          have hd0 : l ≠ [] := fun e => h1 (.inl e)
          have hdl : 0 < l.length := List.length_pos_iff.2 hd0
          by_cases h48 : l.headD 0 = 48
          · have hl1 : l.length = 1 := by
              have : ¬ 1 < l.length := fun e => h1 (.inr (.inr ⟨h48, e⟩))
              omega
            match l, hl1 with
            | [c], _ =>
              rw [show c = 48 from h48]
              show [48] = decDigits 0
              rw [dec_one (by omega)]; rfl
          · exact ((dec_back (l.length - 1) l (by omega) h2' h48).2.1).symm
/-- The library's. -/
theorem parse_snoc (M : Nat) : ∀ (a : List UInt8) (acc : Nat) (c : UInt8), parseUintM M acc (a ++ [c]) = match parseUintM M acc a with | .ok v => parseUintM M v [c] | e => e
  | [], acc, c => by simp [parseUintM]
  | x :: a, acc, c => by
    rw [List.cons_append, parseUintM, parseUintM]
    split
    · split
      · rfl
      · split
        · rfl
        · exact parse_snoc M a _ c
    · rfl
theorem parse_dec {u : Nat} (h : u ≤ 18446744073709551615) : parseUintM 18446744073709551615 0 (decDigits u) = .ok u := by
  induction u using Nat.strongRecOn with
  | _ u ih =>
    by_cases h1 : u < 10
    · rw [dec_one h1]
      have e := dig_toNat h1
      simp only [parseUintM, e]
      rw [if_pos (by omega), if_neg (by omega), if_neg (by omega)]
      congr 1; omega
    · rw [dec_more h1, parse_snoc, ih (u / 10) (by omega) (by omega)]
      have e := dig_toNat (n := u % 10) (by omega)
      simp only [parseUintM, e]
      rw [if_pos (by omega), if_neg (by omega), if_neg (by omega)]
      congr 1; omega
theorem parse_itoa {v : Int} (h : in64 v) : parseIntB 64 (itoa v) = .ok v := by
  obtain ⟨h1, h2⟩ := h
  have hM : 2 ^ 64 - 1 = 18446744073709551615 := by decide
  unfold itoa
  by_cases hv : v < 0
  · rw [if_pos hv]
    obtain ⟨a1, a2, a3, a4⟩ := dec_all v.natAbs
    have hp := parse_dec (u := v.natAbs) (by omega)
    unfold parseIntB
    have h45 : (45 : UInt8).toNat = 45 := rfl
    simp only [h45, parseUintB, or_true, if_true, if_neg a3, hM, hp, not_true, false_and, if_false, true_and]
    rw [if_neg (by omega)]
    congr 1; omega
  · rw [if_neg hv]
    obtain ⟨a1, a2, a3, a4⟩ := dec_all v.toNat
    have hp := parse_dec (u := v.toNat) (by omega)
    cases hd : decDigits v.toNat with
    | nil => exact absurd hd a3
    | cons c r =>
      rw [hd] at a1 hp
      rw [List.all_cons, Bool.and_eq_true, digB_iff] at a1
      have e1 : ¬ c.toNat = 45 := by omega
      have e2 : ¬ (c.toNat = 43 ∨ c.toNat = 45) := by omega
      unfold parseIntB
      simp only [if_neg e2, parseUintB, hM]
      rw [if_neg (by simp), hp]
      simp only [e1, not_false_eq_true, true_and, false_and, if_false]
      rw [if_neg (by omega)]
      congr 1; omega
theorem parse_in64 {l : List UInt8} {v : Int} (h : parseIntB 64 l = .ok v) : in64 v := by
  unfold parseIntB at h
  split at h
  · cases h
  · simp only at h
    split at h
    · cases h
    · cases h
    · rename_i u hu
      split at h
      · cases h
      · rename_i h1
        split at h
        · cases h
        · rename_i h2
          injection h with h
          subst h
          unfold in64
          split
          · rename_i hn
            have : ¬ 9223372036854775808 < u := fun e => h2 ⟨hn, e⟩
            omega
          · rename_i hn
            have : ¬ 9223372036854775808 ≤ u := fun e => h1 ⟨hn, e⟩
            omega
def numP (l : List UInt8) : Option Int := match parseIntB 64 l with
  | .ok v => if itoa v = l then some v else none
  | _ => none
theorem numP_eq (l : List UInt8) : numP l = numR l := by
  have hs : ∀ v, numP l = some v → numR l = some v := fun v h => by
    unfold numP at h
    split at h
    · rename_i x hx
      split at h
      · rename_i he
        cases h
        rw [← he]; exact numR_itoa (parse_in64 hx)
      · cases h
    · cases h
  cases hp : numP l with
  | some v => rw [hs v hp]
  | none =>
    cases hr : numR l with
    | none => rfl
    | some v =>
      obtain ⟨h1, h2⟩ := numR_some hr
      unfold numP at hp
      rw [h2, parse_itoa h1] at hp
      simp at hp
end Go.Cn
end

section
/- Texts cut at blanks, and joined by them; values: their order, their check, their words, and back. No program in sight. -/
set_option linter.unusedVariables false
set_option linter.unusedSimpArgs false
namespace Go.Cn
open Go.Lib
/-- A text cut at every stroke. -/
def splitS : List UInt8 → List (List UInt8)
  | [] => [[]]
  | c :: l => if c = 32 then [] :: splitS l else (c :: (splitS l).headD []) :: (splitS l).tail
theorem splitS_pos (l : List UInt8) : 0 < (splitS l).length := by
  cases l with
  | nil => simp [splitS]
  | cons c l => rw [splitS]; split <;> simp
theorem splitS_ne (l : List UInt8) : splitS l ≠ [] := fun h => by have := splitS_pos l; rw [h] at this; simp at this
theorem splitS_none : ∀ (l : List UInt8), (32 : UInt8) ∉ l → splitS l = [l]
  | [], _ => rfl
  | c :: l, h => by
    have hc : c ≠ 32 := fun e => h (by simp [e])
    rw [splitS, if_neg hc, splitS_none l (fun h2 => h (by simp [h2]))]; rfl
theorem splitS_hit : ∀ (a b : List UInt8), (32 : UInt8) ∉ a → splitS (a ++ 32 :: b) = a :: splitS b
  | [], b, _ => by rw [List.nil_append, splitS, if_pos rfl]
  | c :: a, b, h => by
    have hc : c ≠ 32 := fun e => h (by simp [e])
    rw [List.cons_append, splitS, if_neg hc, splitS_hit a b (fun h2 => h (by simp [h2]))]; rfl
theorem index32S : ∀ (l : List UInt8), (Go.Lib.index l [32] = -1 ∧ (32 : UInt8) ∉ l) ∨ ∃ a b, l = a ++ 32 :: b ∧ (32 : UInt8) ∉ a ∧ Go.Lib.index l [32] = a.length
  | [] => .inl ⟨rfl, by simp⟩
  | c :: l => by
    by_cases hc : c = 32
    · subst hc
      right
      refine ⟨[], l, rfl, by simp, ?_⟩
      rw [Go.Lib.index, if_pos (by simp [List.isPrefixOf])]; rfl
    · have hp : ¬ ([32] : List UInt8).isPrefixOf (c :: l) = true := by
        simp [List.isPrefixOf]; exact fun h => hc h.symm
      rw [Go.Lib.index, if_neg hp]
      rcases index32S l with ⟨h1, h2⟩ | ⟨a, b, h1, h2, h3⟩
      · left
        rw [if_pos (by rw [h1]; rfl)]
        exact ⟨rfl, by simp [h2]; intro h; exact hc h.symm⟩
      · right
        refine ⟨c :: a, b, by rw [h1]; rfl, by simp [h2]; exact fun h => hc h.symm, ?_⟩
        have hn : ¬ (Go.Lib.index l [32] == -1) = true := by rw [h3]; simp
        rw [if_neg hn, h3]; simp
theorem splitK_eqS : ∀ (n : Nat) (l : List UInt8), l.length ≤ n → Go.Lib.splitK [32] 0 (Go.Lib.count l [32]) l = splitS l
  | n, l, hn => by
    rcases index32S l with ⟨h1, h2⟩ | ⟨a, b, h1, h2, h3⟩
    · rw [Go.Lib.count_miss h1, Go.Lib.splitK, splitS_none l h2]
    · have hd : l.drop (a.length + 1) = b := by rw [h1]; simp
      have hl : b.length < l.length := by rw [h1]; simp; omega
      rw [Go.Lib.count_hit (by simp) h3, Nat.add_comm, Go.Lib.splitK, if_neg (by rw [h3]; simp), h3]
      simp only [Int.toNat_natCast, List.length_cons, List.length_nil, Nat.add_zero, Nat.zero_add]
      cases n with
      | zero => omega
      | succ n =>
        rw [hd, splitK_eqS n b (by omega), h1, splitS_hit a b h2]
        simp
theorem split_txtS (l : List UInt8) : Go.Lib.splitB (txt [32]) 0 (Go.Lib.countB (txt l) (txt [32])) (txt l) = (splitS l).map txt := by
  have h := Go.Lib.splitB_data (txt [32]) 0 (Go.Lib.countB (txt l) (txt [32])) (txt l)
  rw [txt_data, txt_data] at h
  have e : Go.Lib.splitK [32] 0 (Go.Lib.countB (txt l) (txt [32])) l = splitS l := splitK_eqS l.length l (Nat.le_refl _)
  rw [e] at h
  rw [← h, List.map_map]
  have : (txt ∘ fun x : ByteArray => x.data.toList) = id := by funext x; exact txt_list x
  rw [this, List.map_id]
theorem split_countS (l : List UInt8) : Go.Lib.countB (txt l) (txt [32]) + 1 = (splitS l).length := by
  have h := Go.Lib.splitB_all (txt [32]) (by rw [txt_size]; simp) 0 _ (txt l) rfl
  rw [← h, split_txtS, List.length_map]
theorem splitS_len : ∀ l : List UInt8, (splitS l).length ≤ l.length + 1
  | [] => by simp [splitS]
  | c :: l => by
    have ih := splitS_len l
    have hp := splitS_pos l
    rw [splitS]
    split
    · simp; omega
    · rw [List.length_cons, List.length_tail, List.length_cons]; omega
def joinS : List (List UInt8) → List UInt8
  | [] => []
  | p :: r => p ++ r.flatMap (fun q => 32 :: q)
theorem join_split : ∀ l : List UInt8, joinS (splitS l) = l
  | [] => rfl
  | c :: l => by
    have ih := join_split l
    rw [splitS]
    cases hs : splitS l with
    | nil => exact absurd hs (splitS_ne l)
    | cons p r =>
      rw [hs] at ih
      by_cases hc : c = 32
      · rw [if_pos hc]
        show [] ++ (p :: r).flatMap _ = _
        rw [List.nil_append, List.flatMap_cons, hc]
        show 32 :: (p ++ r.flatMap _) = 32 :: l
        congr 1
      · rw [if_neg hc]
        show (c :: p) ++ r.flatMap _ = c :: l
        rw [List.cons_append]
        congr 1
theorem splitS_join : ∀ (p : List UInt8) (r : List (List UInt8)), (32 : UInt8) ∉ p → (∀ q ∈ r, (32 : UInt8) ∉ q) → splitS (joinS (p :: r)) = p :: r
  | p, [], hp, _ => by
    show splitS (p ++ []) = _
    rw [List.append_nil]; exact splitS_none p hp
  | p, q :: r, hp, hr => by
    have e : joinS (p :: q :: r) = p ++ 32 :: joinS (q :: r) := by
      show p ++ (q :: r).flatMap _ = _
      rw [List.flatMap_cons]; rfl
    rw [e, splitS_hit p _ hp, splitS_join q r (hr q (by simp)) (fun x hx => hr x (by simp [hx]))]
/- The order. -/
def cmpL : List Int → List Int → Int
  | [], [] => 0
  | [], _ :: _ => -1
  | _ :: _, [] => 1
  | a :: r, b :: s => if a < b then -1 else if b < a then 1 else cmpL r s
theorem cmpL_self : ∀ a : List Int, cmpL a a = 0
  | [] => rfl
  | a :: r => by rw [cmpL, if_neg (by omega), if_neg (by omega)]; exact cmpL_self r
theorem cmpL_anti : ∀ a b : List Int, cmpL b a = -(cmpL a b)
  | [], [] => rfl
  | [], _ :: _ => rfl
  | _ :: _, [] => rfl
  | a :: r, b :: s => by
    rw [cmpL, cmpL]
    by_cases h1 : a < b
    · rw [if_neg (by omega), if_pos h1, if_pos h1]; rfl
    · by_cases h2 : b < a
      · rw [if_pos h2, if_neg h1, if_pos h2]
      · rw [if_neg h2, if_neg h1, if_neg h1, if_neg h2]; exact cmpL_anti r s
theorem cmpL_three : ∀ a b : List Int, cmpL a b = -1 ∨ cmpL a b = 0 ∨ cmpL a b = 1
  | [], [] => by simp [cmpL]
  | [], _ :: _ => by simp [cmpL]
  | _ :: _, [] => by simp [cmpL]
  | a :: r, b :: s => by
    rw [cmpL]
    split
    · simp
    · split
      · simp
      · exact cmpL_three r s
theorem cmpL_zero : ∀ a b : List Int, cmpL a b = 0 → a = b
  | [], [], _ => rfl
  | [], _ :: _, h => by simp [cmpL] at h
  | _ :: _, [], h => by simp [cmpL] at h
  | a :: r, b :: s, h => by
    rw [cmpL] at h
    split at h
    · cases h
    · split at h
      · cases h
      · rw [cmpL_zero r s h]; congr 1; omega
theorem cmpL_trans : ∀ a b c : List Int, cmpL a b ≤ 0 → cmpL b c ≤ 0 → cmpL a c ≤ 0 ∧ (cmpL a c < 0 ↔ cmpL a b < 0 ∨ cmpL b c < 0)
  | [], [], c, _, h => by
    rw [cmpL_self]
    exact ⟨h, by simp⟩
  | [], b :: s, [], _, h => by simp [cmpL] at h
  | [], b :: s, c :: t, _, _ => by simp [cmpL]
  | a :: r, [], c, h, _ => by simp [cmpL] at h
  | a :: r, b :: s, [], _, h => by simp [cmpL] at h
  | a :: r, b :: s, c :: t, h1, h2 => by
    rw [cmpL] at h1 h2
    rw [cmpL, cmpL, cmpL]
    by_cases x1 : a < b
    · by_cases y1 : b < c
      · rw [if_pos x1, if_pos y1, if_pos (by omega)]; simp
      · by_cases y2 : c < b
        · rw [if_neg y1, if_pos y2] at h2; omega
        · rw [if_pos x1, if_pos (by omega : a < c)]; simp
    · by_cases x2 : b < a
      · rw [if_neg x1, if_pos x2] at h1; omega
      · rw [if_neg x1, if_neg x2] at h1
        rw [if_neg x1, if_neg x2]
        have : a = b := by omega
        subst this
        by_cases y1 : a < c
        · simp [y1]
        · by_cases y2 : c < a
          · rw [if_neg y1, if_pos y2] at h2; omega
          · simp only [if_neg y1, if_neg y2] at h2 ⊢
            exact cmpL_trans r s t h1 h2
def bts (l : List UInt8) : List Int := l.map fun c => (c.toNat : Int)
theorem less_cmp : ∀ a b : List UInt8, (Op.bytesLess a b = true ↔ cmpL (bts a) (bts b) = -1)
  | [], [] => by simp [Op.bytesLess, cmpL, bts]
  | [], b :: s => by simp [Op.bytesLess, cmpL, bts]
  | a :: r, [] => by simp [Op.bytesLess, cmpL, bts]
  | a :: r, b :: s => by
    have ih := less_cmp r s
    show (decide (a < b) || (a == b && Op.bytesLess r s)) = true ↔ (if (a.toNat : Int) < b.toNat then (-1 : Int) else if (b.toNat : Int) < a.toNat then 1 else cmpL (bts r) (bts s)) = -1
    have e1 : a < b ↔ (a.toNat : Int) < b.toNat := by rw [UInt8.lt_iff_toNat_lt]; omega
    by_cases h1 : a < b
    · rw [if_pos (e1.1 h1), decide_eq_true h1]; simp
    · rw [if_neg (fun h => h1 (e1.2 h)), decide_eq_false h1, Bool.false_or]
      by_cases h2 : (b.toNat : Int) < a.toNat
      · rw [if_pos h2]
        have hne : a ≠ b := fun e => by rw [e] at h2; omega
        simp [hne]
      · rw [if_neg h2]
        have : a = b := by
          have h3 : ¬ (a.toNat : Int) < b.toNat := fun h => h1 (e1.2 h)
          exact UInt8.toNat_inj.1 (by omega)
        rw [this]
        simp [ih]
theorem bts_inj {a b : List UInt8} (h : bts a = bts b) : a = b := by
  unfold bts at h
  exact (List.map_inj_right (fun x y h => UInt8.toNat_inj.1 (by omega))).1 h
def cmpI (a b : Int) : Int := if a < b then -1 else if b < a then 1 else 0
def cmpS (a b : ByteArray) : Int := cmpL (bts a.data.toList) (bts b.data.toList)
/-- A value: its kind, its number, its text, its numbers. -/
abbrev Val := Int × Int × ByteArray × List Int
def keyV (v : Val) : List Int := v.1 :: (if v.1 = 1 then [v.2.1] else if v.1 = 2 then bts v.2.2.1.data.toList else if v.1 = 3 then v.2.2.2 else [])
def cmpV (a b : Val) : Int := cmpL (keyV a) (keyV b)
theorem cmpL_one (a b : Int) : cmpL [a] [b] = cmpI a b := by
  unfold cmpI
  rw [cmpL]
  rfl
theorem cmpV_eq (a b : Val) : cmpV a b = if a.1 ≠ b.1 then cmpI a.1 b.1 else if a.1 = 1 then cmpI a.2.1 b.2.1 else if a.1 = 2 then cmpS a.2.2.1 b.2.2.1 else if a.1 = 3 then cmpL a.2.2.2 b.2.2.2 else 0 := by
  unfold cmpV keyV
  rw [cmpL]
  by_cases h : a.1 = b.1
  · rw [if_neg (by omega), if_neg (by omega), if_neg (show ¬ (a.1 ≠ b.1) from fun e => e h), ← h]
    by_cases h1 : a.1 = 1
    · simp only [if_pos h1]; exact cmpL_one _ _
    · by_cases h2 : a.1 = 2
      · simp only [if_neg h1, if_pos h2]; rfl
      · by_cases h3 : a.1 = 3
        · simp only [if_neg h1, if_neg h2, if_pos h3]
        · simp only [if_neg h1, if_neg h2, if_neg h3]; rfl
  · rw [if_pos h]
    unfold cmpI
    by_cases h1 : a.1 < b.1
    · rw [if_pos h1, if_pos h1]
    · rw [if_neg h1, if_neg h1, if_pos (by omega), if_pos (by omega)]
/- What may be. -/
def prB (c : UInt8) : Bool := decide (32 ≤ c.toNat) && decide (c.toNat ≤ 126) && decide (c.toNat ≠ 34)
def upL (l : List Int) : Bool := (List.range (l.length - 1)).all fun i => decide (l.getD i 0 < l.getD (i + 1) 0)
def textE (s : List UInt8) : Int := if 64 < s.length then 4 else if s.all prB = true then 0 else 2
def listE (l : List Int) : Int := if 16 < l.length then 4 else if upL l = true then 0 else 2
def checkV (v : Val) : Int := if v.1 = 1 then 0 else if v.1 = 2 then textE v.2.2.1.data.toList else if v.1 = 3 then listE v.2.2.2 else 7
/- In words. -/
def textV (v : Val) : List UInt8 := if v.1 = 1 then itoa v.2.1 else if v.1 = 2 then 34 :: v.2.2.1.data.toList ++ [34] else if v.1 = 3 then 91 :: joinS (v.2.2.2.map itoa) ++ [93] else []
def v0 : Val := (0, 0, ByteArray.empty, [])
def insideL (a b : UInt8) (s : List UInt8) : Option (List UInt8) := if 2 ≤ s.length ∧ s.headD 0 = a ∧ s.getLastD 0 = b then some (s.tail.dropLast) else none
/-- The numbers of words; none: one is no number. -/
def numsL : List (List UInt8) → Option (List Int)
  | [] => some []
  | w :: r => match numR w, numsL r with
    | some v, some l => some (v :: l)
    | _, _ => none
def readV (s : List UInt8) : Option Val := match insideL 34 34 s with
  | some t => some (2, 0, txt t, [])
  | none => match insideL 91 93 s with
    | some t => if t = [] then some (3, 0, ByteArray.empty, []) else match numsL (splitS t) with
      | some l => some (3, 0, ByteArray.empty, l)
      | none => none
    | none => match numR s with
      | some n => some (1, n, ByteArray.empty, [])
      | none => none
def parseV (s : List UInt8) : Val × Int := match readV s with
  | none => (v0, 2)
  | some v => if checkV v ≠ 0 then (v0, checkV v) else (v, 0)
end Go.Cn
end

section
/- Values in words and back: the law. No program in sight. -/
set_option linter.unusedVariables false
set_option linter.unusedSimpArgs false
namespace Go.Cn
open Go.Lib
theorem itoa_bytes (v : Int) : ∀ c ∈ itoa v, c = 45 ∨ digB c = true := by
  intro c hc
  unfold itoa at hc
  split at hc
  · rcases List.mem_cons.1 hc with h | h
    · exact .inl h
    · exact .inr (List.all_eq_true.1 (dec_all v.natAbs).1 c h)
  · exact .inr (List.all_eq_true.1 (dec_all v.toNat).1 c hc)
theorem itoa_not {c : UInt8} (h45 : c ≠ 45) (hd : digB c = false) (v : Int) : c ∉ itoa v := fun h => by
  rcases itoa_bytes v c h with e | e
  · exact h45 e
  · rw [hd] at e; cases e
theorem itoa_ne (v : Int) : itoa v ≠ [] := by
  unfold itoa
  split
  · simp
  · exact (dec_all v.toNat).2.2.1
theorem itoa_head {c : UInt8} (h45 : c ≠ 45) (hd : digB c = false) (v : Int) : (itoa v).headD 0 ≠ c := by
  cases h : itoa v with
  | nil => exact absurd h (itoa_ne v)
  | cons a r =>
    intro e
    have : a = c := e
    exact itoa_not h45 hd v (by rw [h, this]; simp)
theorem inside_mk (a b : UInt8) (m : List UInt8) : insideL a b (a :: m ++ [b]) = some m := by
  unfold insideL
  have h1 : 2 ≤ (a :: m ++ [b]).length := by simp
  have h2 : (a :: m ++ [b]).getLastD 0 = b := by rw [List.getLastD_eq_getLast?, List.getLast?_append]; rfl
  rw [if_pos ⟨h1, rfl, h2⟩]
  congr 1
  show (m ++ [b]).dropLast = m
  simp
theorem inside_some {a b : UInt8} {s m : List UInt8} (h : insideL a b s = some m) : s = a :: m ++ [b] := by
  unfold insideL at h
  split at h
  · rename_i hc
    obtain ⟨h1, h2, h3⟩ := hc
    cases h
    match s, h1 with
    | c :: r, h1 =>
      have hr : r ≠ [] := fun e => by rw [e] at h1; simp at h1
      have e1 : c = a := h2
      have e2 : r.getLast hr = b := by
        rw [← List.dropLast_concat_getLast hr, List.getLastD_eq_getLast?, ← List.cons_append, List.getLast?_append] at h3
        simpa using h3
      rw [e1, List.cons_append]
      congr 1
      show r = r.dropLast ++ [b]
      rw [← e2, List.dropLast_concat_getLast]
  · cases h
theorem inside_no {a b : UInt8} {s : List UInt8} (h : s.headD 0 ≠ a) : insideL a b s = none := by
  unfold insideL
  rw [if_neg (fun e => h e.2.1)]
theorem nums_itoa : ∀ l : List Int, (∀ x ∈ l, in64 x) → numsL (l.map itoa) = some l
  | [], _ => rfl
  | x :: r, h => by
    rw [List.map_cons, numsL, numR_itoa (h x (by simp)), nums_itoa r (fun y hy => h y (by simp [hy]))]
theorem nums_back : ∀ (ws : List (List UInt8)) (l : List Int), numsL ws = some l → ws = l.map itoa ∧ ∀ x ∈ l, in64 x
  | [], l, h => by
    cases h
    exact ⟨rfl, fun x hx => by cases hx⟩
  | w :: r, l, h => by
    rw [numsL] at h
    split at h
    · rename_i v l' h1 h2
      cases h
      obtain ⟨e1, e2⟩ := nums_back r l' h2
      obtain ⟨f1, f2⟩ := numR_some h1
      refine ⟨by rw [List.map_cons, ← e1, ← f2], fun x hx => ?_⟩
      rcases List.mem_cons.1 hx with rfl | hx
      · exact f1
      · exact e2 x hx
    · cases h
theorem join_nil {l : List Int} (h : joinS (l.map itoa) = []) : l = [] := by
  cases l with
  | nil => rfl
  | cons x r =>
    rw [List.map_cons] at h
    have : itoa x = [] := (List.append_eq_nil_iff.1 h).1
    exact absurd this (itoa_ne x)
theorem split_nums (l : List Int) (h : l ≠ []) : splitS (joinS (l.map itoa)) = l.map itoa := by
  cases l with
  | nil => exact absurd rfl h
  | cons x r =>
    rw [List.map_cons]
    refine splitS_join _ _ (itoa_not (by decide) (by decide) x) (fun q hq => ?_)
    obtain ⟨y, _, rfl⟩ := List.mem_map.1 hq
    exact itoa_not (by decide) (by decide) y
theorem parse_text {a : Val} (h : checkV a = 0) (hi : in64 a.2.1) (hl : ∀ x ∈ a.2.2.2, in64 x) : ∃ v, parseV (textV a) = (v, 0) ∧ cmpV v a = 0 := by
  obtain ⟨k, i, s, l⟩ := a
  simp only at hi hl
  by_cases h1 : k = 1
  · subst h1
    refine ⟨(1, i, ByteArray.empty, []), ?_, cmpL_self _⟩
    have e : textV (1, i, s, l) = itoa i := by unfold textV; rw [if_pos rfl]
    rw [e]
    unfold parseV readV
    rw [inside_no (itoa_head (by decide) (by decide) i), inside_no (itoa_head (by decide) (by decide) i), numR_itoa hi]
    rfl
  · by_cases h2 : k = 2
    · subst h2
      have e : textV (2, i, s, l) = 34 :: s.data.toList ++ [34] := by unfold textV; rw [if_neg (show ¬ (2 : Int) = 1 by decide), if_pos rfl]
      have ec : checkV (2, 0, txt s.data.toList, []) = checkV (2, i, s, l) := by unfold checkV; rfl
      refine ⟨(2, 0, txt s.data.toList, []), ?_, ?_⟩
      · rw [e]
        unfold parseV readV
        rw [inside_mk]
        simp only
        rw [ec, h]; rfl
      · rw [txt_list]; exact cmpL_self _
    · by_cases h3 : k = 3
      · subst h3
        have e : textV (3, i, s, l) = 91 :: joinS (l.map itoa) ++ [93] := by unfold textV; rw [if_neg (show ¬ (3 : Int) = 1 by decide), if_neg (show ¬ (3 : Int) = 2 by decide), if_pos rfl]
        have ec : checkV (3, 0, ByteArray.empty, l) = checkV (3, i, s, l) := by unfold checkV; rfl
        refine ⟨(3, 0, ByteArray.empty, l), ?_, cmpL_self _⟩
        rw [e]
        unfold parseV readV
        rw [inside_no (by simp), inside_mk]
        simp only
        by_cases hl0 : l = []
        · subst hl0; rfl
        · rw [if_neg (fun e => hl0 (join_nil e)), split_nums l hl0, nums_itoa l hl]
          simp only
          rw [ec, h]; rfl
      · unfold checkV at h
        rw [if_neg h1, if_neg h2, if_neg h3] at h
        cases h
theorem parse_back {s : List UInt8} {v : Val} (h : parseV s = (v, 0)) : textV v = s ∧ (v.1 = 1 ∨ v.1 = 2 ∨ v.1 = 3) ∧ in64 v.2.1 ∧ (∀ x ∈ v.2.2.2, in64 x) ∧ checkV v = 0 := by
  unfold parseV at h
  have z : in64 0 := ⟨by decide, by decide⟩
  cases hr : readV s with
  | none => rw [hr] at h; simp at h
  | some x =>
    rw [hr] at h
    simp only at h
    split at h
    · rename_i hc
      injection h with _ h
      exact absurd h hc
    · rename_i hc
      injection h with h _
      subst h
      have hc : checkV x = 0 := by simpa using hc
      unfold readV at hr
      split at hr
      · rename_i t ht
        cases hr
        refine ⟨?_, .inr (.inl rfl), z, (fun x hx => by cases hx), hc⟩
        rw [inside_some ht]
        unfold textV; rw [if_neg (show ¬ (2 : Int) = 1 by decide), if_pos rfl, txt_data]
      · split at hr
        · rename_i t ht
          split at hr
          · rename_i h0
            cases hr
            subst h0
            exact ⟨(inside_some ht).symm, .inr (.inr rfl), z, (fun x hx => by cases hx), hc⟩
          · split at hr
            · rename_i l hl
              cases hr
              obtain ⟨e1, e2⟩ := nums_back _ _ hl
              refine ⟨?_, .inr (.inr rfl), z, e2, hc⟩
              rw [inside_some ht]
              unfold textV; rw [if_neg (show ¬ (3 : Int) = 1 by decide), if_neg (show ¬ (3 : Int) = 2 by decide), if_pos rfl]
              simp only
              rw [← e1, join_split]
            · cases hr
        · split at hr
          · rename_i n hn
            cases hr
            obtain ⟨f1, f2⟩ := numR_some hn
            refine ⟨?_, .inl rfl, f1, (fun x hx => by cases hx), hc⟩
            unfold textV; rw [if_pos rfl, f2]
          · cases hr
theorem parse_none {s : List UInt8} (h : (parseV s).2 ≠ 0) : (parseV s).1 = v0 := by
  unfold parseV at h ⊢
  cases hr : readV s with
  | none => rfl
  | some x =>
    rw [hr] at h
    simp only at h ⊢
    split
    · rfl
    · rename_i hc
      rw [if_neg hc] at h
      exact absurd rfl h
end Go.Cn
end

section
/- Paths, plain: names, parts, what is told of them. No program in sight. -/
set_option linter.unusedVariables false
set_option linter.unusedSimpArgs false
namespace Go.Cn
def lowB (c : UInt8) : Bool := decide (97 ≤ c.toNat) && decide (c.toNat ≤ 122)
def okB (c : UInt8) : Bool := lowB c || (decide (48 ≤ c.toNat) && decide (c.toNat ≤ 57))
def nameL (l : List UInt8) : Bool := decide (1 ≤ l.length) && decide (l.length ≤ 8) && lowB (l.getD 0 0) && l.all okB
theorem okB_iff (c : UInt8) : okB c = true ↔ (97 ≤ c.toNat ∧ c.toNat ≤ 122) ∨ (48 ≤ c.toNat ∧ c.toNat ≤ 57) := by simp [okB, lowB]
theorem nameL_iff (l : List UInt8) : nameL l = true ↔ 1 ≤ l.length ∧ l.length ≤ 8 ∧ 97 ≤ (l.getD 0 0).toNat ∧ (l.getD 0 0).toNat ≤ 122 ∧ ∀ i, i < l.length → (97 ≤ (l.getD i 0).toNat ∧ (l.getD i 0).toNat ≤ 122) ∨ (48 ≤ (l.getD i 0).toNat ∧ (l.getD i 0).toNat ≤ 57) := by
  have h : l.all okB = true ↔ ∀ i, i < l.length → (97 ≤ (l.getD i 0).toNat ∧ (l.getD i 0).toNat ≤ 122) ∨ (48 ≤ (l.getD i 0).toNat ∧ (l.getD i 0).toNat ≤ 57) := by
    rw [List.all_eq_true]
    constructor
    · intro h i hi
      have := h l[i] (List.getElem_mem hi)
      rw [okB_iff] at this
      simpa [hi] using this
    · intro h x hx
      obtain ⟨i, hi, rfl⟩ := List.mem_iff_getElem.1 hx
      have := h i hi
      rw [okB_iff]
      simpa [hi] using this
  simp only [nameL, Bool.and_eq_true, decide_eq_true_eq, lowB, h, and_assoc]
theorem nameL_no {l : List UInt8} (h : ¬ (1 ≤ l.length ∧ l.length ≤ 8 ∧ 97 ≤ (l.getD 0 0).toNat ∧ (l.getD 0 0).toNat ≤ 122 ∧ ∀ i, i < l.length → (97 ≤ (l.getD i 0).toNat ∧ (l.getD i 0).toNat ≤ 122) ∨ (48 ≤ (l.getD i 0).toNat ∧ (l.getD i 0).toNat ≤ 57))) : nameL l = false := by
  cases hn : nameL l with
  | false => rfl
  | true => exact absurd ((nameL_iff l).1 hn) h
def cutL (l : List UInt8) : Option (List (List UInt8)) := match l with
  | [] => none
  | c :: r => if c = 47 then some (if r = [] then [] else splitL r) else none
/-- Why not (0: it is one; 2: its form; 4: too long), the parts. -/
def parseL (l : List UInt8) : Int × List (List UInt8) := match cutL l with
  | none => (2, [])
  | some ps => if ps.all nameL = false then (2, []) else if 4 < ps.length then (4, []) else (0, ps)
def pathL (ps : List (List UInt8)) : List UInt8 := 47 :: joinL ps
theorem parseL_ok {l : List UInt8} (h : (parseL l).1 = 0) : cutL l = some (parseL l).2 ∧ (parseL l).2.all nameL = true ∧ (parseL l).2.length ≤ 4 := by
  unfold parseL at *
  cases hc : cutL l with
  | none => rw [hc] at h; simp at h
  | some ps =>
    rw [hc] at h
    simp only at h ⊢
    by_cases h1 : ps.all nameL = false
    · rw [if_pos h1] at h; simp at h
    · rw [if_neg h1] at h ⊢
      by_cases h2 : 4 < ps.length
      · rw [if_pos h2] at h; simp at h
      · rw [if_neg h2]
        exact ⟨rfl, by simpa using h1, by simp only; omega⟩
theorem parseL_bad {l : List UInt8} (h : (parseL l).1 ≠ 0) : (parseL l).2 = [] ∧ ((parseL l).1 = 2 ∨ (parseL l).1 = 4) := by
  unfold parseL at *
  cases hc : cutL l with
  | none => simp
  | some ps =>
    rw [hc] at h
    simp only at h ⊢
    by_cases h1 : ps.all nameL = false
    · rw [if_pos h1]; simp
    · rw [if_neg h1] at h ⊢
      by_cases h2 : 4 < ps.length
      · rw [if_pos h2]; simp
      · rw [if_neg h2] at h; simp at h
theorem parts_len {ps : List (List UInt8)} (h : ps.all nameL = true) : ∀ p ∈ ps, 1 ≤ p.length ∧ p.length ≤ 8 := by
  intro p hp
  have := (nameL_iff p).1 (List.all_eq_true.1 h p hp)
  exact ⟨this.1, this.2.1⟩
theorem name_nostroke {p : List UInt8} (h : nameL p = true) : (47 : UInt8) ∉ p := by
  intro hm
  obtain ⟨i, hi, e⟩ := List.mem_iff_getElem.1 hm
  have := ((nameL_iff p).1 h).2.2.2.2 i hi
  have e2 : p.getD i 0 = 47 := by simp [hi, e]
  rw [e2] at this
  simp at this
theorem splitL_len : ∀ l : List UInt8, (splitL l).length ≤ l.length + 1
  | [] => by simp [splitL]
  | c :: l => by
    have ih := splitL_len l
    have hp := splitL_pos l
    rw [splitL]
    split
    · simp; omega
    · simp; omega
/-- Cut again, a path's text gives its parts. -/
theorem split_join : ∀ (ps : List (List UInt8)), ps ≠ [] → (∀ p ∈ ps, (47 : UInt8) ∉ p) → splitL (joinL ps) = ps
  | [p], _, h => by
    have : joinL [p] = p := by simp [joinL]
    rw [this, splitL_none p (h p (by simp))]
  | p :: q :: r, _, h => by
    have e : joinL (p :: q :: r) = p ++ 47 :: joinL (q :: r) := by simp [joinL]
    rw [e, splitL_hit p _ (h p (by simp)), split_join (q :: r) (by simp) (fun x hx => h x (by simp [hx]))]
theorem joinL_split : ∀ l : List UInt8, joinL (splitL l) = l
  | [] => rfl
  | c :: l => by
    have ih := joinL_split l
    have hp := splitL_pos l
    rw [splitL]
    cases hs : splitL l with
    | nil => rw [hs] at hp; simp at hp
    | cons p r =>
      rw [hs] at ih
      by_cases hc : c = 47
      · rw [if_pos hc]
        simp only [joinL, List.flatMap_cons, List.nil_append] at ih ⊢
        rw [hc]; simp only [List.cons_append, List.cons.injEq, true_and]; exact ih
      · rw [if_neg hc]
        simp only [joinL, List.headD_cons, List.tail_cons, List.cons_append, List.cons.injEq, true_and] at ih ⊢
        exact ih
theorem cut_path {ps : List (List UInt8)} (h : ps.all nameL = true) : cutL (pathL ps) = some ps := by
  unfold cutL pathL
  simp only [if_true]
  cases ps with
  | nil => rfl
  | cons p r =>
    have hp := parts_len h p (by simp)
    have hne : joinL (p :: r) ≠ [] := by
      intro e
      have : p.length ≤ (joinL (p :: r)).length := by simp [joinL]
      rw [e] at this; simp at this; rw [this] at hp; simp at hp
    rw [if_neg hne, split_join _ (by simp) (fun q hq => name_nostroke (List.all_eq_true.1 h q hq))]
theorem parse_path {ps : List (List UInt8)} (h : ps.all nameL = true) (hl : ps.length ≤ 4) : parseL (pathL ps) = (0, ps) := by
  unfold parseL
  rw [cut_path h]
  simp only
  rw [if_neg (by rw [h]; decide), if_neg (by omega)]
theorem path_of {l : List UInt8} {ps : List (List UInt8)} (h : cutL l = some ps) : pathL ps = l := by
  cases l with
  | nil => cases h
  | cons c r =>
    unfold cutL at h
    simp only at h
    by_cases hc : c = 47
    · rw [if_pos hc] at h
      injection h with h
      subst h
      unfold pathL
      by_cases hr : r = []
      · rw [if_pos hr, hr, hc]; rfl
      · rw [if_neg hr, joinL_split, hc]
    · rw [if_neg hc] at h; cases h
end Go.Cn
end

section
/- Two paths, plain: where they part; patterns. No program in sight. -/
set_option linter.unusedVariables false
set_option linter.unusedSimpArgs false
namespace Go.Cn
def sharedN {α : Type} [DecidableEq α] : List α → List α → Nat
  | a :: l, b :: k => if a = b then sharedN l k + 1 else 0
  | _, _ => 0
theorem sharedN_le {α : Type} [DecidableEq α] : ∀ (a b : List α), sharedN a b ≤ a.length ∧ sharedN a b ≤ b.length
  | [], b => by simp [sharedN]
  | a :: l, [] => by simp [sharedN]
  | a :: l, b :: k => by
    have := sharedN_le l k
    unfold sharedN
    split
    · simp; omega
    · simp
theorem sharedN_eq {α : Type} [DecidableEq α] (d : α) : ∀ (a b : List α) (i : Nat), i ≤ a.length → i ≤ b.length → a.take i = b.take i → (i < a.length → i < b.length → a.getD i d ≠ b.getD i d) → sharedN a b = i
  | [], b, i, h1, _, _, _ => by simp at h1; subst h1; simp [sharedN]
  | a :: l, [], i, _, h2, _, _ => by simp at h2; subst h2; simp [sharedN]
  | a :: l, b :: k, 0, _, _, _, hne => by
    have := hne (by simp) (by simp)
    unfold sharedN
    rw [if_neg (by simpa using this)]
  | a :: l, b :: k, i + 1, h1, h2, ht, hne => by
    simp only [List.take_succ_cons, List.cons.injEq] at ht
    have := sharedN_eq d l k i (by simpa using h1) (by simpa using h2) ht.2 (fun x y => by
      have := hne (by simpa using x) (by simpa using y)
      simpa using this)
    unfold sharedN
    rw [if_pos ht.1, this]
theorem sharedN_take {α : Type} [DecidableEq α] : ∀ (a b : List α), a.take (sharedN a b) = b.take (sharedN a b)
  | [], b => by simp [sharedN]
  | a :: l, [] => by simp [sharedN]
  | a :: l, b :: k => by
    have := sharedN_take l k
    unfold sharedN
    split
    · rename_i h; simp [h, this]
    · simp
theorem sharedN_comm {α : Type} [DecidableEq α] : ∀ (a b : List α), sharedN a b = sharedN b a
  | [], b => by cases b <;> simp [sharedN]
  | a :: l, [] => by simp [sharedN]
  | a :: l, b :: k => by
    have := sharedN_comm l k
    unfold sharedN
    by_cases h : a = b
    · rw [if_pos h, if_pos h.symm, this]
    · rw [if_neg h, if_neg (fun e => h e.symm)]
/-- One lies at the head of the other. -/
theorem sharedN_full {α : Type} [DecidableEq α] (a b : List α) : sharedN a b = b.length ↔ b <+: a := by
  constructor
  · intro h
    have ht := sharedN_take a b
    rw [h, List.take_length] at ht
    exact ⟨a.drop b.length, (congrArg (· ++ a.drop b.length) ht.symm).trans (List.take_append_drop _ _)⟩
  · rintro ⟨t, rfl⟩
    induction b with
    | nil => cases t <;> simp [sharedN]
    | cons x b ih => simp [sharedN, ih]
def depthL (l : List UInt8) : Int := if (parseL l).1 = 0 then ((parseL l).2.length : Int) else -1
def parentL (l : List UInt8) : List UInt8 := if (parseL l).2 = [] then [] else pathL (parseL l).2.dropLast
def lastL (l : List UInt8) : List UInt8 := (parseL l).2.getD ((parseL l).2.length - 1) []
def joinP (l p : List UInt8) : Int × List UInt8 := if (parseL l).1 ≠ 0 then (2, []) else if nameL p = false then (5, []) else if 4 ≤ (parseL l).2.length then (4, []) else (0, pathL ((parseL l).2 ++ [p]))
def zonesL (l : List UInt8) : List (List UInt8) := (List.range (parseL l).2.length).map fun i => pathL ((parseL l).2.take i)
def underL (l z : List UInt8) : Bool := decide ((parseL l).1 = 0) && decide ((parseL z).1 = 0) && decide (sharedN (parseL l).2 (parseL z).2 = (parseL z).2.length)
def commonL (a b : List UInt8) : List UInt8 := if (parseL a).1 = 0 ∧ (parseL b).1 = 0 then pathL ((parseL a).2.take (sharedN (parseL a).2 (parseL b).2)) else []
def partsL (p : List UInt8) : List (List UInt8) := (cutL p).getD []
def longerL (q : List (List UInt8)) : Bool := decide (q.getD (q.length - 1) [] = [42, 42])
def bodyL (q : List (List UInt8)) : List (List UInt8) := if longerL q = true then q.take (q.length - 1) else q
def starB (p : List UInt8) : Bool := decide (p = [42]) || nameL p
def okPat (p : List UInt8) : Bool := (cutL p).isSome && (bodyL (partsL p)).all starB
def fitsL (b ps : List (List UInt8)) : Bool := (b.zip ps).all fun x => decide (x.1 = [42]) || decide (x.1 = x.2)
def matchL (p s : List UInt8) : Bool := okPat p && decide ((parseL s).1 = 0) && decide ((bodyL (partsL p)).length ≤ (parseL s).2.length) && (decide ((parseL s).2.length ≤ (bodyL (partsL p)).length) || longerL (partsL p)) && fitsL (bodyL (partsL p)) (parseL s).2
theorem bodyL_le (q : List (List UInt8)) : (bodyL q).length ≤ q.length := by unfold bodyL; split <;> simp <;> omega
end Go.Cn
end

section
/- Numbers as bytes, plain: zigzag, seven bits a byte, and back. No program in sight. -/
set_option linter.unusedVariables false
set_option linter.unusedSimpArgs false
namespace Go.Cn.Num
def zz (n : Int) : Nat := if 0 ≤ n then (2 * n).toNat else (-2 * n - 1).toNat
def uz (v : Nat) : Int := if v % 2 = 0 then (v / 2 : Nat) else -((v / 2 : Nat) : Int) - 1
theorem uz_zz (n : Int) : uz (zz n) = n := by
  unfold zz uz
  by_cases h : 0 ≤ n
  · rw [if_pos h, if_pos (by omega)]; omega
  · rw [if_neg h, if_neg (by omega)]; omega
theorem zz_lt (n : Int) (h0 : -9223372036854775808 ≤ n) (h1 : n ≤ 9223372036854775807) : zz n < 2 ^ 64 := by
  unfold zz; split <;> omega
def vbytes (v : Nat) : List UInt8 := if h : v < 128 then [UInt8.ofNat v] else UInt8.ofNat (v % 128 + 128) :: vbytes (v / 128)
termination_by v
theorem vbytes_small {v : Nat} (h : v < 128) : vbytes v = [UInt8.ofNat v] := by rw [vbytes, dif_pos h]
theorem vbytes_big {v : Nat} (h : ¬ v < 128) : vbytes v = UInt8.ofNat (v % 128 + 128) :: vbytes (v / 128) := by rw [vbytes, dif_neg h]
theorem vbytes_len (k : Nat) : ∀ v : Nat, v < 128 ^ (k + 1) → 1 ≤ (vbytes v).length ∧ (vbytes v).length ≤ k + 1 := by
  induction k with
  | zero => intro v h; rw [vbytes_small (by simpa using h)]; simp
  | succ k ih =>
    intro v h
    by_cases hs : v < 128
    · rw [vbytes_small hs]; simp
    · rw [vbytes_big hs]
      have := ih (v / 128) (by rw [Nat.div_lt_iff_lt_mul (by omega)]; rw [Nat.pow_succ] at h; exact h)
      simp only [List.length_cons]
      omega
def putInt (n : Int) : List UInt8 := vbytes (zz n)
theorem putInt_len (n : Int) (h0 : -9223372036854775808 ≤ n) (h1 : n ≤ 9223372036854775807) : 1 ≤ (putInt n).length ∧ (putInt n).length ≤ 10 :=
  vbytes_len 9 _ (Nat.lt_of_lt_of_le (zz_lt n h0 h1) (by decide))
def putText (s : List UInt8) : List UInt8 := putInt s.length ++ s
/-- A number out of bytes: why not (3: too short, 2: no form), the number, what is left. -/
def numD : Nat → Nat → List UInt8 → Int × Nat × List UInt8
  | _, _, [] => (3, 0, [])
  | i, v, c :: r => if (i = 9 ∧ 1 < c.toNat) ∨ (0 < i ∧ c.toNat = 0) then (2, 0, []) else if c.toNat < 128 then (0, v + (c.toNat % 128) * 2 ^ (7 * i), r) else numD (i + 1) (v + (c.toNat % 128) * 2 ^ (7 * i)) r
theorem numD_put : ∀ (k i v x : Nat) (r : List UInt8), i + k = 9 → x < 2 ^ (64 - 7 * i) → (0 < i → 0 < x) → numD i v (vbytes x ++ r) = (0, v + x * 2 ^ (7 * i), r) := by
  intro k
  induction k with
  | zero =>
    intro i v x r hi hx h0
    obtain rfl : i = 9 := by omega
    have hx2 : x < 2 := by simpa using hx
    rw [vbytes_small (by omega)]
    have e : (UInt8.ofNat x).toNat = x := by simp; omega
    rw [List.singleton_append, numD, e, if_neg (by have := h0 (by omega); omega), if_pos (by omega), Nat.mod_eq_of_lt (by omega)]
  | succ k ih =>
    intro i v x r hi hx h0
    by_cases hs : x < 128
    · rw [vbytes_small hs]
      have e : (UInt8.ofNat x).toNat = x := by simp; omega
      rw [List.singleton_append, numD, e, if_neg (by intro h; rcases h with h | h; omega; have := h0 h.1; omega), if_pos hs, Nat.mod_eq_of_lt hs]
    · rw [vbytes_big hs]
      have e : (UInt8.ofNat (x % 128 + 128)).toNat = x % 128 + 128 := by simp; omega
      rw [List.cons_append, numD, e, if_neg (by omega), if_neg (by omega), ih (i + 1) _ (x / 128) r (by omega) ?_ (fun _ => by omega)]
      · have e2 : (x % 128 + 128) % 128 = x % 128 := by omega
        rw [e2]
        have e3 : 2 ^ (7 * (i + 1)) = 128 * 2 ^ (7 * i) := by rw [show 7 * (i + 1) = 7 + 7 * i by omega, Nat.pow_add]
        rw [e3]
        have e4 : x / 128 * (128 * 2 ^ (7 * i)) = (x / 128 * 128) * 2 ^ (7 * i) := by rw [Nat.mul_assoc]
        rw [e4, Nat.add_assoc, ← Nat.add_mul]
        have e5 : x % 128 + x / 128 * 128 = x := by omega
        rw [e5]
      · rw [Nat.div_lt_iff_lt_mul (by omega)]
        have e6 : 2 ^ (64 - 7 * (i + 1)) * 128 = 2 ^ (64 - 7 * i) := by
          rw [show 64 - 7 * i = (64 - 7 * (i + 1)) + 7 by omega, Nat.pow_add]
        rw [e6]; exact hx
theorem num_put (x : Nat) (hx : x < 2 ^ 64) (r : List UInt8) : numD 0 0 (vbytes x ++ r) = (0, x, r) := by
  rw [numD_put 9 0 0 x r rfl (by simpa using hx) (fun h => absurd h (by omega))]
  simp
end Go.Cn.Num
end

section
/- Stamps, attributes, rows: what may be, their order, sameness, bytes. No program in sight. -/
set_option linter.unusedVariables false
set_option linter.unusedSimpArgs false
namespace Go.Cn
open Num
abbrev Stm := Int × Int × Int × ByteArray
abbrev Att := ByteArray × Val
abbrev RowD := ByteArray × Stm × List Att
def inT (n : Int) : Bool := decide (0 ≤ n) && decide (n ≤ 1000000000)
def nodeB (l : List UInt8) : Bool := decide ((parseL l).1 = 0) && decide (l ≠ [47])
def checkS (s : Stm) : Int := if (inT s.1 && inT s.2.1 && inT s.2.2.1) = false then 1 else if nodeB s.2.2.2.data.toList = false then 5 else 0
def ltS (a b : ByteArray) : Bool := Op.bytesLess a.data.toList b.data.toList
theorem ltS_iff (a b : ByteArray) : ltS a b = true ↔ cmpS a b = -1 := less_cmp _ _
/-- What is wrong with attributes, behind one of a name. -/
def chkAs : Option ByteArray → List Att → Int
  | _, [] => 0
  | p, a :: r => if nameL a.1.data.toList = false then 5 else if (p.all fun q => ltS q a.1) = false then 6 else if checkV a.2 ≠ 0 then checkV a.2 else chkAs (some a.1) r
def checkAs (l : List Att) : Int := if 32 < l.length then 4 else chkAs none l
def checkR (r : RowD) : Int := if nameL r.1.data.toList = false then 5 else if checkS r.2.1 ≠ 0 then checkS r.2.1 else checkAs r.2.2
def badR : List RowD → Int
  | [] => 0
  | r :: l => if checkR r ≠ 0 then checkR r else badR l
def rightR (l : List RowD) : Int := if 64 < l.length then 4 else badR l
/-- The name ahead of place i. -/
def prevA (l : List Att) (i : Nat) : Option ByteArray := if i = 0 then none else some (l.getD (i - 1) default).1
/-- One attribute's part of the check. -/
def stepA (p : Option ByteArray) (a : Att) (rest : Int) : Int := if nameL a.1.data.toList = false then 5 else if (p.all fun q => ltS q a.1) = false then 6 else if checkV a.2 ≠ 0 then checkV a.2 else rest
theorem stepA_name {p : Option ByteArray} {nm : ByteArray} {v : Val} {r : Int} (h : nameL nm.data.toList = false) : stepA p (nm, v) r = 5 := if_pos h
theorem stepA_twice {p : Option ByteArray} {nm : ByteArray} {v : Val} {r : Int} (h : nameL nm.data.toList = true) (h2 : (p.all fun q => ltS q nm) = false) : stepA p (nm, v) r = 6 := by
  unfold stepA; rw [if_neg (by rw [h]; decide), if_pos h2]
theorem stepA_val {p : Option ByteArray} {nm : ByteArray} {v : Val} {r : Int} (h : nameL nm.data.toList = true) (h2 : (p.all fun q => ltS q nm) = true) : stepA p (nm, v) r = if checkV v ≠ 0 then checkV v else r := by
  unfold stepA; rw [if_neg (by rw [h]; decide), if_neg (by rw [h2]; decide)]
theorem chkAs_at {l : List Att} {i : Nat} (hi : i < l.length) : chkAs (prevA l i) (l.drop i) = stepA (prevA l i) (l.getD i default) (chkAs (prevA l (i + 1)) (l.drop (i + 1))) := by
  rw [List.drop_eq_getElem_cons hi, chkAs]
  have e : l.getD i default = l[i] := by simp [hi]
  have e2 : prevA l (i + 1) = some l[i].1 := by
    unfold prevA
    rw [if_neg (by omega), Nat.add_sub_cancel, e]
  rw [e, e2]; rfl
theorem chkAs_end {l : List Att} {i : Nat} (hi : l.length ≤ i) : chkAs (prevA l i) (l.drop i) = 0 := by
  rw [List.drop_eq_nil_of_le hi]; cases prevA l i <;> rfl
theorem badR_at {l : List RowD} {i : Nat} (hi : i < l.length) : badR (l.drop i) = if checkR (l.getD i default) ≠ 0 then checkR (l.getD i default) else badR (l.drop (i + 1)) := by
  rw [List.drop_eq_getElem_cons hi, badR]
  have e : l.getD i default = l[i] := by simp [hi]
  rw [e]
def orI (a b : Int) : Int := if a ≠ 0 then a else b
def cmpStm (a b : Stm) : Int := orI (cmpI a.1 b.1) (orI (cmpI a.2.1 b.2.1) (orI (cmpI a.2.2.1 b.2.2.1) (cmpS a.2.2.2 b.2.2.2)))
theorem cmpI_zero {a b : Int} : cmpI a b = 0 ↔ a = b := by
  unfold cmpI
  split
  · constructor
    · intro h; cases h
    · intro h; omega
  · split
    · constructor
      · intro h; cases h
      · intro h; omega
    · constructor
      · intro _; omega
      · intro _; rfl
theorem cmpS_zero {a b : ByteArray} : cmpS a b = 0 ↔ a = b := by
  constructor
  · intro h
    exact data_inj (bts_inj (cmpL_zero _ _ h))
  · rintro rfl; exact cmpL_self _
theorem orI_zero {a b : Int} : orI a b = 0 ↔ a = 0 ∧ b = 0 := by
  unfold orI
  by_cases h : a = 0
  · simp [h]
  · simp [h]
theorem cmpStm_zero {a b : Stm} : cmpStm a b = 0 ↔ a = b := by
  unfold cmpStm
  rw [orI_zero, orI_zero, orI_zero, cmpI_zero, cmpI_zero, cmpI_zero, cmpS_zero]
  obtain ⟨a1, a2, a3, a4⟩ := a
  obtain ⟨b1, b2, b3, b4⟩ := b
  simp
def sameAs : List Att → List Att → Bool
  | [], [] => true
  | a :: r, b :: s => decide (a.1 = b.1) && decide (cmpV a.2 b.2 = 0) && sameAs r s
  | _, _ => false
def sameR (a b : RowD) : Bool := decide (a.1 = b.1) && decide (cmpStm a.2.1 b.2.1 = 0) && sameAs a.2.2 b.2.2
theorem sameAs_len : ∀ {a b : List Att}, sameAs a b = true → a.length = b.length
  | [], [], _ => rfl
  | [], _ :: _, h => by cases h
  | _ :: _, [], h => by cases h
  | a :: r, b :: s, h => by
    rw [sameAs, Bool.and_eq_true] at h
    rw [List.length_cons, List.length_cons, sameAs_len h.2]
theorem sameAs_at {a b : List Att} {i : Nat} (ha : i < a.length) (hb : i < b.length) : sameAs (a.drop i) (b.drop i) = (decide ((a.getD i default).1 = (b.getD i default).1) && decide (cmpV (a.getD i default).2 (b.getD i default).2 = 0) && sameAs (a.drop (i + 1)) (b.drop (i + 1))) := by
  rw [List.drop_eq_getElem_cons ha, List.drop_eq_getElem_cons hb, sameAs]
  have e : a.getD i default = a[i] := by simp [ha]
  have e2 : b.getD i default = b[i] := by simp [hb]
  rw [e, e2]
theorem sameAs_ne {a b : List Att} (h : a.length ≠ b.length) : sameAs a b = false := by
  cases hs : sameAs a b with
  | false => rfl
  | true => exact absurd (sameAs_len hs) h
theorem sameAs_self : ∀ a : List Att, sameAs a a = true
  | [] => rfl
  | a :: r => by
    rw [sameAs, sameAs_self r]
    have : cmpV a.2 a.2 = 0 := cmpL_self _
    simp [this]
theorem sameR_self (r : RowD) : sameR r r = true := by
  unfold sameR
  rw [sameAs_self, cmpStm_zero.2 rfl]; simp
/- In bytes. -/
def valB (v : Val) : List UInt8 := putInt v.1 ++ (if v.1 = 1 then putInt v.2.1 else if v.1 = 2 then putText v.2.2.1.data.toList else if v.1 = 3 then putInt v.2.2.2.length ++ v.2.2.2.flatMap putInt else [])
def stmB (s : Stm) : List UInt8 := putInt s.1 ++ putInt s.2.1 ++ putInt s.2.2.1 ++ putText s.2.2.2.data.toList
def attB (a : Att) : List UInt8 := putText a.1.data.toList ++ valB a.2
def rowB (r : RowD) : List UInt8 := putText r.1.data.toList ++ stmB r.2.1 ++ putInt r.2.2.length ++ r.2.2.flatMap attB
def rowsB (l : List RowD) : List UInt8 := putInt l.length ++ l.flatMap rowB
/-- A value's own part alone. -/
def normV (v : Val) : Val := (v.1, if v.1 = 1 then v.2.1 else 0, if v.1 = 2 then v.2.2.1 else ByteArray.empty, if v.1 = 3 then v.2.2.2 else [])
theorem normV_key (v : Val) : keyV (normV v) = keyV v := by
  unfold keyV normV
  simp only
  by_cases h1 : v.1 = 1
  · simp [h1]
  · by_cases h2 : v.1 = 2
    · simp [h2]
    · by_cases h3 : v.1 = 3
      · simp [h3]
      · simp [h1, h2, h3]
theorem normV_cmp (v : Val) : cmpV (normV v) v = 0 := by
  unfold cmpV
  rw [normV_key]; exact cmpL_self _
theorem normV_check (v : Val) : checkV (normV v) = checkV v := by
  unfold checkV normV
  simp only
  by_cases h1 : v.1 = 1
  · simp [h1]
  · by_cases h2 : v.1 = 2
    · simp [h2]
    · by_cases h3 : v.1 = 3
      · simp [h3]
      · simp [h1, h2, h3]
def normA (a : Att) : Att := (a.1, normV a.2)
def normR (r : RowD) : RowD := (r.1, r.2.1, r.2.2.map normA)
theorem normAs_same : ∀ l : List Att, sameAs (l.map normA) l = true
  | [] => rfl
  | a :: r => by
    rw [List.map_cons, sameAs, normAs_same r]
    show (decide (a.1 = a.1) && decide (cmpV (normV a.2) a.2 = 0) && true) = true
    rw [normV_cmp]; simp
theorem normR_same (r : RowD) : sameR (normR r) r = true := by
  unfold sameR normR
  rw [normAs_same, cmpStm_zero.2 rfl]; simp
theorem chkAs_norm : ∀ (p : Option ByteArray) (l : List Att), chkAs p (l.map normA) = chkAs p l
  | _, [] => rfl
  | p, a :: r => by
    rw [List.map_cons, chkAs, chkAs, chkAs_norm]
    show (if nameL a.1.data.toList = false then (5 : Int) else if (p.all fun q => ltS q a.1) = false then 6 else if checkV (normV a.2) ≠ 0 then checkV (normV a.2) else chkAs (some a.1) r) = _
    rw [normV_check]
theorem normR_check (r : RowD) : checkR (normR r) = checkR r := by
  unfold checkR normR checkAs
  simp only [List.length_map, chkAs_norm]
/- How long. -/
theorem putText_len (s : List UInt8) (h : s.length ≤ 1000000) : (putText s).length ≤ s.length + 10 := by
  unfold putText
  rw [List.length_append]
  have := putInt_len (s.length : Int) (by omega) (by omega)
  omega
theorem flat_putInt_len : ∀ (l : List Int), (∀ x ∈ l, in64 x) → (l.flatMap putInt).length ≤ l.length * 10
  | [], _ => by simp
  | x :: r, h => by
    have ih := flat_putInt_len r (fun y hy => h y (by simp [hy]))
    have hx := h x (by simp)
    have := putInt_len x hx.1 hx.2
    rw [List.flatMap_cons, List.length_append, List.length_cons, Nat.succ_mul]; omega
end Go.Cn
end

section
/- How attributes and rows lie in the heap: rows of structs whose texts and numbers lie beside. No program in sight. -/
set_option linter.unusedVariables false
set_option linter.unusedSimpArgs false
namespace Go.Cn
open Go.RowKit
def ints' (l : List Int) : List Value := l.map (Value.int .i64)
/-- An attribute with the place of its numbers. -/
abbrev AttH := ByteArray × Val × Option Addr × Nat
def attP (h : AttH) : Att := (h.1, h.2.1)
def attC (h : AttH) : List Value := [.string h.1, .int .i64 h.2.1.1, .int .i64 h.2.1.2.1, .string h.2.1.2.2.1, .slice h.2.2.1 h.2.1.2.2.2.length h.2.2.2]
theorem attC_len (h : AttH) : (attC h).length = 5 := rfl
/-- A row with the place of its attributes. -/
abbrev RowH := ByteArray × Stm × Option Addr × Nat × List AttH
def rowP (h : RowH) : RowD := (h.1, h.2.1, h.2.2.2.2.map attP)
def rowC (h : RowH) : List Value := [.string h.1, .int .i64 h.2.1.1, .int .i64 h.2.1.2.1, .int .i64 h.2.1.2.2.1, .string h.2.1.2.2.2, .slice h.2.2.1 h.2.2.2.2.length h.2.2.2.1]
theorem rowC_len (h : RowH) : (rowC h).length = 6 := rfl
/-- The numbers of each attribute lie where it says. -/
def ListsAt (w : World) (hs : List AttH) : Prop := ∀ h ∈ hs, Reads w h.2.2.1 (ints' h.2.1.2.2.2)
def AttsAt (w : World) (A : Option Addr) (hs : List AttH) : Prop := Reads w A (hs.flatMap attC) ∧ ListsAt w hs
def RowsAt (w : World) (A : Option Addr) (rs : List RowH) : Prop := Reads w A (rs.flatMap rowC) ∧ ∀ r ∈ rs, AttsAt w r.2.2.1 r.2.2.2.2
/-- Nothing of it lies in a block of S. -/
def Sep (S : Nat → Prop) (A : Option Addr) {α : Type} (xs : List α) : Prop := xs ≠ [] → ∀ ad, A = some ad → ¬ S ad.block
theorem Sep.nil {S : Nat → Prop} {A : Option Addr} {α : Type} : Sep S A ([] : List α) := fun h => absurd rfl h
theorem Sep.low {S : Nat → Prop} {A : Option Addr} {α : Type} {xs : List α} {B : Nat} (h : ∀ ad, A = some ad → xs ≠ [] → ad.block < B) (hS : ∀ k, S k → B ≤ k) : Sep S A xs := fun hx ad ha hs => by
  have := h ad ha hx; have := hS _ hs; omega
theorem Reads.sep {S : Nat → Prop} {w w' : World} {A : Option Addr} {xs : List Value} (h : Reads w A xs) (c : Chg S w w') (hs : Sep S A xs) : Reads w' A xs := by
  by_cases e : xs = []
  · exact .inl e
  · exact h.chg c (fun ad ha => hs e ad ha)
theorem cellR_lt {w : World} {a : Addr} {v : Value} (h : w.cell? a = some v) : a.block < w.heap.size := by
  unfold World.cell? at h
  cases hb : w.heap[a.block]? with
  | none => simp [hb] at h
  | some o => exact (Array.getElem?_eq_some_iff.1 hb).1
theorem Reads.lt {w : World} {ad : Addr} {xs : List Value} (h : Reads w (some ad) xs) (hx : xs ≠ []) : ad.block < w.heap.size := by
  rcases h with h | ⟨g, o, he, hc⟩
  · exact absurd h hx
  · cases he
    have h0 := hc 0 (List.length_pos_iff.2 hx)
    rw [List.getElem?_eq_getElem (List.length_pos_iff.2 hx)] at h0
    exact cellR_lt h0
theorem Reads.low {w : World} {A : Option Addr} {xs : List Value} (h : Reads w A xs) : ∀ ad, A = some ad → xs ≠ [] → ad.block < w.heap.size := fun ad ha hx => by
  subst ha; exact h.lt hx
def ListsSep (S : Nat → Prop) (hs : List AttH) : Prop := ∀ h ∈ hs, Sep S h.2.2.1 (ints' h.2.1.2.2.2)
def AttsSep (S : Nat → Prop) (A : Option Addr) (hs : List AttH) : Prop := Sep S A (hs.flatMap attC) ∧ ListsSep S hs
def RowsSep (S : Nat → Prop) (A : Option Addr) (rs : List RowH) : Prop := Sep S A (rs.flatMap rowC) ∧ ∀ r ∈ rs, AttsSep S r.2.2.1 r.2.2.2.2
theorem ListsAt.sep {S : Nat → Prop} {w w' : World} {hs : List AttH} (h : ListsAt w hs) (c : Chg S w w') (hsp : ListsSep S hs) : ListsAt w' hs := fun x hx => (h x hx).sep c (hsp x hx)
theorem AttsAt.sep {S : Nat → Prop} {w w' : World} {A : Option Addr} {hs : List AttH} (h : AttsAt w A hs) (c : Chg S w w') (hsp : AttsSep S A hs) : AttsAt w' A hs := ⟨h.1.sep c hsp.1, h.2.sep c hsp.2⟩
theorem RowsAt.sep {S : Nat → Prop} {w w' : World} {A : Option Addr} {rs : List RowH} (h : RowsAt w A rs) (c : Chg S w w') (hsp : RowsSep S A rs) : RowsAt w' A rs := ⟨h.1.sep c hsp.1, fun r hr => (h.2 r hr).sep c (hsp.2 r hr)⟩
theorem ListsAt.quiet {w w' : World} {hs : List AttH} (h : ListsAt w hs) (c : Qt w w') : ListsAt w' hs := fun x hx => (h x hx).quiet c
theorem AttsAt.quiet {w w' : World} {A : Option Addr} {hs : List AttH} (h : AttsAt w A hs) (c : Qt w w') : AttsAt w' A hs := ⟨h.1.quiet c, h.2.quiet c⟩
theorem RowsAt.quiet {w w' : World} {A : Option Addr} {rs : List RowH} (h : RowsAt w A rs) (c : Qt w w') : RowsAt w' A rs := ⟨h.1.quiet c, fun r hr => (h.2 r hr).quiet c⟩
/-- What lies below B is apart from what lies at B and above. -/
theorem ListsAt.low {S : Nat → Prop} {w : World} {hs : List AttH} (h : ListsAt w hs) (hS : ∀ k, S k → w.heap.size ≤ k) : ListsSep S hs := fun x hx => Sep.low (h x hx).low hS
theorem AttsAt.low {S : Nat → Prop} {w : World} {A : Option Addr} {hs : List AttH} (h : AttsAt w A hs) (hS : ∀ k, S k → w.heap.size ≤ k) : AttsSep S A hs := ⟨Sep.low h.1.low hS, h.2.low hS⟩
theorem RowsAt.low {S : Nat → Prop} {w : World} {A : Option Addr} {rs : List RowH} (h : RowsAt w A rs) (hS : ∀ k, S k → w.heap.size ≤ k) : RowsSep S A rs := ⟨Sep.low h.1.low hS, fun r hr => (h.2 r hr).low hS⟩
theorem Sep.or {S T : Nat → Prop} {A : Option Addr} {α : Type} {xs : List α} (h : Sep S A xs) (h2 : Sep T A xs) : Sep (fun k => S k ∨ T k) A xs := fun hx ad ha hs => hs.elim (h hx ad ha) (h2 hx ad ha)
theorem ListsSep.or {S T : Nat → Prop} {hs : List AttH} (h : ListsSep S hs) (h2 : ListsSep T hs) : ListsSep (fun k => S k ∨ T k) hs := fun x hx => (h x hx).or (h2 x hx)
theorem AttsSep.or {S T : Nat → Prop} {A : Option Addr} {hs : List AttH} (h : AttsSep S A hs) (h2 : AttsSep T A hs) : AttsSep (fun k => S k ∨ T k) A hs := ⟨h.1.or h2.1, h.2.or h2.2⟩
theorem RowsSep.or {S T : Nat → Prop} {A : Option Addr} {rs : List RowH} (h : RowsSep S A rs) (h2 : RowsSep T A rs) : RowsSep (fun k => S k ∨ T k) A rs := ⟨h.1.or h2.1, fun r hr => (h.2 r hr).or (h2.2 r hr)⟩
theorem Sep.mono {S T : Nat → Prop} {A : Option Addr} {α : Type} {xs : List α} (h : Sep S A xs) (ht : ∀ k, T k → S k) : Sep T A xs := fun hx ad ha hs => h hx ad ha (ht _ hs)
theorem ListsSep.mono {S T : Nat → Prop} {hs : List AttH} (h : ListsSep S hs) (ht : ∀ k, T k → S k) : ListsSep T hs := fun x hx => (h x hx).mono ht
theorem AttsSep.mono {S T : Nat → Prop} {A : Option Addr} {hs : List AttH} (h : AttsSep S A hs) (ht : ∀ k, T k → S k) : AttsSep T A hs := ⟨h.1.mono ht, h.2.mono ht⟩
theorem RowsSep.mono {S T : Nat → Prop} {A : Option Addr} {rs : List RowH} (h : RowsSep S A rs) (ht : ∀ k, T k → S k) : RowsSep T A rs := ⟨h.1.mono ht, fun r hr => (h.2 r hr).mono ht⟩
theorem ListsSep.none {hs : List AttH} : ListsSep (fun _ => False) hs := fun _ _ _ _ _ h => h
theorem ListsSep.app {S : Nat → Prop} {a b : List AttH} (h : ListsSep S a) (h2 : ListsSep S b) : ListsSep S (a ++ b) := fun x hx => (List.mem_append.1 hx).elim (h x) (h2 x)
theorem ListsAt.app {w : World} {a b : List AttH} (h : ListsAt w a) (h2 : ListsAt w b) : ListsAt w (a ++ b) := fun x hx => (List.mem_append.1 hx).elim (h x) (h2 x)
theorem attP_len (hs : List AttH) : (hs.map attP).length = hs.length := by simp
theorem attP_getD (hs : List AttH) (i : Nat) : (hs.map attP).getD i default = attP (hs.getD i default) := by
  rw [List.getD_eq_getElem?_getD, List.getElem?_map, List.getD_eq_getElem?_getD]
  cases hs[i]? <;> rfl
theorem rowP_getD (rs : List RowH) (i : Nat) : (rs.map rowP).getD i default = rowP (rs.getD i default) := by
  rw [List.getD_eq_getElem?_getD, List.getElem?_map, List.getD_eq_getElem?_getD]
  cases rs[i]? <;> rfl
/-- The cells of attribute i. -/
theorem att_at {w : World} {A : Option Addr} {hs : List AttH} (h : Reads w A (hs.flatMap attC)) {i : Nat} (hi : i < hs.length) : ∃ g o, A = some ⟨g, o, none⟩ ∧
    w.cell? ⟨g, o + i * 5, none⟩ = some (.string (hs.getD i default).1) ∧ w.cell? ⟨g, o + (i * 5 + 1), none⟩ = some (.int .i64 (hs.getD i default).2.1.1) ∧ w.cell? ⟨g, o + (i * 5 + 2), none⟩ = some (.int .i64 (hs.getD i default).2.1.2.1) ∧ w.cell? ⟨g, o + (i * 5 + 3), none⟩ = some (.string (hs.getD i default).2.1.2.2.1) ∧ w.cell? ⟨g, o + (i * 5 + 4), none⟩ = some (.slice (hs.getD i default).2.2.1 (hs.getD i default).2.1.2.2.2.length (hs.getD i default).2.2.2) := by
  obtain ⟨g, o, hA, hc⟩ := h.at attC_len hi (by omega)
  exact ⟨g, o, hA, hc 0 (by omega), hc 1 (by omega), hc 2 (by omega), hc 3 (by omega), hc 4 (by omega)⟩
theorem row_at {w : World} {A : Option Addr} {rs : List RowH} (h : Reads w A (rs.flatMap rowC)) {i : Nat} (hi : i < rs.length) : ∃ g o, A = some ⟨g, o, none⟩ ∧
    w.cell? ⟨g, o + i * 6, none⟩ = some (.string (rs.getD i default).1) ∧ w.cell? ⟨g, o + (i * 6 + 1), none⟩ = some (.int .i64 (rs.getD i default).2.1.1) ∧ w.cell? ⟨g, o + (i * 6 + 2), none⟩ = some (.int .i64 (rs.getD i default).2.1.2.1) ∧ w.cell? ⟨g, o + (i * 6 + 3), none⟩ = some (.int .i64 (rs.getD i default).2.1.2.2.1) ∧ w.cell? ⟨g, o + (i * 6 + 4), none⟩ = some (.string (rs.getD i default).2.1.2.2.2) ∧ w.cell? ⟨g, o + (i * 6 + 5), none⟩ = some (.slice (rs.getD i default).2.2.1 (rs.getD i default).2.2.2.2.length (rs.getD i default).2.2.2.1) := by
  obtain ⟨g, o, hA, hc⟩ := h.at rowC_len hi (by omega)
  exact ⟨g, o, hA, hc 0 (by omega), hc 1 (by omega), hc 2 (by omega), hc 3 (by omega), hc 4 (by omega), hc 5 (by omega)⟩
theorem ListsAt.get {w : World} {hs : List AttH} (h : ListsAt w hs) {i : Nat} (hi : i < hs.length) : Reads w (hs.getD i default).2.2.1 (ints' (hs.getD i default).2.1.2.2.2) := by
  have e : hs.getD i default = hs[i] := by simp [hi]
  rw [e]; exact h _ (List.getElem_mem hi)
theorem RowsAt.get {w : World} {A : Option Addr} {rs : List RowH} (h : RowsAt w A rs) {i : Nat} (hi : i < rs.length) : AttsAt w (rs.getD i default).2.2.1 (rs.getD i default).2.2.2.2 := by
  have e : rs.getD i default = rs[i] := by simp [hi]
  rw [e]; exact h.2 _ (List.getElem_mem hi)
/-- One thing of several cells put to a row, out of a block of its own. -/
theorem src_cells {w : World} {b : Nat} {cs : List Value} {e : TypeId} (h : w.heap[b]? = some (.cells cs.toArray e (0, 0))) : Src w (some ⟨b, 0, none⟩) cs := fun j u hj => by
  refine ⟨_, rfl, ?_⟩
  rw [Addr.add_lit, Nat.zero_add, blk_cell h j]
  simpa using hj
theorem pushN_run {P : Program} {w : World} {t e : TypeId} {z : Value} {sz bytes : Nat} (T : ElemTy P t e z sz bytes) {v : Value} {n : Nat} {xs : List Value} {F : Option Nat} (ho : Own w e sz v n xs F) (cs : List Value) (hcs : cs.length = sz) (h1 : ∀ u ∈ cs, u.oneCell' = true) {b : Nat} {e' : TypeId} (hb0 : w.heap[b]? = some (.cells cs.toArray e' (0, 0))) (hb : (n + 1) * bytes ≤ 140737488355328) (hb2 : n + 1 ≤ 9223372036854775807) (ty : TypeId) :
    ∃ A' cap F' w', (Builtin.append_ #[t, t] ty #[v, .slice (some ⟨b, 0, none⟩) 1 1]).run P w = .ok (.slice A' (n + 1) cap) w' ∧ Own w' e sz (.slice A' (n + 1) cap) (n + 1) (xs ++ cs) F' ∧ Chg (fun k => F = some k) w w' ∧ (∀ k, F' = some k → F = some k ∨ k = w.heap.size) :=
  app_run T ho (some ⟨b, 0, none⟩) 1 1 cs (by omega) (src_cells hb0) h1 hb hb2 ty
theorem attC_one (h : AttH) : ∀ u ∈ attC h, u.oneCell' = true := fun u hu => by
  simp only [attC, List.mem_cons, List.mem_nil_iff, or_false] at hu
  rcases hu with rfl | rfl | rfl | rfl | rfl <;> rfl
theorem rowC_one (h : RowH) : ∀ u ∈ rowC h, u.oneCell' = true := fun u hu => by
  simp only [rowC, List.mem_cons, List.mem_nil_iff, or_false] at hu
  rcases hu with rfl | rfl | rfl | rfl | rfl | rfl <;> rfl
end Go.Cn
end

section
/- Marks: a key and a stamp, as cells; rising rows; what one lacks of another. No program in sight. -/
set_option linter.unusedVariables false
set_option linter.unusedSimpArgs false
namespace Go.Cn
open Num
abbrev MarkD := ByteArray × Stm
def markC (m : MarkD) : List Value := [.string m.1, .int .i64 m.2.1, .int .i64 m.2.2.1, .int .i64 m.2.2.2.1, .string m.2.2.2.2]
theorem markC_len (m : MarkD) : (markC m).length = 5 := rfl
theorem markC_one (m : MarkD) : ∀ u ∈ markC m, u.oneCell' = true := fun u hu => by
  simp only [markC, List.mem_cons, List.mem_nil_iff, or_false] at hu
  rcases hu with rfl | rfl | rfl | rfl | rfl <;> rfl
abbrev markV (m : MarkD) : Value := .agg #[.string m.1, .int .i64 m.2.1, .int .i64 m.2.2.1, .int .i64 m.2.2.2.1, .string m.2.2.2.2]
theorem mark_at {w : World} {A : Option Addr} {ms : List MarkD} (h : Reads w A (ms.flatMap markC)) {i : Nat} (hi : i < ms.length) : ∃ g o, A = some ⟨g, o, none⟩ ∧
    w.cell? ⟨g, o + i * 5, none⟩ = some (.string (ms.getD i default).1) ∧ w.cell? ⟨g, o + (i * 5 + 1), none⟩ = some (.int .i64 (ms.getD i default).2.1) ∧ w.cell? ⟨g, o + (i * 5 + 2), none⟩ = some (.int .i64 (ms.getD i default).2.2.1) ∧ w.cell? ⟨g, o + (i * 5 + 3), none⟩ = some (.int .i64 (ms.getD i default).2.2.2.1) ∧ w.cell? ⟨g, o + (i * 5 + 4), none⟩ = some (.string (ms.getD i default).2.2.2.2) := by
  obtain ⟨g, o, hA, hc⟩ := h.at markC_len hi (by omega)
  exact ⟨g, o, hA, hc 0 (by omega), hc 1 (by omega), hc 2 (by omega), hc 3 (by omega), hc 4 (by omega)⟩
theorem mark_snoc (ms : List MarkD) (i : Nat) (hi : i < ms.length) : (ms.take (i + 1)).flatMap markC = (ms.take i).flatMap markC ++ markC (ms.getD i default) := by
  have e : ms.getD i default = ms[i] := by simp [hi]
  rw [e, List.take_succ_eq_append_getElem hi, List.flatMap_append]; simp
def mkH (r : RowH) : MarkD := (r.1, r.2.1)
def mkR (r : RowD) : MarkD := (r.1, r.2.1)
theorem mkH_rowP (rs : List RowH) : rs.map mkH = (rs.map rowP).map mkR := by rw [List.map_map]; rfl
theorem mkH_getD (rs : List RowH) (i : Nat) : (rs.map mkH).getD i default = mkH (rs.getD i default) := by
  rw [List.getD_eq_getElem?_getD, List.getElem?_map, List.getD_eq_getElem?_getD]
  cases rs[i]? <;> rfl
/-- Keys that rise. -/
def UpK (l : List ByteArray) : Prop := l.Pairwise fun a b => ltS a b = true
/-- What a row is kept by, for one that has these marks. -/
def newS (o : List MarkD) (r : RowD) : Bool := !(o.any fun m => decide (m.1 = r.1) && decide (cmpStm r.2.1 m.2 ≤ 0))
def newW (l : List RowD) (m : MarkD) : Bool := !(l.any fun r => decide (m.1 = r.1) && decide (0 ≤ cmpStm r.2.1 m.2))
def inK (ks : List ByteArray) (r : RowD) : Bool := ks.any fun k => decide (k = r.1)
def sendL (l : List RowD) (o : List MarkD) : List RowD := l.filter (newS o)
def wantL (l : List RowD) (o : List MarkD) : List ByteArray := (o.filter (newW l)).map (·.1)
def pickL (l : List RowD) (ks : List ByteArray) : List RowD := l.filter (inK ks)
/-- What is wrong with marks. -/
def chkM : Option ByteArray → List MarkD → Int
  | _, [] => 0
  | p, m :: r => if nameL m.1.data.toList = false then 5 else if (p.all fun q => ltS q m.1) = false then 6 else if checkS m.2 ≠ 0 then checkS m.2 else chkM (some m.1) r
def checkMs (l : List MarkD) : Int := if 64 < l.length then 4 else chkM none l
def prevM (l : List MarkD) (i : Nat) : Option ByteArray := if i = 0 then none else some (l.getD (i - 1) default).1
def stepM (p : Option ByteArray) (m : MarkD) (rest : Int) : Int := if nameL m.1.data.toList = false then 5 else if (p.all fun q => ltS q m.1) = false then 6 else if checkS m.2 ≠ 0 then checkS m.2 else rest
theorem stepM_name {p : Option ByteArray} {nm : ByteArray} {v : Stm} {r : Int} (h : nameL nm.data.toList = false) : stepM p (nm, v) r = 5 := if_pos h
theorem stepM_twice {p : Option ByteArray} {nm : ByteArray} {v : Stm} {r : Int} (h : nameL nm.data.toList = true) (h2 : (p.all fun q => ltS q nm) = false) : stepM p (nm, v) r = 6 := by
  unfold stepM; rw [if_neg (by rw [h]; decide), if_pos h2]
theorem stepM_val {p : Option ByteArray} {nm : ByteArray} {v : Stm} {r : Int} (h : nameL nm.data.toList = true) (h2 : (p.all fun q => ltS q nm) = true) : stepM p (nm, v) r = if checkS v ≠ 0 then checkS v else r := by
  unfold stepM; rw [if_neg (by rw [h]; decide), if_neg (by rw [h2]; decide)]
theorem chkM_at {l : List MarkD} {i : Nat} (hi : i < l.length) : chkM (prevM l i) (l.drop i) = stepM (prevM l i) (l.getD i default) (chkM (prevM l (i + 1)) (l.drop (i + 1))) := by
  rw [List.drop_eq_getElem_cons hi, chkM]
  have e : l.getD i default = l[i] := by simp [hi]
  have e2 : prevM l (i + 1) = some l[i].1 := by
    unfold prevM
    rw [if_neg (by omega), Nat.add_sub_cancel, e]
  rw [e, e2]; rfl
theorem chkM_end {l : List MarkD} {i : Nat} (hi : l.length ≤ i) : chkM (prevM l i) (l.drop i) = 0 := by
  rw [List.drop_eq_nil_of_le hi]; cases prevM l i <;> rfl
end Go.Cn
end

section
/- strings.Split at this dump, as the kit's tool laid it. -/
namespace Go.Proofs
open Go.Shelf
def Tryd.lays146_ren : Go.Shelf.Ren := ⟨fun | 146 => 95 | 221 => 109 | 268 => 123 | 138 => 124 | 143 => 125 | 195 => 129 | 197 => 130 | 218 => 131 | 219 => 132 | 260 => 133 | 217 => 134 | 225 => 135 | 224 => 136 | 267 => 137 | 266 => 138 | 314 => 139 | n => n, fun | 9 => 9 | 31 => 24 | 3 => 3 | 4 => 4 | 0 => 0 | 105 => 175 | 21 => 21 | 5 => 5 | 46 => 51 | 119 => 179 | 139 => 182 | 138 => 181 | 146 => 184 | 51 => 183 | n => n, fun | 1 => 0 | 3 => 1 | 4 => 2 | n => n⟩
theorem Tryd.lays146 : Go.Proofs.Lays.n146 Tryd.prog Tryd.lays146_ren := {
  mixed := by kernel_rfl
  f138 := Tryd.func124.trans (congrArg some (by kernel_rfl))
  f143 := Tryd.func125.trans (congrArg some (by kernel_rfl))
  f146 := Tryd.func95.trans (congrArg some (by kernel_rfl))
  f195 := Tryd.func129.trans (congrArg some (by kernel_rfl))
  f197 := Tryd.func130.trans (congrArg some (by kernel_rfl))
  f217 := Tryd.func134.trans (congrArg some (by kernel_rfl))
  f218 := Tryd.func131.trans (congrArg some (by kernel_rfl))
  f219 := Tryd.func132.trans (congrArg some (by kernel_rfl))
  f221 := Tryd.func109.trans (congrArg some (by kernel_rfl))
  f224 := Tryd.func136.trans (congrArg some (by kernel_rfl))
  f225 := Tryd.func135.trans (congrArg some (by kernel_rfl))
  f260 := Tryd.func133.trans (congrArg some (by kernel_rfl))
  f266 := Tryd.func138.trans (congrArg some (by kernel_rfl))
  f267 := Tryd.func137.trans (congrArg some (by kernel_rfl))
  f268 := Tryd.func123.trans (congrArg some (by kernel_rfl))
  f314 := Tryd.func139.trans (congrArg some (by kernel_rfl))
  t0 := Tryd.underlying0
  a0 := Tryd.isAgg0
  z0 := Tryd.sizeOf0
  v0 := Tryd.zeroValue0
  t3 := Tryd.underlying3
  a3 := Tryd.isAgg3
  z3 := Tryd.sizeOf3
  v3 := Tryd.zeroValue3
  t4 := Tryd.underlying4
  a4 := Tryd.isAgg4
  z4 := Tryd.sizeOf4
  v4 := Tryd.zeroValue4
  t5 := Tryd.underlying5
  a5 := Tryd.isAgg5
  z5 := Tryd.sizeOf5
  v5 := Tryd.zeroValue5
  t9 := Tryd.underlying9
  a9 := Tryd.isAgg9
  z9 := Tryd.sizeOf9
  v9 := Tryd.zeroValue9
  t21 := Tryd.underlying21
  a21 := Tryd.isAgg21
  z21 := Tryd.sizeOf21
  v21 := Tryd.zeroValue21
  t31 := Tryd.underlying24
  a31 := Tryd.isAgg24
  z31 := Tryd.sizeOf24
  v31 := Tryd.zeroValue24
  t46 := Tryd.underlying51
  a46 := Tryd.isAgg51
  z46 := Tryd.sizeOf51
  v46 := Tryd.zeroValue51
  t51 := Tryd.underlying183
  a51 := Tryd.isAgg183
  z51 := Tryd.sizeOf183
  v51 := Tryd.zeroValue183
  t105 := Tryd.underlying175
  a105 := Tryd.isAgg175
  z105 := Tryd.sizeOf175
  v105 := Tryd.zeroValue175
  t119 := Tryd.underlying179
  a119 := Tryd.isAgg179
  z119 := Tryd.sizeOf179
  t138 := Tryd.underlying181
  a138 := Tryd.isAgg181
  z138 := Tryd.sizeOf181
  v138 := Tryd.zeroValue181
  t139 := Tryd.underlying182
  a139 := Tryd.isAgg182
  z139 := Tryd.sizeOf182
  v139 := Tryd.zeroValue182
  t146 := Tryd.underlying184
  a146 := Tryd.isAgg184
  z146 := Tryd.sizeOf184
  v146 := Tryd.zeroValue184
  g1 := by kernel_rfl
  g3 := by kernel_rfl
  g4 := by kernel_rfl }
open Go.RowKit Go.Lib in
/-- strings.Split. (LAID: no walk: one application.) -/
theorem Tryd.strings_Split (s sep : ByteArray) (m : Int) (w : World) (hs : s.size < 4294967281) (hm : w.cell? ⟨0, 0, none⟩ = some (.int .i64 m)) (h1 : 1 ≤ sep.size) :
    Calls Tryd.prog 95 #[.string s, .string sep] w fun e w' =>
      e = .returned (.slice (some ⟨w.heap.size, 0, none⟩) (Lib.countB s sep + 1) (Lib.countB s sep + 1)) ∧ w' = w.alloc (.cells ((Lib.splitB sep 0 (Lib.countB s sep) s).map Value.string).toArray 9) := Any.strings_Split Tryd.lays146 (by kernel_rfl) s sep m w hs hm h1
end Go.Proofs
end
