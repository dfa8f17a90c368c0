/- Rows of things of any size: copy into them, zeros behind them, a call of an outer function. -/
import Derived.Test.YtdnlenngbaaeaaaDoorL4
import Derived.Test.YtdnlenngbaaeaaaDoorV4
import Derived.Lib.AppendZerosOnto
import Derived.Lib.Overlaps
import Derived.Laws.IdiomCopy
set_option linter.unusedVariables false
set_option linter.unusedSimpArgs false
namespace Go.Cn
open Go.RowKit
theorem callV_ext {P : Program} {f : FuncId} {fn : Func} {e : Array Value → Sem Value} (hf : P.funcs[f]? = some fn) (hname : (fn.name == "runtime.NumGoroutine") = false) (hb : fn.body.isNone = true) (hn : Extern.findNext fn = none) (he : Extern.find fn = some e)
    {args : Array Value} {w w' : World} {v : Value} {K : Value → World → Prop} (hr : (e args).run P w = .ok v w') (h : K v w') : CallV P (.func (.func f) #[] #[]) args K w := by
  unfold CallV
  have h1 := run_callFunc_extern (P := P) hf hname hb hn he args w
  simp only [Sem.run_bind, Deferred.ofValue]
  simp only [Sem.run_pure, Result.andThen_ok, invoke, List.append_nil, Array.append_empty]
  simp [h1, hr, NextK, h]
/-- copy over a row's cells, whatever the size of an element: all is read before anything is written. -/
theorem copy_run {P : Program} {w : World} {t e : TypeId} {z : Value} {sz bytes : Nat} (T : ElemTy P t e z sz bytes) (t' ty : TypeId) {g n cap : Nat} {xs : List Value} (hr : RowAt w e sz g n cap xs) (off dLen dCap : Nat) (A : Option Addr) (sLen sCap : Nat) (cs : List Value)
    (hl : cs.length = min sLen dLen * sz) (hs : Src w A cs) (hfit : off + cs.length ≤ cap * sz) (h1 : ∀ v ∈ cs, v.oneCell' = true) (hA : A = none → sLen = 0 ∧ sCap = 0) :
    (Builtin.copy_ #[t, t'] ty #[.slice (some ⟨g, off, none⟩) dLen dCap, .slice A sLen sCap]).run P w = .ok (goInt ((min sLen dLen : Nat) : Int)) (w.setCells g off cs) := by
  obtain ⟨i, hi, hz, rfl, hby⟩ := T.info
  obtain ⟨hla, cur, hb, h2, h3, h4, h5⟩ := hr
  have hst := run_storeCells_cells (P := P) g off cs 0 w (fun j hj => by rw [blk_cell hb, Array.getElem?_eq_getElem (by omega)]; rfl) (fun j hj => blk_frozen hb _) h1
  simp only [Nat.add_zero] at hst
  have hmm : Nat.min sLen dLen = min sLen dLen := rfl
  cases A with
  | none =>
    obtain ⟨rfl, rfl⟩ := hA rfl
    have hcs : cs = [] := List.eq_nil_of_length_eq_zero (by simpa using hl)
    subst hcs
    simp [Builtin.copy_, run_underlying T.und, Builtin.lenOf, Builtin.firstCells, sizeOf, typeInfo, hi, storeCells, World.setCells]
  | some a =>
    have hld := run_loadCells_list (P := P) w a cs (fun j v hj => by obtain ⟨ad, h, hc⟩ := hs j v hj; cases h; exact hc)
    rw [hl] at hld
    simp [Builtin.copy_, run_underlying T.und, Builtin.lenOf, Builtin.firstCells, sizeOf, typeInfo, hi, hmm, hld, hst]
/-- What a row holds behind it. -/
theorem RowAt.put {w : World} {e : TypeId} {sz g n cap : Nat} {xs : List Value} (h : RowAt w e sz g n cap xs) (off : Nat) (cs : List Value) (hoff : off ≤ n * sz) (m : Nat) (hm : m ≤ cap) (hnm : n ≤ m) (hl : off + cs.length ≤ cap * sz) (hfull : m * sz ≤ max (n * sz) (off + cs.length)) :
    RowAt (w.setCells g off cs) e sz g m cap ((xs.take off ++ cs ++ xs.drop (off + cs.length)).take (m * sz)) := by
  obtain ⟨hla, cur, hb, h2, h3, h4, h5⟩ := h
  have hns : n * sz ≤ m * sz := Nat.mul_le_mul_right _ hnm
  have hmc : m * sz ≤ cap * sz := Nat.mul_le_mul_right _ hm
  have key : (cur.toList.take off ++ cs ++ cur.toList.drop (off + cs.length)).take (m * sz) = (xs.take off ++ cs ++ xs.drop (off + cs.length)).take (m * sz) := by
    have e1 : xs.take off = cur.toList.take off := by rw [← h5, List.take_take, Nat.min_eq_left hoff]
    rw [e1]
    have hl1 : (cur.toList.take off).length = off := by simp; omega
    have e2 : xs.drop (off + cs.length) = (cur.toList.drop (off + cs.length)).take (n * sz - (off + cs.length)) := by rw [← h5, List.drop_take]
    rw [e2]
    simp only [List.append_assoc, List.take_append, hl1, List.take_take]
    congr 3
    omega
  refine ⟨?_, _, blk_setCells cs off w cur hb (by omega), hm, h3, by simp; omega, key⟩
  rw [← key]
  simp
  omega
theorem Chg.sets {w : World} {g off : Nat} {cs : List Value} : Chg (fun k => k = g) w (w.setCells g off cs) := Chg.setCells (S := fun k => k = g) (.inl rfl) cs off (Chg.refl _ w)
/-- append(s[:i], make([]T, k)...) that grows. -/
theorem zeros_run {P : Program} {w : World} {t tn ty e : TypeId} {z : Value} {sz bytes : Nat} (T : ElemTy P t e z sz bytes) {kn : IntKind} (htn : P.underlying tn = some (.int kn)) {g n cap : Nat} {xs : List Value} (hr : RowAt w e sz g n cap xs) (i k : Nat) (hi : i ≤ n) (hk : 0 < k) (hg : cap < i + k) (hb : (i + k) * bytes ≤ 140737488355328) (hb2 : i + k ≤ 9223372036854775807) :
    ∃ c' zs w', (Builtin.append_ #[t, tn] ty #[.slice (some ⟨g, 0, none⟩) i cap, .int .i64 k]).run P w = .ok (.slice (some ⟨w.heap.size, 0, none⟩) (i + k) c') w' ∧ RowAt w' e sz w.heap.size (i + k) c' (xs.take (i * sz) ++ zs) ∧ zs.length = k * sz ∧ Chg (fun _ => False) w w' := by
  obtain ⟨ti, hti, hz, rfl, hby⟩ := T.info
  subst hby
  have hle : i * ti.size ≤ n * ti.size := Nat.mul_le_mul_right _ hi
  have hxl := hr.1
  have hold : (Builtin.firstCells ti.size i (.slice (some ⟨g, 0, none⟩) i cap)).run P w.drew = .ok (xs.take (i * ti.size)).toArray w.drew := by
    have hld := run_loadCells_list (P := P) w.drew ⟨g, 0, none⟩ (xs.take (i * ti.size)) (fun j v hj => by
      have hjl := (List.getElem?_eq_some_iff.1 hj).1
      simp at hjl
      rw [List.getElem?_take, if_pos (by omega)] at hj
      rw [World.cell?_drew, Addr.add_lit, Nat.zero_add, hr.cell j (by omega)]; exact hj)
    have hlen : (xs.take (i * ti.size)).length = i * ti.size := by simp; omega
    rw [hlen] at hld
    simpa [Builtin.firstCells] using hld
  have hfit : Builtin.nextslicecap (i + k) cap * ti.bytes ≤ 281474976710656 := by
    have h1 := Nat.mul_le_mul_right ti.bytes (nextslicecap_le (need := i + k) (old := cap) hg)
    have h2 : 2 * (i + k) * ti.bytes = 2 * ((i + k) * ti.bytes) := Nat.mul_assoc _ _ _
    omega
  have h48 : k * ti.bytes ≤ 281474976710656 := by
    have := Nat.mul_le_mul_right ti.bytes (show k ≤ i + k by omega)
    omega
  have hrun := Go.Lib.run_append_grow_zeros (P := P) w t tn ty e ti z .i64 kn T.und htn hti hz (some ⟨g, 0, none⟩) i cap (xs.take (i * ti.size)) hold k hk T.pos hg (by omega) h48 hfit
  refine ⟨_, (Builtin.zeroCells z.cells k).toList, _, hrun, ?_, by simp [Builtin.zeroCells, T.cells], ?_⟩
  · have hge := grownCap_ge w (i + k) cap e
    have hmx := grownCap_le_maxLen w (i + k) cap e (by unfold maxLen; omega)
    have hx : (xs.take (i * ti.size)).length = i * ti.size := by simp; omega
    have hz1 : (Builtin.zeroCells z.cells k).size = k * ti.size := by simp [Builtin.zeroCells, T.cells]
    have hz2 : (Builtin.zeroCells z.cells (grownCap w (i + k) cap e - (i + k))).size = (grownCap w (i + k) cap e - (i + k)) * ti.size := by simp [Builtin.zeroCells, T.cells]
    have hsum : i * ti.size + k * ti.size + (grownCap w (i + k) cap e - (i + k)) * ti.size = grownCap w (i + k) cap e * ti.size := by
      rw [← Nat.add_mul, ← Nat.add_mul]; congr 1; omega
    refine ⟨?_, (xs.take (i * ti.size)).toArray ++ Builtin.zeroCells z.cells k ++ Builtin.zeroCells z.cells (grownCap w (i + k) cap e - (i + k)), blk_new w.drew _, hge, hmx, ?_, ?_⟩
    · rw [List.length_append, hx, Array.length_toList, hz1, Nat.add_mul]
    · simp only [Array.size_append, List.size_toArray, hx, hz1, hz2]; omega
    · rw [Array.toList_append, Array.toList_append, List.take_append_of_le_length]
      · rw [List.take_of_length_le]
        simp only [List.length_append, Array.length_toList, hz1, hx, Nat.add_mul]; omega
      · simp only [List.length_append, Array.length_toList, hz1, hx, Nat.add_mul]; omega
  · exact ((Chg.refl (fun _ => False) w).drew).alloc _
end Go.Cn
