/- What the sorted maps' texts share. -/
import Derived.Test.YtbkficgmjgbbeaaDoorVI
import Derived.Test.YtbkficgmjgbbeaaDoorL6
import Derived.Test.YtbkficgmjgbbeaaDoorSM
set_option linter.unusedVariables false
set_option linter.unusedSimpArgs false
namespace Go.Cn
open Go.RowKit
/-- append(x, v) of one element of whatever size. -/
theorem append2_run {P : Program} {w : World} {t e : TypeId} {z : Value} {sz bytes : Nat} (T : ElemTy P t e z sz bytes) {v : Value} {n : Nat} {xs : List Value} {F : Option Nat} (ho : Own w e sz v n xs F) (new : List Value) (hn : new.length = sz) (h1 : ∀ u ∈ new, u.oneCell' = true)
    (hb : (n + 1) * bytes ≤ 140737488355328) (hb2 : n + 1 ≤ 9223372036854775807) (ty : TypeId) :
    ∃ A' cap F' w', (Builtin.append_ #[t, t] ty #[v, .slice (some ⟨w.heap.size, 0, none⟩) 1 1]).run P (w.alloc (.cells new.toArray e)) = .ok (.slice A' (n + 1) cap) w' ∧ Own w' e sz (.slice A' (n + 1) cap) (n + 1) (xs ++ new) F' ∧ Chg (fun k => F = some k) w w' ∧ (∀ k, F' = some k → F = some k ∨ w.heap.size ≤ k) := by
  have hc := (Chg.refl (fun _ => False) w).alloc (.cells new.toArray e)
  obtain ⟨A', cap, F', w', h, ho', hc', hf⟩ := app_run T (ho.chg hc (fun _ _ h => h)) (some ⟨w.heap.size, 0, none⟩) 1 1 new (by omega) (fun j u hj => ⟨_, rfl, by rw [Addr.add_lit, Nat.zero_add, blk_cell (blk_new _ _)]; simpa using hj⟩) h1 hb hb2 ty
  refine ⟨A', cap, F', w', h, ho', ?_, fun k hk => ?_⟩
  · exact (hc.mono (fun _ _ h => h.elim)).trans hc'
  · rcases hf k hk with h | h
    · exact .inl h
    · simp at h; exact .inr (by omega)
/-- make([]T, 0, n). -/
theorem make0K {P : Program} {t e : TypeId} {z : Value} {sz bytes : Nat} (T : ElemTy P t e z sz bytes) (n : Nat) (hn : bytes * n ≤ 281474976710656) (hn2 : n ≤ 9223372036854775807) {K : Value → World → Prop} {w : World}
    (h : ∀ w', Own w' e sz (.slice (some ⟨w.heap.size, 0, none⟩) 0 n) 0 [] (some w.heap.size) → Qt w w' → K (.slice (some ⟨w.heap.size, 0, none⟩) 0 n) w') : ValK P (Instr.makeSlice t (.int .i64 0) (.int .i64 n)) K w := by
  obtain ⟨i, hi, hz', hsz, hby⟩ := T.info
  obtain ⟨w', hr, ho, hg⟩ := run_make_own (P := P) w 0 t e i z sz T.und hi hz' hsz .i64 .i64 n (by rw [hby]; exact hn) (by unfold maxLen; omega) (Nat.zero_le _)
  unfold ValK
  rw [hr]
  exact h w' (Own.of_row ho) ((Chg.of_grown hg).mono (fun k _ h => by cases h))
/-- copy as a step. -/
theorem copyK {P : Program} {t t' ty : TypeId} {cs : Array Bool} {vs vx v : Value} {K : Value → World → Prop} {w w' : World} (hr : (Builtin.copy_ #[t, t'] ty #[vs, vx]).run P w = .ok v w') (h : K v w') : BuiltinK P .copy #[t, t'] ty cs #[vs, vx] K w := by
  unfold BuiltinK
  simp only [builtin, Sem.run_bind, Sem.run_pure, hr, Result.andThen_ok]
  exact h
theorem appZK {P : Program} {t t' ty : TypeId} {cs : Array Bool} {vs v : Value} {k : IntKind} {n : Int} {K : Value → World → Prop} {w w' : World} (hr : (Builtin.append_ #[t, t'] ty #[vs, .int k n]).run P w = .ok v w') (h : K v w') : BuiltinK P .append #[t, t'] ty cs #[vs, .int k n] K w := by
  unfold BuiltinK
  simp only [builtin, Sem.run_bind, Sem.run_pure, hr, Result.andThen_ok]
  exact h
theorem RowAt.own2 {w : World} {e : TypeId} {sz g n cap : Nat} {xs : List Value} (h : RowAt w e sz g n cap xs) : Own w e sz (.slice (some ⟨g, 0, none⟩) n cap) n xs (some g) := .inr ⟨g, cap, rfl, rfl, h⟩
end Go.Cn
