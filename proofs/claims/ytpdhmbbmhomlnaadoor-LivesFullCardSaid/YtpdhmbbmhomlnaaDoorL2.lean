/- More of what L0 has: delete-by-copy with the world between. -/
import Derived.Test.YtpdhmbbmhomlnaaDoorL0
set_option linter.unusedVariables false
set_option linter.unusedSimpArgs false
namespace Go.Cn
open Go.RowKit
theorem cut_runs2 {P : Program} {w : World} {t e : TypeId} {z : Value} {bytes : Nat} (T : ElemTy P t e z 1 bytes) {g n cap k : Nat} {xs : List Value} (hr : RowAt w e 1 g n cap xs) (hk : k < n) (h1 : ∀ u ∈ xs, u.oneCell' = true) (hb : n * bytes ≤ 140737488355328) (ty : TypeId) :
    ∃ A, (if cap = k + 1 then some (⟨g, 0, none⟩ : Addr) else some ⟨g, k + 1, none⟩) = some A ∧ ∃ A1 c1 w2, (Builtin.append_ #[t, t] ty #[.slice (some ⟨w.heap.size, 0, none⟩) 0 0, .slice (some ⟨g, 0, none⟩) k cap]).run P (w.alloc (.cells #[] e)) = .ok (.slice A1 k c1) w2 ∧ Chg (fun _ => False) w w2 ∧
    ∃ A2 c2 F2 w3, (Builtin.append_ #[t, t] ty #[.slice A1 k c1, .slice (some A) (n - (k + 1)) (cap - (k + 1))]).run P w2 = .ok (.slice A2 (n - 1) c2) w3 ∧ Own w3 e 1 (.slice A2 (n - 1) c2) (n - 1) (xs.take k ++ xs.drop (k + 1)) F2 ∧ Chg (fun _ => False) w w3 ∧ (∀ k, F2 = some k → w.heap.size ≤ k) := by
  have hlen : xs.length = n := by have := hr.1; omega
  have hcap := hr.cap_le
  have hbk : ∀ q, q ≤ n → q * bytes ≤ 140737488355328 := fun q hq => Nat.le_trans (Nat.mul_le_mul_right _ hq) hb
  obtain ⟨A, hA, hsrc⟩ : ∃ A : Addr, (if cap = k + 1 then some (⟨g, 0, none⟩ : Addr) else some ⟨g, k + 1, none⟩) = some A ∧ (A.block = g ∧ Src w (some A) (xs.drop (k + 1))) := by
    by_cases h : cap = k + 1
    · refine ⟨⟨g, 0, none⟩, by simp [h], rfl, ?_⟩
      rw [List.drop_eq_nil_of_le (by omega)]
      exact Src.nil _ _
    · refine ⟨⟨g, k + 1, none⟩, by simp [h], rfl, fun j u hu => ⟨_, rfl, ?_⟩⟩
      rw [List.getElem?_drop] at hu
      have hk := (List.getElem?_eq_some_iff.1 hu).1
      rw [Addr.add_lit, hr.cell (k + 1 + j) (by omega)]
      exact hu
  obtain ⟨A1, c1, F1, w2, h2, ho2, hc2, hf2⟩ := apart_run T (some ⟨g, 0, none⟩) k cap (xs.take k) (by simp; omega) (fun j u hj => by
    rw [List.getElem?_take] at hj
    split at hj
    · refine ⟨_, rfl, ?_⟩
      rw [Addr.add_lit, Nat.zero_add, hr.cell j (by omega)]; exact hj
    · cases hj) (fun u hu => h1 u (List.mem_of_mem_take hu)) (hbk k (by omega)) (by omega) ty
  obtain ⟨A2, c2, F2, w3, h3, ho3, hc3, hf3⟩ := app_run T ho2 (some A) (n - (k + 1)) (cap - (k + 1)) (xs.drop (k + 1)) (by simp; omega) (hsrc.2.chg hc2 (fun _ _ h => h)) (fun u hu => h1 u (List.mem_of_mem_drop hu)) (hbk _ (by omega)) (by omega) ty
  have e1 : k + (n - (k + 1)) = n - 1 := by omega
  rw [e1] at h3 ho3
  refine ⟨A, hA, A1, c1, w2, h2, hc2, A2, c2, F2, w3, h3, ho3, hc2.then hc3 (fun i hi => .inr (hf2 i hi)), fun j hj => ?_⟩
  rcases hf3 j hj with h | h
  · exact hf2 j h
  · have := hc2.size; omega
end Go.Cn
