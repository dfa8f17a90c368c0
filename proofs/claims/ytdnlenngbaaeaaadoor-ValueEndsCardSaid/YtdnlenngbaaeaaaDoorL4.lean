/- Rows made, and stored into. -/
import Derived.Test.YtdnlenngbaaeaaaDoorV2
import Derived.Test.YtdnlenngbaaeaaaDoorL3
import Derived.Laws.MakeOwn
import Derived.Laws.OwnMore
set_option linter.unusedVariables false
set_option linter.unusedSimpArgs false
namespace Go.Cn
open Go.RowKit
theorem RowAt.store {w : World} {e : TypeId} {g n cap : Nat} {xs : List Value} (h : RowAt w e 1 g n cap xs) (p : Nat) (v : Value) : RowAt (w.setCell ⟨g, p, none⟩ v) e 1 g n cap (xs.set p v) := by
  obtain ⟨hl, cur, hb, h1, h2, h3, h4⟩ := h
  refine ⟨by simpa using hl, cur.setIfInBounds p v, blk_set hb p v, h1, h2, by simpa using h3, ?_⟩
  rw [← h4]
  simp [List.take_set]
theorem RowAt.own {w : World} {e : TypeId} {g n cap : Nat} {xs : List Value} (h : RowAt w e 1 g n cap xs) : Own w e 1 (.slice (some ⟨g, 0, none⟩) n cap) n xs (some g) := .inr ⟨g, cap, rfl, rfl, h⟩
theorem makeK {P : Program} {t e : TypeId} {z : Value} {bytes : Nat} (T : ElemTy P t e z 1 bytes) (hz : z.cells = #[z]) (n : Nat) (hn : bytes * n ≤ 281474976710656) (hn2 : n ≤ 9223372036854775807) {K : Value → World → Prop} {w : World}
    (h : ∀ w', RowAt w' e 1 w.heap.size n n (List.replicate n z) → Qt w w' → K (.slice (some ⟨w.heap.size, 0, none⟩) n n) w') : ValK P (Instr.makeSlice t (.int .i64 n) (.int .i64 n)) K w := by
  obtain ⟨i, hi, hz', hsz, hby⟩ := T.info
  obtain ⟨w', hr, ho, hg⟩ := run_make_full (P := P) w 0 t e i z 1 T.und hi hz' hsz .i64 .i64 n (by rw [hby]; exact hn) (by unfold maxLen; omega) (Nat.zero_le _)
  unfold ValK
  rw [hr]
  refine h w' ?_ ((Chg.of_grown hg).mono (fun k _ h => by cases h))
  have := Own.of_row ho
  rcases this with ⟨h, _⟩ | ⟨g, cap, hv, _, hrow⟩
  · cases h
  · cases hv
    rw [hz] at hrow
    have e : (madeCells #[z] (n * 1)).toList = List.replicate n z := by
      simp only [madeCells, Array.toList_map, Array.toList_range, Nat.mul_one]
      apply List.ext_getElem
      · simp
      · intro i h1 h2
        simp [Nat.mod_one]
    rw [e] at hrow
    exact hrow
end Go.Cn
