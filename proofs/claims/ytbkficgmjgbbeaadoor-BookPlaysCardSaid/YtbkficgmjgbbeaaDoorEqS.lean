/- Structs of three cells compared. -/
import Derived.Test.YtbkficgmjgbbeaaDoorBookR
import Derived.Laws.StructEq
set_option linter.unusedVariables false
set_option linter.unusedSimpArgs false
set_option maxRecDepth 100000
namespace Go.Proofs.YtbkficgmjgbbeaaDoor
open Go.RowKit Go.Cn
theorem fields33 : Tryd.prog.underlying 33 = some (.struct (Tryd.prog.fieldsOf 33)) := by unfold Program.fieldsOf; rw [Tryd.underlying33]
theorem fields28 : Tryd.prog.underlying 28 = some (.struct (Tryd.prog.fieldsOf 28)) := by unfold Program.fieldsOf; rw [Tryd.underlying28]
theorem ent_eq (a b : Ent) : (a.1.toList == b.1.toList && (a.2.1 == b.2.1 && a.2.2 == b.2.2)) = decide (a = b) := by
  obtain ⟨a1, a2, a3⟩ := a
  obtain ⟨b1, b2, b3⟩ := b
  by_cases h : a1 = b1
  · subst h
    by_cases h2 : a2 = b2
    · subst h2
      by_cases h3 : a3 = b3
      · subst h3; simp
      · simp [h3]
    · simp [h2]
  · have : (a1.toList == b1.toList) = false := by rw [beq_eq_false_iff_ne]; exact fun e => h (toList_inj e)
    simp [this, h]
theorem eqIn33 (a b : Ent) (w : World) : (Op.equalIn 10000 33 (SE.ev a) (SE.ev b)).run Tryd.prog w = .ok (decide (a = b)) w := by
  rw [← ent_eq, run_equalIn_agg w 9999 33 _ _ fields33 (by kernel_rfl)]
  unfold Program.fieldsOf
  rw [Tryd.underlying33]
  go_simp
  by_cases h1 : a.1.toList = b.1.toList
  · by_cases h2 : a.2.1 = b.2.1
    · by_cases h3 : a.2.2 = b.2.2 <;> simp [h1, h2, h3]
    · simp [h1, h2]
  · simp [h1]
theorem eqIn28 (a b : Ent) (w : World) : (Op.equalIn 10000 28 (SE.ev a) (SE.ev b)).run Tryd.prog w = .ok (decide (a = b)) w := by
  rw [← ent_eq, run_equalIn_agg w 9999 28 _ _ fields28 (by kernel_rfl)]
  unfold Program.fieldsOf
  rw [Tryd.underlying28]
  go_simp
  by_cases h1 : a.1.toList = b.1.toList
  · by_cases h2 : a.2.1 = b.2.1
    · by_cases h3 : a.2.2 = b.2.2 <;> simp [h1, h2, h3]
    · simp [h1, h2]
  · simp [h1]
theorem kneqE (a b : Ent) (K : Value → World → Prop) (w : World) : BinK Tryd.prog .neq 33 (SE.ev a) (SE.ev b) K w = K (.bool (!decide (a = b))) w := by
  have h1 : ∀ xo yo, (eqGuard .neq 33 xo yo (SE.ev a) (SE.ev b)).run Tryd.prog w = .ok () w := fun xo yo => run_eqGuard_agg w .neq 33 xo yo _ _ (by kernel_rfl)
  have h2 : (binOp .neq 33 (SE.ev a) (SE.ev b)).run Tryd.prog w = .ok (.bool (!decide (a = b))) w := by rw [run_neq_struct, eqIn33]; rfl
  unfold BinK ResK
  rw [h2]
  exact propext ⟨fun h => h.2, fun h => ⟨h1, h⟩⟩
theorem keqE28 (a b : Ent) (K : Value → World → Prop) (w : World) : BinK Tryd.prog .eql 28 (SE.ev a) (SE.ev b) K w = K (.bool (decide (a = b))) w := by
  have h1 : ∀ xo yo, (eqGuard .eql 28 xo yo (SE.ev a) (SE.ev b)).run Tryd.prog w = .ok () w := fun xo yo => run_eqGuard_agg w .eql 28 xo yo _ _ (by kernel_rfl)
  have h2 : (binOp .eql 28 (SE.ev a) (SE.ev b)).run Tryd.prog w = .ok (.bool (decide (a = b))) w := by rw [run_eql_struct, eqIn28]; rfl
  unfold BinK ResK
  rw [h2]
  exact propext ⟨fun h => h.2, fun h => ⟨h1, h⟩⟩
end Go.Proofs.YtbkficgmjgbbeaaDoor
