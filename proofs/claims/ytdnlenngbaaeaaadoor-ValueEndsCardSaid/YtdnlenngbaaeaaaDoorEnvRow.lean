/- What a row's conditions tell of the listed variables. -/
import Derived.Test.YtdnlenngbaaeaaaDoorAnyLaw
import Derived.Test.YtdnlenngbaaeaaaDoorNumLaw
import Derived.Test.YtdnlenngbaaeaaaDoorL1
import Derived.Test.YtdnlenngbaaeaaaDoorWrap
import Derived.Test.YtdnlenngbaaeaaaDoorVars
set_option linter.unusedVariables false
set_option linter.unusedSimpArgs false
namespace Go.Proofs.YtdnlenngbaaeaaaDoor
open Go.RowKit Go.Cn Go.ChangeShapes Go.WideShapes
theorem env_row {W : World} (hL : laidMetH Tryd.prog Rows.valueAnyRow.laid W) (hsh : W.ShapedOpen Tryd.prog) : Env2 W := by
  rw [MakeChecks.laidMetH_plain _ _ _ (by kernel_rfl)] at hL
  obtain ⟨ps, hv, _⟩ := hL
  refine ⟨cell_of_shapedOpen_int (P := Tryd.prog) (g := 3) (t := 3) (zero := #[.int .i64 0]) hsh (of_decide_eq_true (by kernel_rfl)) (by kernel_rfl) rfl (by kernel_rfl) (by kernel_rfl) Tryd.underlying3, ?_,
    cell_of_vars_iface (name := "strconv.ErrSyntax") (by kernel_rfl) (by kernel_rfl) Tryd.underlying88 (laidVars_tail (laidVars_tail (laidVars_tail (laidVars_tail (laidVars_tail ⟨ps, hv⟩))))),
    cell_of_vars_iface (name := "strconv.ErrRange") (by kernel_rfl) (by kernel_rfl) Tryd.underlying88 (laidVars_tail (laidVars_tail (laidVars_tail (laidVars_tail ⟨ps, hv⟩))))⟩
  exact tabIs_of_vars g0 (by kernel_rfl) Tryd.underlying98 Tryd.underlying63 (by kernel_rfl) (by kernel_rfl) (laidVars_tail (laidVars_tail ⟨ps, hv⟩))
end Go.Proofs.YtdnlenngbaaeaaaDoor
