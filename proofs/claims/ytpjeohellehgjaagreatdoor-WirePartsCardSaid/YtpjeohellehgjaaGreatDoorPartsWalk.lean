/- WireParts as a call with arguments that are read. -/
import Derived.Test.YtpjeohellehgjaaGreatDoorPartsLaw
import Derived.Test.YtpjeohellehgjaaGreatDoorZG
set_option linter.unusedVariables false
set_option linter.unusedSimpArgs false
namespace Go.Proofs.YtpjeohellehgjaaGreatDoor
open Go.RowKit Go.Cn Go.Cn.Num Go.ChangeShapes Go.WideShapes
/-- What an argument's value tells. -/
structure ValOk (w : World) (A : Option Addr) (v : Val) : Prop where
  reads : Reads w A (ints v.2.2.2)
  kind : in64 v.1
  num : in64 v.2.1
  list : ∀ x ∈ v.2.2.2, in64 x
theorem val_cells {w : World} {cs : List Value} {x : Val} (h : RVal w cs x) (hl : cs.length = 4) : ∃ A c, cs = [.int .i64 x.1, .int .i64 x.2.1, .string x.2.2.1, .slice A x.2.2.2.length c] ∧ ValOk w A x := by
  match cs, hl with
  | [a, b, c, d], _ =>
    obtain ⟨⟨h1, h0⟩, ⟨h2, h3⟩, ⟨h4, _⟩, A, cap, h5, _, _, hr⟩ := h
    have e1 : a = .int .i64 x.1 := by simpa using h1
    have e2 : b = .int .i64 x.2.1 := by simpa using h2
    have e3 : c = .string x.2.2.1 := by simpa using h4
    have e4 : d = .slice A x.2.2.2.length cap := by simpa using h5
    refine ⟨A, cap, by rw [e1, e2, e3, e4], ⟨Reads.of_row (enc := fun z => Value.int .i64 z) rint_one hr, in64_wf h0, in64_wf h3, fun z hz => ?_⟩⟩
    obtain ⟨i, hi, rfl⟩ := List.mem_iff_getElem.1 hz
    obtain ⟨cs, h, hw⟩ := hr.elem hi
    exact in64_wf hw
theorem stm_cells {w : World} {cs : List Value} {x : Stm} (h : RStm w cs x) (hl : cs.length = 4) : cs = [.int .i64 x.1, .int .i64 x.2.1, .int .i64 x.2.2.1, .string x.2.2.2] ∧ (in64 x.1 ∧ in64 x.2.1 ∧ in64 x.2.2.1) := by
  match cs, hl with
  | [a, b, c, d], _ =>
    obtain ⟨⟨h1, z1⟩, ⟨h2, z2⟩, ⟨h3, z3⟩, ⟨h4, z4⟩⟩ := h
    have e1 : a = .int .i64 x.1 := by simpa using h1
    have e2 : b = .int .i64 x.2.1 := by simpa using h2
    have e3 : c = .int .i64 x.2.2.1 := by simpa using h3
    have e4 : d = .string x.2.2.2 := by simpa using h4
    exact ⟨by rw [e1, e2, e3, e4], in64_wf z1, in64_wf z2, in64_wf z3⟩
theorem wireParts_walk (v : Val) (V : Option Addr) (cv : Nat) (u : Stm) (x : RowD) (A : Option Addr) (c : Nat) (hs : List AttH) (w : World) (hm : MaxAt w) (hv : ValOk w V v) (hu : in64 u.1 ∧ in64 u.2.1 ∧ in64 u.2.2.1) (h : RowArg w A x hs) :
    Calls Tryz.prog 6 #[vv v V cv, stV u, rowV x.1 x.2.1 A hs.length c] w fun e w' => e = .returned (.bool true) ∧ Below w.heap.size w w' :=
  callK_ret fun R hR => wireParts_any hm hv.reads hv.kind hv.num hv.list hu.1 hu.2.1 hu.2.2 h.atts (by rw [h.map]; exact h.ok) (fun w' q => hR _ (Qt.below q))
end Go.Proofs.YtpjeohellehgjaaGreatDoor
