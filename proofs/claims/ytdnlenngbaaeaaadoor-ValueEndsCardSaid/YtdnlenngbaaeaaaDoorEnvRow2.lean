/- The laws of this chapter as calls with arguments that are read. -/
import Derived.Test.YtdnlenngbaaeaaaDoorEnvRow
set_option linter.unusedVariables false
set_option linter.unusedSimpArgs false
namespace Go.Proofs.YtdnlenngbaaeaaaDoor
open Go.RowKit Go.Cn Go.ChangeShapes Go.WideShapes
abbrev RVal : World → List Value → Val → Prop := RPair 1 (RInt .i64) (RPair 1 (RInt .i64) (RPair 1 RStr (RSlice 1 (RInt .i64))))
theorem opens_val : Opens Tryd.prog 24 RVal := by
  refine opens_struct4 1 1 1 1 Tryd.underlying24 (opens_int Tryd.underlying3) (opens_int Tryd.underlying2) (opens_str Tryd.underlying9) (opens_slice Tryd.underlying22 (by kernel_rfl) (opens_int Tryd.underlying2)) ?_ ?_ ?_ ?_ ?_ ?_ ?_ ?_ ?_ <;> kernel_rfl
theorem in64_wf {n : Int} (h : (Lit.int .i64 n).wf = true) : in64 n := ⟨(bounds_i64 h).1, (bounds_i64 h).2⟩
/-- What an argument's struct tells. -/
structure ValOk (w : World) (A : Option Addr) (v : Val) : Prop where
  reads : Reads w A (ints v.2.2.2)
  num : in64 v.2.1
  list : ∀ x ∈ v.2.2.2, in64 x
theorem val_cells {w : World} {cs : List Value} {x : Val} (h : RVal w cs x) (hl : cs.length = 4) : ∃ A c, cs = [.int .i64 x.1, .int .i64 x.2.1, .string x.2.2.1, .slice A x.2.2.2.length c] ∧ ValOk w A x := by
  match cs, hl with
  | [a, b, c, d], _ =>
    obtain ⟨⟨h1, _⟩, ⟨h2, h3⟩, ⟨h4, _⟩, A, cap, h5, _, _, hr⟩ := h
    have e1 : a = .int .i64 x.1 := by simpa using h1
    have e2 : b = .int .i64 x.2.1 := by simpa using h2
    have e3 : c = .string x.2.2.1 := by simpa using h4
    have e4 : d = .slice A x.2.2.2.length cap := by simpa using h5
    refine ⟨A, cap, by rw [e1, e2, e3, e4], ⟨Reads.of_row (enc := fun z => Value.int .i64 z) rint_one hr, in64_wf h3, fun z hz => ?_⟩⟩
    obtain ⟨i, hi, rfl⟩ := List.mem_iff_getElem.1 hz
    obtain ⟨cs, h, hw⟩ := hr.elem hi
    exact in64_wf hw
theorem valueTexts_walk (s : ByteArray) (w : World) (he : Env2 w) (hs : s.size ≤ 9223372036854775807) :
    Calls Tryd.prog 4 #[.string s] w fun e w' => e = .returned (.bool true) ∧ Below w.heap.size w w' :=
  callK_ret fun R hR => valueTexts_any he (fun w' q => hR _ (Qt.below q))
theorem valueSums_walk (a b : Int) (w : World) (he : Env2 w) (ha1 : -9223372036854775808 ≤ a) (ha2 : a ≤ 9223372036854775807) (hb1 : -9223372036854775808 ≤ b) (hb2 : b ≤ 9223372036854775807) :
    Calls Tryd.prog 7 #[.int .i64 a, .int .i64 b] w fun e w' => e = .returned (.bool true) ∧ Below w.heap.size w w' :=
  callK_ret fun R hR => valueSums_any he ⟨ha1, ha2⟩ ⟨hb1, hb2⟩ (fun w' q => hR _ (Qt.below q))
theorem valueDivs_walk (a b : Int) (w : World) (he : Env2 w) (ha1 : -9223372036854775808 ≤ a) (ha2 : a ≤ 9223372036854775807) (hb1 : -9223372036854775808 ≤ b) (hb2 : b ≤ 9223372036854775807) :
    Calls Tryd.prog 6 #[.int .i64 a, .int .i64 b] w fun e w' => e = .returned (.bool true) ∧ Below w.heap.size w w' :=
  callK_ret fun R hR => valueDivs_any he ⟨ha1, ha2⟩ ⟨hb1, hb2⟩ (fun w' q => hR _ (Qt.below q))
theorem valueEnds_walk (a b c : Int) (w : World) (he : Env2 w) (ha1 : -9223372036854775808 ≤ a) (ha2 : a ≤ 9223372036854775807) (hb1 : -9223372036854775808 ≤ b) (hb2 : b ≤ 9223372036854775807) (hc1 : -9223372036854775808 ≤ c) (hc2 : c ≤ 9223372036854775807) :
    Calls Tryd.prog 8 #[.int .i64 a, .int .i64 b, .int .i64 c] w fun e w' => e = .returned (.bool true) ∧ Below w.heap.size w w' :=
  callK_ret fun R hR => valueEnds_any he ⟨ha1, ha2⟩ ⟨hb1, hb2⟩ ⟨hc1, hc2⟩ (fun w' q => hR _ (Qt.below q))
theorem valueAny_walk (a : Val) (A : Option Addr) (ca : Nat) (b : Val) (B : Option Addr) (cb : Nat) (w : World) (he : Env2 w) (ha : ValOk w A a) (hb : ValOk w B b) :
    Calls Tryd.prog 3 #[vv a A ca, vv b B cb] w fun e w' => e = .returned (.bool true) ∧ Below w.heap.size w w' :=
  callK_ret fun R hR => valueAny_any he ha.reads hb.reads ha.num ha.list (fun w' q => hR _ (Qt.below q))
theorem valueOrder_walk (a : Val) (A : Option Addr) (ca : Nat) (b : Val) (B : Option Addr) (cb : Nat) (c : Val) (C : Option Addr) (cc : Nat) (w : World) (he : Env2 w) (ha : ValOk w A a) (hb : ValOk w B b) (hc : ValOk w C c) :
    Calls Tryd.prog 5 #[vv a A ca, vv b B cb, vv c C cc] w fun e w' => e = .returned (.bool true) ∧ Below w.heap.size w w' :=
  callK_ret fun R hR => valueOrder_any he ha.reads hb.reads hc.reads (fun w' q => hR _ (Qt.below q))
end Go.Proofs.YtdnlenngbaaeaaaDoor
