/- draw.drawn and draw.Pick: a channel of one text, and a select over it. -/
import Derived.Test.YtijoamldocjfhaaMix
import Derived.Test.YtijoamldocjfhaaLone
import Derived.KernelRfl
import Derived.Laws.Rows
set_option linter.unusedVariables false
set_option linter.unusedSimpArgs false
namespace Go.Proofs.Ytijoamldocjfhaa
open Go.RowKit Go.Cn Go.Conc
theorem bytes9 : ∃ i, Try.prog.info? 9 = some i ∧ i.bytes = 16 := by
  have h : (Try.prog.info? 9).map (·.bytes) = some 16 := by kernel_rfl
  obtain ⟨i, hi, hb⟩ := Option.map_eq_some_iff.1 h
  exact ⟨i, hi, hb⟩
theorem mk37 (w : World) : (Instr.makeChan 37 (.int .i64 1)).run Try.prog w = .ok (.chan (some w.heap.size)) (w.alloc (.chan 1 #[] false 0 0 false)) := by
  obtain ⟨i, hi, hb⟩ := bytes9
  simpa using run_makeChan (P := Try.prog) (w := w) Try.underlying37 hi .i64 1 (by omega) (by rw [hb]; omega)
theorem qt_setChan {w w1 : World} (h : Qt w w1) {c : Nat} (hc : w.heap.size ≤ c) (cap : Nat) (buf : Array Value) (cl : Bool) (s r : Nat) (tm : Bool) : Qt w (w1.setChan c cap buf cl s r tm) :=
  Chg.none_of_below (below_setChan (Qt.below h) hc cap buf cl s r tm) _
set_option maxRecDepth 100000 in
theorem drawn_none (l : List ByteArray) (A : Option Addr) (c : Nat) (d : Int) (w : World) (hl : l = []) :
    Calls Try.prog 15 #[.slice A l.length c, .int .i64 d] w fun e w' => e = .returned (.chan (some w.heap.size)) ∧ w' = w.alloc (.chan 1 #[] false 0 0 false) := by
  subst hl
  refine calls_of_loneTo fun cs => ?_
  have e : Frame.enter Try.prog 15 #[.slice A ([] : List ByteArray).length c, .int .i64 d] .normal = (base 15).at ⟨#[.slice A ([] : List ByteArray).length c, .int .i64 d, undef, undef, undef, undef, undef, undef, undef, undef, undef, undef, undef, undef, undef, undef, undef, undef, undef], []⟩ [.code (Try.f15.body.getD .skip)] := by
    simp [Frame.enter, Frame.at, Try.func15, base, Try.f15]
  rw [e]
  have hmc := mk37
  refine LoneTo.goes (n := 60) ?_
  simp only [Try.f15, Option.getD_some, List.length_nil]
  s_c stepG_seq
  s_reg
  s_op
  s_c stepG_region_end
  s_c stepG_seq
  s_reg
  s_op
  s_op
  s_c stepG_region_end
  s_c stepG_seq
  s_c stepG_seq
  s_reg
  s_op
  s_op
  s_op
  s_c stepG_region_end
  s_cond false
  s_c stepG_skip
  s_c stepG_seq
  s_reg
  s_op
  s_op
  s_c stepG_region_end
  s_c stepG_ret'
  s_stop
  exact LoneTo.done ⟨_, _, rfl, ⟨rfl, rfl⟩, rfl, rfl, rfl, rfl, _, Try.func15, by simp [results, Try.f15, Frame.at]⟩
set_option maxRecDepth 100000 in
theorem drawn_some (n : Nat) (l : List ByteArray) (A : Option Addr) (c : Nat) (d : Int) (w : World) (hn : l.length = n + 1) (hr : Reads w A (l.map Value.string)) (hc : n + 1 ≤ 9223372036854775807) (hd : d ≤ 9223372036854775807) :
    Calls Try.prog 15 #[.slice A (n + 1) c, .int .i64 d] w fun e w' => e = .returned (.chan (some w.heap.size)) ∧ w' = (w.alloc (.chan 1 #[] false 0 0 false)).setChan w.heap.size 1 #[.string (l.getD (place d (n + 1)) default)] false 1 0 false := by
  refine calls_of_loneTo fun cs => ?_
  have e : Frame.enter Try.prog 15 #[.slice A (n + 1) c, .int .i64 d] .normal = (base 15).at ⟨#[.slice A (n + 1) c, .int .i64 d, undef, undef, undef, undef, undef, undef, undef, undef, undef, undef, undef, undef, undef, undef, undef, undef, undef], []⟩ [.code (Try.f15.body.getD .skip)] := by
    simp [Frame.enter, Frame.at, Try.func15, base, Try.f15]
  rw [e]
  have hmc := mk37
  have hq : Qt w (w.alloc (.chan 1 #[] false 0 0 false)) := Chg.alloc Qt.refl _
  have hp : place d (n + 1) < n + 1 := place_lt d (by omega)
  obtain ⟨g, o, rfl, hcell⟩ := (hr.quiet hq).get (show place d (n + 1) < l.length by omega)
  have hat : Calls Try.prog 17 #[.int .i64 d, .int .i64 ((n + 1 : Nat) : Int)] (w.alloc (.chan 1 #[] false 0 0 false)) fun e w' => e = .returned (.int .i64 (place d (n + 1))) ∧ (w.alloc (.chan 1 #[] false 0 0 false)) = w' := callK_ret fun K hK => at_any hd (by omega) (hK _ rfl)
  rw [show ((n + 1 : Nat) : Int) = (n : Int) + 1 by omega] at hat
  generalize place d (n + 1) = p at *
  have hpi : (p : Int) < (n : Int) + 1 := by omega
  generalize l.getD p default = x at *
  refine LoneTo.goes (n := 60) ?_
  simp only [Try.f15, Option.getD_some]
  s_c stepG_seq
  s_reg
  s_op
  s_c stepG_region_end
  s_c stepG_seq
  s_reg
  s_op
  s_op
  s_c stepG_region_end
  s_c stepG_seq
  s_c stepG_seq
  s_reg
  s_op
  s_op
  s_op
  s_c stepG_region_end
  s_cond true
  s_reg
  s_op
  s_op
  s_op
  s_op
  s_op
  s_stop
  refine lone_call (v := .int .i64 p) (R := fun w' => (w.alloc (.chan 1 #[] false 0 0 false)) = w') rfl rfl (by decide) rfl Try.func17 (by kernel_rfl) (by kernel_rfl) (by simp [Act.eval]) hat ?_
  rintro _ rfl
  walk_nrm
  refine LoneTo.goes (n := 60) ?_
  s_op
  s_op
  s_stop
  refine LoneTo.step (step_lone_send_room (c := w.heap.size) (cap := 1) (buf := #[]) (s := 0) (r := 0) (tm := false) (stepG_comm (cases := #[scase w.heap.size (.string x) (.tuple #[])]) (blocking := true) (shape := .send) (w' := w.alloc (.chan 1 #[] false 0 0 false)) rfl rfl (by decide) (by simp [execOp, scase, Act.eval])) (heap_alloc_new _ _) (by simp)) ?_
  rw [Frame.finish_at]
  walk_nrm
  refine LoneTo.goes (n := 60) ?_
  s_c stepG_region_end
  s_c stepG_seq
  s_reg
  s_op
  s_op
  s_c stepG_region_end
  s_c stepG_ret'
  s_stop
  exact LoneTo.done ⟨_, _, rfl, ⟨rfl, rfl⟩, rfl, rfl, rfl, rfl, _, Try.func15, by simp [results, Try.f15, Frame.at]⟩
set_option maxRecDepth 100000 in
theorem pick_some (n : Nat) (l : List ByteArray) (A : Option Addr) (c : Nat) (d : Int) (w : World) (hn : l.length = n + 1) (hr : Reads w A (l.map Value.string)) (hc : n + 1 ≤ 9223372036854775807) (hd : d ≤ 9223372036854775807) :
    Calls Try.prog 9 #[.slice A (n + 1) c, .int .i64 d] w fun e w' => e = .returned (.tuple #[.string (l.getD (place d (n + 1)) default), .bool true]) ∧ Qt w w' := by
  refine calls_of_loneTo fun cs => ?_
  have e : Frame.enter Try.prog 9 #[.slice A (n + 1) c, .int .i64 d] .normal = (base 9).at ⟨#[.slice A (n + 1) c, .int .i64 d, undef, undef, undef, undef, undef, undef, undef, undef, undef, undef, undef, undef, undef], []⟩ [.code (Try.f9.body.getD .skip)] := by
    simp [Frame.enter, Frame.at, Try.func9, base, Try.f9]
  rw [e]
  have hdr := drawn_some n l A c d w hn hr hc hd
  generalize l.getD (place d (n + 1)) default = x at *
  refine LoneTo.goes (n := 60) ?_
  simp only [Try.f9, Option.getD_some]
  s_c stepG_seq
  s_reg
  s_op
  s_op
  s_c stepG_region_end
  s_c stepG_seq
  s_reg
  s_op
  s_op
  s_stop
  refine lone_call (v := .chan (some w.heap.size)) (R := fun w' => w' = (w.alloc (.chan 1 #[] false 0 0 false)).setChan w.heap.size 1 #[.string x] false 1 0 false) rfl rfl (by decide) rfl Try.func15 (by kernel_rfl) (by kernel_rfl) (by simp [Act.eval]) hdr ?_
  rintro _ rfl
  walk_nrm
  refine LoneTo.goes (n := 60) ?_
  s_c stepG_region_end
  s_c stepG_seq
  s_reg
  s_stop
  refine LoneTo.step (step_lone_select_recv_buf (c := w.heap.size) (z := .string (ByteArray.mk #[])) (stepG_comm (cases := #[rcase w.heap.size (.string (ByteArray.mk #[]))]) (blocking := false) (shape := .select) (w' := ((w.alloc (.chan 1 #[] false 0 0 false)).setChan w.heap.size 1 #[.string x] false 1 0 false)) rfl rfl (by decide) (by simp [go_sem, execOp, rcase, Act.eval])) (heap_setChan (w.alloc (.chan 1 #[] false 0 0 false)) w.heap.size 1 #[.string x] false 1 0 false (by simp)) (by simp)) ?_
  rw [Frame.finish_at]
  walk_nrm
  refine LoneTo.goes (n := 60) ?_
  s_op
  s_op
  s_c stepG_region_end
  s_c stepG_block
  s_cond true
  s_c stepG_seq
  s_reg
  s_op
  s_op
  s_c stepG_region_end
  s_c stepG_seq
  s_reg
  s_op
  s_op
  s_op
  s_c stepG_region_end
  s_c stepG_ret'
  s_stop
  exact LoneTo.done ⟨_, _, rfl, ⟨rfl, qt_setChan (qt_setChan (Chg.alloc Qt.refl _) (Nat.le_refl _) _ _ _ _ _ _) (Nat.le_refl _) _ _ _ _ _ _⟩, rfl, rfl, rfl, rfl, _, Try.func9, by simp [results, Try.f9, Frame.at]⟩
set_option maxRecDepth 100000 in
theorem pick_none (A : Option Addr) (c : Nat) (d : Int) (w : World) :
    Calls Try.prog 9 #[.slice A 0 c, .int .i64 d] w fun e w' => e = .returned (.tuple #[.string (ByteArray.mk #[]), .bool false]) ∧ Qt w w' := by
  refine calls_of_loneTo fun cs => ?_
  have e : Frame.enter Try.prog 9 #[.slice A 0 c, .int .i64 d] .normal = (base 9).at ⟨#[.slice A 0 c, .int .i64 d, undef, undef, undef, undef, undef, undef, undef, undef, undef, undef, undef, undef, undef], []⟩ [.code (Try.f9.body.getD .skip)] := by
    simp [Frame.enter, Frame.at, Try.func9, base, Try.f9]
  rw [e]
  have hdr := drawn_none [] A c d w rfl
  rw [List.length_nil] at hdr
  refine LoneTo.goes (n := 60) ?_
  simp only [Try.f9, Option.getD_some]
  s_c stepG_seq
  s_reg
  s_op
  s_op
  s_c stepG_region_end
  s_c stepG_seq
  s_reg
  s_op
  s_op
  s_stop
  refine lone_call (v := .chan (some w.heap.size)) (R := fun w' => w' = w.alloc (.chan 1 #[] false 0 0 false)) rfl rfl (by decide) rfl Try.func15 (by kernel_rfl) (by kernel_rfl) (by simp [Act.eval]) hdr ?_
  rintro _ rfl
  walk_nrm
  refine LoneTo.goes (n := 60) ?_
  s_c stepG_region_end
  s_c stepG_seq
  s_reg
  s_stop
  refine LoneTo.step (step_lone_select_default (c := w.heap.size) (z := .string (ByteArray.mk #[])) (cap := 1) (s := 0) (r := 0) (tm := false) (stepG_comm (cases := #[rcase w.heap.size (.string (ByteArray.mk #[]))]) (blocking := false) (shape := .select) (w' := (w.alloc (.chan 1 #[] false 0 0 false))) rfl rfl (by decide) (by simp [go_sem, execOp, rcase, Act.eval])) (heap_alloc_new _ _)) ?_
  rw [Frame.finish_at]
  walk_nrm
  refine LoneTo.goes (n := 60) ?_
  s_op
  s_op
  s_c stepG_region_end
  s_c stepG_block
  s_cond false
  s_c stepG_seq
  s_reg
  s_op
  s_op
  s_c stepG_region_end
  s_c stepG_ret'
  s_stop
  exact LoneTo.done ⟨_, _, rfl, ⟨rfl, Chg.alloc Qt.refl _⟩, rfl, rfl, rfl, rfl, _, Try.func9, by simp [results, Try.f9, Frame.at]⟩
end Go.Proofs.Ytijoamldocjfhaa
