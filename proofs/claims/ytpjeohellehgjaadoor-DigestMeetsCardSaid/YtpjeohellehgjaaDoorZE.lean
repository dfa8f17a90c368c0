import Derived.Test.YtpjeohellehgjaaDoorL1
import Derived.Test.YtpjeohellehgjaaDoorTie
import Derived.Test.YtpjeohellehgjaaDoorCards
import Derived.ProofKit
import Derived.OpenShut
import Derived.LaidMore
import Derived.Lay
import Derived.SevenTiedAt
import Derived.Stop.Joined
import Derived.Shelf.Vars
import Derived.Deep.DeepHandedRow
import Derived.Test.YtpjeohellehgjaaDoorZD
section
/- Rows as arguments of a law: how they read. -/
set_option linter.unusedVariables false
set_option linter.unusedSimpArgs false
namespace Go.Proofs.YtpjeohellehgjaaDoor
open Go.RowKit Go.Cn Go.Cn.Num Go.ChangeShapes Go.WideShapes
def AttOk (a : Att) : Prop := a.1.size ≤ 9223372036854775807 ∧ in64 a.2.1 ∧ in64 a.2.2.1 ∧ (∀ x ∈ a.2.2.2.2, in64 x) ∧ a.2.2.2.1.size ≤ 9223372036854775807
def StmOk (s : Stm) : Prop := in64 s.1 ∧ in64 s.2.1 ∧ in64 s.2.2.1 ∧ s.2.2.2.size ≤ 9223372036854775807
def RowOk (r : RowD) : Prop := r.1.size ≤ 9223372036854775807 ∧ StmOk r.2.1 ∧ ∀ a ∈ r.2.2, AttOk a
abbrev RVal : World → List Value → Val → Prop := RPair 1 (RInt .i64) (RPair 1 (RInt .i64) (RPair 1 RStr (RSlice 1 (RInt .i64))))
abbrev RStm : World → List Value → Stm → Prop := RPair 1 (RInt .i64) (RPair 1 (RInt .i64) (RPair 1 (RInt .i64) RStr))
abbrev RAtt : World → List Value → Att → Prop := RPair 1 RStr RVal
abbrev RRowD : World → List Value → RowD → Prop := RPair 1 RStr (RPair 4 RStm (RSlice 5 RAtt))
theorem opens_val : Opens Tryd.prog 126 RVal := by
  refine opens_struct4 1 1 1 1 Tryd.underlying126 (opens_int Tryd.underlying3) (opens_int Tryd.underlying2) (opens_str Tryd.underlying9) (opens_slice Tryd.underlying80 (by kernel_rfl) (opens_int Tryd.underlying2)) ?_ ?_ ?_ ?_ ?_ ?_ ?_ ?_ ?_ <;> kernel_rfl
theorem opens_stm : Opens Tryd.prog 52 RStm := by
  refine opens_struct4 1 1 1 1 Tryd.underlying52 (opens_int Tryd.underlying2) (opens_int Tryd.underlying2) (opens_int Tryd.underlying2) (opens_str Tryd.underlying9) ?_ ?_ ?_ ?_ ?_ ?_ ?_ ?_ ?_ <;> kernel_rfl
theorem opens_att : Opens Tryd.prog 128 RAtt := by
  refine opens_struct2 1 4 Tryd.underlying128 (opens_str Tryd.underlying9) opens_val ?_ ?_ ?_ ?_ ?_ <;> kernel_rfl
theorem opens_row : Opens Tryd.prog 55 RRowD := by
  refine opens_struct3 1 4 1 Tryd.underlying55 (opens_str Tryd.underlying9) opens_stm (opens_slice Tryd.underlying53 (by kernel_rfl) opens_att) ?_ ?_ ?_ ?_ ?_ ?_ ?_ <;> kernel_rfl
theorem rrow_choose {sz : Nat} {α β : Type} [Inhabited β] {R : World → List Value → α → Prop} {C : β → List Value} {Q : β → α → Prop} {w : World} {A : Option Addr} {l : List α} (h : RRow sz R w A l) (hq : ∀ cs x, R w cs x → cs.length = sz → ∃ y, cs = C y ∧ Q y x) :
    ∃ ys : List β, ys.length = l.length ∧ (∀ i (h1 : i < ys.length) (h2 : i < l.length), Q ys[i] l[i]) ∧ RRow sz (fun _ cs y => cs = C y) w A ys := by
  obtain ⟨f, hf⟩ := Deep.choose_lt (n := l.length) (p := fun i (y : β) => ∃ (hi : i < l.length) (ad : Addr), A = some ad ∧ (C y).length = sz ∧ (∀ j, j < sz → w.cell? (ad.add (i * sz + j)) = (C y)[j]?) ∧ Q y l[i]) (fun i hi => by
    obtain ⟨ad, cs, h1, h2, h3, h4⟩ := h i hi
    obtain ⟨y, rfl, hy⟩ := hq cs _ h2 h3
    exact ⟨y, hi, ad, h1, h3, h4, hy⟩)
  refine ⟨(List.range l.length).map f, by simp, fun i h1 h2 => ?_, fun i hi => ?_⟩
  · obtain ⟨_, ad, _, _, _, hq⟩ := hf i h2
    simpa using hq
  · have hi' : i < l.length := by simpa using hi
    obtain ⟨_, ad, h1, h3, h4, _⟩ := hf i hi'
    refine ⟨ad, C (f i), h1, ?_, h3, h4⟩
    simp
theorem map_of_all {α β γ : Type} {ys : List β} {l : List α} {g : β → γ} {g' : α → γ} (hl : ys.length = l.length) (h : ∀ i (h1 : i < ys.length) (h2 : i < l.length), g ys[i] = g' l[i]) : ys.map g = l.map g' := by
  apply List.ext_getElem
  · simp [hl]
  · intro i h1 h2
    simp only [List.getElem_map]
    exact h i (by simpa using h1) (by simpa using h2)
theorem in64_wf {n : Int} (h : (Lit.int .i64 n).wf = true) : in64 n := ⟨(bounds_i64 h).1, (bounds_i64 h).2⟩
theorem att_cells {w : World} {cs : List Value} {x : Att} (h : RAtt w cs x) (hl : cs.length = 5) : ∃ y : AttH, cs = attC y ∧ (attP y = x ∧ Reads w y.2.2.1 (ints' y.2.1.2.2.2) ∧ AttOk x) := by
  match cs, hl with
  | [n, a, b, c, d], _ =>
    obtain ⟨⟨h0, z0⟩, ⟨h1, z1⟩, ⟨h2, z2⟩, ⟨h4, z4⟩, A, cap, h5, _, _, hr⟩ := h
    have e0 : n = .string x.1 := by simpa using h0
    have e1 : a = .int .i64 x.2.1 := by simpa using h1
    have e2 : b = .int .i64 x.2.2.1 := by simpa using h2
    have e3 : c = .string x.2.2.2.1 := by simpa using h4
    have e4 : d = .slice A x.2.2.2.2.length cap := by simpa using h5
    refine ⟨(x.1, x.2, A, cap), by rw [e0, e1, e2, e3, e4]; rfl, rfl, Reads.of_row (enc := fun z => Value.int .i64 z) rint_one hr, z0, in64_wf z1, in64_wf z2, fun z hz => ?_, z4⟩
    obtain ⟨i, hi, rfl⟩ := List.mem_iff_getElem.1 hz
    obtain ⟨cs, h, hw⟩ := hr.elem hi
    exact in64_wf hw
theorem atts_arg {w : World} {A : Option Addr} {l : List Att} (h : RRow 5 RAtt w A l) : ∃ hs : List AttH, hs.map attP = l ∧ AttsAt w A hs ∧ ∀ a ∈ l, AttOk a := by
  obtain ⟨ys, hl, hq, hr⟩ := rrow_choose h (fun cs x => att_cells)
  have hm : ys.map attP = l := by
    have := map_of_all (g := attP) (g' := id) hl (fun i h1 h2 => (hq i h1 h2).1)
    simpa using this
  refine ⟨ys, hm, ⟨Reads.of_rows (by omega) attC_len (fun _ _ _ h _ => h) hr, fun x hx => ?_⟩, fun a ha => ?_⟩
  · obtain ⟨i, hi, rfl⟩ := List.mem_iff_getElem.1 hx
    exact (hq i hi (by omega)).2.1
  · obtain ⟨i, hi, rfl⟩ := List.mem_iff_getElem.1 ha
    exact (hq i (by omega) hi).2.2
/-- What an argument's row tells. -/
structure RowArg (w : World) (A : Option Addr) (x : RowD) (hs : List AttH) : Prop where
  atts : AttsAt w A hs
  map : hs.map attP = x.2.2
  ok : RowOk x
theorem row_cells {w : World} {cs : List Value} {x : RowD} (h : RRowD w cs x) (hl : cs.length = 6) : ∃ y : RowH, cs = rowC y ∧ (rowP y = x ∧ RowArg w y.2.2.1 x y.2.2.2.2) := by
  match cs, hl with
  | [k, a, b, c, d, e], _ =>
    obtain ⟨⟨h0, z0⟩, ⟨⟨h1, z1⟩, ⟨h2, z2⟩, ⟨h3, z3⟩, ⟨h4, z4⟩⟩, A, cap, h5, _, _, hr⟩ := h
    obtain ⟨hs, hm, ha, hok⟩ := atts_arg hr
    have e0 : k = .string x.1 := by simpa using h0
    have e1 : a = .int .i64 x.2.1.1 := by simpa using h1
    have e2 : b = .int .i64 x.2.1.2.1 := by simpa using h2
    have e3 : c = .int .i64 x.2.1.2.2.1 := by simpa using h3
    have e4 : d = .string x.2.1.2.2.2 := by simpa using h4
    have hlen : x.2.2.length = hs.length := by rw [← hm]; simp
    have e5 : e = .slice A hs.length cap := by rw [← hlen]; simpa using h5
    refine ⟨(x.1, x.2.1, A, cap, hs), by rw [e0, e1, e2, e3, e4, e5]; rfl, ?_, ha, hm, z0, ⟨in64_wf z1, in64_wf z2, in64_wf z3, z4⟩, hok⟩
    show (x.1, x.2.1, hs.map attP) = x
    rw [hm]
theorem rows_arg {w : World} {A : Option Addr} {l : List RowD} (h : RRow 6 RRowD w A l) : ∃ rs : List RowH, rs.length = l.length ∧ rs.map rowP = l ∧ RowsAt w A rs ∧ ∀ r ∈ rs, RowOk (rowP r) := by
  obtain ⟨ys, hl, hq, hr⟩ := rrow_choose h (fun cs x => row_cells)
  have hm : ys.map rowP = l := by
    have := map_of_all (g := rowP) (g' := id) hl (fun i h1 h2 => (hq i h1 h2).1)
    simpa using this
  refine ⟨ys, hl, hm, ⟨Reads.of_rows (by omega) rowC_len (fun _ _ _ h _ => h) hr, fun x hx => ?_⟩, fun a ha => ?_⟩
  · obtain ⟨i, hi, rfl⟩ := List.mem_iff_getElem.1 hx
    exact (hq i hi (by omega)).2.atts
  · obtain ⟨i, hi, rfl⟩ := List.mem_iff_getElem.1 ha
    obtain ⟨h1, h2⟩ := hq i hi (by omega)
    rw [h1]; exact h2.ok
/-- The cells of an argument that is a row. -/
theorem rowArg_cells {w : World} {cs : List Value} {x : RowD} (h : RRowD w cs x) (hl : cs.length = 6) : ∃ A c hs, cs = [.string x.1, .int .i64 x.2.1.1, .int .i64 x.2.1.2.1, .int .i64 x.2.1.2.2.1, .string x.2.1.2.2.2, .slice A hs.length c] ∧ RowArg w A x hs := by
  obtain ⟨⟨k, s, A, c, hs⟩, h1, h2, h3⟩ := row_cells h hl
  subst h2
  exact ⟨A, c, hs, h1, h3⟩
abbrev RMark : World → List Value → MarkD → Prop := RPair 1 RStr RStm
theorem opens_mark : Opens Tryd.prog 85 RMark := by
  refine opens_struct2 1 4 Tryd.underlying85 (opens_str Tryd.underlying9) opens_stm ?_ ?_ ?_ ?_ ?_ <;> kernel_rfl
theorem mark_cells {w : World} {cs : List Value} {x : MarkD} (h : RMark w cs x) (hl : cs.length = 5) : cs = markC x := by
  match cs, hl with
  | [n, a, b, c, d], _ =>
    obtain ⟨⟨h0, z0⟩, ⟨h1, z1⟩, ⟨h2, z2⟩, ⟨h3, z3⟩, ⟨h4, z4⟩⟩ := h
    have e0 : n = .string x.1 := by simpa using h0
    have e1 : a = .int .i64 x.2.1 := by simpa using h1
    have e2 : b = .int .i64 x.2.2.1 := by simpa using h2
    have e3 : c = .int .i64 x.2.2.2.1 := by simpa using h3
    have e4 : d = .string x.2.2.2.2 := by simpa using h4
    rw [e0, e1, e2, e3, e4]; rfl
theorem marks_arg {w : World} {A : Option Addr} {l : List MarkD} (h : RRow 5 RMark w A l) : Reads w A (l.flatMap markC) :=
  Reads.of_rows (by omega) markC_len (fun w cs x hr hl => mark_cells hr hl) h
theorem keys_arg {w : World} {A : Option Addr} {l : List ByteArray} (h : RRow 1 RStr w A l) : Reads w A (l.map Value.string) :=
  Reads.of_row (enc := Value.string) rstr_one h
end Go.Proofs.YtpjeohellehgjaaDoor
end

section
/- The wrap of a row that lists variables, the world's shape kept. And the variable that holds some int. -/
namespace Go.Cn
open Go
variable {H : Type} {enc : TypeId × Value → H}
theorem returns_shaped {a : Assume} {C : Checked} {os : Os} {f : FuncId} {fn : Func} {s : ChangeSpec} {conds : List PathCond} {apart fresh handsOn again : Bool} {X : World → Array Value → Prop}
    (hX : ∀ (w w' : World) (args : Array Value), w.heap = w'.heap → X w args → X w' args)
    (own : ownKnob C.prog.godebug = none) (started : os.Started) (noInit : C.prog.inits.idxOf? f = none) (hfn : C.prog.funcs[f]? = some fn)
    (witness : ∃ (w : World) (tape : Tape) (i : Input), w.os = os ∧ (w.forCall tape i).Shaped C.prog ∧ i.vars = [] ∧ Input.okWide C.prog (w.forCall tape i) .any w.heap.size f i ∧
      ((s.pre enc C.prog fn conds apart (w.forCall tape i).memory i.args ∧ X (w.forCall tape i).memory i.args) ∧ sizedMet enc C.prog fn (OpenSpec.ofChange s) apart (w.forCall tape i).memory i.args) ∧ a.holds C.prog (lone (Frame.enter C.prog f i.args .normal) [] (w.forCall tape i)))
    (contract : ∀ (W : World) (base : Nat) (args : Array Value) (ds gs : List (DataW H)) (before : List MemPlace),
      (∀ (j : Nat) t v, fn.params[j]? = some t → args[j]? = some v → Value.okWide C.prog W .any base t v) →
      DataW.Whole enc C.prog fn.params.toList s.vars apart W args.toList ds gs before →
      conds.all (PathCond.test C.prog ⟨fn.params.toList, ds, s.plain.varTypes C.prog, gs⟩) = true →
      X W args → W.ShapedOpen C.prog →
      Calls C.prog f args W fun e W' => ∃ v, e = .returned v ∧ s.post enc C.prog fn apart fresh handsOn again W args v W') :
    ReturnsInHanded a C os f .any (fun w args => (s.pre enc C.prog fn conds apart w args ∧ X w args) ∧ sizedMet enc C.prog fn (OpenSpec.ofChange s) apart w args) (s.post enc C.prog fn apart fresh handsOn again) := by
  refine returnsInHanded_of_calls own started noInit witness ?_
  intro w tape i _ hsh _ hok hpre hholds
  obtain ⟨_, _, _, fn', hfn', _, _, _, _, hval⟩ := hok
  have e : fn' = fn := Option.some.inj (hfn'.symm.trans hfn)
  subst e
  obtain ⟨⟨⟨ds, gs, before, hw, hc⟩, hx⟩, hz⟩ := hpre
  have hw' := DataW.Whole.of_heap (w' := w.forCall tape i) (by rfl) hw
  refine (contract (w.forCall tape i) w.heap.size i.args ds gs before hval hw' hc (hX _ _ _ (by rfl) hx) hsh).mono fun e W' ⟨v, he, hp⟩ => ?_
  subst he
  exact ChangeSpec.post_blind hp
theorem witness_up {C : Checked} {os : Os} {f : FuncId} {fn : Func} {s : OpenSpec} {conds : List PathCond} {apart : Bool} {laid : List (String × DataW Unit)} (modest : Bool) (w0 : World) (args : Array Value) (hos : w0.os = os)
    (hsh : (w0.forCall (fun _ _ => 0) ⟨#[], args, []⟩).Shaped C.prog)
    (hok : Input.okWideB C.prog (w0.forCall (fun _ _ => 0) ⟨#[], args, []⟩) f ⟨#[], args, []⟩ = true)
    (hrow : s.preRow enc C.prog fn conds apart laid (w0.forCall (fun _ _ => 0) ⟨#[], args, []⟩).memory args) :
    ∃ (w : World) (tape : Tape) (i : Input), w.os = os ∧ (w.forCall tape i).Shaped C.prog ∧ i.vars = [] ∧ Input.okWide C.prog (w.forCall tape i) .any w.heap.size f i ∧
      s.preRow enc C.prog fn conds apart laid (w.forCall tape i).memory i.args ∧ ({ modest := modest } : Assume).holds C.prog (lone (Frame.enter C.prog f i.args .normal) [] (w.forCall tape i)) :=
  ⟨w0, fun _ _ => 0, ⟨#[], args, []⟩, hos, hsh, (Input.okWide_of_okWideB (base := 0) hok).1, (Input.okWide_of_okWideB hok).2, hrow, by
    simp only [Assume.holds]
    exact ⟨by simp, by simp, fun _ => Modest.zero, by simp, by simp⟩⟩
end Go.Cn
end
