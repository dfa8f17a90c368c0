/- How the arguments of a law read: numbers, texts, and rows of anything that reads, over any program. No conditions beyond each law's own. -/
import Derived.Test.YtpjeohellehgjaaDoorL0
import Derived.Deep.Slices
import Derived.Lib.SmallJoins
import Derived.ProofKit
import Derived.OpenShut
import Derived.ShutString
import Derived.ChangeOld
import Derived.SizedLaws
set_option linter.unusedVariables false
set_option linter.unusedSimpArgs false
namespace Go.Cn
open Go.RowKit Go.ChangeShapes Go.WideShapes

/-- 'cells of type t that can be read are those of some x, by R'. -/
def Opens (P : Program) (t : TypeId) {α : Type} (R : World → List Value → α → Prop) : Prop :=
  ∀ (H : Type) (enc : TypeId × Value → H) (w : World) (spare : Nat → Bool) (held : Bool) (fuel : Nat) (cs : List Value) (x : DataW H × List MemPlace), DataW.trod enc P w 0 spare held fuel t cs = some x → ∃ a, R w cs a
def RInt (k : IntKind) (w : World) (cs : List Value) (x : Int) : Prop := cs = [.int k x] ∧ (Lit.int k x).wf = true
def RStr (w : World) (cs : List Value) (s : ByteArray) : Prop := cs = [.string s] ∧ s.size ≤ 9223372036854775807
def RBool (w : World) (cs : List Value) (b : Bool) : Prop := cs = [.bool b]
/-- n elements of sz cells each from A on read as l. -/
def RRow (sz : Nat) {α : Type} (R : World → List Value → α → Prop) (w : World) (A : Option Addr) (l : List α) : Prop :=
  ∀ (i : Nat) (h : i < l.length), ∃ ad cs, A = some ad ∧ R w cs l[i] ∧ cs.length = sz ∧ ∀ j, j < sz → w.cell? (ad.add (i * sz + j)) = cs[j]?
def RSlice (sz : Nat) {α : Type} (R : World → List Value → α → Prop) (w : World) (cs : List Value) (l : List α) : Prop :=
  ∃ A cap, cs = [.slice A l.length cap] ∧ l.length ≤ cap ∧ cap ≤ 9223372036854775807 ∧ RRow sz R w A l
def RPair (n : Nat) {α β : Type} (R : World → List Value → α → Prop) (S : World → List Value → β → Prop) (w : World) (cs : List Value) (x : α × β) : Prop := R w (cs.take n) x.1 ∧ S w (cs.drop n) x.2
theorem opens_int {P : Program} {t : TypeId} {k : IntKind} (h : P.underlying t = some (.int k)) : Opens P t (RInt k) := fun H enc w spare held fuel cs x hx => by
  obtain ⟨n, rfl, _, hw⟩ := DataW.trod_int h hx; exact ⟨n, rfl, hw⟩
theorem opens_str {P : Program} {t : TypeId} (h : P.underlying t = some .string) : Opens P t RStr := fun H enc w spare held fuel cs x hx => by
  obtain ⟨s, rfl, _, hw⟩ := DataW.trod_string h hx; exact ⟨s, rfl, by simpa [maxLen] using hw⟩
theorem opens_bool {P : Program} {t : TypeId} (h : P.underlying t = some .bool) : Opens P t RBool := fun H enc w spare held fuel cs x hx => by
  obtain ⟨b, rfl, _⟩ := DataW.trod_bool h hx; exact ⟨b, rfl⟩
theorem opens_slice {P : Program} {t e : TypeId} {sz : Nat} {α : Type} [Inhabited α] {R : World → List Value → α → Prop} (h : P.underlying t = some (.slice e)) (hs : P.cellsOf e = sz) (he : Opens P e R) : Opens P t (RSlice sz R) := fun H enc w spare held fuel cs x hx => by
  subst hs
  rcases Deep.open_slice h hx with ⟨rfl, _⟩ | ⟨a, len, cap, m, n, D, Pl, rfl, hb, hl, hm, hmm, _, hel⟩
  · exact ⟨[], none, 0, rfl, by simp, by omega, fun i hi => by simp at hi⟩
  · have hle : len ≤ m := by rw [hmm]; split <;> omega
    obtain ⟨f, hf⟩ := Deep.choose_lt (n := len) (p := fun i (y : α) => ∃ cs', w.cells? 0 (a.add (i * P.cellsOf e)) (P.cellsOf e) = some cs' ∧ R w cs' y) (fun i hi => by
      obtain ⟨cs', h1, h2⟩ := hel i (by omega)
      obtain ⟨y, hy⟩ := he H enc w spare held n cs' _ h2
      exact ⟨y, cs', h1, hy⟩)
    have hlen : ((List.range len).map f).length = len := by simp
    refine ⟨(List.range len).map f, some a, cap, by rw [hlen], by rw [hlen]; exact hl, by simpa [maxLen] using hm, fun i hi => ?_⟩
    rw [hlen] at hi
    obtain ⟨cs', h1, h2⟩ := hf i hi
    obtain ⟨_, hn, hc⟩ := World.cells?_some h1
    refine ⟨a, cs', rfl, by simpa using h2, hn, fun j hj => ?_⟩
    rw [← Deep.add_add]; exact hc j hj
/-- A struct of two fields. -/
theorem opens_struct2 {P : Program} {t : TypeId} {f0 f1 : Field} {α β : Type} {R : World → List Value → α → Prop} {S : World → List Value → β → Prop} (n0 n1 : Nat) (h : P.underlying t = some (.struct #[f0, f1])) (h0 : Opens P f0.type R) (h1 : Opens P f1.type S)
    (o0 : f0.offset = 0) (c0 : P.cellsOf f0.type = n0) (o1 : f1.offset = n0) (c1 : P.cellsOf f1.type = n1) (ct : P.cellsOf t = n0 + n1) : Opens P t (RPair n0 R S) := fun H enc w spare held fuel cs x hx => by
  obtain ⟨y0, y1, n, _, hl, e0, e1⟩ := trod_struct2 h hx
  obtain ⟨a, ha⟩ := h0 H enc w spare held n _ _ e0
  obtain ⟨b, hb⟩ := h1 H enc w spare held n _ _ e1
  refine ⟨(a, b), ?_, ?_⟩
  · rw [o0, c0] at ha; simpa using ha
  · rw [o1, c1, List.take_of_length_le (by simp; omega)] at hb; exact hb
theorem opens_struct3 {P : Program} {t : TypeId} {f0 f1 f2 : Field} {α β γ : Type} {R : World → List Value → α → Prop} {S : World → List Value → β → Prop} {T : World → List Value → γ → Prop} (n0 n1 n2 : Nat) (h : P.underlying t = some (.struct #[f0, f1, f2]))
    (h0 : Opens P f0.type R) (h1 : Opens P f1.type S) (h2 : Opens P f2.type T)
    (o0 : f0.offset = 0) (c0 : P.cellsOf f0.type = n0) (o1 : f1.offset = n0) (c1 : P.cellsOf f1.type = n1) (o2 : f2.offset = n0 + n1) (c2 : P.cellsOf f2.type = n2) (ct : P.cellsOf t = n0 + n1 + n2) : Opens P t (RPair n0 R (RPair n1 S T)) := fun H enc w spare held fuel cs x hx => by
  obtain ⟨y0, y1, y2, n, _, hl, e0, e1, e2⟩ := Deep.trod_struct3 h hx
  obtain ⟨a, ha⟩ := h0 H enc w spare held n _ _ e0
  obtain ⟨b, hb⟩ := h1 H enc w spare held n _ _ e1
  obtain ⟨c, hc⟩ := h2 H enc w spare held n _ _ e2
  refine ⟨(a, b, c), ?_, ?_, ?_⟩
  · rw [o0, c0] at ha; simpa using ha
  · rw [o1, c1] at hb; exact hb
  · rw [o2, c2, List.take_of_length_le (by simp; omega)] at hc
    rw [List.drop_drop]; exact hc
/-- What stands below the heap's size stands behind a step. -/
theorem RRow.of_cells {sz : Nat} {α : Type} {R : World → List Value → α → Prop} {w w' : World} {A : Option Addr} {l : List α} (h : RRow sz R w A l) (hc : ∀ (a : Addr) (v : Value), w.cell? a = some v → w'.cell? a = some v) (hR : ∀ cs x, R w cs x → R w' cs x) : RRow sz R w' A l := fun i hi => by
  obtain ⟨ad, cs, hA, hr, hl, hj⟩ := h i hi
  refine ⟨ad, cs, hA, hR _ _ hr, hl, fun j hjs => ?_⟩
  have h1 := hj j hjs
  rw [List.getElem?_eq_getElem (by omega)] at h1 ⊢
  exact hc _ _ h1
theorem below_cell {B : Nat} {w w' : World} (hb : Below B w w') (hB : B = w.heap.size) (a : Addr) (v : Value) (h : w.cell? a = some v) : w'.cell? a = some v := by
  rw [hb.cell (by rw [hB]; exact World.block_lt_of_cell? w a h)]; exact h
theorem slice_opened {P : Program} {t e : TypeId} {sz : Nat} {α : Type} [Inhabited α] {R : World → List Value → α → Prop} {H : Type} {enc : TypeId × Value → H} {w : World} {spare : Nat → Bool} {held : Bool} {a : Option Addr} {len cap : Nat} {d : DataW H} {ps : List MemPlace}
    (h : P.underlying t = some (.slice e)) (hs : P.cellsOf e = sz) (he : Opens P e R) (hx : DataW.Trod enc P w 0 spare held t (.slice a len cap) d ps) : ∃ l : List α, l.length = len ∧ len ≤ cap ∧ cap ≤ 9223372036854775807 ∧ RRow sz R w a l := by
  obtain ⟨fuel, hf⟩ := hx
  obtain ⟨l, A, c, hc, h1, h2, h3⟩ := opens_slice h hs he H enc w spare held fuel _ _ hf
  simp [Value.cells] at hc
  obtain ⟨rfl, rfl, rfl⟩ := hc
  exact ⟨l, rfl, h1, h2, h3⟩

theorem cell_spot {w : World} {a : Addr} {v : Value} (h : w.cell? a = some v) : a.spot = none := by
  unfold World.cell? at h
  split at h
  · split at h
    · cases h
    · rename_i hs; simpa using hs
  · cases h
/-- A row that is not empty: where it begins, and its cells by their places. -/
theorem RRow.flat {sz : Nat} {α : Type} {R : World → List Value → α → Prop} {w : World} {A : Option Addr} {l : List α} (h : RRow sz R w A l) (hsz : 0 < sz) (hl : 0 < l.length) :
    ∃ b off, A = some ⟨b, off, none⟩ ∧ b < w.heap.size ∧ ∀ (i : Nat) (hi : i < l.length), ∃ cs, R w cs l[i] ∧ cs.length = sz ∧ ∀ j, j < sz → w.cell? ⟨b, off + (i * sz + j), none⟩ = cs[j]? := by
  obtain ⟨ad, cs0, rfl, _, hl0, h0⟩ := h 0 hl
  have h00 := h0 0 hsz
  rw [List.getElem?_eq_getElem (by omega)] at h00
  have hs : ad.spot = none := by have := cell_spot h00; simpa [Addr.add] using this
  obtain ⟨b, off, sp⟩ := ad
  simp only at hs
  subst hs
  refine ⟨b, off, rfl, by simpa [Addr.add] using World.block_lt_of_cell? w _ h00, fun i hi => ?_⟩
  obtain ⟨ad, cs, hA, hR, hlen, hj⟩ := h i hi
  cases hA
  refine ⟨cs, hR, hlen, fun j hjs => ?_⟩
  rw [← hj j hjs, Addr.add_lit]
/-- One cell an element. -/
theorem RRow.one {α : Type} {enc : α → Value} {R : World → List Value → α → Prop} (hR : ∀ w cs x, R w cs x → cs = [enc x]) {w : World} {A : Option Addr} {l : List α} (h : RRow 1 R w A l) (hl : 0 < l.length) :
    ∃ b off, A = some ⟨b, off, none⟩ ∧ b < w.heap.size ∧ ∀ (i : Nat) (hi : i < l.length), w.cell? ⟨b, off + i, none⟩ = some (enc l[i]) := by
  obtain ⟨b, off, hA, hb, hc⟩ := h.flat (by omega) hl
  refine ⟨b, off, hA, hb, fun i hi => ?_⟩
  obtain ⟨cs, h1, _, h2⟩ := hc i hi
  have := h2 0 (by omega)
  rw [hR _ _ _ h1] at this
  simpa using this
theorem RRow.src1 {α : Type} {enc : α → Value} {R : World → List Value → α → Prop} (hR : ∀ w cs x, R w cs x → cs = [enc x]) {w : World} {A : Option Addr} {l : List α} (h : RRow 1 R w A l) : Src w A (l.map enc) := fun j u hj => by
  have hlt := (List.getElem?_eq_some_iff.1 hj).1
  simp at hlt
  obtain ⟨b, off, rfl, _, hc⟩ := h.one hR (by omega)
  refine ⟨_, rfl, ?_⟩
  rw [Addr.add_lit, hc j hlt]
  simpa [hlt] using hj
theorem RRow.elem {sz : Nat} {α : Type} {R : World → List Value → α → Prop} {w : World} {A : Option Addr} {l : List α} (h : RRow sz R w A l) {i : Nat} (hi : i < l.length) : ∃ cs, R w cs l[i] := by
  obtain ⟨_, cs, _, hr, _⟩ := h i hi; exact ⟨cs, hr⟩
theorem rint_one {k : IntKind} : ∀ w cs x, RInt k w cs x → cs = [Value.int k x] := fun _ _ _ h => h.1
theorem rstr_one : ∀ w cs x, RStr w cs x → cs = [Value.string x] := fun _ _ _ h => h.1
end Go.Cn
