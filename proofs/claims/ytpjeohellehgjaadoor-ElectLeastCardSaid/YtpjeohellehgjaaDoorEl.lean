/- Who stands, in order: choices as cells, an attribute of a name, the order of choices. No program in sight. -/
import Derived.Test.YtpjeohellehgjaaDoorZE
set_option linter.unusedVariables false
set_option linter.unusedSimpArgs false
namespace Go.Cn
open Num
abbrev ChoD := ByteArray × ByteArray × Int
def choC (c : ChoD) : List Value := [.string c.1, .string c.2.1, .int .i64 c.2.2]
theorem choC_len (c : ChoD) : (choC c).length = 3 := rfl
theorem choC_one (c : ChoD) : ∀ u ∈ choC c, u.oneCell' = true := fun u hu => by
  simp only [choC, List.mem_cons, List.mem_nil_iff, or_false] at hu
  rcases hu with rfl | rfl | rfl <;> rfl
abbrev choV (c : ChoD) : Value := .agg #[.string c.1, .string c.2.1, .int .i64 c.2.2]
theorem cho_at {w : World} {A : Option Addr} {l : List ChoD} (h : Reads w A (l.flatMap choC)) {i : Nat} (hi : i < l.length) : ∃ g o, A = some ⟨g, o, none⟩ ∧
    w.cell? ⟨g, o + i * 3, none⟩ = some (.string (l.getD i default).1) ∧ w.cell? ⟨g, o + (i * 3 + 1), none⟩ = some (.string (l.getD i default).2.1) ∧ w.cell? ⟨g, o + (i * 3 + 2), none⟩ = some (.int .i64 (l.getD i default).2.2) := by
  obtain ⟨g, o, hA, hc⟩ := h.at choC_len hi (by omega)
  exact ⟨g, o, hA, hc 0 (by omega), hc 1 (by omega), hc 2 (by omega)⟩
def cmpC (a b : ChoD) : Int := orI (cmpI a.2.2 b.2.2) (orI (cmpS a.2.1 b.2.1) (cmpS a.1 b.1))
def kRep : ByteArray := ⟨#[114, 101, 112]⟩
def kLoad : ByteArray := ⟨#[108, 111, 97, 100]⟩
def cho0 : ChoD := (ByteArray.empty, ByteArray.empty, 0)
/-- The value of a name, the first of several; whether there is one. -/
def getB (l : List Att) (nm : ByteArray) : Val × Bool := match l.find? (fun a => decide (a.1 = nm)) with
  | some a => (a.2, true)
  | none => (v0, false)
def loadOf (l : List Att) : Int := if (getB l kLoad).2 = true ∧ (getB l kLoad).1.1 = 1 then (getB l kLoad).1.2.1 else 0
def standsP (r : RowD) : Bool := (getB r.2.2 kRep).2 && decide ((getB r.2.2 kRep).1.1 = 2) && nodeB (getB r.2.2 kRep).1.2.2.1.data.toList
def choOf (r : RowD) : ChoD := (r.1, (getB r.2.2 kRep).1.2.2.1, loadOf r.2.2)
/-- Those that stand, in the rows' order. -/
def standL (l : List RowD) : List ChoD := (l.filter standsP).map choOf
theorem getB_some {l : List Att} {nm : ByteArray} {i : Nat} (hi : i < l.length) (h : l[i].1 = nm) (hone : ∀ j (hj : j < l.length), l[j].1 = nm → j = i) : getB l nm = (l[i].2, true) := by
  unfold getB
  cases hf : l.find? (fun a => decide (a.1 = nm)) with
  | none =>
    have := List.find?_eq_none.1 hf l[i] (List.getElem_mem hi)
    simp [h] at this
  | some a =>
    have h1 := List.find?_some hf
    have h2 := List.mem_of_find?_eq_some hf
    obtain ⟨j, hj, rfl⟩ := List.mem_iff_getElem.1 h2
    have := hone j hj (of_decide_eq_true h1)
    subst this; rfl
theorem getB_none {l : List Att} {nm : ByteArray} (h : ∀ a ∈ l, a.1 ≠ nm) : getB l nm = (v0, false) := by
  unfold getB
  have : l.find? (fun a => decide (a.1 = nm)) = none := List.find?_eq_none.2 (fun a ha => by simp [h a ha])
  rw [this]
theorem find_at {l : List Att} {nm : ByteArray} {i : Nat} (hi : i < l.length) : (l.drop i).find? (fun a => decide (a.1 = nm)) = if (l.getD i default).1 = nm then some (l.getD i default) else (l.drop (i + 1)).find? (fun a => decide (a.1 = nm)) := by
  rw [List.drop_eq_getElem_cons hi, List.find?_cons]
  have e : l.getD i default = l[i] := by simp [hi]
  rw [e]
  by_cases h : l[i].1 = nm
  · simp [h]
  · simp [h]
end Go.Cn
