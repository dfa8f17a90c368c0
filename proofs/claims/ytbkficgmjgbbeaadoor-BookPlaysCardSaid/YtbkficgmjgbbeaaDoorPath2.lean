/- Two paths, plain: where they part; patterns. No program in sight. -/
import Derived.Test.YtbkficgmjgbbeaaDoorPath
set_option linter.unusedVariables false
set_option linter.unusedSimpArgs false
namespace Go.Cn
def sharedN {α : Type} [DecidableEq α] : List α → List α → Nat
  | a :: l, b :: k => if a = b then sharedN l k + 1 else 0
  | _, _ => 0
theorem sharedN_le {α : Type} [DecidableEq α] : ∀ (a b : List α), sharedN a b ≤ a.length ∧ sharedN a b ≤ b.length
  | [], b => by simp [sharedN]
  | a :: l, [] => by simp [sharedN]
  | a :: l, b :: k => by
    have := sharedN_le l k
    unfold sharedN
    split
    · simp; omega
    · simp
theorem sharedN_eq {α : Type} [DecidableEq α] (d : α) : ∀ (a b : List α) (i : Nat), i ≤ a.length → i ≤ b.length → a.take i = b.take i → (i < a.length → i < b.length → a.getD i d ≠ b.getD i d) → sharedN a b = i
  | [], b, i, h1, _, _, _ => by simp at h1; subst h1; simp [sharedN]
  | a :: l, [], i, _, h2, _, _ => by simp at h2; subst h2; simp [sharedN]
  | a :: l, b :: k, 0, _, _, _, hne => by
    have := hne (by simp) (by simp)
    unfold sharedN
    rw [if_neg (by simpa using this)]
  | a :: l, b :: k, i + 1, h1, h2, ht, hne => by
    simp only [List.take_succ_cons, List.cons.injEq] at ht
    have := sharedN_eq d l k i (by simpa using h1) (by simpa using h2) ht.2 (fun x y => by
      have := hne (by simpa using x) (by simpa using y)
      simpa using this)
    unfold sharedN
    rw [if_pos ht.1, this]
theorem sharedN_take {α : Type} [DecidableEq α] : ∀ (a b : List α), a.take (sharedN a b) = b.take (sharedN a b)
  | [], b => by simp [sharedN]
  | a :: l, [] => by simp [sharedN]
  | a :: l, b :: k => by
    have := sharedN_take l k
    unfold sharedN
    split
    · rename_i h; simp [h, this]
    · simp
theorem sharedN_comm {α : Type} [DecidableEq α] : ∀ (a b : List α), sharedN a b = sharedN b a
  | [], b => by cases b <;> simp [sharedN]
  | a :: l, [] => by simp [sharedN]
  | a :: l, b :: k => by
    have := sharedN_comm l k
    unfold sharedN
    by_cases h : a = b
    · rw [if_pos h, if_pos h.symm, this]
    · rw [if_neg h, if_neg (fun e => h e.symm)]
/-- One lies at the head of the other. -/
theorem sharedN_full {α : Type} [DecidableEq α] (a b : List α) : sharedN a b = b.length ↔ b <+: a := by
  constructor
  · intro h
    have ht := sharedN_take a b
    rw [h, List.take_length] at ht
    exact ⟨a.drop b.length, (congrArg (· ++ a.drop b.length) ht.symm).trans (List.take_append_drop _ _)⟩
  · rintro ⟨t, rfl⟩
    induction b with
    | nil => cases t <;> simp [sharedN]
    | cons x b ih => simp [sharedN, ih]
def depthL (l : List UInt8) : Int := if (parseL l).1 = 0 then ((parseL l).2.length : Int) else -1
def parentL (l : List UInt8) : List UInt8 := if (parseL l).2 = [] then [] else pathL (parseL l).2.dropLast
def lastL (l : List UInt8) : List UInt8 := (parseL l).2.getD ((parseL l).2.length - 1) []
def joinP (l p : List UInt8) : Int × List UInt8 := if (parseL l).1 ≠ 0 then (2, []) else if nameL p = false then (5, []) else if 4 ≤ (parseL l).2.length then (4, []) else (0, pathL ((parseL l).2 ++ [p]))
def zonesL (l : List UInt8) : List (List UInt8) := (List.range (parseL l).2.length).map fun i => pathL ((parseL l).2.take i)
def underL (l z : List UInt8) : Bool := decide ((parseL l).1 = 0) && decide ((parseL z).1 = 0) && decide (sharedN (parseL l).2 (parseL z).2 = (parseL z).2.length)
def commonL (a b : List UInt8) : List UInt8 := if (parseL a).1 = 0 ∧ (parseL b).1 = 0 then pathL ((parseL a).2.take (sharedN (parseL a).2 (parseL b).2)) else []
def partsL (p : List UInt8) : List (List UInt8) := (cutL p).getD []
def longerL (q : List (List UInt8)) : Bool := decide (q.getD (q.length - 1) [] = [42, 42])
def bodyL (q : List (List UInt8)) : List (List UInt8) := if longerL q = true then q.take (q.length - 1) else q
def starB (p : List UInt8) : Bool := decide (p = [42]) || nameL p
def okPat (p : List UInt8) : Bool := (cutL p).isSome && (bodyL (partsL p)).all starB
def fitsL (b ps : List (List UInt8)) : Bool := (b.zip ps).all fun x => decide (x.1 = [42]) || decide (x.1 = x.2)
def matchL (p s : List UInt8) : Bool := okPat p && decide ((parseL s).1 = 0) && decide ((bodyL (partsL p)).length ≤ (parseL s).2.length) && (decide ((parseL s).2.length ≤ (bodyL (partsL p)).length) || longerL (partsL p)) && fitsL (bodyL (partsL p)) (parseL s).2
theorem bodyL_le (q : List (List UInt8)) : (bodyL q).length ≤ q.length := by unfold bodyL; split <;> simp <;> omega
end Go.Cn
