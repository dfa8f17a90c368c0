/- Entries by their paths, plain: put, drop, sweep. No program in sight. -/
import Derived.Test.YtbkficgmjgbbeaaDoorSE2
import Derived.Test.YtbkficgmjgbbeaaDoorSM2
import Derived.Test.YtbkficgmjgbbeaaDoorNode
set_option linter.unusedVariables false
set_option linter.unusedSimpArgs false
set_option maxRecDepth 100000
namespace Go.Proofs.YtbkficgmjgbbeaaDoor
open Go.RowKit Go.Cn
abbrev Ent := ByteArray × Int × Int
abbrev EM := List (SE.κ × SE.ν)
def cellE (e : Ent) : List Value := [.string e.1, .int .i64 e.2.1, .int .i64 e.2.2]
def rowE (m : EM) : List Value := m.flatMap (fun x => cellE x.2)
theorem rowE_len (m : EM) : (rowE m).length = m.length * 3 := flat_len (sz := 3) (fun _ => rfl) m
def nodeB (p : ByteArray) : Bool := nodeL p.data.toList
def inR (n : Int) : Bool := decide (0 ≤ n) && decide (n ≤ 1000000000)
def errE (e : Ent) : Int := if nodeB e.1 = false then 5 else if inR e.2.1 = false ∨ inR e.2.2 = false then 1 else 0
def newE (a b : Ent) : Bool := if a.2.1 = b.2.1 then decide (b.2.2 < a.2.2) else decide (b.2.1 < a.2.1)
def getE (m : EM) (p : ByteArray) : Ent := SE.getM m p
theorem getE_eq (m : EM) (p : ByteArray) : SE.getM m p = getE m p := rfl
def putE (m : EM) (e : Ent) : EM × Int :=
  if errE e ≠ 0 then (m, errE e) else if fnd SE.lt m e.1 = true ∧ newE e (getE m e.1) = false then (m, 11) else if fnd SE.lt m e.1 = false ∧ 64 ≤ m.length then (m, 9) else (putM SE.lt m e.1 e, 0)
structure GoodB (m : EM) : Prop where
  up : Rises SE.lt m
  few : m.length ≤ 64
  key : ∀ x ∈ m, x.2.1 = x.1
  ok : ∀ x ∈ m, errE x.2 = 0
theorem GoodB.nil : GoodB [] := ⟨trivial, by simp, fun x h => by simp at h, fun x h => by simp at h⟩
theorem putM_len (m : EM) (p : ByteArray) (e : Ent) : (putM SE.lt m p e).length = if fnd SE.lt m p = true then m.length else m.length + 1 := SE.put_len m p e
theorem putE_good {m : EM} (h : GoodB m) (e : Ent) : GoodB (putE m e).1 := by
  unfold putE
  by_cases h1 : errE e ≠ 0
  · rw [if_pos h1]; exact h
  rw [if_neg h1]
  by_cases h2 : fnd SE.lt m e.1 = true ∧ newE e (getE m e.1) = false
  · rw [if_pos h2]; exact h
  rw [if_neg h2]
  by_cases h3 : fnd SE.lt m e.1 = false ∧ 64 ≤ m.length
  · rw [if_pos h3]; exact h
  rw [if_neg h3]
  refine ⟨h.up.put SE.O e.1 e, ?_, fun x hx => ?_, fun x hx => ?_⟩
  · show (putM SE.lt m e.1 e).length ≤ 64
    rw [putM_len]
    have := h.few
    cases hq : fnd SE.lt m e.1 with
    | true => rw [if_pos rfl]; exact this
    | false =>
      rw [if_neg (by decide)]
      have : ¬ 64 ≤ m.length := fun e => h3 ⟨hq, e⟩
      omega
  · rcases mem_put hx with rfl | hx
    · rfl
    · exact h.key x hx
  · rcases mem_put hx with rfl | hx
    · simpa using h1
    · exact h.ok x hx
theorem Rises.sub {κ ν : Type} {lt : κ → κ → Bool} : ∀ {a b : List (κ × ν)}, a.Sublist b → Rises lt b → Rises lt a
  | _, _, .slnil, _ => trivial
  | _, _, .cons _ h, hb => Rises.sub h hb.2
  | _, _, .cons_cons _ h, hb => ⟨fun q hq => hb.1 q (h.subset hq), Rises.sub h hb.2⟩
theorem GoodB.sub {a b : EM} (h : a.Sublist b) (g : GoodB b) : GoodB a := ⟨Rises.sub h g.up, Nat.le_trans h.length_le g.few, fun x hx => g.key x (h.subset hx), fun x hx => g.ok x (h.subset hx)⟩
theorem fnd_cons {x : SE.κ × SE.ν} {r : EM} {k : ByteArray} (h : SE.lt x.1 k = true) : fnd SE.lt (x :: r) k = fnd SE.lt r k := by
  unfold fnd
  rw [pos_cons, if_pos h, List.getElem?_cons_succ]
theorem drop_filter : ∀ {l : EM} (hs : Rises SE.lt l) (k : ByteArray), dropM SE.lt l k = l.filter (fun x => decide (x.1 ≠ k))
  | [], _, k => by unfold dropM; split <;> simp
  | x :: r, hs, k => by
    have ih := drop_filter hs.2 k
    by_cases h1 : SE.lt x.1 k = true
    · have hne : x.1 ≠ k := fun e => by rw [e, SE.O.irr] at h1; cases h1
      unfold dropM at ih ⊢
      rw [fnd_cons h1, pos_cons, if_pos h1, List.filter_cons_of_pos (by simpa using hne), ← ih]
      split <;> simp
    · have h1' : SE.lt x.1 k = false := by simpa using h1
      have hp : pos SE.lt (x :: r) k = 0 := by rw [pos_cons, if_neg h1]
      by_cases h2 : x.1 = k
      · have hf : fnd SE.lt (x :: r) k = true := fnd_iff.2 ⟨by rw [hp]; simp, by simp only [hp]; exact h2⟩
        unfold dropM
        rw [if_pos hf, hp, List.filter_cons_of_neg (by simpa using h2), List.filter_eq_self.2]
        · simp
        · intro y hy
          have := hs.1 y hy
          simp only [decide_eq_true_eq]
          intro e
          rw [e, ← h2, SE.O.irr] at this; cases this
      · have hf : fnd SE.lt (x :: r) k = false := by
          cases e : fnd SE.lt (x :: r) k with
          | false => rfl
          | true =>
            obtain ⟨h3, h4⟩ := fnd_iff.1 e
            simp only [hp] at h4
            exact absurd h4 h2
        unfold dropM
        rw [if_neg (by rw [hf]; decide), List.filter_eq_self.2]
        intro y hy
        simp only [decide_eq_true_eq]
        intro e
        rcases List.mem_cons.1 hy with rfl | hy
        · exact h2 e
        · have h5 := hs.1 y hy
          rw [e] at h5
          rw [h5] at h1'; cases h1'
def goneE (now age : Int) (keep : ByteArray) (x : SE.κ × SE.ν) : Bool := decide (x.2.2.2 < now - age) && decide (x.1 ≠ keep)
def stayM (m : EM) (now age : Int) (keep : ByteArray) : EM := m.filter (fun x => !goneE now age keep x)
def goneM (m : EM) (now age : Int) (keep : ByteArray) : List ByteArray := (m.filter (goneE now age keep)).map Prod.fst
def sweepM (m : EM) (now age : Int) (keep : ByteArray) : EM × List ByteArray := if now < 0 ∨ age < 0 then (m, []) else (stayM m now age keep, goneM m now age keep)
/-- What stands when the first i have been looked at. -/
def stM (m : EM) (now age : Int) (keep : ByteArray) (i : Nat) : EM := stayM (m.take i) now age keep ++ m.drop i
theorem stM_sub (m : EM) (now age : Int) (keep : ByteArray) (i : Nat) : (stM m now age keep i).Sublist m := by
  have h : ((m.take i).filter (fun x => !goneE now age keep x) ++ m.drop i).Sublist (m.take i ++ m.drop i) := List.Sublist.append List.filter_sublist (List.Sublist.refl _)
  rw [List.take_append_drop] at h
  exact h
theorem stM_gone {m : EM} (hs : Rises SE.lt m) {now age : Int} {keep : ByteArray} {i : Nat} (hi : i < m.length) (hg : goneE now age keep m[i] = true) : dropM SE.lt (stM m now age keep i) m[i].1 = stM m now age keep (i + 1) := by
  rw [drop_filter (Rises.sub (stM_sub m now age keep i) hs)]
  unfold stM stayM
  rw [List.filter_append, List.take_succ_eq_append_getElem hi, List.filter_append, List.drop_eq_getElem_cons hi]
  have h1 : ((m.take i).filter (fun x => !goneE now age keep x)).filter (fun x => decide (x.1 ≠ m[i].1)) = (m.take i).filter (fun x => !goneE now age keep x) := by
    rw [List.filter_eq_self]
    intro y hy
    have hy := (List.mem_filter.1 hy).1
    obtain ⟨j, hj, rfl⟩ := List.mem_iff_getElem.1 hy
    rw [List.length_take] at hj
    rw [List.getElem_take]
    simp only [decide_eq_true_eq]
    intro e
    have := hs.less j i hi (by omega)
    rw [e, SE.O.irr] at this; cases this
  have h2 : (m.drop (i + 1)).filter (fun x => decide (x.1 ≠ m[i].1)) = m.drop (i + 1) := by
    rw [List.filter_eq_self]
    intro y hy
    obtain ⟨j, hj, rfl⟩ := List.mem_iff_getElem.1 hy
    rw [List.length_drop] at hj
    rw [List.getElem_drop]
    simp only [decide_eq_true_eq]
    intro e
    have := hs.less i (i + 1 + j) (by omega) (by omega)
    rw [e, SE.O.irr] at this; cases this
  rw [h1, List.filter_cons_of_neg (by simp), h2]
  simp [hg]
theorem stM_stay {m : EM} {now age : Int} {keep : ByteArray} {i : Nat} (hi : i < m.length) (hg : goneE now age keep m[i] = false) : stM m now age keep i = stM m now age keep (i + 1) := by
  unfold stM stayM
  rw [List.take_succ_eq_append_getElem hi, List.filter_append, List.drop_eq_getElem_cons hi]
  simp [hg]
theorem goneM_succ {m : EM} {now age : Int} {keep : ByteArray} {i : Nat} (hi : i < m.length) : goneM (m.take (i + 1)) now age keep = goneM (m.take i) now age keep ++ (if goneE now age keep m[i] = true then [m[i].1] else []) := by
  unfold goneM
  rw [List.take_succ_eq_append_getElem hi, List.filter_append, List.map_append]
  congr 1
  split
  · rename_i h; simp [h]
  · rename_i h; simp [h]
theorem stayM_succ {m : EM} {now age : Int} {keep : ByteArray} {i : Nat} (hi : i < m.length) : stayM (m.take (i + 1)) now age keep = stayM (m.take i) now age keep ++ (if goneE now age keep m[i] = true then [] else [m[i]]) := by
  unfold stayM
  rw [List.take_succ_eq_append_getElem hi, List.filter_append]
  congr 1
  split
  · rename_i h; simp [h]
  · rename_i h; simp [h]
theorem getE_mem {m : EM} (hs : Rises SE.lt m) {p : ByteArray} {e : Ent} (h : (p, e) ∈ m) : getE m p = e := by
  obtain ⟨hlt, hf, he⟩ := mem_fnd SE.O hs h
  unfold getE SE.getM
  rw [if_pos hf, List.getElem?_eq_getElem hlt, he]; rfl
end Go.Proofs.YtbkficgmjgbbeaaDoor
