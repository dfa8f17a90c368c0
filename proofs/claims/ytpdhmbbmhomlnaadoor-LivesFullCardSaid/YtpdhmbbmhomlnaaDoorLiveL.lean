/- Lives in bytes, and back: plain. No program in sight. -/
import Derived.Test.YtpdhmbbmhomlnaaDoorLive
import Derived.Test.YtpdhmbbmhomlnaaDoorOpen
set_option linter.unusedVariables false
set_option linter.unusedSimpArgs false
namespace Go.Proofs.YtpdhmbbmhomlnaaDoor
open Go.RowKit Go.Cn Go.Cn.Num
def rowB (x : ByteArray × Int) : List UInt8 := putText x.1.data.toList ++ putInt x.2
def bytesM (m : LM) : List UInt8 := sealed (putInt (m.length : Int) ++ m.flatMap rowB)
def rowsD : Nat → Int → List UInt8 → LM × Int × List UInt8
  | 0, e, r => ([], e, r)
  | n + 1, e, r => ((rowsD n e r).1 ++ [(txt (textD (rowsD n e r).2.1 (rowsD n e r).2.2).1, (intD (textD (rowsD n e r).2.1 (rowsD n e r).2.2).2.1 (textD (rowsD n e r).2.1 (rowsD n e r).2.2).2.2).1)],
      (intD (textD (rowsD n e r).2.1 (rowsD n e r).2.2).2.1 (textD (rowsD n e r).2.1 (rowsD n e r).2.2).2.2).2)
def chkM : ByteArray → LM → Int
  | _, [] => 0
  | last, x :: r => if nodeB x.1 = false ∨ SI.lt last x.1 = false then 2 else if x.2 < 1 ∨ 1000000000 < x.2 then 1 else chkM x.1 r
def readM (r : List UInt8) : Int × LM :=
  if (intD 0 r).2.1 ≠ 0 then ((intD 0 r).2.1, []) else if 256 < (intD 0 r).1 then (4, []) else if (intD 0 r).1 < 0 then (2, []) else
  if (rowsD (intD 0 r).1.toNat 0 (intD 0 r).2.2).2.1 ≠ 0 then ((rowsD (intD 0 r).1.toNat 0 (intD 0 r).2.2).2.1, []) else
  if 0 < leftD 0 (rowsD (intD 0 r).1.toNat 0 (intD 0 r).2.2).2.2 then (2, []) else
  if chkM ByteArray.empty (rowsD (intD 0 r).1.toNat 0 (intD 0 r).2.2).1 ≠ 0 then (chkM ByteArray.empty (rowsD (intD 0 r).1.toNat 0 (intD 0 r).2.2).1, []) else (0, (rowsD (intD 0 r).1.toNat 0 (intD 0 r).2.2).1)
def loadM (b : List UInt8) : Int × LM := if (openL b).1 ≠ 0 then ((openL b).1, []) else readM (openL b).2
structure Good (m : LM) : Prop where
  up : Rises SI.lt m
  few : m.length ≤ 256
  node : ∀ x ∈ m, nodeB x.1 = true
  vals : Vals m
theorem Good.nil : Good [] := ⟨trivial, by simp, by simp, fun x h => by simp at h⟩
theorem node_size {p : ByteArray} (h : nodeB p = true) : 2 ≤ p.size ∧ p.size ≤ 40 := node_len h
theorem beginM_good {m : LM} (h : Good m) (p : ByteArray) : Good (beginM m p).1 := by
  unfold beginM
  by_cases hn : nodeB p = false
  · rw [if_pos hn]; exact h
  rw [if_neg hn]
  by_cases hf : (fnd SI.lt m p = false ∧ 256 ≤ m.length) ∨ 1000000000 ≤ getN m p
  · rw [if_pos hf]; exact h
  rw [if_neg hf]
  have hb := getM_bd h.vals p
  refine ⟨h.up.put SI.O p _, ?_, fun x hx => ?_, fun x hx => ?_⟩
  · show (putM SI.lt m p _).length ≤ 256
    have := h.few
    unfold putM
    cases hq : fnd SI.lt m p with
    | true => rw [if_pos rfl, List.length_set]; exact this
    | false =>
      rw [if_neg (by decide)]
      have hl := pos_le (lt := SI.lt) m p
      have : ¬ 256 ≤ m.length := fun e => hf (.inl ⟨hq, e⟩)
      simp; omega
  · rcases mem_put hx with rfl | hx
    · simpa using hn
    · exact h.node x hx
  · rcases mem_put hx with rfl | hx
    · have : ¬ 1000000000 ≤ getN m p := fun e => hf (.inr e)
      exact ⟨by show (1 : Int) ≤ getN m p + 1; omega, by show getN m p + 1 ≤ 1000000000; omega⟩
    · exact h.vals x hx
theorem intD_put (n : Int) (h0 : -9223372036854775808 ≤ n) (h1 : n ≤ 9223372036854775807) (r : List UInt8) : intD 0 (putInt n ++ r) = (n, 0, r) := by
  unfold intD putInt
  rw [num_put (zz n) (zz_lt n h0 h1) r, if_pos rfl, if_pos rfl, uz_zz]
theorem textD_put (s : List UInt8) (h : s.length ≤ 9223372036854775807) (r : List UInt8) : textD 0 (putText s ++ r) = (s, 0, r) := by
  unfold textD putText
  rw [List.append_assoc, intD_put _ (by omega) (by omega)]
  simp
  rw [if_neg (by omega), if_neg (by omega)]
theorem rowsD_put (m : LM) (hs : ∀ x ∈ m, x.1.size ≤ 9223372036854775807 ∧ (-9223372036854775808 : Int) ≤ x.2 ∧ (x.2 : Int) ≤ 9223372036854775807) : ∀ (n : Nat) (h : n ≤ m.length) (r : List UInt8), rowsD n 0 ((m.take n).flatMap rowB ++ r) = (m.take n, 0, r)
  | 0, _, r => by simp [rowsD]
  | n + 1, h, r => by
    have hn : n < m.length := by omega
    have ih := rowsD_put m hs n (by omega) (rowB m[n] ++ r)
    have hx := hs m[n] (List.getElem_mem hn)
    rw [List.take_succ_eq_append_getElem hn, List.flatMap_append]
    simp only [List.flatMap_cons, List.flatMap_nil, List.append_nil, List.append_assoc]
    rw [rowsD, ih]
    unfold rowB
    simp only [List.append_assoc]
    rw [textD_put _ hx.1, intD_put _ hx.2.1 hx.2.2]
    simp only [txt_list]
theorem rowsD_len : ∀ (n : Nat) (e : Int) (r : List UInt8), (rowsD n e r).1.length = n
  | 0, e, r => rfl
  | n + 1, e, r => by rw [rowsD, List.length_append, rowsD_len n e r]; rfl
theorem intD_le (e : Int) (r : List UInt8) : (intD e r).2.2.length ≤ r.length := intD_len e r
theorem textD_le (e : Int) (r : List UInt8) : (textD e r).2.2.length ≤ r.length := by
  have := intD_len e r
  unfold textD
  generalize intD e r = q at *
  split
  · exact this
  · split
    · exact this
    · split
      · exact this
      · simp; omega
theorem rowsD_le : ∀ (n : Nat) (e : Int) (r : List UInt8), (rowsD n e r).2.2.length ≤ r.length
  | 0, e, r => Nat.le_refl _
  | n + 1, e, r => by
    rw [rowsD]
    exact Nat.le_trans (intD_le _ _) (Nat.le_trans (textD_le _ _) (rowsD_le n e r))
theorem chk_ok : ∀ (m : LM) (last : ByteArray), chkM last m = 0 ↔ ((∀ x ∈ m, nodeB x.1 = true) ∧ Vals m ∧ Rises SI.lt m ∧ ∀ x ∈ m, SI.lt last x.1 = true)
  | [], last => by
    refine ⟨fun _ => ⟨fun x h => ?_, fun x h => ?_, trivial, fun x h => ?_⟩, fun _ => rfl⟩ <;> simp at h
  | x :: r, last => by
    rw [chkM]
    have ih := chk_ok r x.1
    constructor
    · intro h
      by_cases h1 : nodeB x.1 = false ∨ SI.lt last x.1 = false
      · rw [if_pos h1] at h; cases h
      rw [if_neg h1] at h
      by_cases h2 : x.2 < 1 ∨ 1000000000 < x.2
      · rw [if_pos h2] at h; cases h
      rw [if_neg h2] at h
      obtain ⟨a, b, c, d⟩ := ih.1 h
      have h3 : SI.lt last x.1 = true := by
        cases e : SI.lt last x.1 with
        | true => rfl
        | false => exact absurd (.inr e) h1
      have h4 : nodeB x.1 = true := by
        cases e : nodeB x.1 with
        | true => rfl
        | false => exact absurd (.inl e) h1
      refine ⟨fun y hy => ?_, fun y hy => ?_, ⟨fun q hq => d q hq, c⟩, fun y hy => ?_⟩
      · rcases List.mem_cons.1 hy with rfl | hy
        · exact h4
        · exact a y hy
      · rcases List.mem_cons.1 hy with rfl | hy
        · exact ⟨Int.not_lt.1 (fun e => h2 (.inl e)), Int.not_lt.1 (fun e => h2 (.inr e))⟩
        · exact b y hy
      · rcases List.mem_cons.1 hy with rfl | hy
        · exact h3
        · exact SI.O.tr h3 (d y hy)
    · rintro ⟨a, b, c, d⟩
      have hv := b x (by simp)
      rw [if_neg (by rw [a x (by simp), d x (by simp)]; simp), if_neg (by
        rintro (e | e)
        · exact absurd hv.1 (Int.not_le.2 e)
        · exact absurd hv.2 (Int.not_le.2 e))]
      exact ih.2 ⟨fun y hy => a y (by simp [hy]), fun y hy => b y (by simp [hy]), c.2, c.1⟩
theorem chk_bad : ∀ (m : LM) (last : ByteArray), chkM last m = 0 ∨ chkM last m = 1 ∨ chkM last m = 2
  | [], last => .inl rfl
  | x :: r, last => by
    rw [chkM]
    split
    · exact .inr (.inr rfl)
    · split
      · exact .inr (.inl rfl)
      · exact chk_bad r x.1
theorem lt_empty {p : ByteArray} (h : nodeB p = true) : SI.lt ByteArray.empty p = true := by
  have := (node_size h).1
  cases e : SI.lt ByteArray.empty p with
  | true => rfl
  | false =>
    exfalso
    have e1 : ltS ByteArray.empty p = false := e
    unfold ltS at e1
    rw [Go.Proofs.bytesLess_eq] at e1
    simp only [decide_eq_false_iff_not] at e1
    have hl : p.toList.length = p.size := by rw [ByteArray.toList_eq]; rfl
    have h0 : ByteArray.empty.toList = [] := by rw [ByteArray.toList_eq]; rfl
    rw [h0] at e1
    cases hp : p.toList with
    | nil => rw [hp] at hl; simp at hl; omega
    | cons a l => rw [hp] at e1; exact e1 (List.nil_lt_cons a l)
theorem open_sealed (l : List UInt8) : openL (sealed l) = (0, l) := by
  have hl : (sealed l).length = l.length + 4 := by unfold sealed; rw [List.length_append]; rfl
  have ht : (sealed l).take ((sealed l).length - 4) = l := by
    rw [hl]; unfold sealed; simp
  rw [openL_ok (by omega) (by rw [ht]), ht]
theorem load_bytes {m : LM} (h : Good m) : loadM (bytesM m) = (0, m) := by
  have hf := h.few
  unfold loadM bytesM
  rw [open_sealed, if_neg (by simp)]
  unfold readM
  rw [intD_put _ (by omega) (by omega)]
  have hr := rowsD_put m (fun x hx => ⟨by have := (node_size (h.node x hx)).2; omega, Int.le_trans (by decide) (h.vals x hx).1, Int.le_trans (h.vals x hx).2 (by decide)⟩) m.length (Nat.le_refl _) []
  rw [List.take_length, List.append_nil] at hr
  simp only [Int.toNat_natCast]
  rw [hr]
  simp only
  rw [if_neg (by simp), if_neg (by omega), if_neg (by omega), if_neg (by simp), if_neg (by unfold leftD; simp)]
  have hc : chkM ByteArray.empty m = 0 := (chk_ok m _).2 ⟨h.node, h.vals, h.up, fun x hx => lt_empty (h.node x hx)⟩
  rw [hc, if_neg (by simp)]
theorem load_good {b : List UInt8} (h : (loadM b).1 = 0) : Good (loadM b).2 := by
  unfold loadM at h ⊢
  split
  · rename_i h1; rw [if_pos h1] at h; exact absurd h h1
  rename_i h1
  rw [if_neg h1] at h
  unfold readM at h ⊢
  generalize (openL b).2 = r at *
  generalize hq : intD 0 r = q at *
  split
  · rename_i h2; rw [if_pos h2] at h; exact absurd h h2
  rename_i h2; rw [if_neg h2] at h
  split
  · rename_i h3; rw [if_pos h3] at h; cases h
  rename_i h3; rw [if_neg h3] at h
  split
  · rename_i h4; rw [if_pos h4] at h; cases h
  rename_i h4; rw [if_neg h4] at h
  have hl := rowsD_len q.1.toNat 0 q.2.2
  generalize rowsD q.1.toNat 0 q.2.2 = z at *
  split
  · rename_i h5; rw [if_pos h5] at h; exact absurd h h5
  rename_i h5; rw [if_neg h5] at h
  split
  · rename_i h6; rw [if_pos h6] at h; cases h
  rename_i h6; rw [if_neg h6] at h
  split
  · rename_i h7; rw [if_pos h7] at h; exact absurd h h7
  rename_i h7
  obtain ⟨a, b, c, d⟩ := (chk_ok z.1 ByteArray.empty).1 (by simpa using h7)
  exact ⟨c, by show z.1.length ≤ 256; omega, a, b⟩
theorem rowB_len {x : ByteArray × Int} (h : nodeB x.1 = true) (h0 : (1 : Int) ≤ x.2) (h1 : (x.2 : Int) ≤ 1000000000) : (rowB x).length ≤ 60 := by
  have h2 := (node_size h).2
  have hl : x.1.data.toList.length = x.1.size := rfl
  unfold rowB putText
  have := putInt_len (x.1.data.toList.length : Int) (by omega) (by omega)
  have := putInt_len x.2 (Int.le_trans (by decide) h0) (Int.le_trans h1 (by decide))
  simp only [List.length_append]
  omega
theorem rows_len : ∀ (m : LM), (∀ x ∈ m, nodeB x.1 = true) → Vals m → (m.flatMap rowB).length ≤ m.length * 60
  | [], _, _ => by simp
  | x :: r, h, hv => by
    rw [List.flatMap_cons, List.length_append, List.length_cons, Nat.succ_mul]
    have h1 := rowB_len (h x (by simp)) (hv x (by simp)).1 (hv x (by simp)).2
    have h2 := rows_len r (fun y hy => h y (by simp [hy])) (fun y hy => hv y (by simp [hy]))
    omega
theorem snocB (m : LM) (i : Nat) (hi : i < m.length) : (m.take (i + 1)).flatMap rowB = (m.take i).flatMap rowB ++ rowB m[i] := by
  rw [List.take_succ_eq_append_getElem hi, List.flatMap_append]; simp
end Go.Proofs.YtpdhmbbmhomlnaaDoor
