/- Texts cut at blanks, and joined by them; values: their order, their check, their words, and back. No program in sight. -/
import Derived.Test.YtdnlenngbaaeaaaDoorStr
import Derived.Test.YtdnlenngbaaeaaaDoorDec10
set_option linter.unusedVariables false
set_option linter.unusedSimpArgs false
namespace Go.Cn
open Go.Lib
/-- A text cut at every stroke. -/
def splitS : List UInt8 → List (List UInt8)
  | [] => [[]]
  | c :: l => if c = 32 then [] :: splitS l else (c :: (splitS l).headD []) :: (splitS l).tail
theorem splitS_pos (l : List UInt8) : 0 < (splitS l).length := by
  cases l with
  | nil => simp [splitS]
  | cons c l => rw [splitS]; split <;> simp
theorem splitS_ne (l : List UInt8) : splitS l ≠ [] := fun h => by have := splitS_pos l; rw [h] at this; simp at this
theorem splitS_none : ∀ (l : List UInt8), (32 : UInt8) ∉ l → splitS l = [l]
  | [], _ => rfl
  | c :: l, h => by
    have hc : c ≠ 32 := fun e => h (by simp [e])
    rw [splitS, if_neg hc, splitS_none l (fun h2 => h (by simp [h2]))]; rfl
theorem splitS_hit : ∀ (a b : List UInt8), (32 : UInt8) ∉ a → splitS (a ++ 32 :: b) = a :: splitS b
  | [], b, _ => by rw [List.nil_append, splitS, if_pos rfl]
  | c :: a, b, h => by
    have hc : c ≠ 32 := fun e => h (by simp [e])
    rw [List.cons_append, splitS, if_neg hc, splitS_hit a b (fun h2 => h (by simp [h2]))]; rfl
theorem index32S : ∀ (l : List UInt8), (Go.Lib.index l [32] = -1 ∧ (32 : UInt8) ∉ l) ∨ ∃ a b, l = a ++ 32 :: b ∧ (32 : UInt8) ∉ a ∧ Go.Lib.index l [32] = a.length
  | [] => .inl ⟨rfl, by simp⟩
  | c :: l => by
    by_cases hc : c = 32
    · subst hc
      right
      refine ⟨[], l, rfl, by simp, ?_⟩
      rw [Go.Lib.index, if_pos (by simp [List.isPrefixOf])]; rfl
    · have hp : ¬ ([32] : List UInt8).isPrefixOf (c :: l) = true := by
        simp [List.isPrefixOf]; exact fun h => hc h.symm
      rw [Go.Lib.index, if_neg hp]
      rcases index32S l with ⟨h1, h2⟩ | ⟨a, b, h1, h2, h3⟩
      · left
        rw [if_pos (by rw [h1]; rfl)]
        exact ⟨rfl, by simp [h2]; intro h; exact hc h.symm⟩
      · right
        refine ⟨c :: a, b, by rw [h1]; rfl, by simp [h2]; exact fun h => hc h.symm, ?_⟩
        have hn : ¬ (Go.Lib.index l [32] == -1) = true := by rw [h3]; simp
        rw [if_neg hn, h3]; simp
theorem splitK_eqS : ∀ (n : Nat) (l : List UInt8), l.length ≤ n → Go.Lib.splitK [32] 0 (Go.Lib.count l [32]) l = splitS l
  | n, l, hn => by
    rcases index32S l with ⟨h1, h2⟩ | ⟨a, b, h1, h2, h3⟩
    · rw [Go.Lib.count_miss h1, Go.Lib.splitK, splitS_none l h2]
    · have hd : l.drop (a.length + 1) = b := by rw [h1]; simp
      have hl : b.length < l.length := by rw [h1]; simp; omega
      rw [Go.Lib.count_hit (by simp) h3, Nat.add_comm, Go.Lib.splitK, if_neg (by rw [h3]; simp), h3]
      simp only [Int.toNat_natCast, List.length_cons, List.length_nil, Nat.add_zero, Nat.zero_add]
      cases n with
      | zero => omega
      | succ n =>
        rw [hd, splitK_eqS n b (by omega), h1, splitS_hit a b h2]
        simp
theorem split_txtS (l : List UInt8) : Go.Lib.splitB (txt [32]) 0 (Go.Lib.countB (txt l) (txt [32])) (txt l) = (splitS l).map txt := by
  have h := Go.Lib.splitB_data (txt [32]) 0 (Go.Lib.countB (txt l) (txt [32])) (txt l)
  rw [txt_data, txt_data] at h
  have e : Go.Lib.splitK [32] 0 (Go.Lib.countB (txt l) (txt [32])) l = splitS l := splitK_eqS l.length l (Nat.le_refl _)
  rw [e] at h
  rw [← h, List.map_map]
  have : (txt ∘ fun x : ByteArray => x.data.toList) = id := by funext x; exact txt_list x
  rw [this, List.map_id]
theorem split_countS (l : List UInt8) : Go.Lib.countB (txt l) (txt [32]) + 1 = (splitS l).length := by
  have h := Go.Lib.splitB_all (txt [32]) (by rw [txt_size]; simp) 0 _ (txt l) rfl
  rw [← h, split_txtS, List.length_map]
theorem splitS_len : ∀ l : List UInt8, (splitS l).length ≤ l.length + 1
  | [] => by simp [splitS]
  | c :: l => by
    have ih := splitS_len l
    have hp := splitS_pos l
    rw [splitS]
    split
    · simp; omega
    · rw [List.length_cons, List.length_tail, List.length_cons]; omega
def joinS : List (List UInt8) → List UInt8
  | [] => []
  | p :: r => p ++ r.flatMap (fun q => 32 :: q)
theorem join_split : ∀ l : List UInt8, joinS (splitS l) = l
  | [] => rfl
  | c :: l => by
    have ih := join_split l
    rw [splitS]
    cases hs : splitS l with
    | nil => exact absurd hs (splitS_ne l)
    | cons p r =>
      rw [hs] at ih
      by_cases hc : c = 32
      · rw [if_pos hc]
        show [] ++ (p :: r).flatMap _ = _
        rw [List.nil_append, List.flatMap_cons, hc]
        show 32 :: (p ++ r.flatMap _) = 32 :: l
        congr 1
      · rw [if_neg hc]
        show (c :: p) ++ r.flatMap _ = c :: l
        rw [List.cons_append]
        congr 1
theorem split_join : ∀ (p : List UInt8) (r : List (List UInt8)), (32 : UInt8) ∉ p → (∀ q ∈ r, (32 : UInt8) ∉ q) → splitS (joinS (p :: r)) = p :: r
  | p, [], hp, _ => by
    show splitS (p ++ []) = _
    rw [List.append_nil]; exact splitS_none p hp
  | p, q :: r, hp, hr => by
    have e : joinS (p :: q :: r) = p ++ 32 :: joinS (q :: r) := by
      show p ++ (q :: r).flatMap _ = _
      rw [List.flatMap_cons]; rfl
    rw [e, splitS_hit p _ hp, split_join q r (hr q (by simp)) (fun x hx => hr x (by simp [hx]))]
/- The order. -/
def cmpL : List Int → List Int → Int
  | [], [] => 0
  | [], _ :: _ => -1
  | _ :: _, [] => 1
  | a :: r, b :: s => if a < b then -1 else if b < a then 1 else cmpL r s
theorem cmpL_self : ∀ a : List Int, cmpL a a = 0
  | [] => rfl
  | a :: r => by rw [cmpL, if_neg (by omega), if_neg (by omega)]; exact cmpL_self r
theorem cmpL_anti : ∀ a b : List Int, cmpL b a = -(cmpL a b)
  | [], [] => rfl
  | [], _ :: _ => rfl
  | _ :: _, [] => rfl
  | a :: r, b :: s => by
    rw [cmpL, cmpL]
    by_cases h1 : a < b
    · rw [if_neg (by omega), if_pos h1, if_pos h1]; rfl
    · by_cases h2 : b < a
      · rw [if_pos h2, if_neg h1, if_pos h2]
      · rw [if_neg h2, if_neg h1, if_neg h1, if_neg h2]; exact cmpL_anti r s
theorem cmpL_three : ∀ a b : List Int, cmpL a b = -1 ∨ cmpL a b = 0 ∨ cmpL a b = 1
  | [], [] => by simp [cmpL]
  | [], _ :: _ => by simp [cmpL]
  | _ :: _, [] => by simp [cmpL]
  | a :: r, b :: s => by
    rw [cmpL]
    split
    · simp
    · split
      · simp
      · exact cmpL_three r s
theorem cmpL_zero : ∀ a b : List Int, cmpL a b = 0 → a = b
  | [], [], _ => rfl
  | [], _ :: _, h => by simp [cmpL] at h
  | _ :: _, [], h => by simp [cmpL] at h
  | a :: r, b :: s, h => by
    rw [cmpL] at h
    split at h
    · cases h
    · split at h
      · cases h
      · rw [cmpL_zero r s h]; congr 1; omega
theorem cmpL_trans : ∀ a b c : List Int, cmpL a b ≤ 0 → cmpL b c ≤ 0 → cmpL a c ≤ 0 ∧ (cmpL a c < 0 ↔ cmpL a b < 0 ∨ cmpL b c < 0)
  | [], [], c, _, h => by
    rw [cmpL_self]
    exact ⟨h, by simp⟩
  | [], b :: s, [], _, h => by simp [cmpL] at h
  | [], b :: s, c :: t, _, _ => by simp [cmpL]
  | a :: r, [], c, h, _ => by simp [cmpL] at h
  | a :: r, b :: s, [], _, h => by simp [cmpL] at h
  | a :: r, b :: s, c :: t, h1, h2 => by
    rw [cmpL] at h1 h2
    rw [cmpL, cmpL, cmpL]
    by_cases x1 : a < b
    · by_cases y1 : b < c
      · rw [if_pos x1, if_pos y1, if_pos (by omega)]; simp
      · by_cases y2 : c < b
        · rw [if_neg y1, if_pos y2] at h2; omega
        · rw [if_pos x1, if_pos (by omega : a < c)]; simp
    · by_cases x2 : b < a
      · rw [if_neg x1, if_pos x2] at h1; omega
      · rw [if_neg x1, if_neg x2] at h1
        rw [if_neg x1, if_neg x2]
        have : a = b := by omega
        subst this
        by_cases y1 : a < c
        · simp [y1]
        · by_cases y2 : c < a
          · rw [if_neg y1, if_pos y2] at h2; omega
          · simp only [if_neg y1, if_neg y2] at h2 ⊢
            exact cmpL_trans r s t h1 h2
def bts (l : List UInt8) : List Int := l.map fun c => (c.toNat : Int)
theorem less_cmp : ∀ a b : List UInt8, (Op.bytesLess a b = true ↔ cmpL (bts a) (bts b) = -1)
  | [], [] => by simp [Op.bytesLess, cmpL, bts]
  | [], b :: s => by simp [Op.bytesLess, cmpL, bts]
  | a :: r, [] => by simp [Op.bytesLess, cmpL, bts]
  | a :: r, b :: s => by
    have ih := less_cmp r s
    show (decide (a < b) || (a == b && Op.bytesLess r s)) = true ↔ (if (a.toNat : Int) < b.toNat then (-1 : Int) else if (b.toNat : Int) < a.toNat then 1 else cmpL (bts r) (bts s)) = -1
    have e1 : a < b ↔ (a.toNat : Int) < b.toNat := by rw [UInt8.lt_iff_toNat_lt]; omega
    by_cases h1 : a < b
    · rw [if_pos (e1.1 h1), decide_eq_true h1]; simp
    · rw [if_neg (fun h => h1 (e1.2 h)), decide_eq_false h1, Bool.false_or]
      by_cases h2 : (b.toNat : Int) < a.toNat
      · rw [if_pos h2]
        have hne : a ≠ b := fun e => by rw [e] at h2; omega
        simp [hne]
      · rw [if_neg h2]
        have : a = b := by
          have h3 : ¬ (a.toNat : Int) < b.toNat := fun h => h1 (e1.2 h)
          exact UInt8.toNat_inj.1 (by omega)
        rw [this]
        simp [ih]
theorem bts_inj {a b : List UInt8} (h : bts a = bts b) : a = b := by
  unfold bts at h
  exact (List.map_inj_right (fun x y h => UInt8.toNat_inj.1 (by omega))).1 h
def cmpI (a b : Int) : Int := if a < b then -1 else if b < a then 1 else 0
def cmpS (a b : ByteArray) : Int := cmpL (bts a.data.toList) (bts b.data.toList)
/-- A value: its kind, its number, its text, its numbers. -/
abbrev Val := Int × Int × ByteArray × List Int
def keyV (v : Val) : List Int := v.1 :: (if v.1 = 1 then [v.2.1] else if v.1 = 2 then bts v.2.2.1.data.toList else if v.1 = 3 then v.2.2.2 else [])
def cmpV (a b : Val) : Int := cmpL (keyV a) (keyV b)
theorem cmpL_one (a b : Int) : cmpL [a] [b] = cmpI a b := by
  unfold cmpI
  rw [cmpL]
  rfl
theorem cmpV_eq (a b : Val) : cmpV a b = if a.1 ≠ b.1 then cmpI a.1 b.1 else if a.1 = 1 then cmpI a.2.1 b.2.1 else if a.1 = 2 then cmpS a.2.2.1 b.2.2.1 else if a.1 = 3 then cmpL a.2.2.2 b.2.2.2 else 0 := by
  unfold cmpV keyV
  rw [cmpL]
  by_cases h : a.1 = b.1
  · rw [if_neg (by omega), if_neg (by omega), if_neg (show ¬ (a.1 ≠ b.1) from fun e => e h), ← h]
    by_cases h1 : a.1 = 1
    · simp only [if_pos h1]; exact cmpL_one _ _
    · by_cases h2 : a.1 = 2
      · simp only [if_neg h1, if_pos h2]; rfl
      · by_cases h3 : a.1 = 3
        · simp only [if_neg h1, if_neg h2, if_pos h3]
        · simp only [if_neg h1, if_neg h2, if_neg h3]; rfl
  · rw [if_pos h]
    unfold cmpI
    by_cases h1 : a.1 < b.1
    · rw [if_pos h1, if_pos h1]
    · rw [if_neg h1, if_neg h1, if_pos (by omega), if_pos (by omega)]
/- What may be. -/
def prB (c : UInt8) : Bool := decide (32 ≤ c.toNat) && decide (c.toNat ≤ 126) && decide (c.toNat ≠ 34)
def upL (l : List Int) : Bool := (List.range (l.length - 1)).all fun i => decide (l.getD i 0 < l.getD (i + 1) 0)
def textE (s : List UInt8) : Int := if 64 < s.length then 4 else if s.all prB = true then 0 else 2
def listE (l : List Int) : Int := if 16 < l.length then 4 else if upL l = true then 0 else 2
def checkV (v : Val) : Int := if v.1 = 1 then 0 else if v.1 = 2 then textE v.2.2.1.data.toList else if v.1 = 3 then listE v.2.2.2 else 7
/- In words. -/
def textV (v : Val) : List UInt8 := if v.1 = 1 then itoa v.2.1 else if v.1 = 2 then 34 :: v.2.2.1.data.toList ++ [34] else if v.1 = 3 then 91 :: joinS (v.2.2.2.map itoa) ++ [93] else []
def v0 : Val := (0, 0, ByteArray.empty, [])
def insideL (a b : UInt8) (s : List UInt8) : Option (List UInt8) := if 2 ≤ s.length ∧ s.headD 0 = a ∧ s.getLastD 0 = b then some (s.tail.dropLast) else none
/-- The numbers of words; none: one is no number. -/
def numsL : List (List UInt8) → Option (List Int)
  | [] => some []
  | w :: r => match numR w, numsL r with
    | some v, some l => some (v :: l)
    | _, _ => none
def readV (s : List UInt8) : Option Val := match insideL 34 34 s with
  | some t => some (2, 0, txt t, [])
  | none => match insideL 91 93 s with
    | some t => if t = [] then some (3, 0, ByteArray.empty, []) else match numsL (splitS t) with
      | some l => some (3, 0, ByteArray.empty, l)
      | none => none
    | none => match numR s with
      | some n => some (1, n, ByteArray.empty, [])
      | none => none
def parseV (s : List UInt8) : Val × Int := match readV s with
  | none => (v0, 2)
  | some v => if checkV v ≠ 0 then (v0, checkV v) else (v, 0)
end Go.Cn
