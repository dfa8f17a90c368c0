/- A Go function's body as one formula over values, without its frame: what is to be shown for a call to return with a given word (a rule for each construct, sound over any program). -/
import Derived.Test.YtpjeohellehgjaaDoorL0
import Derived.OrdersHeld
set_option linter.unusedVariables false
set_option linter.unusedSimpArgs false
namespace Go.Cn
open Go.RowKit

abbrev Env := Nat → Value
def Env.put (ρ : Env) (d : Nat) (v : Value) : Env := fun k => bif Nat.beq k d then v else ρ k
def Env.putO (ρ : Env) (d : Option Tmp) (v : Value) : Env := match d with | some d => ρ.put d v | none => ρ
def ev (ρ : Env) : Operand → Value
  | .tmp t => ρ t
  | .const v => v
  | .global g => .pointer (some ⟨g, 0, none⟩)
  | .func f => .func (.func f) #[] #[]
def envOf : Nat → List Value → Env
  | _, [] => fun _ => undef
  | i, x :: r => fun k => bif Nat.beq k i then x else envOf (i + 1) r k

/-! ### what an operation asks -/
def ResK (r : Result Value) (K : Value → World → Prop) : Prop := match r with | .ok v w => K v w | _ => False
def UnitK (r : Result Unit) (K : Value → World → Prop) : Prop := match r with | .ok _ w => K undef w | _ => False
def RetK (K : Value → World → Prop) : Ending → World → Prop | .returned v, w => K v w | _, _ => False
def CallK (P : Program) (f : FuncId) (args : Array Value) (K : Value → World → Prop) (w : World) : Prop := Calls P f args w (RetK K)
def NextK (P : Program) (r : Result Next) (K : Value → World → Prop) : Prop :=
  match r with
  | .ok (.value v) w => K v w
  | .ok .skip w => K undef w
  | .ok (.enter f args) w => CallK P f args K w
  | _ => False
def LoadK (P : Program) (t : TypeId) (x : Value) (K : Value → World → Prop) (w : World) : Prop := ResK ((Instr.loadAt t x).run P w) K
def StoreK (P : Program) (t : TypeId) (x y : Value) (K : Value → World → Prop) (w : World) : Prop := UnitK ((Instr.storeAt t x y).run P w) K
def PickK (P : Program) (c a b : Value) (K : Value → World → Prop) (w : World) : Prop := match c with | .bool true => K a w | .bool false => K b w | _ => False
def FieldAtK (P : Program) (s : TypeId) (x : Value) (f : Nat) (K : Value → World → Prop) (w : World) : Prop := ResK ((Instr.fieldAt s x f).run P w) K
def IndexAtK (P : Program) (t : TypeId) (x i : Value) (K : Value → World → Prop) (w : World) : Prop := ResK ((Instr.indexAt t x i).run P w) K
def ExtractK (P : Program) (t : Value) (i : Nat) (K : Value → World → Prop) (w : World) : Prop := ResK ((Instr.extract t i).run P w) K
def BinNK (P : Program) (op : BinOp) (t : TypeId) (x : Value) (K : Value → World → Prop) (w : World) : Prop := (∀ xo, (eqGuard op t xo (.const .nilIface) x .nilIface).run P w = .ok () w) ∧ ResK ((binOp op t x .nilIface).run P w) K
def BinK (P : Program) (op : BinOp) (t : TypeId) (x y : Value) (K : Value → World → Prop) (w : World) : Prop := (∀ xo yo, (eqGuard op t xo yo x y).run P w = .ok () w) ∧ ResK ((binOp op t x y).run P w) K
def UnK (P : Program) (op : UnOp) (x : Value) (K : Value → World → Prop) (w : World) : Prop := ResK ((Op.unary op x).run P w) K
def ConvK (P : Program) (s d : TypeId) (x : Value) (K : Value → World → Prop) (w : World) : Prop := ResK ((convert s d x).run P w) K
def SliceK (P : Program) (t : TypeId) (x : Value) (lo hi mx : Option Value) (K : Value → World → Prop) (w : World) : Prop := ResK ((Instr.sliceAt t x lo hi mx).run P w) K
def BoxK (P : Program) (t : TypeId) (x : Value) (K : Value → World → Prop) (w : World) : Prop := ResK ((Instr.box t x).run P w) K
def AllocK (P : Program) (t : TypeId) (K : Value → World → Prop) (w : World) : Prop := ResK ((Instr.alloc t true (.tuple #[])).run P w) K
def BuildK (P : Program) (t : TypeId) (ps : Array (Nat × Value)) (K : Value → World → Prop) (w : World) : Prop := ResK ((Instr.build t ps).run P w) K
def BuildSliceK (P : Program) (t : TypeId) (n : Nat) (ps : Array (Nat × Value)) (K : Value → World → Prop) (w : World) : Prop := ResK ((Instr.buildSlice t n ps).run P w) K
def BuiltinK (P : Program) (b : Builtin) (ts : Array TypeId) (t : TypeId) (cs : Array Bool) (args : Array Value) (K : Value → World → Prop) (w : World) : Prop := NextK P ((builtin b ts t cs args).run P w) K
def CallV (P : Program) (f : Value) (args : Array Value) (K : Value → World → Prop) (w : World) : Prop := NextK P ((Deferred.ofValue f args >>= fun d => invoke d.target d.args).run P w) K
def nilSem (x : Value) : Sem Next := execOp (fun _ => x) { dst := none, op := .nilCheck (.tmp 0), type := 0, pos := "", after := #[], guard := none }
def NilK (P : Program) (x : Value) (K : Value → World → Prop) (w : World) : Prop := NextK P ((nilSem x).run P w) K
def ValK (P : Program) (s : Sem Value) (K : Value → World → Prop) (w : World) : Prop := ResK (s.run P w) K
def DoK (P : Program) (s : Sem Unit) (K : Value → World → Prop) (w : World) : Prop := UnitK (s.run P w) K
def OpK (P : Program) (s : Sem Next) (K : Value → World → Prop) (w : World) : Prop := NextK P (s.run P w) K
def constsOf (args : Array Operand) : Array Bool := args.map fun | .const _ => true | _ => false
def GuardK (g : Value) (want : Bool) (op : (Value → World → Prop) → World → Prop) (K : Value → World → Prop) (w : World) : Prop :=
  match g with
  | .bool b => match b, want with
    | true, true => op K w
    | false, false => op K w
    | _, _ => K undef w
  | _ => K undef w
def opK (P : Program) (o : Oper) (ρ : Env) (K : Value → World → Prop) (w : World) : Prop :=
  match o.op with
  | .pick c a b => PickK P (ev ρ c) (ev ρ a) (ev ρ b) K w
  | .binOp op t x y _ => match y with
    | .const .nilIface => BinNK P op t (ev ρ x) K w
    | _ => BinK P op t (ev ρ x) (ev ρ y) K w
  | .call c => match c.callee with
    | .builtin b => BuiltinK P b c.argTypes o.type (constsOf c.args) (c.args.map (ev ρ)) K w
    | .value f => CallV P (ev ρ f) (c.args.map (ev ρ)) K w
    | _ => OpK P (execOp (ev ρ) o) K w
  | .nilCheck x => NilK P (ev ρ x) K w
  | .move x => K (ev ρ x) w
  | .assign x => K (ev ρ x) w
  | .load t x => LoadK P t (ev ρ x) K w
  | .store t x y => StoreK P t (ev ρ x) (ev ρ y) K w
  | .fieldAddr s x f => FieldAtK P s (ev ρ x) f K w
  | .indexAddr t x i => IndexAtK P t (ev ρ x) (ev ρ i) K w
  | .extract t i => ExtractK P (ev ρ t) i K w
  | .unOp op _ x => UnK P op (ev ρ x) K w
  | .convert s d x => ConvK P s d (ev ρ x) K w
  | .slice t x lo hi mx => SliceK P t (ev ρ x) (lo.map (ev ρ)) (hi.map (ev ρ)) (mx.map (ev ρ)) K w
  | .box t x => BoxK P t (ev ρ x) K w
  | .alloc t => AllocK P t K w
  | .build t ps => BuildK P t (ps.map fun (i, x) => (i, ev ρ x)) K w
  | .buildSlice t n ps => BuildSliceK P t n (ps.map fun (i, x) => (i, ev ρ x)) K w
  | .index t x i => ValK P (Instr.index t (ev ρ x) (ev ρ i)) K w
  | .field t x f => ValK P (Instr.field t (ev ρ x) f) K w
  | .lookup t x i ok => ValK P (Instr.lookup t (ev ρ x) (ev ρ i) ok) K w
  | .makeMap t r => ValK P (Instr.makeMap t (r.map (ev ρ))) K w
  | .makeSlice t l c => ValK P (Instr.makeSlice t (ev ρ l) (ev ρ c)) K w
  | .makeInterface t x => ValK P (Instr.makeInterface t (ev ρ x)) K w
  | .typeAssert x t a ok => ValK P (Instr.typeAssert (ev ρ x) t a ok) K w
  | .makeFunc f a c => ValK P (Instr.makeFunc f (a.map (ev ρ)) (c.map (ev ρ))) K w
  | .range t x => ValK P (Instr.range t (ev ρ x)) K w
  | .next it s => ValK P (Instr.next (ev ρ it) s o.type) K w
  | .entry it => ValK P (Instr.entry (ev ρ it)) K w
  | .mapUpdate t m k x => DoK P (Instr.mapUpdate t (ev ρ m) (ev ρ k) (ev ρ x)) K w
  | .insert t m k x => DoK P (Instr.mapUpdate t (ev ρ m) (ev ρ k) (ev ρ x)) K w
  | _ => OpK P (execOp (ev ρ) o) K w
def slotOf (ops : Array Oper) (j : Nat) (ρ : Env) : Value := match (ops[j]?).bind (·.dst) with | some d => ρ d | none => undef
def vcOp (P : Program) (ops : Array Oper) (o : Oper) (ρ : Env) (K : Value → World → Prop) (w : World) : Prop :=
  match o.guard with
  | none => opK P o ρ K w
  | some (j, want) => GuardK (slotOf ops j ρ) want (fun k w => opK P o ρ k w) K w
def vcList (P : Program) (ops : Array Oper) : List Oper → (Env → World → Prop) → Env → World → Prop
  | [], K, ρ, w => K ρ w
  | o :: r, K, ρ, w => vcOp P ops o ρ (fun v w' => vcList P ops r K (ρ.putO o.dst v) w') w

/-! ### the frame and the environment -/
structure Sim (N : Nat) (a : Act) (ρ : Env) : Prop where
  size : a.tmps.size = N
  defers : a.defers = []
  get : ∀ k, a.tmps.getD k undef = ρ k
theorem beq_iff (a b : Nat) : Nat.beq a b = true ↔ a = b := ⟨Nat.eq_of_beq_eq_true, fun h => by subst h; exact Nat.beq_refl a⟩
theorem Sim.eval {N : Nat} {a : Act} {ρ : Env} (h : Sim N a ρ) : a.eval = ev ρ := by
  funext x
  cases x with
  | tmp t => exact h.get t
  | const v => rfl
  | global g => rfl
  | func f => rfl
theorem Sim.put {N : Nat} {a : Act} {ρ : Env} (h : Sim N a ρ) (d : Option Tmp) (hd : ∀ t, d = some t → t < N) (v : Value) : Sim N (a.put d v) (ρ.putO d v) := by
  cases d with
  | none => exact h
  | some d =>
    have hdn := hd d rfl
    refine ⟨by simp [Act.put, h.size], by simp [Act.put, h.defers], fun k => ?_⟩
    simp only [Act.put, Env.putO, Env.put]
    have hk := h.get k
    by_cases e : k = d
    · subst e
      rw [(beq_iff k k).2 rfl]
      simp [Array.getD_eq_getD_getElem?, Array.getElem?_setIfInBounds, h.size, hdn]
    · have : Nat.beq k d = false := by
        cases hb : Nat.beq k d with
        | false => rfl
        | true => exact absurd ((beq_iff k d).1 hb) e
      rw [this]
      simp only [cond_false]
      rw [← hk]
      simp [Array.getD_eq_getD_getElem?, Array.getElem?_setIfInBounds, Ne.symm e]
def boolOf : Value → Option Bool | .bool b => some b | _ => none
theorem Sim.yielded {N : Nat} {a : Act} {ρ : Env} (h : Sim N a ρ) (ops : Array Oper) (j : Nat) : yielded ops a.tmps j = boolOf (slotOf ops j ρ) := by
  unfold Go.yielded slotOf
  cases hd : (ops[j]?).bind (·.dst) with
  | none => simp [undef, boolOf]
  | some d =>
    simp only [Option.bind_some]
    have hk := h.get d
    rw [Array.getD_eq_getD_getElem?] at hk
    rw [← hk]
    cases ht : a.tmps[d]? with
    | none => simp [undef, boolOf]
    | some v => cases v <;> rfl

/-- The post, over frames. No panic. -/
def lift (N : Nat) (Q : Exit → Env → World → Prop) : Exit → Act → World → Prop
  | .panic _, _, _ => False
  | .outgrown, _, _ => False
  | e, a, w => ∃ ρ, Sim N a ρ ∧ Q e ρ w
theorem lift_mono {N : Nat} {Q Q' : Exit → Env → World → Prop} (h : ∀ e ρ w, Q e ρ w → Q' e ρ w) : ∀ e a w, lift N Q e a w → lift N Q' e a w := by
  intro e a w hq
  cases e <;> first | exact hq.elim | (obtain ⟨ρ, h1, h2⟩ := hq; exact ⟨ρ, h1, h _ _ _ h2⟩)

/-! ### soundness of one operation -/
theorem NextK.mono {P : Program} {r : Result Next} {K K' : Value → World → Prop} (h : ∀ v w, K v w → K' v w) (hr : NextK P r K) : NextK P r K' := by
  unfold NextK at *
  split at hr
  · exact h _ _ hr
  · exact h _ _ hr
  · exact Calls.mono hr (fun e w he => by cases e <;> first | exact h _ _ he | exact he)
  · exact hr.elim
theorem nextK_value {P : Program} {s : Sem Value} {K : Value → World → Prop} {w : World} (h : ResK (s.run P w) K) : NextK P ((do pure (Next.value (← s)) : Sem Next).run P w) K := by
  simp only [Sem.run_bind, Sem.run_pure]
  cases hr : s.run P w with
  | ok v w' => rw [hr] at h; simpa [NextK, ResK] using h
  | halt x w' => rw [hr] at h; exact h.elim
theorem nextK_unit {P : Program} {s : Sem Unit} {K : Value → World → Prop} {w : World} (h : UnitK (s.run P w) K) : NextK P ((do s; pure Next.skip : Sem Next).run P w) K := by
  simp only [Sem.run_bind, Sem.run_pure]
  cases hr : s.run P w with
  | ok v w' => rw [hr] at h; simpa [NextK, UnitK] using h
  | halt x w' => rw [hr] at h; exact h.elim
theorem nilSem_eq {o : Oper} {x : Operand} (ρ : Env) (ho : o.op = .nilCheck x) : execOp (ev ρ) o = nilSem (ev ρ x) := by unfold nilSem execOp; simp only [ho]
theorem opK_sound {P : Program} {o : Oper} {ρ : Env} {K : Value → World → Prop} {w : World} (h : opK P o ρ K w) : NextK P ((execOp (ev ρ) o).run P w) K := by
  unfold opK at h
  split at h
  all_goals (rename_i ho)
  case h_1 =>
    unfold execOp; simp only [ho]
    unfold PickK at h
    split at h
    · rename_i hc; rw [hc]; simpa [NextK, asBool] using h
    · rename_i hc; rw [hc]; simpa [NextK, asBool] using h
    · exact h.elim
  case h_2 =>
    unfold execOp; simp only [ho]
    refine nextK_value ?_
    split at h
    · obtain ⟨h1, h2⟩ := h
      have e : ev ρ (.const .nilIface) = .nilIface := rfl
      simp only [Sem.run_bind, e, h1, Result.andThen_ok]
      exact h2
    · obtain ⟨h1, h2⟩ := h
      simp only [Sem.run_bind, h1, Result.andThen_ok]
      exact h2
  case h_3 =>
    split at h
    · rename_i b hb
      unfold execOp; simp only [ho, resolve, hb]
      simp only [Sem.run_bind, Sem.run_pure, Result.andThen_ok, invoke]
      exact h
    · rename_i f hf
      unfold execOp; simp only [ho, resolve, hf]
      exact h
    · exact h
  case h_4 => rw [nilSem_eq ρ ho]; exact h
  all_goals first
    | (unfold execOp; simp only [ho]; exact nextK_value h)
    | (unfold execOp; simp only [ho]; exact nextK_unit h)
    | (unfold execOp; simp only [ho]; simpa [NextK] using h)
    | exact h

theorem wp_of_nextK {P : Program} {o : Oper} {a : Act} {w : World} {K : Value → World → Prop} {next : Act → World → Prop} {Q : Exit → Act → World → Prop} (h : NextK P ((execOp a.eval o).run P w) K) (hn : ∀ v w, K v w → next (a.put o.dst v) w) : o.wp P a w next Q := by
  unfold Oper.wp
  generalize (execOp a.eval o).run P w = r at *
  unfold NextK at h
  split at h
  · exact hn _ _ h
  · exact hn _ _ h
  · exact Calls.mono h (fun e w he => by cases e <;> first | exact hn _ _ he | exact he.elim)
  · exact h.elim
theorem guardK_cases {g : Value} {want : Bool} {op : (Value → World → Prop) → World → Prop} {K : Value → World → Prop} {w : World} (h : GuardK g want op K w) :
    (boolOf g = some want ∧ op K w) ∨ (boolOf g ≠ some want ∧ K undef w) := by
  unfold GuardK at h
  split at h
  · rename_i b
    cases b <;> cases want <;> simp [boolOf] at h ⊢ <;> exact h
  · rename_i hne
    right
    refine ⟨?_, h⟩
    cases g <;> simp [boolOf] at hne ⊢
theorem wpOper_of_vc {P : Program} {N : Nat} {ops : Array Oper} {o : Oper} {a : Act} {ρ : Env} {w : World} {K : Value → World → Prop} {next : Act → World → Prop} {Q : Exit → Act → World → Prop} (hs : Sim N a ρ) (h : vcOp P ops o ρ K w) (hn : ∀ v w, K v w → next (a.put o.dst v) w) :
    if Region.wanted o (yielded ops a.tmps) then o.wp P a w next Q else next (a.put o.dst undef) w := by
  unfold vcOp at h
  split at h
  · rename_i hg
    rw [if_pos (by simp [Region.wanted, hg])]
    refine wp_of_nextK ?_ hn
    rw [hs.eval]; exact opK_sound h
  · rename_i j want hg
    have hy := hs.yielded ops j
    rcases guardK_cases h with ⟨h1, h2⟩ | ⟨h1, h2⟩
    · rw [if_pos (by simp only [Region.wanted, hg, hy, h1]; simp)]
      refine wp_of_nextK ?_ hn
      rw [hs.eval]; exact opK_sound h2
    · rw [if_neg (by simp only [Region.wanted, hg, hy]; simpa using h1)]
      exact hn _ _ h2

/-! ### lists of operations; what is written -/
def opsFit (N : Nat) (W : Nat → Bool) (l : List Oper) : Bool := l.all fun o => match o.dst with | some d => decide (d < N) && W d | none => true
theorem opsFit_cons {N : Nat} {W : Nat → Bool} {o : Oper} {l : List Oper} (h : opsFit N W (o :: l) = true) : (∀ t, o.dst = some t → t < N ∧ W t = true) ∧ opsFit N W l = true := by
  simp only [opsFit, List.all_cons, Bool.and_eq_true] at h
  refine ⟨fun t ht => ?_, h.2⟩
  have := h.1
  rw [ht] at this
  simpa using this
def Keeps (W : Nat → Bool) (ρ ρ' : Env) : Prop := ∀ k, W k = false → ρ' k = ρ k
theorem Keeps.refl (W : Nat → Bool) (ρ : Env) : Keeps W ρ ρ := fun _ _ => rfl
theorem Keeps.trans {W : Nat → Bool} {a b c : Env} (h : Keeps W a b) (k : Keeps W b c) : Keeps W a c := fun i hi => (k i hi).trans (h i hi)
theorem Keeps.put {W : Nat → Bool} {ρ : Env} (d : Option Tmp) (hd : ∀ t, d = some t → W t = true) (v : Value) : Keeps W ρ (ρ.putO d v) := fun k hk => by
  cases d with
  | none => rfl
  | some d =>
    have : Nat.beq k d = false := by
      cases hb : Nat.beq k d with
      | false => rfl
      | true => have := (beq_iff k d).1 hb; subst this; rw [hd k rfl] at hk; cases hk
    simp [Env.putO, Env.put, this]
theorem vcList_sound {P : Program} {N : Nat} {W : Nat → Bool} {ops : Array Oper} {Q : Exit → Env → World → Prop} : ∀ (l : List Oper) (ρ ρ0 : Env) (a : Act) (w : World), opsFit N W l = true → Sim N a ρ → Keeps W ρ0 ρ → vcList P ops l (Q .normal) ρ w →
    wpList P ops (lift N (fun e ρ' w' => Q e ρ' w' ∧ Keeps W ρ0 ρ')) l a w
  | [], ρ, ρ0, a, w, _, hs, hk, h => ⟨ρ, hs, h, hk⟩
  | o :: r, ρ, ρ0, a, w, hf, hs, hk, h => by
    obtain ⟨hd, hf⟩ := opsFit_cons hf
    refine wpList_step fun K hK => ?_
    exact wpOper_of_vc hs h (fun v w' h' => hK _ _ (vcList_sound r _ ρ0 _ w' hf (hs.put o.dst (fun t ht => (hd t ht).1) v) (hk.trans (Keeps.put o.dst (fun t ht => (hd t ht).2) v)) h'))

/-! ### regions that draw their order -/
inductive Plan where
  | done
  | take (i : Nat) (p : Plan)
  | alt (i : Nat) (p q : Plan)
  | nil
def TakeS (P : Program) (S : World → Prop) (s : Sem Value) (K : Value → Prop) : Prop := ∃ v, (∀ w, S w → s.run P w = .ok v w) ∧ K v
def TakeO (P : Program) (S : World → Prop) (s : Sem Next) (K : Value → Prop) : Prop := ∃ v, (∀ w, S w → s.run P w = .ok (.value v) w) ∧ K v
def TakeG (g : Value) (want : Bool) (op : (Value → Prop) → Prop) (K : Value → Prop) : Prop :=
  match g with
  | .bool b => match b, want with
    | true, true => op K
    | false, false => op K
    | _, _ => K undef
  | _ => K undef
def BinT (P : Program) (S : World → Prop) (op : BinOp) (t : TypeId) (x y : Value) (K : Value → Prop) : Prop := ∃ v, (∀ w, S w → (∀ xo yo, (eqGuard op t xo yo x y).run P w = .ok () w) ∧ (binOp op t x y).run P w = .ok v w) ∧ K v
def PickT (c a b : Value) (K : Value → Prop) : Prop := match c with | .bool true => K a | .bool false => K b | _ => False
def takeK (P : Program) (S : World → Prop) (o : Oper) (ρ : Env) (K : Value → Prop) : Prop :=
  match o.op with
  | .pick c a b => PickT (ev ρ c) (ev ρ a) (ev ρ b) K
  | .binOp op t x y _ => BinT P S op t (ev ρ x) (ev ρ y) K
  | .call c => match c.callee with
    | .builtin b => TakeO P S (builtin b c.argTypes o.type (constsOf c.args) (c.args.map (ev ρ))) K
    | _ => TakeO P S (execOp (ev ρ) o) K
  | .nilCheck x => TakeO P S (nilSem (ev ρ x)) K
  | .move x => K (ev ρ x)
  | .assign x => K (ev ρ x)
  | .load t x => TakeS P S (Instr.loadAt t (ev ρ x)) K
  | .fieldAddr s x f => TakeS P S (Instr.fieldAt s (ev ρ x) f) K
  | .indexAddr t x i => TakeS P S (Instr.indexAt t (ev ρ x) (ev ρ i)) K
  | .extract t i => TakeS P S (Instr.extract (ev ρ t) i) K
  | .unOp op _ x => TakeS P S (Op.unary op (ev ρ x)) K
  | .convert s d x => TakeS P S (convert s d (ev ρ x)) K
  | .slice t x lo hi mx => TakeS P S (Instr.sliceAt t (ev ρ x) (lo.map (ev ρ)) (hi.map (ev ρ)) (mx.map (ev ρ))) K
  | .index t x i => TakeS P S (Instr.index t (ev ρ x) (ev ρ i)) K
  | .field t x f => TakeS P S (Instr.field t (ev ρ x) f) K
  | .lookup t x i ok => TakeS P S (Instr.lookup t (ev ρ x) (ev ρ i) ok) K
  | .makeInterface t x => TakeS P S (Instr.makeInterface t (ev ρ x)) K
  | .typeAssert x t a ok => TakeS P S (Instr.typeAssert (ev ρ x) t a ok) K
  | .makeFunc f a c => TakeS P S (Instr.makeFunc f (a.map (ev ρ)) (c.map (ev ρ))) K
  | _ => TakeO P S (execOp (ev ρ) o) K
def takeOp (P : Program) (S : World → Prop) (ops : Array Oper) (o : Oper) (ρ : Env) (K : Value → Prop) : Prop :=
  match o.guard with
  | none => takeK P S o ρ K
  | some (j, want) => TakeG (slotOf ops j ρ) want (fun k => takeK P S o ρ k) K
def vcPlan (P : Program) (S : World → Prop) (ops : Array Oper) (K : Env → World → Prop) : Plan → Env → World → Prop
  | .done, ρ, w => K ρ w
  | .take i p, ρ, w => match ops[i]? with
    | some o => takeOp P S ops o ρ (fun v => vcPlan P S ops K p (ρ.putO o.dst v) w)
    | none => False
  | .alt i p q, ρ, w => (match ops[i]? with
    | some o => vcOp P ops o ρ (fun v w' => S w' ∧ vcPlan P S ops K p (ρ.putO o.dst v) w') w
    | none => False) ∧ vcPlan P S ops K q ρ w
  | .nil, ρ, w => True
def Plan.heads : Plan → List Nat
  | .alt i _ q => i :: q.heads
  | _ => []
def planOk (N : Nat) (ops : Array Oper) : Plan → Bool → Nat → Array Bool → Bool
  | .done, top, _, listed => top && (Region.ready .any ops listed).isEmpty
  | .take i p, top, f, listed => top && match f with
    | 0 => false
    | f + 1 => Region.free .any ops listed i && (Region.ready .any ops listed).contains i && planOk N ops p true f (listed.setIfInBounds i true)
  | .alt i p q, top, f, listed => (!top || (Region.ready .any ops listed == i :: q.heads)) && match f with
    | 0 => false
    | f' + 1 => planOk N ops p true f' (listed.setIfInBounds i true) && planOk N ops q false f listed
  | .nil, top, _, _ => !top
theorem takeG_cases {g : Value} {want : Bool} {op : (Value → Prop) → Prop} {K : Value → Prop} (h : TakeG g want op K) : (boolOf g = some want ∧ op K) ∨ (boolOf g ≠ some want ∧ K undef) := by
  unfold TakeG at h
  split at h
  · rename_i b
    cases b <;> cases want <;> simp [boolOf] at h ⊢ <;> exact h
  · rename_i hne
    right
    refine ⟨?_, h⟩
    cases g <;> simp [boolOf] at hne ⊢
theorem takeK_sound {P : Program} {S : World → Prop} {o : Oper} {ρ : Env} {K : Value → Prop} (h : takeK P S o ρ K) : ∃ v, (∀ w, S w → (execOp (ev ρ) o).run P w = .ok (.value v) w) ∧ K v := by
  unfold takeK at h
  have val : ∀ (s : Sem Value), (∀ w, (execOp (ev ρ) o).run P w = (do pure (Next.value (← s)) : Sem Next).run P w) → TakeS P S s K → ∃ v, (∀ w, S w → (execOp (ev ρ) o).run P w = .ok (.value v) w) ∧ K v := fun s he ⟨v, h1, h2⟩ =>
    ⟨v, fun w hw => by rw [he]; simp [h1 w hw], h2⟩
  split at h
  all_goals (rename_i ho)
  case h_1 =>
    unfold PickT at h
    split at h
    · rename_i hc; exact ⟨_, fun w _ => by unfold execOp; simp [ho, hc, asBool], h⟩
    · rename_i hc; exact ⟨_, fun w _ => by unfold execOp; simp [ho, hc, asBool], h⟩
    · exact h.elim
  case h_2 =>
    obtain ⟨v, h1, h2⟩ := h
    refine ⟨v, fun w hw => ?_, h2⟩
    unfold execOp; simp only [ho, Sem.run_bind, Sem.run_pure, (h1 w hw).1, (h1 w hw).2, Result.andThen_ok]
  case h_3 =>
    split at h
    · rename_i b hb
      obtain ⟨v, h1, h2⟩ := h
      refine ⟨v, fun w hw => ?_, h2⟩
      unfold execOp; simp only [ho, resolve, hb]
      simp only [Sem.run_bind, Sem.run_pure, Result.andThen_ok, invoke]
      exact h1 w hw
    · exact h
  case h_4 => rw [nilSem_eq ρ ho]; exact h
  case h_5 => exact ⟨_, fun w _ => by unfold execOp; simp [ho], h⟩
  case h_6 => exact ⟨_, fun w _ => by unfold execOp; simp [ho], h⟩
  all_goals first
    | exact val _ (fun w => by unfold execOp; simp only [ho]) h
    | exact h
theorem takeOp_sound {P : Program} {N : Nat} {S : World → Prop} {ops : Array Oper} {o : Oper} {a : Act} {ρ : Env} {K : Value → Prop} (hs : Sim N a ρ) (h : takeOp P S ops o ρ K) : ∃ v, YieldsIf P ops S o v a ∧ K v := by
  unfold takeOp at h
  split at h
  · rename_i hg
    obtain ⟨v, h1, h2⟩ := takeK_sound h
    exact ⟨v, .inl ⟨by simp [Region.wanted, hg], fun w hw => by rw [hs.eval]; exact h1 w hw⟩, h2⟩
  · rename_i j want hg
    have hy := hs.yielded ops j
    rcases takeG_cases h with ⟨h1, h2⟩ | ⟨h1, h2⟩
    · obtain ⟨v, h3, h4⟩ := takeK_sound h2
      exact ⟨v, .inl ⟨by simp only [Region.wanted, hg, hy, h1]; simp, fun w hw => by rw [hs.eval]; exact h3 w hw⟩, h4⟩
    · exact ⟨undef, .inr ⟨by simp only [Region.wanted, hg, hy]; simpa using h1, rfl⟩, h2⟩
theorem opsFit_get {N : Nat} {W : Nat → Bool} {ops : Array Oper} (h : opsFit N W ops.toList = true) {i : Nat} {o : Oper} (ho : ops[i]? = some o) : ∀ t, o.dst = some t → t < N ∧ W t = true := fun t ht => by
  have hm : o ∈ ops.toList := by
    have := Array.mem_of_getElem? ho
    exact Array.mem_toList_iff.2 this
  have := List.all_eq_true.1 h o hm
  rw [ht] at this
  simpa using this
theorem wpOp_of_vc {P : Program} {N : Nat} {ops : Array Oper} {i : Nat} {o : Oper} (ho : ops[i]? = some o) {a : Act} {ρ : Env} {w : World} {K : Value → World → Prop} {next : Act → World → Prop} {Q : Exit → Act → World → Prop} (hs : Sim N a ρ) (h : vcOp P ops o ρ K w) (hn : ∀ v w, K v w → next (a.put o.dst v) w) :
    wpOp P ops Q i next a w := by
  have := wpOper_of_vc (Q := Q) hs h hn
  unfold wpOp
  simp only [ho]
  split
  · rename_i hw; rw [if_pos hw] at this; exact .inl this
  · rename_i hw; rw [if_neg hw] at this; exact this
theorem plan_sound {P : Program} {N : Nat} {W : Nat → Bool} {S : World → Prop} {ops : Array Oper} {Q : Exit → Env → World → Prop} (hsel : Region.noSelect ops = true) (hfit : opsFit N W ops.toList = true) (ρ0 : Env) :
    ∀ (p : Plan) (f : Nat) (listed : Array Bool) (ρ : Env) (a : Act) (w : World), Sim N a ρ → Keeps W ρ0 ρ → S w → vcPlan P S ops (Q .normal) p ρ w →
      (planOk N ops p true f listed = true → wpAnyH P .any ops (lift N (fun e ρ' w' => Q e ρ' w' ∧ Keeps W ρ0 ρ')) S f listed a w) ∧
      (∀ f', f = f' + 1 → planOk N ops p false f listed = true → ∀ i ∈ p.heads, wpOp P ops (lift N (fun e ρ' w' => Q e ρ' w' ∧ Keeps W ρ0 ρ')) i (fun a' w' => S w' ∧ wpAnyH P .any ops (lift N (fun e ρ' w' => Q e ρ' w' ∧ Keeps W ρ0 ρ')) S f' (listed.setIfInBounds i true) a' w') a w) := by
  intro p
  induction p with
  | done =>
    intro f listed ρ a w hs hk hS h
    refine ⟨fun hp => ?_, fun f' _ hp => by simp [planOk] at hp⟩
    simp only [planOk, Bool.true_and, List.isEmpty_iff] at hp
    exact wpAnyH_done hp ⟨ρ, hs, h, hk⟩ f
  | take i p ih =>
    intro f listed ρ a w hs hk hS h
    refine ⟨fun hp => ?_, fun f' _ hp => by simp [planOk] at hp⟩
    cases f with
    | zero => simp [planOk] at hp
    | succ f =>
      simp only [planOk, Bool.true_and, Bool.and_eq_true] at hp
      obtain ⟨⟨hf, hr⟩, hp⟩ := hp
      simp only [vcPlan] at h
      split at h
      · rename_i o ho
        obtain ⟨v, hy, h2⟩ := takeOp_sound hs h
        have hd := opsFit_get hfit ho
        exact wpAnyH_take ho hsel hf hr (fun _ _ _ h => h) hy hS ((ih f _ _ _ w (hs.put o.dst (fun t ht => (hd t ht).1) v) (hk.trans (Keeps.put o.dst (fun t ht => (hd t ht).2) v)) hS h2).1 hp)
      · exact h.elim
  | alt i p q ihp ihq =>
    intro f listed ρ a w hs hk hS h
    simp only [vcPlan] at h
    obtain ⟨h1, h2⟩ := h
    have key : ∀ f', f = f' + 1 → planOk N ops p true f' (listed.setIfInBounds i true) = true → planOk N ops q false f listed = true → ∀ i' ∈ i :: q.heads, wpOp P ops (lift N (fun e ρ' w' => Q e ρ' w' ∧ Keeps W ρ0 ρ')) i' (fun a' w' => S w' ∧ wpAnyH P .any ops (lift N (fun e ρ' w' => Q e ρ' w' ∧ Keeps W ρ0 ρ')) S f' (listed.setIfInBounds i' true) a' w') a w := by
      intro f' hf hp hq i' hi'
      rcases List.mem_cons.1 hi' with rfl | hi'
      · split at h1
        · rename_i o ho
          have hd := opsFit_get hfit ho
          exact wpOp_of_vc ho hs h1 (fun v w' hv => ⟨hv.1, (ihp f' _ _ _ w' (hs.put o.dst (fun t ht => (hd t ht).1) v) (hk.trans (Keeps.put o.dst (fun t ht => (hd t ht).2) v)) hv.1 hv.2).1 hp⟩)
        · exact h1.elim
      · exact (ihq f listed ρ a w hs hk hS h2).2 f' hf hq i' hi'
    cases f with
    | zero => exact ⟨fun hp => by simp [planOk] at hp, fun f' hf => by cases hf⟩
    | succ f' =>
      refine ⟨fun hp => ?_, fun f'' hf hp => ?_⟩
      · simp only [planOk, Bool.not_true, Bool.false_or, Bool.and_eq_true, beq_iff_eq] at hp
        exact wpAnyH_all hp.1 (by simp) (key f' rfl hp.2.1 hp.2.2)
      · simp only [planOk, Bool.not_false, Bool.true_or, Bool.true_and, Bool.and_eq_true] at hp
        cases hf
        exact key f' rfl hp.1 hp.2
  | nil =>
    intro f listed ρ a w hs hk hS h
    exact ⟨fun hp => by simp [planOk] at hp, fun f' _ _ i hi => by simp [Plan.heads] at hi⟩
theorem draw_sound {P : Program} {N : Nat} {W : Nat → Bool} {S : World → Prop} {id : Nat} {ops : Array Oper} {Q : Exit → Env → World → Prop} (hm : P.follows .mixedOrders = true) (hsel : Region.noSelect ops = true) (hfit : opsFit N W ops.toList = true) (p : Plan) (hp : planOk N ops p true ops.size (Array.replicate ops.size false) = true)
    {ρ : Env} {a : Act} {w : World} (hs : Sim N a ρ) (hS : S w.drew) (h : vcPlan P S ops (Q .normal) p ρ w.drew) : (Code.region id ops true).wp P (lift N (fun e ρ' w' => Q e ρ' w' ∧ Keeps W ρ ρ')) a w :=
  wp_region_held (S := S) hm ((plan_sound hsel hfit ρ p ops.size _ ρ a w.drew hs (Keeps.refl _ _) hS h).1 hp)

/-! ### control -/
inductive Ann where
  | no
  | plan (p : Plan)
  | seq (a b : Ann)
  | cut (ms : List Nat) (us : List (Nat × Nat)) (a b : Ann)
  | cond (a b : Ann)
  | block (a : Ann)
  | loop (ms : List Nat) (us : List (Nat × Nat)) (a : Ann)
def BrK (c : Value) (A B : Prop) : Prop := match c with | .bool true => A | .bool false => B | _ => False
def DrawK (B : (World → Prop) → World → Prop) (w : World) : Prop := ∃ S : World → Prop, S w.drew ∧ B S w.drew
def inIv : List (Nat × Nat) → Nat → Bool
  | [], _ => false
  | (lo, hi) :: r, k => bif Nat.ble lo k && Nat.ble k hi then true else inIv r k
def mixU (us : List (Nat × Nat)) (ρ j : Env) : Env := fun k => bif inIv us k then j k else ρ k
def thenQ (next : Env → World → Prop) (Q : Exit → Env → World → Prop) : Exit → Env → World → Prop
  | .normal, ρ, w => next ρ w
  | e, ρ, w => Q e ρ w
def blockQ (id : Nat) (Q : Exit → Env → World → Prop) : Exit → Env → World → Prop
  | .exit i, ρ, w => bif Nat.beq i id then Q .normal ρ w else Q (.exit i) ρ w
  | e, ρ, w => Q e ρ w
def CutK0 (B : (World → Prop) → Prop) (C : Env → World → Prop) : Prop := ∃ R : World → Prop, B R ∧ ∀ (j : Env) (w : World), R  w → C j  w
def LoopK0 (w : World) (B : Env → World → (World → Prop) → Prop) : Prop := ∃ (I : World → Prop) (μ : World → Nat), I  w ∧ ∀ (j : Env) (w : World), I  w → B j  w (fun  w' => I  w' ∧ μ  w' < μ  w)
def CutK1 (B : (Value → World → Prop) → Prop) (C : Env → Value → World → Prop) : Prop := ∃ R : Value → World → Prop, B R ∧ ∀ (j : Env) (x1 : Value) (w : World), R x1 w → C j x1 w
def LoopK1 (v1 : Value) (w : World) (B : Env → Value → World → (Value → World → Prop) → Prop) : Prop := ∃ (I : Value → World → Prop) (μ : Value → World → Nat), I v1 w ∧ ∀ (j : Env) (x1 : Value) (w : World), I x1 w → B j x1 w (fun y1 w' => I y1 w' ∧ μ y1 w' < μ x1 w)
def CutK2 (B : (Value → Value → World → Prop) → Prop) (C : Env → Value → Value → World → Prop) : Prop := ∃ R : Value → Value → World → Prop, B R ∧ ∀ (j : Env) (x1 x2 : Value) (w : World), R x1 x2 w → C j x1 x2 w
def LoopK2 (v1 v2 : Value) (w : World) (B : Env → Value → Value → World → (Value → Value → World → Prop) → Prop) : Prop := ∃ (I : Value → Value → World → Prop) (μ : Value → Value → World → Nat), I v1 v2 w ∧ ∀ (j : Env) (x1 x2 : Value) (w : World), I x1 x2 w → B j x1 x2 w (fun y1 y2 w' => I y1 y2 w' ∧ μ y1 y2 w' < μ x1 x2 w)
def CutK3 (B : (Value → Value → Value → World → Prop) → Prop) (C : Env → Value → Value → Value → World → Prop) : Prop := ∃ R : Value → Value → Value → World → Prop, B R ∧ ∀ (j : Env) (x1 x2 x3 : Value) (w : World), R x1 x2 x3 w → C j x1 x2 x3 w
def LoopK3 (v1 v2 v3 : Value) (w : World) (B : Env → Value → Value → Value → World → (Value → Value → Value → World → Prop) → Prop) : Prop := ∃ (I : Value → Value → Value → World → Prop) (μ : Value → Value → Value → World → Nat), I v1 v2 v3 w ∧ ∀ (j : Env) (x1 x2 x3 : Value) (w : World), I x1 x2 x3 w → B j x1 x2 x3 w (fun y1 y2 y3 w' => I y1 y2 y3 w' ∧ μ y1 y2 y3 w' < μ x1 x2 x3 w)
def CutK4 (B : (Value → Value → Value → Value → World → Prop) → Prop) (C : Env → Value → Value → Value → Value → World → Prop) : Prop := ∃ R : Value → Value → Value → Value → World → Prop, B R ∧ ∀ (j : Env) (x1 x2 x3 x4 : Value) (w : World), R x1 x2 x3 x4 w → C j x1 x2 x3 x4 w
def LoopK4 (v1 v2 v3 v4 : Value) (w : World) (B : Env → Value → Value → Value → Value → World → (Value → Value → Value → Value → World → Prop) → Prop) : Prop := ∃ (I : Value → Value → Value → Value → World → Prop) (μ : Value → Value → Value → Value → World → Nat), I v1 v2 v3 v4 w ∧ ∀ (j : Env) (x1 x2 x3 x4 : Value) (w : World), I x1 x2 x3 x4 w → B j x1 x2 x3 x4 w (fun y1 y2 y3 y4 w' => I y1 y2 y3 y4 w' ∧ μ y1 y2 y3 y4 w' < μ x1 x2 x3 x4 w)
def CutK5 (B : (Value → Value → Value → Value → Value → World → Prop) → Prop) (C : Env → Value → Value → Value → Value → Value → World → Prop) : Prop := ∃ R : Value → Value → Value → Value → Value → World → Prop, B R ∧ ∀ (j : Env) (x1 x2 x3 x4 x5 : Value) (w : World), R x1 x2 x3 x4 x5 w → C j x1 x2 x3 x4 x5 w
def LoopK5 (v1 v2 v3 v4 v5 : Value) (w : World) (B : Env → Value → Value → Value → Value → Value → World → (Value → Value → Value → Value → Value → World → Prop) → Prop) : Prop := ∃ (I : Value → Value → Value → Value → Value → World → Prop) (μ : Value → Value → Value → Value → Value → World → Nat), I v1 v2 v3 v4 v5 w ∧ ∀ (j : Env) (x1 x2 x3 x4 x5 : Value) (w : World), I x1 x2 x3 x4 x5 w → B j x1 x2 x3 x4 x5 w (fun y1 y2 y3 y4 y5 w' => I y1 y2 y3 y4 y5 w' ∧ μ y1 y2 y3 y4 y5 w' < μ x1 x2 x3 x4 x5 w)
def CutK6 (B : (Value → Value → Value → Value → Value → Value → World → Prop) → Prop) (C : Env → Value → Value → Value → Value → Value → Value → World → Prop) : Prop := ∃ R : Value → Value → Value → Value → Value → Value → World → Prop, B R ∧ ∀ (j : Env) (x1 x2 x3 x4 x5 x6 : Value) (w : World), R x1 x2 x3 x4 x5 x6 w → C j x1 x2 x3 x4 x5 x6 w
def LoopK6 (v1 v2 v3 v4 v5 v6 : Value) (w : World) (B : Env → Value → Value → Value → Value → Value → Value → World → (Value → Value → Value → Value → Value → Value → World → Prop) → Prop) : Prop := ∃ (I : Value → Value → Value → Value → Value → Value → World → Prop) (μ : Value → Value → Value → Value → Value → Value → World → Nat), I v1 v2 v3 v4 v5 v6 w ∧ ∀ (j : Env) (x1 x2 x3 x4 x5 x6 : Value) (w : World), I x1 x2 x3 x4 x5 x6 w → B j x1 x2 x3 x4 x5 x6 w (fun y1 y2 y3 y4 y5 y6 w' => I y1 y2 y3 y4 y5 y6 w' ∧ μ y1 y2 y3 y4 y5 y6 w' < μ x1 x2 x3 x4 x5 x6 w)
def CutK7 (B : (Value → Value → Value → Value → Value → Value → Value → World → Prop) → Prop) (C : Env → Value → Value → Value → Value → Value → Value → Value → World → Prop) : Prop := ∃ R : Value → Value → Value → Value → Value → Value → Value → World → Prop, B R ∧ ∀ (j : Env) (x1 x2 x3 x4 x5 x6 x7 : Value) (w : World), R x1 x2 x3 x4 x5 x6 x7 w → C j x1 x2 x3 x4 x5 x6 x7 w
def LoopK7 (v1 v2 v3 v4 v5 v6 v7 : Value) (w : World) (B : Env → Value → Value → Value → Value → Value → Value → Value → World → (Value → Value → Value → Value → Value → Value → Value → World → Prop) → Prop) : Prop := ∃ (I : Value → Value → Value → Value → Value → Value → Value → World → Prop) (μ : Value → Value → Value → Value → Value → Value → Value → World → Nat), I v1 v2 v3 v4 v5 v6 v7 w ∧ ∀ (j : Env) (x1 x2 x3 x4 x5 x6 x7 : Value) (w : World), I x1 x2 x3 x4 x5 x6 x7 w → B j x1 x2 x3 x4 x5 x6 x7 w (fun y1 y2 y3 y4 y5 y6 y7 w' => I y1 y2 y3 y4 y5 y6 y7 w' ∧ μ y1 y2 y3 y4 y5 y6 y7 w' < μ x1 x2 x3 x4 x5 x6 x7 w)
def CutK8 (B : (Value → Value → Value → Value → Value → Value → Value → Value → World → Prop) → Prop) (C : Env → Value → Value → Value → Value → Value → Value → Value → Value → World → Prop) : Prop := ∃ R : Value → Value → Value → Value → Value → Value → Value → Value → World → Prop, B R ∧ ∀ (j : Env) (x1 x2 x3 x4 x5 x6 x7 x8 : Value) (w : World), R x1 x2 x3 x4 x5 x6 x7 x8 w → C j x1 x2 x3 x4 x5 x6 x7 x8 w
def LoopK8 (v1 v2 v3 v4 v5 v6 v7 v8 : Value) (w : World) (B : Env → Value → Value → Value → Value → Value → Value → Value → Value → World → (Value → Value → Value → Value → Value → Value → Value → Value → World → Prop) → Prop) : Prop := ∃ (I : Value → Value → Value → Value → Value → Value → Value → Value → World → Prop) (μ : Value → Value → Value → Value → Value → Value → Value → Value → World → Nat), I v1 v2 v3 v4 v5 v6 v7 v8 w ∧ ∀ (j : Env) (x1 x2 x3 x4 x5 x6 x7 x8 : Value) (w : World), I x1 x2 x3 x4 x5 x6 x7 x8 w → B j x1 x2 x3 x4 x5 x6 x7 x8 w (fun y1 y2 y3 y4 y5 y6 y7 y8 w' => I y1 y2 y3 y4 y5 y6 y7 y8 w' ∧ μ y1 y2 y3 y4 y5 y6 y7 y8 w' < μ x1 x2 x3 x4 x5 x6 x7 x8 w)
def vc (P : Program) : Code → Ann → (Exit → Env → World → Prop) → Env → World → Prop
  | .skip, _, Q, ρ, w => Q .normal ρ w
  | .label _, _, Q, ρ, w => Q .normal ρ w
  | .ret, _, Q, ρ, w => Q .ret ρ w
  | .exit id, _, Q, ρ, w => Q (.exit id) ρ w
  | .region _ ops false, _, Q, ρ, w => vcList P ops ops.toList (Q .normal) ρ w
  | .region _ ops true, .plan p, Q, ρ, w => DrawK (fun S w => vcPlan P S ops (Q .normal) p ρ w) w
  | .seq x y, .seq a b, Q, ρ, w => vc P x a (thenQ (fun ρ' w' => vc P y b Q ρ' w') Q) ρ w
  | .seq x y, .cut ms us a b, Q, ρ, w => match ms with
    | [] => CutK0 (fun R => vc P x a (thenQ (fun ρ' w' => R  w') Q) ρ w) (fun j  w' => vc P y b Q (mixU us ρ j) w')
    | [m1] => CutK1 (fun R => vc P x a (thenQ (fun ρ' w' => R (ρ' m1) w') Q) ρ w) (fun j x1 w' => vc P y b Q (Env.put (mixU us ρ j) m1 x1) w')
    | [m1, m2] => CutK2 (fun R => vc P x a (thenQ (fun ρ' w' => R (ρ' m1) (ρ' m2) w') Q) ρ w) (fun j x1 x2 w' => vc P y b Q (Env.put (Env.put (mixU us ρ j) m1 x1) m2 x2) w')
    | [m1, m2, m3] => CutK3 (fun R => vc P x a (thenQ (fun ρ' w' => R (ρ' m1) (ρ' m2) (ρ' m3) w') Q) ρ w) (fun j x1 x2 x3 w' => vc P y b Q (Env.put (Env.put (Env.put (mixU us ρ j) m1 x1) m2 x2) m3 x3) w')
    | [m1, m2, m3, m4] => CutK4 (fun R => vc P x a (thenQ (fun ρ' w' => R (ρ' m1) (ρ' m2) (ρ' m3) (ρ' m4) w') Q) ρ w) (fun j x1 x2 x3 x4 w' => vc P y b Q (Env.put (Env.put (Env.put (Env.put (mixU us ρ j) m1 x1) m2 x2) m3 x3) m4 x4) w')
    | [m1, m2, m3, m4, m5] => CutK5 (fun R => vc P x a (thenQ (fun ρ' w' => R (ρ' m1) (ρ' m2) (ρ' m3) (ρ' m4) (ρ' m5) w') Q) ρ w) (fun j x1 x2 x3 x4 x5 w' => vc P y b Q (Env.put (Env.put (Env.put (Env.put (Env.put (mixU us ρ j) m1 x1) m2 x2) m3 x3) m4 x4) m5 x5) w')
    | [m1, m2, m3, m4, m5, m6] => CutK6 (fun R => vc P x a (thenQ (fun ρ' w' => R (ρ' m1) (ρ' m2) (ρ' m3) (ρ' m4) (ρ' m5) (ρ' m6) w') Q) ρ w) (fun j x1 x2 x3 x4 x5 x6 w' => vc P y b Q (Env.put (Env.put (Env.put (Env.put (Env.put (Env.put (mixU us ρ j) m1 x1) m2 x2) m3 x3) m4 x4) m5 x5) m6 x6) w')
    | [m1, m2, m3, m4, m5, m6, m7] => CutK7 (fun R => vc P x a (thenQ (fun ρ' w' => R (ρ' m1) (ρ' m2) (ρ' m3) (ρ' m4) (ρ' m5) (ρ' m6) (ρ' m7) w') Q) ρ w) (fun j x1 x2 x3 x4 x5 x6 x7 w' => vc P y b Q (Env.put (Env.put (Env.put (Env.put (Env.put (Env.put (Env.put (mixU us ρ j) m1 x1) m2 x2) m3 x3) m4 x4) m5 x5) m6 x6) m7 x7) w')
    | [m1, m2, m3, m4, m5, m6, m7, m8] => CutK8 (fun R => vc P x a (thenQ (fun ρ' w' => R (ρ' m1) (ρ' m2) (ρ' m3) (ρ' m4) (ρ' m5) (ρ' m6) (ρ' m7) (ρ' m8) w') Q) ρ w) (fun j x1 x2 x3 x4 x5 x6 x7 x8 w' => vc P y b Q (Env.put (Env.put (Env.put (Env.put (Env.put (Env.put (Env.put (Env.put (mixU us ρ j) m1 x1) m2 x2) m3 x3) m4 x4) m5 x5) m6 x6) m7 x7) m8 x8) w')
    | _ => False
  | .cond c x y, .cond a b, Q, ρ, w => BrK (ev ρ c) (vc P x a Q ρ w) (vc P y b Q ρ w)
  | .block id x, .block a, Q, ρ, w => vc P x a (blockQ id Q) ρ w
  | .loop x, .loop ms us a, Q, ρ, w => match ms with
    | [] => LoopK0  w (fun j  w' K => vc P x a (thenQ (fun ρ' w'' => K  w'') Q) (mixU us ρ j) w')
    | [m1] => LoopK1 (ρ m1) w (fun j x1 w' K => vc P x a (thenQ (fun ρ' w'' => K (ρ' m1) w'') Q) (Env.put (mixU us ρ j) m1 x1) w')
    | [m1, m2] => LoopK2 (ρ m1) (ρ m2) w (fun j x1 x2 w' K => vc P x a (thenQ (fun ρ' w'' => K (ρ' m1) (ρ' m2) w'') Q) (Env.put (Env.put (mixU us ρ j) m1 x1) m2 x2) w')
    | [m1, m2, m3] => LoopK3 (ρ m1) (ρ m2) (ρ m3) w (fun j x1 x2 x3 w' K => vc P x a (thenQ (fun ρ' w'' => K (ρ' m1) (ρ' m2) (ρ' m3) w'') Q) (Env.put (Env.put (Env.put (mixU us ρ j) m1 x1) m2 x2) m3 x3) w')
    | [m1, m2, m3, m4] => LoopK4 (ρ m1) (ρ m2) (ρ m3) (ρ m4) w (fun j x1 x2 x3 x4 w' K => vc P x a (thenQ (fun ρ' w'' => K (ρ' m1) (ρ' m2) (ρ' m3) (ρ' m4) w'') Q) (Env.put (Env.put (Env.put (Env.put (mixU us ρ j) m1 x1) m2 x2) m3 x3) m4 x4) w')
    | [m1, m2, m3, m4, m5] => LoopK5 (ρ m1) (ρ m2) (ρ m3) (ρ m4) (ρ m5) w (fun j x1 x2 x3 x4 x5 w' K => vc P x a (thenQ (fun ρ' w'' => K (ρ' m1) (ρ' m2) (ρ' m3) (ρ' m4) (ρ' m5) w'') Q) (Env.put (Env.put (Env.put (Env.put (Env.put (mixU us ρ j) m1 x1) m2 x2) m3 x3) m4 x4) m5 x5) w')
    | [m1, m2, m3, m4, m5, m6] => LoopK6 (ρ m1) (ρ m2) (ρ m3) (ρ m4) (ρ m5) (ρ m6) w (fun j x1 x2 x3 x4 x5 x6 w' K => vc P x a (thenQ (fun ρ' w'' => K (ρ' m1) (ρ' m2) (ρ' m3) (ρ' m4) (ρ' m5) (ρ' m6) w'') Q) (Env.put (Env.put (Env.put (Env.put (Env.put (Env.put (mixU us ρ j) m1 x1) m2 x2) m3 x3) m4 x4) m5 x5) m6 x6) w')
    | [m1, m2, m3, m4, m5, m6, m7] => LoopK7 (ρ m1) (ρ m2) (ρ m3) (ρ m4) (ρ m5) (ρ m6) (ρ m7) w (fun j x1 x2 x3 x4 x5 x6 x7 w' K => vc P x a (thenQ (fun ρ' w'' => K (ρ' m1) (ρ' m2) (ρ' m3) (ρ' m4) (ρ' m5) (ρ' m6) (ρ' m7) w'') Q) (Env.put (Env.put (Env.put (Env.put (Env.put (Env.put (Env.put (mixU us ρ j) m1 x1) m2 x2) m3 x3) m4 x4) m5 x5) m6 x6) m7 x7) w')
    | [m1, m2, m3, m4, m5, m6, m7, m8] => LoopK8 (ρ m1) (ρ m2) (ρ m3) (ρ m4) (ρ m5) (ρ m6) (ρ m7) (ρ m8) w (fun j x1 x2 x3 x4 x5 x6 x7 x8 w' K => vc P x a (thenQ (fun ρ' w'' => K (ρ' m1) (ρ' m2) (ρ' m3) (ρ' m4) (ρ' m5) (ρ' m6) (ρ' m7) (ρ' m8) w'') Q) (Env.put (Env.put (Env.put (Env.put (Env.put (Env.put (Env.put (Env.put (mixU us ρ j) m1 x1) m2 x2) m3 x3) m4 x4) m5 x5) m6 x6) m7 x7) m8 x8) w')
    | _ => False
  | _, _, _, _, _ => False
def fits (N : Nat) (W : Nat → Bool) : Code → Bool
  | .region _ ops _ => opsFit N W ops.toList
  | .seq x y => fits N W x && fits N W y
  | .cond _ x y => fits N W x && fits N W y
  | .block _ x => fits N W x
  | .loop x => fits N W x
  | .skip | .label _ | .ret | .exit _ => true
  | _ => false
def inU (ms : List Nat) (us : List (Nat × Nat)) (k : Nat) : Bool := inIv us k || ms.any fun m => Nat.beq k m
def chk (N : Nat) : Code → Ann → Bool
  | .region _ ops true, .plan p => Region.noSelect ops && planOk N ops p true ops.size (Array.replicate ops.size false)
  | .region _ _ true, _ => false
  | .seq x y, .seq a b => chk N x a && chk N y b
  | .seq x y, .cut ms us a b => fits N (inU ms us) x && chk N x a && chk N y b
  | .cond _ x y, .cond a b => chk N x a && chk N y b
  | .block _ x, .block a => chk N x a
  | .loop x, .loop ms us a => fits N (inU ms us) x && chk N x a
  | .skip, _ | .label _, _ | .ret, _ | .exit _, _ | .region _ _ false, _ => true
  | _, _ => false

theorem mix0_self {us : List (Nat × Nat)} {ρ ρ' : Env} (hk : Keeps (inU [] us) ρ ρ') : mixU us ρ ρ' = ρ' := by
  funext k
  have h := hk k
  simp only [inU, List.any_cons, List.any_nil, Bool.or_false] at h
  simp only [mixU, Env.put]
  cases hu : inIv us k with
  | true => simp [hu]
  | false => simp [hu] at h ⊢; try exact h.symm
theorem mix1_self {us : List (Nat × Nat)} {ρ ρ' : Env} {m1 : Nat} (hk : Keeps (inU [m1] us) ρ ρ') : Env.put (mixU us ρ ρ') m1 (ρ' m1) = ρ' := by
  funext k
  have h := hk k
  simp only [inU, List.any_cons, List.any_nil, Bool.or_false] at h
  simp only [mixU, Env.put]
  by_cases e1 : Nat.beq k m1 = true
  · have := (beq_iff k m1).1 e1; subst this; simp [e1]
  rw [Bool.not_eq_true] at e1
  cases hu : inIv us k with
  | true => simp [hu, e1]
  | false => simp [hu, e1] at h ⊢; try exact h.symm
theorem mix2_self {us : List (Nat × Nat)} {ρ ρ' : Env} {m1 m2 : Nat} (hk : Keeps (inU [m1, m2] us) ρ ρ') : Env.put (Env.put (mixU us ρ ρ') m1 (ρ' m1)) m2 (ρ' m2) = ρ' := by
  funext k
  have h := hk k
  simp only [inU, List.any_cons, List.any_nil, Bool.or_false] at h
  simp only [mixU, Env.put]
  by_cases e2 : Nat.beq k m2 = true
  · have := (beq_iff k m2).1 e2; subst this; simp [e2]
  rw [Bool.not_eq_true] at e2
  by_cases e1 : Nat.beq k m1 = true
  · have := (beq_iff k m1).1 e1; subst this; simp [e1, e2]
  rw [Bool.not_eq_true] at e1
  cases hu : inIv us k with
  | true => simp [hu, e1, e2]
  | false => simp [hu, e1, e2] at h ⊢; try exact h.symm
theorem mix3_self {us : List (Nat × Nat)} {ρ ρ' : Env} {m1 m2 m3 : Nat} (hk : Keeps (inU [m1, m2, m3] us) ρ ρ') : Env.put (Env.put (Env.put (mixU us ρ ρ') m1 (ρ' m1)) m2 (ρ' m2)) m3 (ρ' m3) = ρ' := by
  funext k
  have h := hk k
  simp only [inU, List.any_cons, List.any_nil, Bool.or_false] at h
  simp only [mixU, Env.put]
  by_cases e3 : Nat.beq k m3 = true
  · have := (beq_iff k m3).1 e3; subst this; simp [e3]
  rw [Bool.not_eq_true] at e3
  by_cases e2 : Nat.beq k m2 = true
  · have := (beq_iff k m2).1 e2; subst this; simp [e2, e3]
  rw [Bool.not_eq_true] at e2
  by_cases e1 : Nat.beq k m1 = true
  · have := (beq_iff k m1).1 e1; subst this; simp [e1, e2, e3]
  rw [Bool.not_eq_true] at e1
  cases hu : inIv us k with
  | true => simp [hu, e1, e2, e3]
  | false => simp [hu, e1, e2, e3] at h ⊢; try exact h.symm
theorem mix4_self {us : List (Nat × Nat)} {ρ ρ' : Env} {m1 m2 m3 m4 : Nat} (hk : Keeps (inU [m1, m2, m3, m4] us) ρ ρ') : Env.put (Env.put (Env.put (Env.put (mixU us ρ ρ') m1 (ρ' m1)) m2 (ρ' m2)) m3 (ρ' m3)) m4 (ρ' m4) = ρ' := by
  funext k
  have h := hk k
  simp only [inU, List.any_cons, List.any_nil, Bool.or_false] at h
  simp only [mixU, Env.put]
  by_cases e4 : Nat.beq k m4 = true
  · have := (beq_iff k m4).1 e4; subst this; simp [e4]
  rw [Bool.not_eq_true] at e4
  by_cases e3 : Nat.beq k m3 = true
  · have := (beq_iff k m3).1 e3; subst this; simp [e3, e4]
  rw [Bool.not_eq_true] at e3
  by_cases e2 : Nat.beq k m2 = true
  · have := (beq_iff k m2).1 e2; subst this; simp [e2, e3, e4]
  rw [Bool.not_eq_true] at e2
  by_cases e1 : Nat.beq k m1 = true
  · have := (beq_iff k m1).1 e1; subst this; simp [e1, e2, e3, e4]
  rw [Bool.not_eq_true] at e1
  cases hu : inIv us k with
  | true => simp [hu, e1, e2, e3, e4]
  | false => simp [hu, e1, e2, e3, e4] at h ⊢; try exact h.symm
theorem mix5_self {us : List (Nat × Nat)} {ρ ρ' : Env} {m1 m2 m3 m4 m5 : Nat} (hk : Keeps (inU [m1, m2, m3, m4, m5] us) ρ ρ') : Env.put (Env.put (Env.put (Env.put (Env.put (mixU us ρ ρ') m1 (ρ' m1)) m2 (ρ' m2)) m3 (ρ' m3)) m4 (ρ' m4)) m5 (ρ' m5) = ρ' := by
  funext k
  have h := hk k
  simp only [inU, List.any_cons, List.any_nil, Bool.or_false] at h
  simp only [mixU, Env.put]
  by_cases e5 : Nat.beq k m5 = true
  · have := (beq_iff k m5).1 e5; subst this; simp [e5]
  rw [Bool.not_eq_true] at e5
  by_cases e4 : Nat.beq k m4 = true
  · have := (beq_iff k m4).1 e4; subst this; simp [e4, e5]
  rw [Bool.not_eq_true] at e4
  by_cases e3 : Nat.beq k m3 = true
  · have := (beq_iff k m3).1 e3; subst this; simp [e3, e4, e5]
  rw [Bool.not_eq_true] at e3
  by_cases e2 : Nat.beq k m2 = true
  · have := (beq_iff k m2).1 e2; subst this; simp [e2, e3, e4, e5]
  rw [Bool.not_eq_true] at e2
  by_cases e1 : Nat.beq k m1 = true
  · have := (beq_iff k m1).1 e1; subst this; simp [e1, e2, e3, e4, e5]
  rw [Bool.not_eq_true] at e1
  cases hu : inIv us k with
  | true => simp [hu, e1, e2, e3, e4, e5]
  | false => simp [hu, e1, e2, e3, e4, e5] at h ⊢; try exact h.symm
theorem mix6_self {us : List (Nat × Nat)} {ρ ρ' : Env} {m1 m2 m3 m4 m5 m6 : Nat} (hk : Keeps (inU [m1, m2, m3, m4, m5, m6] us) ρ ρ') : Env.put (Env.put (Env.put (Env.put (Env.put (Env.put (mixU us ρ ρ') m1 (ρ' m1)) m2 (ρ' m2)) m3 (ρ' m3)) m4 (ρ' m4)) m5 (ρ' m5)) m6 (ρ' m6) = ρ' := by
  funext k
  have h := hk k
  simp only [inU, List.any_cons, List.any_nil, Bool.or_false] at h
  simp only [mixU, Env.put]
  by_cases e6 : Nat.beq k m6 = true
  · have := (beq_iff k m6).1 e6; subst this; simp [e6]
  rw [Bool.not_eq_true] at e6
  by_cases e5 : Nat.beq k m5 = true
  · have := (beq_iff k m5).1 e5; subst this; simp [e5, e6]
  rw [Bool.not_eq_true] at e5
  by_cases e4 : Nat.beq k m4 = true
  · have := (beq_iff k m4).1 e4; subst this; simp [e4, e5, e6]
  rw [Bool.not_eq_true] at e4
  by_cases e3 : Nat.beq k m3 = true
  · have := (beq_iff k m3).1 e3; subst this; simp [e3, e4, e5, e6]
  rw [Bool.not_eq_true] at e3
  by_cases e2 : Nat.beq k m2 = true
  · have := (beq_iff k m2).1 e2; subst this; simp [e2, e3, e4, e5, e6]
  rw [Bool.not_eq_true] at e2
  by_cases e1 : Nat.beq k m1 = true
  · have := (beq_iff k m1).1 e1; subst this; simp [e1, e2, e3, e4, e5, e6]
  rw [Bool.not_eq_true] at e1
  cases hu : inIv us k with
  | true => simp [hu, e1, e2, e3, e4, e5, e6]
  | false => simp [hu, e1, e2, e3, e4, e5, e6] at h ⊢; try exact h.symm
theorem mix7_self {us : List (Nat × Nat)} {ρ ρ' : Env} {m1 m2 m3 m4 m5 m6 m7 : Nat} (hk : Keeps (inU [m1, m2, m3, m4, m5, m6, m7] us) ρ ρ') : Env.put (Env.put (Env.put (Env.put (Env.put (Env.put (Env.put (mixU us ρ ρ') m1 (ρ' m1)) m2 (ρ' m2)) m3 (ρ' m3)) m4 (ρ' m4)) m5 (ρ' m5)) m6 (ρ' m6)) m7 (ρ' m7) = ρ' := by
  funext k
  have h := hk k
  simp only [inU, List.any_cons, List.any_nil, Bool.or_false] at h
  simp only [mixU, Env.put]
  by_cases e7 : Nat.beq k m7 = true
  · have := (beq_iff k m7).1 e7; subst this; simp [e7]
  rw [Bool.not_eq_true] at e7
  by_cases e6 : Nat.beq k m6 = true
  · have := (beq_iff k m6).1 e6; subst this; simp [e6, e7]
  rw [Bool.not_eq_true] at e6
  by_cases e5 : Nat.beq k m5 = true
  · have := (beq_iff k m5).1 e5; subst this; simp [e5, e6, e7]
  rw [Bool.not_eq_true] at e5
  by_cases e4 : Nat.beq k m4 = true
  · have := (beq_iff k m4).1 e4; subst this; simp [e4, e5, e6, e7]
  rw [Bool.not_eq_true] at e4
  by_cases e3 : Nat.beq k m3 = true
  · have := (beq_iff k m3).1 e3; subst this; simp [e3, e4, e5, e6, e7]
  rw [Bool.not_eq_true] at e3
  by_cases e2 : Nat.beq k m2 = true
  · have := (beq_iff k m2).1 e2; subst this; simp [e2, e3, e4, e5, e6, e7]
  rw [Bool.not_eq_true] at e2
  by_cases e1 : Nat.beq k m1 = true
  · have := (beq_iff k m1).1 e1; subst this; simp [e1, e2, e3, e4, e5, e6, e7]
  rw [Bool.not_eq_true] at e1
  cases hu : inIv us k with
  | true => simp [hu, e1, e2, e3, e4, e5, e6, e7]
  | false => simp [hu, e1, e2, e3, e4, e5, e6, e7] at h ⊢; try exact h.symm
theorem mix8_self {us : List (Nat × Nat)} {ρ ρ' : Env} {m1 m2 m3 m4 m5 m6 m7 m8 : Nat} (hk : Keeps (inU [m1, m2, m3, m4, m5, m6, m7, m8] us) ρ ρ') : Env.put (Env.put (Env.put (Env.put (Env.put (Env.put (Env.put (Env.put (mixU us ρ ρ') m1 (ρ' m1)) m2 (ρ' m2)) m3 (ρ' m3)) m4 (ρ' m4)) m5 (ρ' m5)) m6 (ρ' m6)) m7 (ρ' m7)) m8 (ρ' m8) = ρ' := by
  funext k
  have h := hk k
  simp only [inU, List.any_cons, List.any_nil, Bool.or_false] at h
  simp only [mixU, Env.put]
  by_cases e8 : Nat.beq k m8 = true
  · have := (beq_iff k m8).1 e8; subst this; simp [e8]
  rw [Bool.not_eq_true] at e8
  by_cases e7 : Nat.beq k m7 = true
  · have := (beq_iff k m7).1 e7; subst this; simp [e7, e8]
  rw [Bool.not_eq_true] at e7
  by_cases e6 : Nat.beq k m6 = true
  · have := (beq_iff k m6).1 e6; subst this; simp [e6, e7, e8]
  rw [Bool.not_eq_true] at e6
  by_cases e5 : Nat.beq k m5 = true
  · have := (beq_iff k m5).1 e5; subst this; simp [e5, e6, e7, e8]
  rw [Bool.not_eq_true] at e5
  by_cases e4 : Nat.beq k m4 = true
  · have := (beq_iff k m4).1 e4; subst this; simp [e4, e5, e6, e7, e8]
  rw [Bool.not_eq_true] at e4
  by_cases e3 : Nat.beq k m3 = true
  · have := (beq_iff k m3).1 e3; subst this; simp [e3, e4, e5, e6, e7, e8]
  rw [Bool.not_eq_true] at e3
  by_cases e2 : Nat.beq k m2 = true
  · have := (beq_iff k m2).1 e2; subst this; simp [e2, e3, e4, e5, e6, e7, e8]
  rw [Bool.not_eq_true] at e2
  by_cases e1 : Nat.beq k m1 = true
  · have := (beq_iff k m1).1 e1; subst this; simp [e1, e2, e3, e4, e5, e6, e7, e8]
  rw [Bool.not_eq_true] at e1
  cases hu : inIv us k with
  | true => simp [hu, e1, e2, e3, e4, e5, e6, e7, e8]
  | false => simp [hu, e1, e2, e3, e4, e5, e6, e7, e8] at h ⊢; try exact h.symm

theorem opsFit_and {N : Nat} {W U : Nat → Bool} {l : List Oper} (h : opsFit N W l = true) (k : opsFit N U l = true) : opsFit N (fun i => W i && U i) l = true := by
  simp only [opsFit, List.all_eq_true] at *
  intro o ho
  have h1 := h o ho
  have h2 := k o ho
  cases hd : o.dst with
  | none => rfl
  | some d => rw [hd] at h1 h2; simp at h1 h2 ⊢; exact ⟨h1.1, h1.2, h2.2⟩
theorem fits_and {N : Nat} {W U : Nat → Bool} : ∀ (c : Code), fits N W c = true → fits N U c = true → fits N (fun i => W i && U i) c = true := by
  intro c
  induction c with
  | region id ops d => intro h k; exact opsFit_and h k
  | seq x y ihx ihy => intro h k; simp only [fits, Bool.and_eq_true] at *; exact ⟨ihx h.1 k.1, ihy h.2 k.2⟩
  | cond c x y ihx ihy => intro h k; simp only [fits, Bool.and_eq_true] at *; exact ⟨ihx h.1 k.1, ihy h.2 k.2⟩
  | block id x ih => intro h k; exact ih h k
  | loop x ih => intro h k; exact ih h k
  | _ => intro h k; first | rfl | (simp [fits] at h)
def Sound (P : Program) (N : Nat) (c : Code) : Prop := ∀ (ann : Ann) (Q : Exit → Env → World → Prop) (ρ : Env) (a : Act) (w : World) (W : Nat → Bool), fits N W c = true → chk N c ann = true → Sim N a ρ → vc P c ann Q ρ w →
  c.wp P (lift N (fun e ρ' w' => Q e ρ' w' ∧ Keeps W ρ ρ')) a w
theorem cut_gen {P : Program} {N : Nat} {x y : Code} (ihx : Sound P N x) (ihy : Sound P N y) {a b : Ann} {Q : Exit → Env → World → Prop} {ρ : Env} {fr : Act} {w : World} {W U : Nat → Bool} (hfx : fits N W x = true) (hfy : fits N W y = true) (hu : fits N U x = true) (hcx : chk N x a = true) (hcy : chk N y b = true) (hs : Sim N fr ρ)
    (R : Env → World → Prop) (h1 : vc P x a (thenQ R Q) ρ w) (h2 : ∀ ρ' w', Keeps U ρ ρ' → R ρ' w' → vc P y b Q ρ' w') : (Code.seq x y).wp P (lift N (fun e ρ' w' => Q e ρ' w' ∧ Keeps W ρ ρ')) fr w := by
  have hboth := fits_and x hfx hu
  refine wp_seq (Code.wp_mono ?_ (ihx a _ ρ fr w _ hboth hcx hs h1))
  intro e a' w' hq
  cases e with
  | normal =>
    obtain ⟨ρ', hs', hR, hk⟩ := hq
    have hkU : Keeps U ρ ρ' := fun i hi => hk i (by simp [hi])
    have hkW : Keeps W ρ ρ' := fun i hi => hk i (by simp [hi])
    exact Code.wp_mono (lift_mono (fun e ρ'' w'' h => ⟨h.1, hkW.trans h.2⟩)) (ihy b Q ρ' a' w' W hfy hcy hs' (h2 ρ' w' hkU hR))
  | panic c => exact hq.elim
  | outgrown => exact hq.elim
  | _ => obtain ⟨ρ', hs', hR, hk⟩ := hq; exact ⟨ρ', hs', hR, fun i hi => hk i (by simp [hi])⟩
theorem loop_gen {P : Program} {N : Nat} {x : Code} (ih : Sound P N x) {a : Ann} {Q : Exit → Env → World → Prop} {ρ : Env} {fr : Act} {w : World} {W U : Nat → Bool} (hf : fits N W x = true) (hu : fits N U x = true) (hc : chk N x a = true) (hs : Sim N fr ρ)
    (I : Env → World → Prop) (μ : Env → World → Nat) (h0 : I ρ w) (h1 : ∀ ρ' w', Keeps U ρ ρ' → I ρ' w' → vc P x a (thenQ (fun ρ'' w'' => I ρ'' w'' ∧ μ ρ'' w'' < μ ρ' w') Q) ρ' w') : (Code.loop x).wp P (lift N (fun e ρ' w' => Q e ρ' w' ∧ Keeps W ρ ρ')) fr w := by
  have hboth := fits_and x hf hu
  let env : Act → Env := fun a k => a.tmps.getD k undef
  have henv : ∀ {a : Act} {ρ : Env}, Sim N a ρ → env a = ρ := fun h => funext h.get
  refine wp_loop (fun a w => ∃ ρ', Sim N a ρ' ∧ I ρ' w ∧ Keeps (fun i => W i && U i) ρ ρ') (fun a w => μ (env a) w) ⟨ρ, hs, h0, Keeps.refl _ _⟩ ?_
  rintro a' w' ⟨ρ', hs', hI, hk⟩
  have hkU : Keeps U ρ ρ' := fun i hi => hk i (by simp [hi])
  have hkW : Keeps W ρ ρ' := fun i hi => hk i (by simp [hi])
  refine Code.wp_mono ?_ (ih a _ ρ' a' w' _ hboth hc hs' (h1 ρ' w' hkU hI))
  intro e a'' w'' hq
  cases e with
  | normal =>
    obtain ⟨ρ'', hs'', ⟨hI', hlt⟩, hk'⟩ := hq
    exact ⟨⟨ρ'', hs'', hI', hk.trans hk'⟩, by rw [henv hs'', henv hs']; exact hlt⟩
  | panic c => exact hq.elim
  | outgrown => exact hq.elim
  | _ => obtain ⟨ρ'', hs'', hR, hk'⟩ := hq; exact ⟨ρ'', hs'', hR, fun i hi => (hk' i (by simp [hi])).trans (hkW i hi)⟩
theorem vc_sound {P : Program} {N : Nat} (hm : P.follows .mixedOrders = true) : ∀ (c : Code), Sound P N c := by
  intro c
  induction c with
  | skip => intro ann Q ρ a w W hf hc hs h; exact wp_skip ⟨ρ, hs, by simpa [vc] using h, Keeps.refl _ _⟩
  | label l => intro ann Q ρ a w W hf hc hs h; exact wp_label ⟨ρ, hs, by simpa [vc] using h, Keeps.refl _ _⟩
  | ret => intro ann Q ρ a w W hf hc hs h; exact wp_ret ⟨ρ, hs, by simpa [vc] using h, Keeps.refl _ _⟩
  | exit id => intro ann Q ρ a w W hf hc hs h; exact wp_exit ⟨ρ, hs, by simpa [vc] using h, Keeps.refl _ _⟩
  | region id ops d =>
    intro ann Q ρ a w W hf hc hs h
    cases d with
    | false => exact wp_region_list (vcList_sound ops.toList ρ ρ a w hf hs (Keeps.refl _ _) (by simpa [vc] using h))
    | true =>
      cases ann <;> simp [chk] at hc
      rename_i p
      simp only [vc] at h
      obtain ⟨S, hS, h⟩ := h
      exact draw_sound hm hc.1 hf p hc.2 hs hS h
  | seq x y ihx ihy =>
    intro ann Q ρ a w W hf hc hs h
    simp only [fits, Bool.and_eq_true] at hf
    cases ann <;> simp only [chk, Bool.and_eq_true, Bool.false_eq_true] at hc
    · rename_i a1 b1
      simp only [vc] at h
      refine wp_seq (Code.wp_mono ?_ (ihx a1 _ ρ a w W hf.1 hc.1 hs h))
      intro e a' w' hq
      cases e with
      | normal =>
        obtain ⟨ρ', hs', hR, hk⟩ := hq
        exact Code.wp_mono (lift_mono (fun e ρ'' w'' h => ⟨h.1, hk.trans h.2⟩)) (ihy b1 Q ρ' a' w' W hf.2 hc.2 hs' hR)
      | panic c => exact hq.elim
      | outgrown => exact hq.elim
      | _ => exact hq
    · rename_i ms us a1 b1
      obtain ⟨⟨hu, hcx⟩, hcy⟩ := hc
      simp only [vc] at h
      split at h
      · skip
        obtain ⟨R, h1, h2⟩ := h
        exact cut_gen ihx ihy hf.1 hf.2 hu hcx hcy hs (fun ρ' w' => R  w') h1 (fun ρ' w' hk hR => by
          have := h2 ρ'  w' hR
          dsimp only at this
          rwa [mix0_self hk] at this)
      · rename_i m1
        obtain ⟨R, h1, h2⟩ := h
        exact cut_gen ihx ihy hf.1 hf.2 hu hcx hcy hs (fun ρ' w' => R (ρ' m1) w') h1 (fun ρ' w' hk hR => by
          have := h2 ρ' (ρ' m1) w' hR
          dsimp only at this
          rwa [mix1_self hk] at this)
      · rename_i m1 m2
        obtain ⟨R, h1, h2⟩ := h
        exact cut_gen ihx ihy hf.1 hf.2 hu hcx hcy hs (fun ρ' w' => R (ρ' m1) (ρ' m2) w') h1 (fun ρ' w' hk hR => by
          have := h2 ρ' (ρ' m1) (ρ' m2) w' hR
          dsimp only at this
          rwa [mix2_self hk] at this)
      · rename_i m1 m2 m3
        obtain ⟨R, h1, h2⟩ := h
        exact cut_gen ihx ihy hf.1 hf.2 hu hcx hcy hs (fun ρ' w' => R (ρ' m1) (ρ' m2) (ρ' m3) w') h1 (fun ρ' w' hk hR => by
          have := h2 ρ' (ρ' m1) (ρ' m2) (ρ' m3) w' hR
          dsimp only at this
          rwa [mix3_self hk] at this)
      · rename_i m1 m2 m3 m4
        obtain ⟨R, h1, h2⟩ := h
        exact cut_gen ihx ihy hf.1 hf.2 hu hcx hcy hs (fun ρ' w' => R (ρ' m1) (ρ' m2) (ρ' m3) (ρ' m4) w') h1 (fun ρ' w' hk hR => by
          have := h2 ρ' (ρ' m1) (ρ' m2) (ρ' m3) (ρ' m4) w' hR
          dsimp only at this
          rwa [mix4_self hk] at this)
      · rename_i m1 m2 m3 m4 m5
        obtain ⟨R, h1, h2⟩ := h
        exact cut_gen ihx ihy hf.1 hf.2 hu hcx hcy hs (fun ρ' w' => R (ρ' m1) (ρ' m2) (ρ' m3) (ρ' m4) (ρ' m5) w') h1 (fun ρ' w' hk hR => by
          have := h2 ρ' (ρ' m1) (ρ' m2) (ρ' m3) (ρ' m4) (ρ' m5) w' hR
          dsimp only at this
          rwa [mix5_self hk] at this)
      · rename_i m1 m2 m3 m4 m5 m6
        obtain ⟨R, h1, h2⟩ := h
        exact cut_gen ihx ihy hf.1 hf.2 hu hcx hcy hs (fun ρ' w' => R (ρ' m1) (ρ' m2) (ρ' m3) (ρ' m4) (ρ' m5) (ρ' m6) w') h1 (fun ρ' w' hk hR => by
          have := h2 ρ' (ρ' m1) (ρ' m2) (ρ' m3) (ρ' m4) (ρ' m5) (ρ' m6) w' hR
          dsimp only at this
          rwa [mix6_self hk] at this)
      · rename_i m1 m2 m3 m4 m5 m6 m7
        obtain ⟨R, h1, h2⟩ := h
        exact cut_gen ihx ihy hf.1 hf.2 hu hcx hcy hs (fun ρ' w' => R (ρ' m1) (ρ' m2) (ρ' m3) (ρ' m4) (ρ' m5) (ρ' m6) (ρ' m7) w') h1 (fun ρ' w' hk hR => by
          have := h2 ρ' (ρ' m1) (ρ' m2) (ρ' m3) (ρ' m4) (ρ' m5) (ρ' m6) (ρ' m7) w' hR
          dsimp only at this
          rwa [mix7_self hk] at this)
      · rename_i m1 m2 m3 m4 m5 m6 m7 m8
        obtain ⟨R, h1, h2⟩ := h
        exact cut_gen ihx ihy hf.1 hf.2 hu hcx hcy hs (fun ρ' w' => R (ρ' m1) (ρ' m2) (ρ' m3) (ρ' m4) (ρ' m5) (ρ' m6) (ρ' m7) (ρ' m8) w') h1 (fun ρ' w' hk hR => by
          have := h2 ρ' (ρ' m1) (ρ' m2) (ρ' m3) (ρ' m4) (ρ' m5) (ρ' m6) (ρ' m7) (ρ' m8) w' hR
          dsimp only at this
          rwa [mix8_self hk] at this)
      · exact h.elim
  | cond c x y ihx ihy =>
    intro ann Q ρ a w W hf hc hs h
    simp only [fits, Bool.and_eq_true] at hf
    cases ann <;> simp only [chk, Bool.and_eq_true, Bool.false_eq_true] at hc
    simp only [vc, BrK] at h
    split at h
    · rename_i hb; exact wp_cond_true (by rw [hs.eval]; exact hb) (ihx _ Q ρ a w W hf.1 hc.1 hs h)
    · rename_i hb; exact wp_cond_false (by rw [hs.eval]; exact hb) (ihy _ Q ρ a w W hf.2 hc.2 hs h)
    · exact h.elim
  | block id x ih =>
    intro ann Q ρ a w W hf hc hs h
    cases ann <;> simp only [chk, Bool.false_eq_true] at hc
    simp only [vc] at h
    refine wp_block (Code.wp_mono ?_ (ih _ _ ρ a w W hf hc hs h))
    intro e a' w' hq
    cases e with
    | exit i =>
      obtain ⟨ρ', hs', hR, hk⟩ := hq
      simp only [blockQ] at hR
      simp only [Exit.inBlock]
      cases hb : Nat.beq i id with
      | true => rw [hb] at hR; rw [if_pos ((beq_iff i id).1 hb)]; exact ⟨ρ', hs', hR, hk⟩
      | false =>
        rw [hb] at hR
        rw [if_neg (fun h => by have := (beq_iff i id).2 h; rw [hb] at this; cases this)]
        exact ⟨ρ', hs', hR, hk⟩
    | panic c => exact hq.elim
    | outgrown => exact hq.elim
    | _ => exact hq
  | loop x ih =>
    intro ann Q ρ a w W hf hc hs h
    cases ann <;> simp only [chk, Bool.and_eq_true, Bool.false_eq_true] at hc
    rename_i ms us a1
    obtain ⟨hu, hc⟩ := hc
    simp only [vc] at h
    simp only [fits] at hf
    split at h
    · skip
      obtain ⟨I, μ, h0, h1⟩ := h
      exact loop_gen ih hf hu hc hs (fun ρ' w' => I  w') (fun ρ' w' => μ  w') h0 (fun ρ' w' hk hI => by
        have := h1 ρ'  w' hI
        dsimp only at this
        rwa [mix0_self hk] at this)
    · rename_i m1
      obtain ⟨I, μ, h0, h1⟩ := h
      exact loop_gen ih hf hu hc hs (fun ρ' w' => I (ρ' m1) w') (fun ρ' w' => μ (ρ' m1) w') h0 (fun ρ' w' hk hI => by
        have := h1 ρ' (ρ' m1) w' hI
        dsimp only at this
        rwa [mix1_self hk] at this)
    · rename_i m1 m2
      obtain ⟨I, μ, h0, h1⟩ := h
      exact loop_gen ih hf hu hc hs (fun ρ' w' => I (ρ' m1) (ρ' m2) w') (fun ρ' w' => μ (ρ' m1) (ρ' m2) w') h0 (fun ρ' w' hk hI => by
        have := h1 ρ' (ρ' m1) (ρ' m2) w' hI
        dsimp only at this
        rwa [mix2_self hk] at this)
    · rename_i m1 m2 m3
      obtain ⟨I, μ, h0, h1⟩ := h
      exact loop_gen ih hf hu hc hs (fun ρ' w' => I (ρ' m1) (ρ' m2) (ρ' m3) w') (fun ρ' w' => μ (ρ' m1) (ρ' m2) (ρ' m3) w') h0 (fun ρ' w' hk hI => by
        have := h1 ρ' (ρ' m1) (ρ' m2) (ρ' m3) w' hI
        dsimp only at this
        rwa [mix3_self hk] at this)
    · rename_i m1 m2 m3 m4
      obtain ⟨I, μ, h0, h1⟩ := h
      exact loop_gen ih hf hu hc hs (fun ρ' w' => I (ρ' m1) (ρ' m2) (ρ' m3) (ρ' m4) w') (fun ρ' w' => μ (ρ' m1) (ρ' m2) (ρ' m3) (ρ' m4) w') h0 (fun ρ' w' hk hI => by
        have := h1 ρ' (ρ' m1) (ρ' m2) (ρ' m3) (ρ' m4) w' hI
        dsimp only at this
        rwa [mix4_self hk] at this)
    · rename_i m1 m2 m3 m4 m5
      obtain ⟨I, μ, h0, h1⟩ := h
      exact loop_gen ih hf hu hc hs (fun ρ' w' => I (ρ' m1) (ρ' m2) (ρ' m3) (ρ' m4) (ρ' m5) w') (fun ρ' w' => μ (ρ' m1) (ρ' m2) (ρ' m3) (ρ' m4) (ρ' m5) w') h0 (fun ρ' w' hk hI => by
        have := h1 ρ' (ρ' m1) (ρ' m2) (ρ' m3) (ρ' m4) (ρ' m5) w' hI
        dsimp only at this
        rwa [mix5_self hk] at this)
    · rename_i m1 m2 m3 m4 m5 m6
      obtain ⟨I, μ, h0, h1⟩ := h
      exact loop_gen ih hf hu hc hs (fun ρ' w' => I (ρ' m1) (ρ' m2) (ρ' m3) (ρ' m4) (ρ' m5) (ρ' m6) w') (fun ρ' w' => μ (ρ' m1) (ρ' m2) (ρ' m3) (ρ' m4) (ρ' m5) (ρ' m6) w') h0 (fun ρ' w' hk hI => by
        have := h1 ρ' (ρ' m1) (ρ' m2) (ρ' m3) (ρ' m4) (ρ' m5) (ρ' m6) w' hI
        dsimp only at this
        rwa [mix6_self hk] at this)
    · rename_i m1 m2 m3 m4 m5 m6 m7
      obtain ⟨I, μ, h0, h1⟩ := h
      exact loop_gen ih hf hu hc hs (fun ρ' w' => I (ρ' m1) (ρ' m2) (ρ' m3) (ρ' m4) (ρ' m5) (ρ' m6) (ρ' m7) w') (fun ρ' w' => μ (ρ' m1) (ρ' m2) (ρ' m3) (ρ' m4) (ρ' m5) (ρ' m6) (ρ' m7) w') h0 (fun ρ' w' hk hI => by
        have := h1 ρ' (ρ' m1) (ρ' m2) (ρ' m3) (ρ' m4) (ρ' m5) (ρ' m6) (ρ' m7) w' hI
        dsimp only at this
        rwa [mix7_self hk] at this)
    · rename_i m1 m2 m3 m4 m5 m6 m7 m8
      obtain ⟨I, μ, h0, h1⟩ := h
      exact loop_gen ih hf hu hc hs (fun ρ' w' => I (ρ' m1) (ρ' m2) (ρ' m3) (ρ' m4) (ρ' m5) (ρ' m6) (ρ' m7) (ρ' m8) w') (fun ρ' w' => μ (ρ' m1) (ρ' m2) (ρ' m3) (ρ' m4) (ρ' m5) (ρ' m6) (ρ' m7) (ρ' m8) w') h0 (fun ρ' w' hk hI => by
        have := h1 ρ' (ρ' m1) (ρ' m2) (ρ' m3) (ρ' m4) (ρ' m5) (ρ' m6) (ρ' m7) (ρ' m8) w' hI
        dsimp only at this
        rwa [mix8_self hk] at this)
    · exact h.elim
  | _ => intro ann Q ρ a w W hf hc hs h; simp [fits] at hf
/-! ### a whole function -/
def bodyOf (fn : Func) : Code := fn.body.getD .skip
def resE (rs : Array ResultVar) (ρ : Env) : Sem Value := do
  let vs ← rs.mapM fun
    | .tmp t => pure (ρ t)
    | .cell a t => do loadVar t (← asAddr (ρ a))
  pure (if h : vs.size = 1 then vs[0] else .tuple vs)
def resK (P : Program) (rs : List ResultVar) (ρ : Env) (R : Value → World → Prop) (w : World) : Prop :=
  match rs with
  | [] => R (.tuple #[]) w
  | [.tmp t] => R (ρ t) w
  | [.tmp t, .tmp u] => R (.tuple #[ρ t, ρ u]) w
  | [.tmp t, .tmp u, .tmp v] => R (.tuple #[ρ t, ρ u, ρ v]) w
  | [.cell t e] => LoadK P e (ρ t) (fun x w' => w' = w ∧ R x w) w
  | [.cell t e, .tmp u] => LoadK P e (ρ t) (fun x w' => w' = w ∧ R (.tuple #[x, ρ u]) w) w
  | [.tmp t, .cell u e, .tmp v] => LoadK P e (ρ u) (fun x w' => w' = w ∧ R (.tuple #[ρ t, x, ρ v]) w) w
  | rs => ∃ v, (resE rs.toArray ρ).run P w = .ok v w ∧ R v w
def retQ (P : Program) (fn : Func) (R : Value → World → Prop) : Exit → Env → World → Prop
  | .normal, ρ, w => resK P fn.results.toList ρ R w
  | .ret, ρ, w => resK P fn.results.toList ρ R w
  | _, _, _ => False
theorem resE_of {N : Nat} {a : Act} {ρ : Env} (h : Sim N a ρ) (fn : Func) : results fn a.tmps = resE fn.results ρ := by
  unfold results resE
  simp only [h.get]
  rfl
theorem loadK_var {P : Program} {t : TypeId} {x : Value} {K : Value → World → Prop} {w : World} (h : LoadK P t x K w) : ∃ a v w', x = .pointer (some a) ∧ (loadVar t a).run P w = .ok v w' ∧ K v w' := by
  unfold LoadK ResK at h
  cases x with
  | pointer p =>
    cases p with
    | some a =>
      have e : (Instr.loadAt t (.pointer (some a))).run P w = (loadVar t a).run P w := by simp [Instr.loadAt, Instr.sureAddr]
      rw [e] at h
      split at h
      · rename_i v w' hv; exact ⟨a, v, w', rfl, hv, h⟩
      · exact h.elim
    | none => simp [Instr.loadAt, Instr.sureAddr] at h
  | _ => simp [Instr.loadAt, Instr.sureAddr] at h
theorem resK_sound {P : Program} {N : Nat} {a : Act} {ρ : Env} {fn : Func} {R : Value → World → Prop} {w : World} (h : Sim N a ρ) (hr : resK P fn.results.toList ρ R w) : ∃ v, (results fn a.tmps).run P w = .ok v w ∧ R v w := by
  have key : ∀ rs : List ResultVar, fn.results.toList = rs → fn.results = rs.toArray := fun rs h => by rw [← h]
  unfold resK at hr
  split at hr
  · rename_i ht; rw [resE_of h, key _ ht]; exact ⟨_, by simp [resE], hr⟩
  · rename_i t ht; rw [results_tmp (key _ ht), h.get]; exact ⟨_, rfl, hr⟩
  · rename_i t u ht; rw [results_tmp2 (key _ ht), h.get, h.get]; exact ⟨_, rfl, hr⟩
  · rename_i t u v ht; rw [results_tmp3 (key _ ht), h.get, h.get, h.get]; exact ⟨_, rfl, hr⟩
  · rename_i t e ht
    obtain ⟨a, v, w', h1, h2, rfl, h3⟩ := loadK_var hr
    rw [resE_of h, key _ ht]
    exact ⟨v, by simp [resE, h1, asAddr, h2], h3⟩
  · rename_i t e u ht
    obtain ⟨a, v, w', h1, h2, rfl, h3⟩ := loadK_var hr
    rw [resE_of h, key _ ht]
    exact ⟨.tuple #[v, ρ u], by simp [resE, h1, asAddr, h2], h3⟩
  · rename_i t u e v ht
    obtain ⟨a, x, w', h1, h2, rfl, h3⟩ := loadK_var hr
    rw [resE_of h, key _ ht]
    exact ⟨.tuple #[ρ t, x, ρ v], by simp [resE, h1, asAddr, h2], h3⟩
  · rw [resE_of h]; simpa using hr
theorem getD_envOf : ∀ (l : List Value) (i k : Nat), envOf i l (i + k) = l.getD k undef
  | [], _, _ => by simp [envOf]
  | x :: r, i, 0 => by
    simp only [envOf, Nat.add_zero, (beq_iff i i).2 rfl, cond_true]; rfl
  | x :: r, i, k + 1 => by
    have hne : Nat.beq (i + (k + 1)) i = false := by
      cases hb : Nat.beq (i + (k + 1)) i with
      | false => rfl
      | true => have := (beq_iff _ _).1 hb; omega
    simp only [envOf, hne, cond_false]
    rw [show i + (k + 1) = (i + 1) + k by omega, getD_envOf r (i + 1) k]; rfl
/-- A call returns with R, if its body's formula holds. -/
theorem calls_vc {P : Program} {f : FuncId} {fn : Func} {c : Code} (hf : P.funcs[f]? = some fn) (hb : fn.body = some c) (hm : P.follows .mixedOrders = true) (ann : Ann) (hfit : fits fn.ntmps (fun _ => true) c = true) (hchk : chk fn.ntmps c ann = true) (args : List Value) (hn : args.length ≤ fn.ntmps) (w : World) (R : Value → World → Prop)
    (h : vc P c ann (retQ P fn R) (envOf 0 args) w) : CallK P f args.toArray R w := by
  refine calls_of_wp hf hb ?_
  have hs : Sim fn.ntmps { tmps := args.toArray ++ Array.replicate (fn.ntmps - args.toArray.size) undef, defers := [] } (envOf 0 args) := by
    refine ⟨by simp; omega, rfl, fun k => ?_⟩
    have := getD_envOf args 0 k
    rw [Nat.zero_add] at this
    rw [this]
    simp only [Array.getD_eq_getD_getElem?, List.getD_eq_getElem?_getD]
    by_cases hk : k < args.length
    · rw [Array.getElem?_append_left (by simpa using hk)]; simp
    · rw [Array.getElem?_append_right (by simpa using hk), List.getElem?_eq_none (by omega)]
      simp only [Array.getElem?_replicate]
      split <;> rfl
  refine Code.wp_mono ?_ (vc_sound hm c ann _ _ _ w _ hfit hchk hs h)
  intro e a' w' hq
  cases e with
  | normal => obtain ⟨ρ', hs', hR, _⟩ := hq; obtain ⟨v, h1, h2⟩ := resK_sound hs' hR; exact ⟨hs'.defers, v, h1, h2⟩
  | ret => obtain ⟨ρ', hs', hR, _⟩ := hq; obtain ⟨v, h1, h2⟩ := resK_sound hs' hR; exact ⟨hs'.defers, v, h1, h2⟩
  | panic c => exact hq.elim
  | outgrown => exact hq.elim
  | exit i => obtain ⟨ρ', hs', hR, _⟩ := hq; exact hR.elim
  | goto i => obtain ⟨ρ', hs', hR, _⟩ := hq; exact hR.elim

end Go.Cn
