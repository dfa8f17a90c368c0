/- A call inside a walk over the machine of one: by the callee's `Calls`. -/
import Derived.Conc.LoneCalls
import Derived.Conc.LoneSelect
set_option linter.unusedVariables false
namespace Go.Cn
open Go.Conc
variable {P : Program} {Q : Goroutine → World → Prop} {b : Frame} {a : Act} {k : List Item} {cs : List Frame} {w : World}
theorem lone_call {ops : Array Oper} {i : Nat} {rest : List Nat} {o : Oper} {f : FuncId} {fn : Func} {args : Array Operand} {ats : Array TypeId} {v : Value} {R : World → Prop}
    (ho : ops[i]? = some o) (hw : Region.wanted o (yielded ops a.tmps) = true) (hk : b.kind ≠ .early) (hop : o.op = .call { callee := .value (.func f), args, argTypes := ats })
    (hf : P.funcs[f]? = some fn) (hname : (fn.name == "runtime.NumGoroutine") = false) (hb : fn.body.isNone = false)
    {vs : Array Value} (hvs : args.map a.eval = vs) (hc : Calls P f vs w fun e w' => e = .returned v ∧ R w')
    (h : ∀ w', R w' → LoneTo P Q (G (b.at (a.put ((ops[i]?).bind (·.dst)) v) (.inRegion ops rest :: k)) cs) w') :
    LoneTo P Q (G (b.at a (.inRegion ops (i :: rest) :: k)) cs) w := by
  subst hvs
  refine LoneTo.step (step_solo_go rfl (stepG_enter ho hw hk (run_call_body hop hf hname hb))) ?_
  obtain ⟨_, w', fr, ⟨rfl, hR⟩, hs, _, hl⟩ := hc (b.at a (.inRegion ops (i :: rest) :: k) :: cs)
  obtain ⟨g'', w'', hs', hq⟩ := h w' hR
  have h1 := step_leave_returned (cs := cs) (c := b.at a (.inRegion ops (i :: rest) :: k)) hl
  refine ⟨g'', w'', Steps.trans hs (Steps.head h1 ?_), hq⟩
  rw [Frame.finish_at]
  exact hs'
end Go.Cn
