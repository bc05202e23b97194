/- A part of a logic for the model that is used in this proof: no statement of the program stands here. -/
import Derived.Test.YtlkopcgoaldpeaaHLBase
namespace Go.Proofs.Ytlkopcgoaldpeaa.HL
open Go
/-! ### a function's frame: the marks of ranges over functions among its deferred calls are taken; then it returns -/
def markOf (r : Nat) : Deferred := { target := .collected r, args := #[] }
def takeMarks : List Nat → World → World
  | [], w => w
  | r :: rs, w => takeMarks rs { w with heap := w.heap.setIfInBounds r (.deferred none) }

theorem takeMarks_other : ∀ (rs : List Nat) (w : World) (b : Nat), b ∉ rs → (takeMarks rs w).heap[b]? = w.heap[b]?
  | [], _, _, _ => rfl
  | r :: rs, w, b, h => by
    simp only [List.mem_cons, not_or] at h
    rw [takeMarks, takeMarks_other rs _ b h.2]
    simp [Array.getElem?_setIfInBounds_ne (Ne.symm h.1)]
theorem takeMarks_size : ∀ (rs : List Nat) (w : World), (takeMarks rs w).heap.size = w.heap.size
  | [], _ => rfl
  | r :: rs, w => by rw [takeMarks, takeMarks_size rs]; simp
theorem takeMarks_rest : ∀ (rs : List Nat) (w : World), (takeMarks rs w).os = w.os ∧ (takeMarks rs w).output = w.output ∧ (takeMarks rs w).tape = w.tape ∧ (takeMarks rs w).drawn = w.drawn
  | [], _ => ⟨rfl, rfl, rfl, rfl⟩
  | r :: rs, w => by rw [takeMarks]; exact takeMarks_rest rs _

theorem steps_marks {P : Program} : ∀ (rs : List Nat) (fr : Frame) (cs : List Frame) (w : World), fr.mode = .returning → fr.defers = rs.map markOf → rs.Nodup → (∀ r ∈ rs, w.heap[r]? = some (.deferred (some []))) →
    Steps P (lone fr cs w) (lone { fr with defers := [] } cs (takeMarks rs w))
  | [], fr, cs, w, hm, hd, _, _ => by
    have : { fr with defers := [] } = fr := by cases fr; simp_all
    rw [this]; exact Steps.refl _ _
  | r :: rs, fr, cs, w, hm, hd, hn, hb => by
    have h1 : step P (lone fr cs w) = .next (lone { fr with defers := rs.map markOf } cs { w with heap := w.heap.setIfInBounds r (.deferred none) }) := by
      refine step_lone_go ?_
      have hr := hb r (by simp)
      have hrun : (Instr.takeDeferred r).run P w = .ok [] { w with heap := w.heap.setIfInBounds r (.deferred none) } := by
        simp [Instr.takeDeferred, getObj, setObj, Bind.bind, Sem.bind, Sem.run, hr, Pure.pure]
      simp [stepG, unwind, hm, hd, markOf, hrun]
    have hn' := List.nodup_cons.1 hn
    refine .head h1 (steps_marks rs { fr with defers := rs.map markOf } cs _ hm rfl hn'.2 fun r' hr' => ?_)
    have hne : r ≠ r' := fun e => hn'.1 (e ▸ hr')
    simp only [Array.getElem?_setIfInBounds_ne hne]
    exact hb r' (by simp [hr'])

/-- What is asked at a body's end. -/
def endR (P : Program) (fn : Func) (R : Value → World → Prop) : Ex → Act → World → Prop
  | .exit _, _, _ => False
  | _, a, w => ∃ rs : List Nat, a.defers = rs.map markOf ∧ rs.Nodup ∧ (∀ r ∈ rs, w.heap[r]? = some (.deferred (some []))) ∧
      ∃ v, (results fn a.tmps).run P (takeMarks rs w) = .ok v (takeMarks rs w) ∧ R v (takeMarks rs w)

theorem calls_of_CR {P : Program} {f : FuncId} {fn : Func} {c : Code} {args : Array Value} {w : World} {R : Value → World → Prop}
    (hf : P.funcs[f]? = some fn) (hb : fn.body = some c)
    (h : CR P none c (endR P fn R) { tmps := args ++ Array.replicate (fn.ntmps - args.size) undef, defers := [] } w) :
    Calls P f args w fun e w' => ∃ v, e = .returned v ∧ R v w' := by
  intro cs
  let b : Frame := { (default : Frame) with fn := f, kind := .normal }
  have henter : Frame.enter P f args .normal = At b { tmps := args ++ Array.replicate (fn.ntmps - args.size) undef, defers := [] } [.code c] := by
    simp [Frame.enter, At, hf, hb, b]
    rfl
  obtain ⟨e, a', w', hq, harr⟩ := h b [] cs rfl
  rw [← henter] at harr
  have fin : ∀ todo, Steps P (lone (Frame.enter P f args .normal) cs w) (lone { At b a' todo with mode := .returning } cs w') →
      (∃ rs : List Nat, a'.defers = rs.map markOf ∧ rs.Nodup ∧ (∀ r ∈ rs, w'.heap[r]? = some (.deferred (some []))) ∧
      ∃ v, (results fn a'.tmps).run P (takeMarks rs w') = .ok v (takeMarks rs w') ∧ R v (takeMarks rs w')) →
      ∃ e w' fr, (∃ v, e = Ending.returned v ∧ R v w') ∧ Comes P (lone (Frame.enter P f args .normal) cs w) (lone fr cs w') e ∧ fr.fn = f ∧ fr.leaving P w' e := by
    intro todo hs ⟨rs, hd, hn, hm, v, hr, hR⟩
    have h2 := steps_marks (P := P) rs { At b a' todo with mode := .returning } cs w' rfl hd hn hm
    exact ⟨.returned v, _, _, ⟨v, rfl, hR⟩, hs.trans h2, rfl, rfl, rfl, rfl, fn, hf, hr⟩
  cases e with
  | normal => exact fin [] (Steps.trans harr (.one (st_end rfl))) hq
  | ret => obtain ⟨todo, hs⟩ := harr; exact fin _ (hs.trans (.one (st_ret rfl))) hq
  | exit id => exact hq.elim

/-! ### a range over a function -/
/-- The loop's block when it is entered. -/
def loopObj (fn : FuncId) (tmps : Array Value) (params : Array Tmp) (assign body : Code) (D : Nat) : Loop :=
  { state := .ready, pending := none, fn, tmps, params, assign, body, defers := D }

/-- How the loop's block reads behind a round that ended so. -/
def Ex.jump : Ex → Option Code
  | .normal => none
  | .exit id => some (.exit id)
  | .ret => some .ret
def afterRound (lp : Loop) (e : Ex) : Loop := { lp with state := if e.jump.isNone then .ready else .done, pending := e.jump }
def setLoop (w : World) (l : Nat) (lp : Loop) : World := { w with heap := w.heap.setIfInBounds l (.loop lp) }

section
variable {P : Program} {b : Frame} {a : Act} {k : List Item} {c : Frame} {cs : List Frame} {w : World}
theorem run_getLoop {l : Nat} {lp : Loop} (h : w.heap[l]? = some (.loop lp)) : (Instr.getLoop l).run P w = .ok lp w := by
  simp [Instr.getLoop, getObj, Bind.bind, Sem.bind, Sem.run, h, Pure.pure]
theorem run_endRound {l : Nat} {lp : Loop} {e : Ex} (h : w.heap[l]? = some (.loop lp)) : (Instr.endRound l e.jump).run P w = .ok (.bool e.jump.isNone) (setLoop w l (afterRound lp e)) := by
  simp [Instr.endRound, Instr.getLoop, getObj, setObj, Bind.bind, Sem.bind, Sem.run, h, Pure.pure, afterRound, setLoop]
theorem run_beginRound {l : Nat} {lp : Loop} (h : w.heap[l]? = some (.loop lp)) (hs : lp.state = .ready) : (Instr.beginRound l).run P w = .ok () (setLoop w l { lp with state := .busy }) := by
  simp [Instr.beginRound, Instr.getLoop, getObj, setObj, Bind.bind, Sem.bind, Sem.run, h, Pure.pure, setLoop, hs]
theorem st_beginRound {l : Nat} {lp : Loop} (hb : b.roundOf = some l) (h : w.heap[l]? = some (.loop lp)) (hs : lp.state = .ready) :
    step P (lone (At b a (.beginRound :: k)) cs w) = .next (lone (At b a k) cs (setLoop w l { lp with state := .busy })) := by
  refine step_lone_go ?_
  have h1 := run_beginRound (P := P) h hs
  simp [stepG, stepG.exec, At, hb, stepG.apply, h1, Frame.finish, Result.andThen]
theorem st_leave {l : Nat} {lp : Loop} (hb : b.roundOf = some l) (hk : b.kind = .normal) (h : w.heap[l]? = some (.loop lp)) {e : Ex} {todo : List Item}
    (ht : match e with | .normal => todo = [] | .exit id => ∃ k', todo = .code (.exit id) :: k' ∧ exitTo id k' = none | .ret => ∃ k', todo = .code .ret :: k') :
    step P (lone (At b a todo) (c :: cs) w) = .next (lone (c.finish (.bool e.jump.isNone)) cs (setLoop w l (afterRound lp e))) := by
  refine step_lone_go ?_
  have h1 := run_endRound (P := P) (e := e) h
  cases e with
  | normal => subst ht; simp only [Ex.jump] at h1; simp [stepG, stepG.exec, At, hb, h1, doReturn, hk, Ex.jump]
  | exit id => obtain ⟨k', rfl, hx⟩ := ht; simp only [Ex.jump] at h1; simp [stepG, stepG.exec, At, hb, h1, doReturn, hk, Ex.jump, hx]
  | ret => obtain ⟨k', rfl⟩ := ht; simp only [Ex.jump] at h1; simp [stepG, stepG.exec, At, hb, h1, doReturn, hk, Ex.jump]
end

/-- A round: the parameters' assignments, then the body; then the loop's block says how it ended. -/
theorem round_of_CR {P : Program} {l : Nat} {f : FuncId} {tmps : Array Value} {assign body : Code} {w : World} {R : Value → World → Prop}
    (h : CR P (some l) assign (Ex.thn (fun a1 w1 => ∃ lp, w1.heap[l]? = some (.loop lp) ∧ lp.state = .ready ∧
        CR P (some l) body (fun e _ w2 => ∃ lp2, w2.heap[l]? = some (.loop lp2) ∧ R (.bool e.jump.isNone) (setLoop w2 l (afterRound lp2 e)))
          a1 (setLoop w1 l { lp with state := .busy })) (fun _ _ _ => False)) { tmps, defers := [] } w) :
    RoundRuns P l f tmps assign body w R := by
  intro c cs
  let b : Frame := { (default : Frame) with fn := f, kind := .normal, roundOf := some l }
  have henter : Frame.round l f tmps assign body .normal = At b { tmps, defers := [] } [.code assign, .beginRound, .code body] := rfl
  rw [henter]
  obtain ⟨e, a1, w1, hq, harr⟩ := h b [.beginRound, .code body] (c :: cs) rfl
  cases e with
  | exit id => exact hq.elim
  | ret => exact hq.elim
  | normal =>
    obtain ⟨lp, hlp, hst, hbody⟩ := hq
    obtain ⟨e2, a2, w2, ⟨lp2, hlp2, hR⟩, harr2⟩ := hbody b [] (c :: cs) rfl
    have hs := Steps.trans harr (.one (st_beginRound (P := P) (b := b) (a := a1) (k := [.code body]) (cs := c :: cs) rfl hlp hst))
    cases e2 with
    | normal => exact ⟨_, _, hR, hs.trans (Steps.trans harr2 (.one (st_leave (e := .normal) rfl rfl hlp2 rfl)))⟩
    | exit id => obtain ⟨k', hk, hs2⟩ := harr2; exact ⟨_, _, hR, hs.trans (hs2.trans (.one (st_leave (e := .exit id) rfl rfl hlp2 ⟨k', rfl, by simpa [exitTo] using hk⟩)))⟩
    | ret => obtain ⟨k', hs2⟩ := harr2; exact ⟨_, _, hR, hs.trans (hs2.trans (.one (st_leave (e := .ret) rfl rfl hlp2 ⟨k', rfl⟩)))⟩

/-- The call of the ranged-over function, with the yield function of the loop 'l'. -/
def rangeCall (g : Value) (l : Nat) : Sem Next := do
  let d ← Deferred.ofValue g #[.func (.yield l) #[] #[]]
  invoke d.target d.args

/-- What is asked behind the call: the loop's block says how it ended. -/
def afterLoop (P : Program) (rd : Option Nat) (l : Nat) (Q : Ex → Act → World → Prop) (a : Act) (w : World) : Prop :=
  ∃ lp, w.heap[l]? = some (.loop lp) ∧ lp.state ≠ .busy ∧
    match lp.pending with
    | none => Q .normal a (setLoop w l { lp with state := .exhausted })
    | some c => CR P rd c Q a (setLoop w l { lp with state := .exhausted })

section
variable {P : Program} {b : Frame} {a : Act} {k : List Item} {cs : List Frame} {w : World}
theorem st_endRangeFunc {l : Nat} {lp : Loop} (h : w.heap[l]? = some (.loop lp)) (hs : lp.state ≠ .busy) :
    step P (lone (At b a (.endRangeFunc l :: k)) cs w) = .next (lone (At b a ((lp.pending.map Item.code).toList ++ k)) cs (setLoop w l { lp with state := .exhausted })) := by
  refine step_lone_go ?_
  have h2 : (Instr.endLoop l).run P w = .ok lp.pending (setLoop w l { lp with state := .exhausted }) := by
    simp [Instr.endLoop, Instr.getLoop, getObj, setObj, Bind.bind, Sem.bind, Sem.run, h, Pure.pure, setLoop, hs]
  simp [stepG, stepG.exec, At, h2]

theorem afterLoop_arr {rd : Option Nat} {l : Nat} {Q : Ex → Act → World → Prop} (h : afterLoop P rd l Q a w) (hr : b.roundOf = rd) :
    ∃ e a' w', Q e a' w' ∧ Arr P (lone (At b a (.endRangeFunc l :: k)) cs w) b k cs e a' w' := by
  obtain ⟨lp, hlp, hst, hm⟩ := h
  have h1 := st_endRangeFunc (P := P) (b := b) (a := a) (k := k) (cs := cs) hlp hst
  cases hp : lp.pending with
  | none => rw [hp] at hm h1; exact ⟨.normal, a, _, hm, .one h1⟩
  | some c =>
    rw [hp] at hm h1
    obtain ⟨e, a', w', hq, harr⟩ := hm b k cs hr
    exact ⟨e, a', w', hq, .of_steps (.one h1) harr⟩
end

def pushLoop (w : World) (fn : FuncId) (a : Act) (params : Array Tmp) (assign body : Code) : World :=
  { w with heap := (w.heap.push (.deferred (some []))).push (.loop (loopObj fn a.tmps params assign body w.heap.size)) }
def pushLoopIn (w : World) (fn : FuncId) (a : Act) (params : Array Tmp) (assign body : Code) (D : Nat) : World :=
  { w with heap := w.heap.push (.loop (loopObj fn a.tmps params assign body D)) }

theorem CR_rangeFunc {P : Program} {Q : Ex → Act → World → Prop} {a : Act} {w : World} {g : Operand} {params : Array Tmp} {assign body : Code}
    (h : ∀ fn : FuncId, ∃ nx w2, (rangeCall (a.eval g) (w.heap.size + 1)).run P (pushLoop w fn a params assign body) = .ok nx w2 ∧
      NextRuns P nx w2 fun _ w3 => afterLoop P none (w.heap.size + 1) Q { a with defers := markOf w.heap.size :: a.defers } w3) :
    CR P none (.rangeFunc g params assign body) Q a w := by
  intro b k cs hr
  obtain ⟨nx, w2, hrun, hn⟩ := h b.fn
  have hen : (Instr.enterLoop b.fn a.tmps params assign body none).run P w = .ok (w.heap.size + 1, [markOf w.heap.size]) (pushLoop w b.fn a params assign body) := by
    simp [Instr.enterLoop, newObj, Bind.bind, Sem.bind, Sem.run, Pure.pure, pushLoop, loopObj, markOf]
  obtain ⟨v, w3, hR, hs⟩ := apply_steps (fr0 := At b a (.code (.rangeFunc g params assign body) :: k)) (cs := cs) (w0 := w)
    (fr := At b { a with defers := markOf w.heap.size :: a.defers } (.inRangeFunc (w.heap.size + 1) :: k)) (s := rangeCall (a.eval g) (w.heap.size + 1)) (P := P)
    (by
      simp [stepG, stepG.exec, At, hr, hen, rangeCall, resolve]
      rfl) (by simp [At]) hrun hn
  have hfin : (At b { a with defers := markOf w.heap.size :: a.defers } (.inRangeFunc (w.heap.size + 1) :: k)).finish v =
      At b { a with defers := markOf w.heap.size :: a.defers } (.endRangeFunc (w.heap.size + 1) :: k) := rfl
  rw [hfin] at hs
  obtain ⟨e, a', w', hq, harr⟩ := afterLoop_arr (b := b) (k := k) (cs := cs) hR hr
  exact ⟨e, a', w', hq, .of_steps hs harr⟩

theorem CR_rangeFuncIn {P : Program} {Q : Ex → Act → World → Prop} {a : Act} {w : World} {g : Operand} {params : Array Tmp} {assign body : Code} {l0 : Nat} {lp0 : Loop}
    (h0 : w.heap[l0]? = some (.loop lp0))
    (h : ∀ fn : FuncId, ∃ nx w2, (rangeCall (a.eval g) w.heap.size).run P (pushLoopIn w fn a params assign body lp0.defers) = .ok nx w2 ∧
      NextRuns P nx w2 fun _ w3 => afterLoop P (some l0) w.heap.size Q a w3) :
    CR P (some l0) (.rangeFunc g params assign body) Q a w := by
  intro b k cs hr
  obtain ⟨nx, w2, hrun, hn⟩ := h b.fn
  have hen : (Instr.enterLoop b.fn a.tmps params assign body (some l0)).run P w = .ok (w.heap.size, []) (pushLoopIn w b.fn a params assign body lp0.defers) := by
    simp [Instr.enterLoop, Instr.getLoop, getObj, newObj, Bind.bind, Sem.bind, Sem.run, Pure.pure, pushLoopIn, loopObj, h0]
  obtain ⟨v, w3, hR, hs⟩ := apply_steps (fr0 := At b a (.code (.rangeFunc g params assign body) :: k)) (cs := cs) (w0 := w)
    (fr := At b a (.inRangeFunc w.heap.size :: k)) (s := rangeCall (a.eval g) w.heap.size) (P := P)
    (by
      simp [stepG, stepG.exec, At, hr, hen, rangeCall, resolve]
      rfl) (by simp [At]) hrun hn
  have hfin : (At b a (.inRangeFunc w.heap.size :: k)).finish v = At b a (.endRangeFunc w.heap.size :: k) := rfl
  rw [hfin] at hs
  obtain ⟨e, a', w', hq, harr⟩ := afterLoop_arr (b := b) (k := k) (cs := cs) hR hr
  exact ⟨e, a', w', hq, .of_steps hs harr⟩
end Go.Proofs.Ytlkopcgoaldpeaa.HL
