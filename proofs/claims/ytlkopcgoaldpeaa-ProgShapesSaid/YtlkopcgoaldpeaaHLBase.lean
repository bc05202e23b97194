/- The base of a logic for Go's code as the model runs it: one goroutine, frames that may be rounds of a range over a function. -/
import Derived.Orders
import Derived.Tactics
namespace Go.Proofs.Ytlkopcgoaldpeaa.HL
open Go

/-! ### frames -/
def At (b : Frame) (a : Act) (todo : List Item) : Frame := { b with tmps := a.tmps, todo := todo, defers := a.defers, mode := .run }

theorem At_eval (b : Frame) (a : Act) (todo : List Item) : (At b a todo).eval = a.eval := by
  funext x; cases x <;> rfl

section steps
variable {P : Program} {b : Frame} {a : Act} {k : List Item} {cs : List Frame} {w : World}

theorem st_skip : step P (lone (At b a (.code .skip :: k)) cs w) = .next (lone (At b a k) cs w) :=
  step_lone_go (by simp [stepG, stepG.exec, At])
theorem st_label {l : Nat} : step P (lone (At b a (.code (.label l) :: k)) cs w) = .next (lone (At b a k) cs w) :=
  step_lone_go (by simp [stepG, stepG.exec, At])
theorem st_inBlock {id : Nat} : step P (lone (At b a (.inBlock id :: k)) cs w) = .next (lone (At b a k) cs w) :=
  step_lone_go (by simp [stepG, stepG.exec, At])
theorem st_inScope {c : Code} : step P (lone (At b a (.inScope c :: k)) cs w) = .next (lone (At b a k) cs w) :=
  step_lone_go (by simp [stepG, stepG.exec, At])
theorem st_scope {c : Code} : step P (lone (At b a (.code (.scope c) :: k)) cs w) = .next (lone (At b a (.code c :: .inScope c :: k)) cs w) :=
  step_lone_go (by simp [stepG, stepG.exec, At])
theorem st_seq {x y : Code} : step P (lone (At b a (.code (.seq x y) :: k)) cs w) = .next (lone (At b a (.code x :: .code y :: k)) cs w) :=
  step_lone_go (by simp [stepG, stepG.exec, At])
theorem st_cond {c : Operand} {x y : Code} {t : Bool} (h : a.eval c = .bool t) :
    step P (lone (At b a (.code (.cond c x y) :: k)) cs w) = .next (lone (At b a (.code (if t then x else y) :: k)) cs w) :=
  step_lone_go (by
    have := congrFun (At_eval b a (.code (.cond c x y) :: k)) c
    simp only [At] at this
    simp [stepG, stepG.exec, At, this, h])
theorem st_block {id : Nat} {c : Code} : step P (lone (At b a (.code (.block id c) :: k)) cs w) = .next (lone (At b a (.code c :: .inBlock id :: k)) cs w) :=
  step_lone_go (by simp [stepG, stepG.exec, At])
theorem st_loop {c : Code} : step P (lone (At b a (.code (.loop c) :: k)) cs w) = .next (lone (At b a (.code c :: .inLoop c :: k)) cs w) :=
  step_lone_go (by simp [stepG, stepG.exec, At])
theorem st_inLoop {c : Code} : step P (lone (At b a (.inLoop c :: k)) cs w) = .next (lone (At b a (.code c :: .inLoop c :: k)) cs w) :=
  step_lone_go (by simp [stepG, stepG.exec, At])
theorem st_exit {id : Nat} {k' : List Item} (h : exitTo id k = some k') :
    step P (lone (At b a (.code (.exit id) :: k)) cs w) = .next (lone (At b a k') cs w) :=
  step_lone_go (by simp [stepG, stepG.exec, At, h])
/-- In a function's own frame: 'return', and the body's end. -/
theorem st_ret (h : b.roundOf = none) : step P (lone (At b a (.code .ret :: k)) cs w) = .next (lone { At b a (.code .ret :: k) with mode := .returning } cs w) :=
  step_lone_go (by simp [stepG, stepG.exec, At, h])
theorem st_end (h : b.roundOf = none) : step P (lone (At b a []) cs w) = .next (lone { At b a [] with mode := .returning } cs w) :=
  step_lone_go (by simp [stepG, stepG.exec, At, h])
theorem st_region {id : Nat} {ops : Array Oper} :
    step P (lone (At b a (.code (.region id ops false) :: k)) cs w) = .next (lone (At b a (.inRegion ops (List.range ops.size) :: k)) cs w) :=
  step_lone_go (by simp [stepG, stepG.exec, At])
theorem st_region_draw {id : Nat} {ops : Array Oper} :
    step P (lone (At b a (.code (.region id ops true) :: k)) cs w) =
      .next (lone (At b a (.inRegion ops (Region.schedule (P.follows .mixedOrders) ops (w.tape w.drawn (.order b.fn id))) :: k)) cs { w with drawn := w.drawn + 1 }) :=
  step_lone_go (by simp [stepG, stepG.exec, At, choose, Sem.run, Question.forced, Question.cut])
theorem st_region_end {ops : Array Oper} : step P (lone (At b a (.inRegion ops [] :: k)) cs w) = .next (lone (At b a k) cs w) :=
  step_lone_go (by simp [stepG, stepG.exec, At])
theorem At_finish (ops : Array Oper) (i : Nat) (rest : List Nat) (v : Value) :
    (At b a (.inRegion ops (i :: rest) :: k)).finish v = At b (a.put ((ops[i]?).bind (·.dst)) v) (.inRegion ops rest :: k) := by
  cases h : (ops[i]?).bind (·.dst) <;> simp [Frame.finish, At, Act.put, h]
theorem st_op_skip {ops : Array Oper} {i : Nat} {rest : List Nat} (h : ((ops[i]?).map (Region.wanted · (yielded ops a.tmps))).getD false = false) :
    step P (lone (At b a (.inRegion ops (i :: rest) :: k)) cs w) = .next (lone (At b (a.put ((ops[i]?).bind (·.dst)) undef) (.inRegion ops rest :: k)) cs w) := by
  rw [← At_finish]
  exact step_lone_go (by
    have h' := h
    simp only [At] at *
    simp [stepG, stepG.exec, h'])
theorem stepG_oper {ops : Array Oper} {i : Nat} {rest : List Nat} {o : Oper} (ho : ops[i]? = some o) (hw : Region.wanted o (yielded ops a.tmps) = true) (hd : ∀ c, o.op ≠ .defer c) :
    stepG P true { frame := At b a (.inRegion ops (i :: rest) :: k), callers := cs, status := .running, dying := none } w =
      stepG.apply P true (At b a (.inRegion ops (i :: rest) :: k)) cs none (execOp a.eval o) w := by
  have he := At_eval b a (.inRegion ops (i :: rest) :: k)
  simp only [At] at he
  cases hr : b.roundOf with
  | none => rw [hr] at he; simp [stepG, stepG.exec, stepG.oper, Frame.oper?, At, ho, hw, hr, he]
  | some l =>
    rw [hr] at he
    simp only [stepG, stepG.exec, stepG.oper, Frame.oper?, At, ho, hw, hr, Option.map_some, Option.getD_some, if_true, he]
    cases hop : o.op <;> first | rfl | exact absurd hop (hd _)
end steps

/-! ### what an operation, or a call of a function value, comes to -/
/-- A round of a range over a function, run for a caller. -/
def RoundRuns (P : Program) (l : Nat) (f : FuncId) (tmps : Array Value) (assign body : Code) (w : World) (R : Value → World → Prop) : Prop :=
  ∀ (c : Frame) (cs : List Frame), ∃ v w', R v w' ∧ Steps P (lone (Frame.round l f tmps assign body .normal) (c :: cs) w) (lone (c.finish v) cs w')

def NextRuns (P : Program) (nx : Next) (w : World) (R : Value → World → Prop) : Prop :=
  match nx with
  | .value v => R v w
  | .skip => R undef w
  | .enter f args => Calls P f args w fun e w' => ∃ v, e = .returned v ∧ R v w'
  | .round l f tmps assign body => RoundRuns P l f tmps assign body w R
  | _ => False

theorem RoundRuns.mono {P : Program} {l : Nat} {f : FuncId} {tmps : Array Value} {x y : Code} {w : World} {R R' : Value → World → Prop}
    (h : RoundRuns P l f tmps x y w R) (hr : ∀ v w', R v w' → R' v w') : RoundRuns P l f tmps x y w R' :=
  fun c cs => let ⟨v, w', r, s⟩ := h c cs; ⟨v, w', hr _ _ r, s⟩

theorem NextRuns.mono {P : Program} {nx : Next} {w : World} {R R' : Value → World → Prop} (h : NextRuns P nx w R) (hr : ∀ v w', R v w' → R' v w') : NextRuns P nx w R' := by
  cases nx <;> simp only [NextRuns] at * <;> first
    | exact hr _ _ h
    | exact h.mono fun e w' ⟨v, he, hv⟩ => ⟨v, he, hr _ _ hv⟩
    | exact h.mono hr

/-- A frame that applies 's' and comes to 'nx'. -/
theorem apply_steps {P : Program} {fr0 fr : Frame} {cs : List Frame} {s : Sem Next} {w0 w w' : World} {nx : Next} {R : Value → World → Prop}
    (hg : (stepG P true { frame := fr0, callers := cs, status := .running, dying := none } w0).bare = (stepG.apply P true fr cs none s w).bare)
    (hk : ∀ d b r sv k, fr.todo ≠ .call d b r sv :: k) (hs : s.run P w = .ok nx w') (h : NextRuns P nx w' R) :
    ∃ v w'', R v w'' ∧ Steps P (lone fr0 cs w0) (lone (fr.finish v) cs w'') := by
  have hkind : (match fr.todo with | .call _ true _ _ :: _ => CallKind.wrapped | _ => CallKind.normal) = .normal := by
    cases ht : fr.todo with
    | nil => rfl
    | cons x k => cases x <;> first | rfl | exact absurd ht (hk _ _ _ _ _)
  cases nx <;> simp only [NextRuns] at h
  case value v => exact ⟨v, w', h, .one (step_lone_go (by rw [hg]; simp [stepG.apply, hs]))⟩
  case skip => exact ⟨undef, w', h, .one (step_lone_go (by rw [hg]; simp [stepG.apply, hs]))⟩
  case enter f args =>
    obtain ⟨e, w'', fr', ⟨v, rfl, hR⟩, hcomes, _, hleave⟩ := h (fr :: cs)
    have henter : step P (lone fr0 cs w0) = .next (lone (Frame.enter P f args .normal) (fr :: cs) w') :=
      step_lone_go (by rw [hg]; simp [stepG.apply, hs]; split <;> first | rfl | exact absurd ‹_› (hk _ _ _ _ _))
    exact ⟨v, w'', hR, .head henter (Steps.trans hcomes (.one (step_leave_returned hleave)))⟩
  case round l f tmps assign body =>
    obtain ⟨v, w'', hR, hst⟩ := h fr cs
    have henter : step P (lone fr0 cs w0) = .next (lone (Frame.round l f tmps assign body .normal) (fr :: cs) w') :=
      step_lone_go (by rw [hg]; simp [stepG.apply, hs])
    exact ⟨v, w'', hR, .head henter hst⟩

/-! ### code -/
inductive Ex where
  | normal
  | exit (id : Nat)
  | ret

def Arr (P : Program) (m : Machine) (b : Frame) (k : List Item) (cs : List Frame) : Ex → Act → World → Prop
  | .normal, a, w => Steps P m (lone (At b a k) cs w)
  | .exit id, a, w => ∃ k', exitTo id k' = exitTo id k ∧ Steps P m (lone (At b a (.code (.exit id) :: k')) cs w)
  | .ret, a, w => ∃ k', Steps P m (lone (At b a (.code .ret :: k')) cs w)

theorem Arr.of_steps {P : Program} {m m₁ : Machine} {b : Frame} {k : List Item} {cs : List Frame} {e : Ex} {a : Act} {w : World}
    (h : Steps P m m₁) (h' : Arr P m₁ b k cs e a w) : Arr P m b k cs e a w := by
  cases e with
  | normal => exact h.trans h'
  | exit id => obtain ⟨k', hk, hs⟩ := h'; exact ⟨k', hk, h.trans hs⟩
  | ret => obtain ⟨k', hs⟩ := h'; exact ⟨k', h.trans hs⟩

/-- An exit that goes past an item which is no block of its own. -/
theorem Arr.pass {P : Program} {m : Machine} {b : Frame} {x : Item} {k : List Item} {cs : List Frame} {e : Ex} {a : Act} {w : World}
    (hx : ∀ id, x ≠ .inBlock id) (he : e ≠ .normal) (h : Arr P m b (x :: k) cs e a w) : Arr P m b k cs e a w := by
  cases e with
  | normal => exact absurd rfl he
  | exit id =>
    obtain ⟨k', hk, hs⟩ := h
    exact ⟨k', by rw [hk]; cases x <;> first | rfl | exact absurd rfl (hx _), hs⟩
  | ret => exact h

/-- 'rd': the round that the frame is, if it is one. -/
def CR (P : Program) (rd : Option Nat) (c : Code) (Q : Ex → Act → World → Prop) (a : Act) (w : World) : Prop :=
  ∀ (b : Frame) (k : List Item) (cs : List Frame), b.roundOf = rd → ∃ e a' w', Q e a' w' ∧ Arr P (lone (At b a (.code c :: k)) cs w) b k cs e a' w'

section rules
variable {P : Program} {rd : Option Nat} {Q : Ex → Act → World → Prop} {a : Act} {w : World}

theorem CR.mono {c : Code} {Q' : Ex → Act → World → Prop} (h : CR P rd c Q a w) (hq : ∀ e a w, Q e a w → Q' e a w) : CR P rd c Q' a w :=
  fun b k cs hr => let ⟨e, a', w', q, r⟩ := h b k cs hr; ⟨e, a', w', hq _ _ _ q, r⟩
theorem CR_skip (h : Q .normal a w) : CR P rd .skip Q a w := fun _ _ _ _ => ⟨.normal, a, w, h, .one st_skip⟩
theorem CR_label {l : Nat} (h : Q .normal a w) : CR P rd (.label l) Q a w := fun _ _ _ _ => ⟨.normal, a, w, h, .one st_label⟩
theorem CR_exit {id : Nat} (h : Q (.exit id) a w) : CR P rd (.exit id) Q a w := fun _ k _ _ => ⟨.exit id, a, w, h, k, rfl, Steps.refl _ _⟩
theorem CR_ret (h : Q .ret a w) : CR P rd .ret Q a w := fun _ k _ _ => ⟨.ret, a, w, h, k, Steps.refl _ _⟩

def Ex.thn (next : Act → World → Prop) (Q : Ex → Act → World → Prop) : Ex → Act → World → Prop
  | .normal, a, w => next a w
  | e, a, w => Q e a w

theorem CR_seq {x y : Code} (h : CR P rd x (Ex.thn (CR P rd y Q) Q) a w) : CR P rd (.seq x y) Q a w := by
  intro b k cs hr
  obtain ⟨e, a₁, w₁, hq, harr⟩ := h b (.code y :: k) cs hr
  cases e with
  | normal =>
    obtain ⟨e₂, a₂, w₂, hq₂, harr₂⟩ := hq b k cs hr
    exact ⟨e₂, a₂, w₂, hq₂, .of_steps (.head st_seq harr) harr₂⟩
  | exit id => exact ⟨_, a₁, w₁, hq, .of_steps (.one st_seq) (.pass (x := .code y) (by simp) (by simp) harr)⟩
  | ret => exact ⟨_, a₁, w₁, hq, .of_steps (.one st_seq) (.pass (x := .code y) (by simp) (by simp) harr)⟩

theorem CR_cond {c : Operand} {x y : Code} {t : Bool} (hc : a.eval c = .bool t) (h : CR P rd (if t then x else y) Q a w) : CR P rd (.cond c x y) Q a w :=
  fun b k cs hr => let ⟨e, a', w', q, r⟩ := h b k cs hr; ⟨e, a', w', q, .of_steps (.one (st_cond hc)) r⟩

def Ex.inBlock (id : Nat) (Q : Ex → Act → World → Prop) : Ex → Act → World → Prop
  | .exit id', a, w => if id' = id then Q .normal a w else Q (.exit id') a w
  | e, a, w => Q e a w

theorem CR_block {id : Nat} {c : Code} (h : CR P rd c (Ex.inBlock id Q) a w) : CR P rd (.block id c) Q a w := by
  intro b k cs hr
  obtain ⟨e, a₁, w₁, hq, harr⟩ := h b (.inBlock id :: k) cs hr
  cases e with
  | normal => exact ⟨.normal, a₁, w₁, hq, .head st_block (Steps.trans harr (.one st_inBlock))⟩
  | exit id' =>
    obtain ⟨k', hk, hs⟩ := harr
    by_cases hid : id' = id
    · subst hid
      simp only [Ex.inBlock, if_true] at hq
      refine ⟨.normal, a₁, w₁, hq, .head st_block (Steps.trans hs (.one (st_exit ?_)))⟩
      rw [hk]; simp [exitTo]
    · simp only [Ex.inBlock, hid, if_false] at hq
      refine ⟨.exit id', a₁, w₁, hq, k', ?_, .head st_block hs⟩
      rw [hk]
      have : (id == id') = false := by simp; exact fun h => hid h.symm
      simp [exitTo, this]
  | ret => exact ⟨_, a₁, w₁, hq, .of_steps (b := b) (k := k) (cs := cs) (e := .ret) (.one st_block) harr⟩

theorem CR_scope {c : Code} (h : CR P rd c Q a w) : CR P rd (.scope c) Q a w := by
  intro b k cs hr
  obtain ⟨e, a₁, w₁, hq, harr⟩ := h b (.inScope c :: k) cs hr
  cases e with
  | normal => exact ⟨.normal, a₁, w₁, hq, .head st_scope (Steps.trans harr (.one st_inScope))⟩
  | exit id => exact ⟨_, a₁, w₁, hq, .of_steps (.one st_scope) (.pass (x := .inScope c) (by simp) (by simp) harr)⟩
  | ret => exact ⟨_, a₁, w₁, hq, .of_steps (.one st_scope) (.pass (x := .inScope c) (by simp) (by simp) harr)⟩

theorem CR_loop {c : Code} (I : Nat → Act → World → Prop) (m : Nat) (h₀ : I m a w)
    (round : ∀ m a w, I m a w → CR P rd c (Ex.thn (fun a' w' => ∃ m', m' < m ∧ I m' a' w') Q) a w) : CR P rd (.loop c) Q a w := by
  intro b k cs hr
  have key : ∀ m a w, I m a w →
      ∃ e a' w', Q e a' w' ∧ Arr P (lone (At b a (.code c :: .inLoop c :: k)) cs w) b k cs e a' w' := by
    intro m
    induction m using Nat.strongRecOn with
    | _ m ih =>
      intro a w hI
      obtain ⟨e, a₁, w₁, hq, harr⟩ := round m a w hI b (.inLoop c :: k) cs hr
      cases e with
      | normal =>
        obtain ⟨m', hlt, hI₁⟩ := hq
        obtain ⟨e₂, a₂, w₂, hq₂, harr₂⟩ := ih m' hlt a₁ w₁ hI₁
        exact ⟨e₂, a₂, w₂, hq₂, .of_steps (Steps.trans harr (.one st_inLoop)) harr₂⟩
      | exit id => exact ⟨_, a₁, w₁, hq, .pass (x := .inLoop c) (by simp) (by simp) harr⟩
      | ret => exact ⟨_, a₁, w₁, hq, .pass (x := .inLoop c) (by simp) (by simp) harr⟩
  obtain ⟨e, a', w', hq, harr⟩ := key _ a w h₀
  exact ⟨e, a', w', hq, .of_steps (.one st_loop) harr⟩

/-! ### regions -/
/-- Operation number 'i' comes up. -/
def opR (P : Program) (ops : Array Oper) (i : Nat) (K : Act → World → Prop) (a : Act) (w : World) : Prop :=
  match ops[i]? with
  | none => K a w
  | some o => (∀ c, o.op ≠ .defer c) ∧ (if Region.wanted o (yielded ops a.tmps) then ∃ nx w', (execOp a.eval o).run P w = .ok nx w' ∧ NextRuns P nx w' (fun v w'' => K (a.put o.dst v) w'') else K (a.put o.dst undef) w)

theorem opR_mono {ops : Array Oper} {i : Nat} {K K' : Act → World → Prop} (h : opR P ops i K a w) (hk : ∀ a w, K a w → K' a w) : opR P ops i K' a w := by
  unfold opR at *
  cases ho : ops[i]? with
  | none => simp only [ho] at h ⊢; exact hk _ _ h
  | some o =>
    simp only [ho] at h ⊢
    refine ⟨h.1, ?_⟩
    have h2 := h.2
    split
    · rename_i hw; rw [if_pos hw] at h2; obtain ⟨nx, w', hr, hn⟩ := h2; exact ⟨nx, w', hr, hn.mono fun v w'' hK => hk _ _ hK⟩
    · rename_i hw; rw [if_neg hw] at h2; exact hk _ _ h2

def opsR (P : Program) (ops : Array Oper) (Q : Act → World → Prop) : List Nat → Act → World → Prop
  | [], a, w => Q a w
  | i :: rest, a, w => opR P ops i (opsR P ops Q rest) a w

theorem opsR_steps {ops : Array Oper} {K : Act → World → Prop} (l : List Nat) : ∀ (a : Act) (w : World), opsR P ops K l a w → ∀ (b : Frame) (k : List Item) (cs : List Frame),
    ∃ a' w', K a' w' ∧ Steps P (lone (At b a (.inRegion ops l :: k)) cs w) (lone (At b a' k) cs w') := by
  induction l with
  | nil => exact fun a w h b k cs => ⟨a, w, h, .one st_region_end⟩
  | cons i rest ih =>
    intro a w h b k cs
    simp only [opsR, opR] at h
    cases ho : ops[i]? with
    | none =>
      simp only [ho] at h
      obtain ⟨a', w', hK, hs⟩ := ih a w h b k cs
      have h1 := st_op_skip (P := P) (b := b) (a := a) (k := k) (cs := cs) (w := w) (ops := ops) (i := i) (rest := rest) (by simp [ho])
      simp only [ho, Option.bind_none, Act.put] at h1
      exact ⟨a', w', hK, .head h1 hs⟩
    | some o =>
      simp only [ho] at h
      obtain ⟨hd, h⟩ := h
      by_cases hw : Region.wanted o (yielded ops a.tmps) = true
      · rw [if_pos hw] at h
        obtain ⟨nx, w₁, hrun, hn⟩ := h
        have hg := stepG_oper (P := P) (b := b) (k := k) (cs := cs) (w := w) (rest := rest) ho hw hd
        obtain ⟨v, w₂, hR, hs⟩ := apply_steps (R := fun v w'' => opsR P ops K rest (a.put o.dst v) w'') (fr := At b a (.inRegion ops (i :: rest) :: k)) (by rw [hg]) (by simp [At]) hrun hn
        obtain ⟨a', w', hK, hs'⟩ := ih _ _ hR b k cs
        refine ⟨a', w', hK, hs.trans ?_⟩
        rw [At_finish, ho]
        exact hs'
      · rw [if_neg hw] at h
        obtain ⟨a', w', hK, hs⟩ := ih _ _ h b k cs
        have h1 := st_op_skip (P := P) (b := b) (a := a) (k := k) (cs := cs) (w := w) (ops := ops) (i := i) (rest := rest) (by simp [ho]; simpa using hw)
        simp only [ho, Option.bind_some] at h1
        exact ⟨a', w', hK, .head h1 hs⟩

theorem CR_region {id : Nat} {ops : Array Oper} (h : opsR P ops (fun a w => Q .normal a w) (List.range ops.size) a w) : CR P rd (.region id ops false) Q a w :=
  fun b k cs _ => let ⟨a', w', hK, hs⟩ := opsR_steps _ a w h b k cs; ⟨.normal, a', w', hK, .head st_region hs⟩

/-- Every order that the edges allow. -/
def anyR (P : Program) (ops : Array Oper) (Q : Act → World → Prop) : Nat → Array Bool → Act → World → Prop
  | 0, listed, a, w => Region.ready .any ops listed = [] ∧ Q a w
  | fuel + 1, listed, a, w =>
    (Region.ready .any ops listed = [] → Q a w) ∧
    ∀ i ∈ Region.ready .any ops listed, opR P ops i (anyR P ops Q fuel (listed.setIfInBounds i true)) a w

theorem anyR_sound {ops : Array Oper} {K : Act → World → Prop} : ∀ (fuel t : Nat) (listed : Array Bool) (a : Act) (w : World), anyR P ops K fuel listed a w →
    opsR P ops K (Region.linearise.go .any ops fuel t listed []) a w := by
  intro fuel
  induction fuel with
  | zero => intro t listed a w h; simpa [Region.linearise.go, opsR] using h.2
  | succ fuel ih =>
    intro t listed a w h
    obtain ⟨h₀, h₁⟩ := h
    simp only [Region.linearise.go]
    change opsR P ops K (match (Region.ready .any ops listed)[t % (Region.ready .any ops listed).length]? with
      | some i => Region.linearise.go .any ops fuel (t / (Region.ready .any ops listed).length) (listed.setIfInBounds i true) [i]
      | none => [].reverse) a w
    cases hi : (Region.ready .any ops listed)[t % (Region.ready .any ops listed).length]? with
    | none =>
      have hnil : Region.ready .any ops listed = [] := by
        cases hr : Region.ready .any ops listed with
        | nil => rfl
        | cons x xs =>
          rw [hr] at hi
          have hlt : t % (x :: xs).length < (x :: xs).length := Nat.mod_lt _ (by simp)
          simp at hi
          simp at hlt
          omega
      simpa [opsR] using h₀ hnil
    | some i =>
      simp only []
      rw [linearise_go_acc, List.reverse_singleton, List.singleton_append]
      exact opR_mono (h₁ i (List.mem_of_getElem? hi)) (fun a w => ih _ _ a w)

theorem CR_region_any {id : Nat} {ops : Array Oper} (hm : P.follows .mixedOrders = true)
    (h : anyR P ops (fun a w => Q .normal a w) ops.size (Array.replicate ops.size false) a { w with drawn := w.drawn + 1 }) : CR P rd (.region id ops true) Q a w := by
  intro b k cs _
  have h2 : opsR P ops (fun a w => Q .normal a w) (Region.schedule (P.follows .mixedOrders) ops (w.tape w.drawn (.order b.fn id))) a { w with drawn := w.drawn + 1 } := by
    simp only [Region.schedule, hm, Bool.true_or, if_true]
    exact anyR_sound _ _ _ _ _ h
  obtain ⟨a', w', hK, hs⟩ := opsR_steps _ a _ h2 b k cs
  exact ⟨.normal, a', w', hK, .head st_region_draw hs⟩
end rules
end Go.Proofs.Ytlkopcgoaldpeaa.HL
