/- Parts of the proof, one behind the other: HLBase, HLFunc, HLHeap, HLCode, HLDraw, HLProc, HLOps, HLInstr, HLInstr2, HLStep, HLArith, HLSlice, HLBytes, HLEq, HLDraw2, HLAuto, HLMore, HLNum, HLFlat. -/
import Derived.Orders
import Derived.Tactics
import Derived.Lib.Strings
import Derived.Laws.Externs
import Derived.Laws.MathBits
set_option linter.unusedSimpArgs false
set_option linter.unusedVariables false
section
namespace Go.Proofs.Ytjhohnbdhopllaa.HL
open Go
/-! ### frames -/
def At (b : Frame) (a : Act) (todo : List Item) : Frame := { b with tmps := a.tmps, todo := todo, defers := a.defers, mode := .run }
theorem At_eval (b : Frame) (a : Act) (todo : List Item) : (At b a todo).eval = a.eval := by
  funext x; cases x <;> rfl
section steps
variable {P : Program} {b : Frame} {a : Act} {k : List Item} {cs : List Frame} {w : World}
theorem st_skip : step P (lone (At b a (.code .skip :: k)) cs w) = .next (lone (At b a k) cs w) :=
  step_lone_go (by simp [stepG, stepG.exec, At])
theorem st_inBlock {id : Nat} : step P (lone (At b a (.inBlock id :: k)) cs w) = .next (lone (At b a k) cs w) :=
  step_lone_go (by simp [stepG, stepG.exec, At])
theorem st_seq {x y : Code} : step P (lone (At b a (.code (.seq x y) :: k)) cs w) = .next (lone (At b a (.code x :: .code y :: k)) cs w) :=
  step_lone_go (by simp [stepG, stepG.exec, At])
theorem st_cond {c : Operand} {x y : Code} {t : Bool} (h : a.eval c = .bool t) :
    step P (lone (At b a (.code (.cond c x y) :: k)) cs w) = .next (lone (At b a (.code (if t then x else y) :: k)) cs w) :=
  step_lone_go (by
    have := congrFun (At_eval b a (.code (.cond c x y) :: k)) c
    simp only [At] at this
    simp [stepG, stepG.exec, At, this, h])
theorem st_block {id : Nat} {c : Code} : step P (lone (At b a (.code (.block id c) :: k)) cs w) = .next (lone (At b a (.code c :: .inBlock id :: k)) cs w) :=
  step_lone_go (by simp [stepG, stepG.exec, At])
theorem st_loop {c : Code} : step P (lone (At b a (.code (.loop c) :: k)) cs w) = .next (lone (At b a (.code c :: .inLoop c :: k)) cs w) :=
  step_lone_go (by simp [stepG, stepG.exec, At])
theorem st_inLoop {c : Code} : step P (lone (At b a (.inLoop c :: k)) cs w) = .next (lone (At b a (.code c :: .inLoop c :: k)) cs w) :=
  step_lone_go (by simp [stepG, stepG.exec, At])
theorem st_exit {id : Nat} {k' : List Item} (h : exitTo id k = some k') :
    step P (lone (At b a (.code (.exit id) :: k)) cs w) = .next (lone (At b a k') cs w) :=
  step_lone_go (by simp [stepG, stepG.exec, At, h])
theorem st_ret (h : b.roundOf = none) : step P (lone (At b a (.code .ret :: k)) cs w) = .next (lone { At b a (.code .ret :: k) with mode := .returning } cs w) :=
  step_lone_go (by simp [stepG, stepG.exec, At, h])
theorem st_end (h : b.roundOf = none) : step P (lone (At b a []) cs w) = .next (lone { At b a [] with mode := .returning } cs w) :=
  step_lone_go (by simp [stepG, stepG.exec, At, h])
theorem st_region {id : Nat} {ops : Array Oper} :
    step P (lone (At b a (.code (.region id ops false) :: k)) cs w) = .next (lone (At b a (.inRegion ops (List.range ops.size) :: k)) cs w) :=
  step_lone_go (by simp [stepG, stepG.exec, At])
theorem st_region_draw {id : Nat} {ops : Array Oper} :
    step P (lone (At b a (.code (.region id ops true) :: k)) cs w) =
      .next (lone (At b a (.inRegion ops (Region.schedule (P.follows .mixedOrders) ops (w.tape w.drawn (.order b.fn id))) :: k)) cs { w with drawn := w.drawn + 1 }) :=
  step_lone_go (by simp [stepG, stepG.exec, At, choose, Sem.run, Question.forced, Question.cut])
theorem st_region_end {ops : Array Oper} : step P (lone (At b a (.inRegion ops [] :: k)) cs w) = .next (lone (At b a k) cs w) :=
  step_lone_go (by simp [stepG, stepG.exec, At])
theorem At_finish (ops : Array Oper) (i : Nat) (rest : List Nat) (v : Value) :
    (At b a (.inRegion ops (i :: rest) :: k)).finish v = At b (a.put ((ops[i]?).bind (·.dst)) v) (.inRegion ops rest :: k) := by
  cases h : (ops[i]?).bind (·.dst) <;> simp [Frame.finish, At, Act.put, h]
theorem st_op_skip {ops : Array Oper} {i : Nat} {rest : List Nat} (h : ((ops[i]?).map (Region.wanted · (yielded ops a.tmps))).getD false = false) :
    step P (lone (At b a (.inRegion ops (i :: rest) :: k)) cs w) = .next (lone (At b (a.put ((ops[i]?).bind (·.dst)) undef) (.inRegion ops rest :: k)) cs w) := by
  rw [← At_finish]
  exact step_lone_go (by
    have h' := h
    simp only [At] at *
    simp [stepG, stepG.exec, h'])
theorem stepG_oper {ops : Array Oper} {i : Nat} {rest : List Nat} {o : Oper} (ho : ops[i]? = some o) (hw : Region.wanted o (yielded ops a.tmps) = true) (hd : ∀ c, o.op ≠ .defer c) :
    stepG P true { frame := At b a (.inRegion ops (i :: rest) :: k), callers := cs, status := .running, dying := none } w =
      stepG.apply P true (At b a (.inRegion ops (i :: rest) :: k)) cs none (execOp a.eval o) w := by
  have he := At_eval b a (.inRegion ops (i :: rest) :: k)
  simp only [At] at he
  cases hr : b.roundOf with
  | none => rw [hr] at he; simp [stepG, stepG.exec, stepG.oper, Frame.oper?, At, ho, hw, hr, he]
  | some l =>
    rw [hr] at he
    simp only [stepG, stepG.exec, stepG.oper, Frame.oper?, At, ho, hw, hr, Option.map_some, Option.getD_some, if_true, he]
    cases hop : o.op <;> first | rfl | exact absurd hop (hd _)
end steps
/-! ### what an operation, or a call of a function value, comes to -/
def RoundRuns (P : Program) (l : Nat) (f : FuncId) (tmps : Array Value) (assign body : Code) (w : World) (R : Value → World → Prop) : Prop :=
  ∀ (c : Frame) (cs : List Frame), ∃ v w', R v w' ∧ Steps P (lone (Frame.round l f tmps assign body .normal) (c :: cs) w) (lone (c.finish v) cs w')
def NextRuns (P : Program) (nx : Next) (w : World) (R : Value → World → Prop) : Prop :=
  match nx with
  | .value v => R v w
  | .skip => R undef w
  | .enter f args => Calls P f args w fun e w' => ∃ v, e = .returned v ∧ R v w'
  | .round l f tmps assign body => RoundRuns P l f tmps assign body w R
  | _ => False
theorem RoundRuns.mono {P : Program} {l : Nat} {f : FuncId} {tmps : Array Value} {x y : Code} {w : World} {R R' : Value → World → Prop}
    (h : RoundRuns P l f tmps x y w R) (hr : ∀ v w', R v w' → R' v w') : RoundRuns P l f tmps x y w R' :=
  fun c cs => let ⟨v, w', r, s⟩ := h c cs; ⟨v, w', hr _ _ r, s⟩
theorem NextRuns.mono {P : Program} {nx : Next} {w : World} {R R' : Value → World → Prop} (h : NextRuns P nx w R) (hr : ∀ v w', R v w' → R' v w') : NextRuns P nx w R' := by
  cases nx <;> simp only [NextRuns] at * <;> first
    | exact hr _ _ h
    | exact h.mono fun e w' ⟨v, he, hv⟩ => ⟨v, he, hr _ _ hv⟩
    | exact h.mono hr
theorem apply_steps {P : Program} {fr0 fr : Frame} {cs : List Frame} {s : Sem Next} {w0 w w' : World} {nx : Next} {R : Value → World → Prop}
    (hg : (stepG P true { frame := fr0, callers := cs, status := .running, dying := none } w0).bare = (stepG.apply P true fr cs none s w).bare)
    (hk : ∀ d b r sv k, fr.todo ≠ .call d b r sv :: k) (hs : s.run P w = .ok nx w') (h : NextRuns P nx w' R) :
    ∃ v w'', R v w'' ∧ Steps P (lone fr0 cs w0) (lone (fr.finish v) cs w'') := by
  have hkind : (match fr.todo with | .call _ true _ _ :: _ => CallKind.wrapped | _ => CallKind.normal) = .normal := by
    cases ht : fr.todo with
    | nil => rfl
    | cons x k => cases x <;> first | rfl | exact absurd ht (hk _ _ _ _ _)
  cases nx <;> simp only [NextRuns] at h
  case value v => exact ⟨v, w', h, .one (step_lone_go (by rw [hg]; simp [stepG.apply, hs]))⟩
  case skip => exact ⟨undef, w', h, .one (step_lone_go (by rw [hg]; simp [stepG.apply, hs]))⟩
  case enter f args =>
    obtain ⟨e, w'', fr', ⟨v, rfl, hR⟩, hcomes, _, hleave⟩ := h (fr :: cs)
    have henter : step P (lone fr0 cs w0) = .next (lone (Frame.enter P f args .normal) (fr :: cs) w') :=
      step_lone_go (by rw [hg]; simp [stepG.apply, hs]; split <;> first | rfl | exact absurd ‹_› (hk _ _ _ _ _))
    exact ⟨v, w'', hR, .head henter (Steps.trans hcomes (.one (step_leave_returned hleave)))⟩
  case round l f tmps assign body =>
    obtain ⟨v, w'', hR, hst⟩ := h fr cs
    have henter : step P (lone fr0 cs w0) = .next (lone (Frame.round l f tmps assign body .normal) (fr :: cs) w') :=
      step_lone_go (by rw [hg]; simp [stepG.apply, hs])
    exact ⟨v, w'', hR, .head henter hst⟩
/-! ### code -/
inductive Ex where
  | normal
  | exit (id : Nat)
  | ret
def Arr (P : Program) (m : Machine) (b : Frame) (k : List Item) (cs : List Frame) : Ex → Act → World → Prop
  | .normal, a, w => Steps P m (lone (At b a k) cs w)
  | .exit id, a, w => ∃ k', exitTo id k' = exitTo id k ∧ Steps P m (lone (At b a (.code (.exit id) :: k')) cs w)
  | .ret, a, w => ∃ k', Steps P m (lone (At b a (.code .ret :: k')) cs w)
theorem Arr.of_steps {P : Program} {m m₁ : Machine} {b : Frame} {k : List Item} {cs : List Frame} {e : Ex} {a : Act} {w : World}
    (h : Steps P m m₁) (h' : Arr P m₁ b k cs e a w) : Arr P m b k cs e a w := by
  cases e with
  | normal => exact h.trans h'
  | exit id => obtain ⟨k', hk, hs⟩ := h'; exact ⟨k', hk, h.trans hs⟩
  | ret => obtain ⟨k', hs⟩ := h'; exact ⟨k', h.trans hs⟩
theorem Arr.pass {P : Program} {m : Machine} {b : Frame} {x : Item} {k : List Item} {cs : List Frame} {e : Ex} {a : Act} {w : World}
    (hx : ∀ id, x ≠ .inBlock id) (he : e ≠ .normal) (h : Arr P m b (x :: k) cs e a w) : Arr P m b k cs e a w := by
  cases e with
  | normal => exact absurd rfl he
  | exit id =>
    obtain ⟨k', hk, hs⟩ := h
    exact ⟨k', by rw [hk]; cases x <;> first | rfl | exact absurd rfl (hx _), hs⟩
  | ret => exact h
def CR (P : Program) (rd : Option Nat) (c : Code) (Q : Ex → Act → World → Prop) (a : Act) (w : World) : Prop :=
  ∀ (b : Frame) (k : List Item) (cs : List Frame), b.roundOf = rd → ∃ e a' w', Q e a' w' ∧ Arr P (lone (At b a (.code c :: k)) cs w) b k cs e a' w'
section rules
variable {P : Program} {rd : Option Nat} {Q : Ex → Act → World → Prop} {a : Act} {w : World}
theorem CR.mono {c : Code} {Q' : Ex → Act → World → Prop} (h : CR P rd c Q a w) (hq : ∀ e a w, Q e a w → Q' e a w) : CR P rd c Q' a w :=
  fun b k cs hr => let ⟨e, a', w', q, r⟩ := h b k cs hr; ⟨e, a', w', hq _ _ _ q, r⟩
theorem CR_skip (h : Q .normal a w) : CR P rd .skip Q a w := fun _ _ _ _ => ⟨.normal, a, w, h, .one st_skip⟩
theorem CR_exit {id : Nat} (h : Q (.exit id) a w) : CR P rd (.exit id) Q a w := fun _ k _ _ => ⟨.exit id, a, w, h, k, rfl, Steps.refl _ _⟩
theorem CR_ret (h : Q .ret a w) : CR P rd .ret Q a w := fun _ k _ _ => ⟨.ret, a, w, h, k, Steps.refl _ _⟩
def Ex.thn (next : Act → World → Prop) (Q : Ex → Act → World → Prop) : Ex → Act → World → Prop
  | .normal, a, w => next a w
  | e, a, w => Q e a w
theorem CR_seq {x y : Code} (h : CR P rd x (Ex.thn (CR P rd y Q) Q) a w) : CR P rd (.seq x y) Q a w := by
  intro b k cs hr
  obtain ⟨e, a₁, w₁, hq, harr⟩ := h b (.code y :: k) cs hr
  cases e with
  | normal =>
    obtain ⟨e₂, a₂, w₂, hq₂, harr₂⟩ := hq b k cs hr
    exact ⟨e₂, a₂, w₂, hq₂, .of_steps (.head st_seq harr) harr₂⟩
  | exit id => exact ⟨_, a₁, w₁, hq, .of_steps (.one st_seq) (.pass (x := .code y) (by simp) (by simp) harr)⟩
  | ret => exact ⟨_, a₁, w₁, hq, .of_steps (.one st_seq) (.pass (x := .code y) (by simp) (by simp) harr)⟩
theorem CR_cond {c : Operand} {x y : Code} {t : Bool} (hc : a.eval c = .bool t) (h : CR P rd (if t then x else y) Q a w) : CR P rd (.cond c x y) Q a w :=
  fun b k cs hr => let ⟨e, a', w', q, r⟩ := h b k cs hr; ⟨e, a', w', q, .of_steps (.one (st_cond hc)) r⟩
def Ex.inBlock (id : Nat) (Q : Ex → Act → World → Prop) : Ex → Act → World → Prop
  | .exit id', a, w => if id' = id then Q .normal a w else Q (.exit id') a w
  | e, a, w => Q e a w
theorem CR_block {id : Nat} {c : Code} (h : CR P rd c (Ex.inBlock id Q) a w) : CR P rd (.block id c) Q a w := by
  intro b k cs hr
  obtain ⟨e, a₁, w₁, hq, harr⟩ := h b (.inBlock id :: k) cs hr
  cases e with
  | normal => exact ⟨.normal, a₁, w₁, hq, .head st_block (Steps.trans harr (.one st_inBlock))⟩
  | exit id' =>
    obtain ⟨k', hk, hs⟩ := harr
    by_cases hid : id' = id
    · subst hid
      simp only [Ex.inBlock, if_true] at hq
      refine ⟨.normal, a₁, w₁, hq, .head st_block (Steps.trans hs (.one (st_exit ?_)))⟩
      rw [hk]; simp [exitTo]
    · simp only [Ex.inBlock, hid, if_false] at hq
      refine ⟨.exit id', a₁, w₁, hq, k', ?_, .head st_block hs⟩
      rw [hk]
      have : (id == id') = false := by simp; exact fun h => hid h.symm
      simp [exitTo, this]
  | ret => exact ⟨_, a₁, w₁, hq, .of_steps (b := b) (k := k) (cs := cs) (e := .ret) (.one st_block) harr⟩
theorem CR_loop {c : Code} (I : Nat → Act → World → Prop) (m : Nat) (h₀ : I m a w)
    (round : ∀ m a w, I m a w → CR P rd c (Ex.thn (fun a' w' => ∃ m', m' < m ∧ I m' a' w') Q) a w) : CR P rd (.loop c) Q a w := by
  intro b k cs hr
  have key : ∀ m a w, I m a w →
      ∃ e a' w', Q e a' w' ∧ Arr P (lone (At b a (.code c :: .inLoop c :: k)) cs w) b k cs e a' w' := by
    intro m
    induction m using Nat.strongRecOn with
    | _ m ih =>
      intro a w hI
      obtain ⟨e, a₁, w₁, hq, harr⟩ := round m a w hI b (.inLoop c :: k) cs hr
      cases e with
      | normal =>
        obtain ⟨m', hlt, hI₁⟩ := hq
        obtain ⟨e₂, a₂, w₂, hq₂, harr₂⟩ := ih m' hlt a₁ w₁ hI₁
        exact ⟨e₂, a₂, w₂, hq₂, .of_steps (Steps.trans harr (.one st_inLoop)) harr₂⟩
      | exit id => exact ⟨_, a₁, w₁, hq, .pass (x := .inLoop c) (by simp) (by simp) harr⟩
      | ret => exact ⟨_, a₁, w₁, hq, .pass (x := .inLoop c) (by simp) (by simp) harr⟩
  obtain ⟨e, a', w', hq, harr⟩ := key _ a w h₀
  exact ⟨e, a', w', hq, .of_steps (.one st_loop) harr⟩
/-! ### regions -/
def opR (P : Program) (ops : Array Oper) (i : Nat) (K : Act → World → Prop) (a : Act) (w : World) : Prop :=
  match ops[i]? with
  | none => K a w
  | some o => (∀ c, o.op ≠ .defer c) ∧ (if Region.wanted o (yielded ops a.tmps) then ∃ nx w', (execOp a.eval o).run P w = .ok nx w' ∧ NextRuns P nx w' (fun v w'' => K (a.put o.dst v) w'') else K (a.put o.dst undef) w)
theorem opR_mono {ops : Array Oper} {i : Nat} {K K' : Act → World → Prop} (h : opR P ops i K a w) (hk : ∀ a w, K a w → K' a w) : opR P ops i K' a w := by
  unfold opR at *
  cases ho : ops[i]? with
  | none => simp only [ho] at h ⊢; exact hk _ _ h
  | some o =>
    simp only [ho] at h ⊢
    refine ⟨h.1, ?_⟩
    have h2 := h.2
    split
    · rename_i hw; rw [if_pos hw] at h2; obtain ⟨nx, w', hr, hn⟩ := h2; exact ⟨nx, w', hr, hn.mono fun v w'' hK => hk _ _ hK⟩
    · rename_i hw; rw [if_neg hw] at h2; exact hk _ _ h2
def opsR (P : Program) (ops : Array Oper) (Q : Act → World → Prop) : List Nat → Act → World → Prop
  | [], a, w => Q a w
  | i :: rest, a, w => opR P ops i (opsR P ops Q rest) a w
theorem opsR_steps {ops : Array Oper} {K : Act → World → Prop} (l : List Nat) : ∀ (a : Act) (w : World), opsR P ops K l a w → ∀ (b : Frame) (k : List Item) (cs : List Frame),
    ∃ a' w', K a' w' ∧ Steps P (lone (At b a (.inRegion ops l :: k)) cs w) (lone (At b a' k) cs w') := by
  induction l with
  | nil => exact fun a w h b k cs => ⟨a, w, h, .one st_region_end⟩
  | cons i rest ih =>
    intro a w h b k cs
    simp only [opsR, opR] at h
    cases ho : ops[i]? with
    | none =>
      simp only [ho] at h
      obtain ⟨a', w', hK, hs⟩ := ih a w h b k cs
      have h1 := st_op_skip (P := P) (b := b) (a := a) (k := k) (cs := cs) (w := w) (ops := ops) (i := i) (rest := rest) (by simp [ho])
      simp only [ho, Option.bind_none, Act.put] at h1
      exact ⟨a', w', hK, .head h1 hs⟩
    | some o =>
      simp only [ho] at h
      obtain ⟨hd, h⟩ := h
      by_cases hw : Region.wanted o (yielded ops a.tmps) = true
      · rw [if_pos hw] at h
        obtain ⟨nx, w₁, hrun, hn⟩ := h
        have hg := stepG_oper (P := P) (b := b) (k := k) (cs := cs) (w := w) (rest := rest) ho hw hd
        obtain ⟨v, w₂, hR, hs⟩ := apply_steps (R := fun v w'' => opsR P ops K rest (a.put o.dst v) w'') (fr := At b a (.inRegion ops (i :: rest) :: k)) (by rw [hg]) (by simp [At]) hrun hn
        obtain ⟨a', w', hK, hs'⟩ := ih _ _ hR b k cs
        refine ⟨a', w', hK, hs.trans ?_⟩
        rw [At_finish, ho]
        exact hs'
      · rw [if_neg hw] at h
        obtain ⟨a', w', hK, hs⟩ := ih _ _ h b k cs
        have h1 := st_op_skip (P := P) (b := b) (a := a) (k := k) (cs := cs) (w := w) (ops := ops) (i := i) (rest := rest) (by simp [ho]; simpa using hw)
        simp only [ho, Option.bind_some] at h1
        exact ⟨a', w', hK, .head h1 hs⟩
theorem CR_region {id : Nat} {ops : Array Oper} (h : opsR P ops (fun a w => Q .normal a w) (List.range ops.size) a w) : CR P rd (.region id ops false) Q a w :=
  fun b k cs _ => let ⟨a', w', hK, hs⟩ := opsR_steps _ a w h b k cs; ⟨.normal, a', w', hK, .head st_region hs⟩
def anyR (P : Program) (ops : Array Oper) (Q : Act → World → Prop) : Nat → Array Bool → Act → World → Prop
  | 0, listed, a, w => Region.ready .any ops listed = [] ∧ Q a w
  | fuel + 1, listed, a, w =>
    (Region.ready .any ops listed = [] → Q a w) ∧
    ∀ i ∈ Region.ready .any ops listed, opR P ops i (anyR P ops Q fuel (listed.setIfInBounds i true)) a w
theorem anyR_sound {ops : Array Oper} {K : Act → World → Prop} : ∀ (fuel t : Nat) (listed : Array Bool) (a : Act) (w : World), anyR P ops K fuel listed a w →
    opsR P ops K (Region.linearise.go .any ops fuel t listed []) a w := by
  intro fuel
  induction fuel with
  | zero => intro t listed a w h; simpa [Region.linearise.go, opsR] using h.2
  | succ fuel ih =>
    intro t listed a w h
    obtain ⟨h₀, h₁⟩ := h
    simp only [Region.linearise.go]
    change opsR P ops K (match (Region.ready .any ops listed)[t % (Region.ready .any ops listed).length]? with
      | some i => Region.linearise.go .any ops fuel (t / (Region.ready .any ops listed).length) (listed.setIfInBounds i true) [i]
      | none => [].reverse) a w
    cases hi : (Region.ready .any ops listed)[t % (Region.ready .any ops listed).length]? with
    | none =>
      have hnil : Region.ready .any ops listed = [] := by
        cases hr : Region.ready .any ops listed with
        | nil => rfl
        | cons x xs =>
          rw [hr] at hi
          have hlt : t % (x :: xs).length < (x :: xs).length := Nat.mod_lt _ (by simp)
          simp at hi
          simp at hlt
          omega
      simpa [opsR] using h₀ hnil
    | some i =>
      simp only []
      rw [linearise_go_acc, List.reverse_singleton, List.singleton_append]
      exact opR_mono (h₁ i (List.mem_of_getElem? hi)) (fun a w => ih _ _ a w)
theorem CR_region_any {id : Nat} {ops : Array Oper} (hm : P.follows .mixedOrders = true)
    (h : anyR P ops (fun a w => Q .normal a w) ops.size (Array.replicate ops.size false) a { w with drawn := w.drawn + 1 }) : CR P rd (.region id ops true) Q a w := by
  intro b k cs _
  have h2 : opsR P ops (fun a w => Q .normal a w) (Region.schedule (P.follows .mixedOrders) ops (w.tape w.drawn (.order b.fn id))) a { w with drawn := w.drawn + 1 } := by
    simp only [Region.schedule, hm, Bool.true_or, if_true]
    exact anyR_sound _ _ _ _ _ h
  obtain ⟨a', w', hK, hs⟩ := opsR_steps _ a _ h2 b k cs
  exact ⟨.normal, a', w', hK, .head st_region_draw hs⟩
end rules
end Go.Proofs.Ytjhohnbdhopllaa.HL
end
section
namespace Go.Proofs.Ytjhohnbdhopllaa.HL
open Go
/-! ### a function's frame: the marks of ranges over functions among its deferred calls are taken; then it returns -/
def markOf (r : Nat) : Deferred := { target := .collected r, args := #[] }
def takeMarks : List Nat → World → World
  | [], w => w
  | r :: rs, w => takeMarks rs { w with heap := w.heap.setIfInBounds r (.deferred none) }
theorem takeMarks_other : ∀ (rs : List Nat) (w : World) (b : Nat), b ∉ rs → (takeMarks rs w).heap[b]? = w.heap[b]?
  | [], _, _, _ => rfl
  | r :: rs, w, b, h => by
    simp only [List.mem_cons, not_or] at h
    rw [takeMarks, takeMarks_other rs _ b h.2]
    simp [Array.getElem?_setIfInBounds_ne (Ne.symm h.1)]
theorem takeMarks_size : ∀ (rs : List Nat) (w : World), (takeMarks rs w).heap.size = w.heap.size
  | [], _ => rfl
  | r :: rs, w => by rw [takeMarks, takeMarks_size rs]; simp
theorem takeMarks_rest : ∀ (rs : List Nat) (w : World), (takeMarks rs w).os = w.os ∧ (takeMarks rs w).output = w.output ∧ (takeMarks rs w).tape = w.tape ∧ (takeMarks rs w).drawn = w.drawn
  | [], _ => ⟨rfl, rfl, rfl, rfl⟩
  | r :: rs, w => by rw [takeMarks]; exact takeMarks_rest rs _
theorem steps_marks {P : Program} : ∀ (rs : List Nat) (fr : Frame) (cs : List Frame) (w : World), fr.mode = .returning → fr.defers = rs.map markOf → rs.Nodup → (∀ r ∈ rs, w.heap[r]? = some (.deferred (some []))) →
    Steps P (lone fr cs w) (lone { fr with defers := [] } cs (takeMarks rs w))
  | [], fr, cs, w, hm, hd, _, _ => by
    have : { fr with defers := [] } = fr := by cases fr; simp_all
    rw [this]; exact Steps.refl _ _
  | r :: rs, fr, cs, w, hm, hd, hn, hb => by
    have h1 : step P (lone fr cs w) = .next (lone { fr with defers := rs.map markOf } cs { w with heap := w.heap.setIfInBounds r (.deferred none) }) := by
      refine step_lone_go ?_
      have hr := hb r (by simp)
      have hrun : (Instr.takeDeferred r).run P w = .ok [] { w with heap := w.heap.setIfInBounds r (.deferred none) } := by
        simp [Instr.takeDeferred, getObj, setObj, Bind.bind, Sem.bind, Sem.run, hr, Pure.pure]
      simp [stepG, unwind, hm, hd, markOf, hrun]
    have hn' := List.nodup_cons.1 hn
    refine .head h1 (steps_marks rs { fr with defers := rs.map markOf } cs _ hm rfl hn'.2 fun r' hr' => ?_)
    have hne : r ≠ r' := fun e => hn'.1 (e ▸ hr')
    simp only [Array.getElem?_setIfInBounds_ne hne]
    exact hb r' (by simp [hr'])
def endR (P : Program) (fn : Func) (R : Value → World → Prop) : Ex → Act → World → Prop
  | .exit _, _, _ => False
  | _, a, w => ∃ rs : List Nat, a.defers = rs.map markOf ∧ rs.Nodup ∧ (∀ r ∈ rs, w.heap[r]? = some (.deferred (some []))) ∧
      ∃ v, (results fn a.tmps).run P (takeMarks rs w) = .ok v (takeMarks rs w) ∧ R v (takeMarks rs w)
theorem calls_of_CR {P : Program} {f : FuncId} {fn : Func} {c : Code} {args : Array Value} {w : World} {R : Value → World → Prop}
    (hf : P.funcs[f]? = some fn) (hb : fn.body = some c)
    (h : CR P none c (endR P fn R) { tmps := args ++ Array.replicate (fn.ntmps - args.size) undef, defers := [] } w) :
    Calls P f args w fun e w' => ∃ v, e = .returned v ∧ R v w' := by
  intro cs
  let b : Frame := { (default : Frame) with fn := f, kind := .normal }
  have henter : Frame.enter P f args .normal = At b { tmps := args ++ Array.replicate (fn.ntmps - args.size) undef, defers := [] } [.code c] := by
    simp [Frame.enter, At, hf, hb, b]
    rfl
  obtain ⟨e, a', w', hq, harr⟩ := h b [] cs rfl
  rw [← henter] at harr
  have fin : ∀ todo, Steps P (lone (Frame.enter P f args .normal) cs w) (lone { At b a' todo with mode := .returning } cs w') →
      (∃ rs : List Nat, a'.defers = rs.map markOf ∧ rs.Nodup ∧ (∀ r ∈ rs, w'.heap[r]? = some (.deferred (some []))) ∧
      ∃ v, (results fn a'.tmps).run P (takeMarks rs w') = .ok v (takeMarks rs w') ∧ R v (takeMarks rs w')) →
      ∃ e w' fr, (∃ v, e = Ending.returned v ∧ R v w') ∧ Comes P (lone (Frame.enter P f args .normal) cs w) (lone fr cs w') e ∧ fr.fn = f ∧ fr.leaving P w' e := by
    intro todo hs ⟨rs, hd, hn, hm, v, hr, hR⟩
    have h2 := steps_marks (P := P) rs { At b a' todo with mode := .returning } cs w' rfl hd hn hm
    exact ⟨.returned v, _, _, ⟨v, rfl, hR⟩, hs.trans h2, rfl, rfl, rfl, rfl, fn, hf, hr⟩
  cases e with
  | normal => exact fin [] (Steps.trans harr (.one (st_end rfl))) hq
  | ret => obtain ⟨todo, hs⟩ := harr; exact fin _ (hs.trans (.one (st_ret rfl))) hq
  | exit id => exact hq.elim
/-! ### a range over a function -/
def loopObj (fn : FuncId) (tmps : Array Value) (params : Array Tmp) (assign body : Code) (D : Nat) : Loop :=
  { state := .ready, pending := none, fn, tmps, params, assign, body, defers := D }
def Ex.jump : Ex → Option Code
  | .normal => none
  | .exit id => some (.exit id)
  | .ret => some .ret
def afterRound (lp : Loop) (e : Ex) : Loop := { lp with state := if e.jump.isNone then .ready else .done, pending := e.jump }
def setLoop (w : World) (l : Nat) (lp : Loop) : World := { w with heap := w.heap.setIfInBounds l (.loop lp) }
section
variable {P : Program} {b : Frame} {a : Act} {k : List Item} {c : Frame} {cs : List Frame} {w : World}
theorem run_endRound {l : Nat} {lp : Loop} {e : Ex} (h : w.heap[l]? = some (.loop lp)) : (Instr.endRound l e.jump).run P w = .ok (.bool e.jump.isNone) (setLoop w l (afterRound lp e)) := by
  simp [Instr.endRound, Instr.getLoop, getObj, setObj, Bind.bind, Sem.bind, Sem.run, h, Pure.pure, afterRound, setLoop]
theorem run_beginRound {l : Nat} {lp : Loop} (h : w.heap[l]? = some (.loop lp)) (hs : lp.state = .ready) : (Instr.beginRound l).run P w = .ok () (setLoop w l { lp with state := .busy }) := by
  simp [Instr.beginRound, Instr.getLoop, getObj, setObj, Bind.bind, Sem.bind, Sem.run, h, Pure.pure, setLoop, hs]
theorem st_beginRound {l : Nat} {lp : Loop} (hb : b.roundOf = some l) (h : w.heap[l]? = some (.loop lp)) (hs : lp.state = .ready) :
    step P (lone (At b a (.beginRound :: k)) cs w) = .next (lone (At b a k) cs (setLoop w l { lp with state := .busy })) := by
  refine step_lone_go ?_
  have h1 := run_beginRound (P := P) h hs
  simp [stepG, stepG.exec, At, hb, stepG.apply, h1, Frame.finish, Result.andThen]
theorem st_leave {l : Nat} {lp : Loop} (hb : b.roundOf = some l) (hk : b.kind = .normal) (h : w.heap[l]? = some (.loop lp)) {e : Ex} {todo : List Item}
    (ht : match e with | .normal => todo = [] | .exit id => ∃ k', todo = .code (.exit id) :: k' ∧ exitTo id k' = none | .ret => ∃ k', todo = .code .ret :: k') :
    step P (lone (At b a todo) (c :: cs) w) = .next (lone (c.finish (.bool e.jump.isNone)) cs (setLoop w l (afterRound lp e))) := by
  refine step_lone_go ?_
  have h1 := run_endRound (P := P) (e := e) h
  cases e with
  | normal => subst ht; simp only [Ex.jump] at h1; simp [stepG, stepG.exec, At, hb, h1, doReturn, hk, Ex.jump]
  | exit id => obtain ⟨k', rfl, hx⟩ := ht; simp only [Ex.jump] at h1; simp [stepG, stepG.exec, At, hb, h1, doReturn, hk, Ex.jump, hx]
  | ret => obtain ⟨k', rfl⟩ := ht; simp only [Ex.jump] at h1; simp [stepG, stepG.exec, At, hb, h1, doReturn, hk, Ex.jump]
end
theorem round_of_CR {P : Program} {l : Nat} {f : FuncId} {tmps : Array Value} {assign body : Code} {w : World} {R : Value → World → Prop}
    (h : CR P (some l) assign (Ex.thn (fun a1 w1 => ∃ lp, w1.heap[l]? = some (.loop lp) ∧ lp.state = .ready ∧
        CR P (some l) body (fun e _ w2 => ∃ lp2, w2.heap[l]? = some (.loop lp2) ∧ R (.bool e.jump.isNone) (setLoop w2 l (afterRound lp2 e)))
          a1 (setLoop w1 l { lp with state := .busy })) (fun _ _ _ => False)) { tmps, defers := [] } w) :
    RoundRuns P l f tmps assign body w R := by
  intro c cs
  let b : Frame := { (default : Frame) with fn := f, kind := .normal, roundOf := some l }
  have henter : Frame.round l f tmps assign body .normal = At b { tmps, defers := [] } [.code assign, .beginRound, .code body] := rfl
  rw [henter]
  obtain ⟨e, a1, w1, hq, harr⟩ := h b [.beginRound, .code body] (c :: cs) rfl
  cases e with
  | exit id => exact hq.elim
  | ret => exact hq.elim
  | normal =>
    obtain ⟨lp, hlp, hst, hbody⟩ := hq
    obtain ⟨e2, a2, w2, ⟨lp2, hlp2, hR⟩, harr2⟩ := hbody b [] (c :: cs) rfl
    have hs := Steps.trans harr (.one (st_beginRound (P := P) (b := b) (a := a1) (k := [.code body]) (cs := c :: cs) rfl hlp hst))
    cases e2 with
    | normal => exact ⟨_, _, hR, hs.trans (Steps.trans harr2 (.one (st_leave (e := .normal) rfl rfl hlp2 rfl)))⟩
    | exit id => obtain ⟨k', hk, hs2⟩ := harr2; exact ⟨_, _, hR, hs.trans (hs2.trans (.one (st_leave (e := .exit id) rfl rfl hlp2 ⟨k', rfl, by simpa [exitTo] using hk⟩)))⟩
    | ret => obtain ⟨k', hs2⟩ := harr2; exact ⟨_, _, hR, hs.trans (hs2.trans (.one (st_leave (e := .ret) rfl rfl hlp2 ⟨k', rfl⟩)))⟩
def rangeCall (g : Value) (l : Nat) : Sem Next := do
  let d ← Deferred.ofValue g #[.func (.yield l) #[] #[]]
  invoke d.target d.args
def afterLoop (P : Program) (rd : Option Nat) (l : Nat) (Q : Ex → Act → World → Prop) (a : Act) (w : World) : Prop :=
  ∃ lp, w.heap[l]? = some (.loop lp) ∧ lp.state ≠ .busy ∧
    match lp.pending with
    | none => Q .normal a (setLoop w l { lp with state := .exhausted })
    | some c => CR P rd c Q a (setLoop w l { lp with state := .exhausted })
section
variable {P : Program} {b : Frame} {a : Act} {k : List Item} {cs : List Frame} {w : World}
theorem st_endRangeFunc {l : Nat} {lp : Loop} (h : w.heap[l]? = some (.loop lp)) (hs : lp.state ≠ .busy) :
    step P (lone (At b a (.endRangeFunc l :: k)) cs w) = .next (lone (At b a ((lp.pending.map Item.code).toList ++ k)) cs (setLoop w l { lp with state := .exhausted })) := by
  refine step_lone_go ?_
  have h2 : (Instr.endLoop l).run P w = .ok lp.pending (setLoop w l { lp with state := .exhausted }) := by
    simp [Instr.endLoop, Instr.getLoop, getObj, setObj, Bind.bind, Sem.bind, Sem.run, h, Pure.pure, setLoop, hs]
  simp [stepG, stepG.exec, At, h2]
theorem afterLoop_arr {rd : Option Nat} {l : Nat} {Q : Ex → Act → World → Prop} (h : afterLoop P rd l Q a w) (hr : b.roundOf = rd) :
    ∃ e a' w', Q e a' w' ∧ Arr P (lone (At b a (.endRangeFunc l :: k)) cs w) b k cs e a' w' := by
  obtain ⟨lp, hlp, hst, hm⟩ := h
  have h1 := st_endRangeFunc (P := P) (b := b) (a := a) (k := k) (cs := cs) hlp hst
  cases hp : lp.pending with
  | none => rw [hp] at hm h1; exact ⟨.normal, a, _, hm, .one h1⟩
  | some c =>
    rw [hp] at hm h1
    obtain ⟨e, a', w', hq, harr⟩ := hm b k cs hr
    exact ⟨e, a', w', hq, .of_steps (.one h1) harr⟩
end
def pushLoop (w : World) (fn : FuncId) (a : Act) (params : Array Tmp) (assign body : Code) : World :=
  { w with heap := (w.heap.push (.deferred (some []))).push (.loop (loopObj fn a.tmps params assign body w.heap.size)) }
def pushLoopIn (w : World) (fn : FuncId) (a : Act) (params : Array Tmp) (assign body : Code) (D : Nat) : World :=
  { w with heap := w.heap.push (.loop (loopObj fn a.tmps params assign body D)) }
theorem CR_rangeFunc {P : Program} {Q : Ex → Act → World → Prop} {a : Act} {w : World} {g : Operand} {params : Array Tmp} {assign body : Code}
    (h : ∀ fn : FuncId, ∃ nx w2, (rangeCall (a.eval g) (w.heap.size + 1)).run P (pushLoop w fn a params assign body) = .ok nx w2 ∧
      NextRuns P nx w2 fun _ w3 => afterLoop P none (w.heap.size + 1) Q { a with defers := markOf w.heap.size :: a.defers } w3) :
    CR P none (.rangeFunc g params assign body) Q a w := by
  intro b k cs hr
  obtain ⟨nx, w2, hrun, hn⟩ := h b.fn
  have hen : (Instr.enterLoop b.fn a.tmps params assign body none).run P w = .ok (w.heap.size + 1, [markOf w.heap.size]) (pushLoop w b.fn a params assign body) := by
    simp [Instr.enterLoop, newObj, Bind.bind, Sem.bind, Sem.run, Pure.pure, pushLoop, loopObj, markOf]
  obtain ⟨v, w3, hR, hs⟩ := apply_steps (fr0 := At b a (.code (.rangeFunc g params assign body) :: k)) (cs := cs) (w0 := w)
    (fr := At b { a with defers := markOf w.heap.size :: a.defers } (.inRangeFunc (w.heap.size + 1) :: k)) (s := rangeCall (a.eval g) (w.heap.size + 1)) (P := P)
    (by
      simp [stepG, stepG.exec, At, hr, hen, rangeCall, resolve]
      rfl) (by simp [At]) hrun hn
  have hfin : (At b { a with defers := markOf w.heap.size :: a.defers } (.inRangeFunc (w.heap.size + 1) :: k)).finish v =
      At b { a with defers := markOf w.heap.size :: a.defers } (.endRangeFunc (w.heap.size + 1) :: k) := rfl
  rw [hfin] at hs
  obtain ⟨e, a', w', hq, harr⟩ := afterLoop_arr (b := b) (k := k) (cs := cs) hR hr
  exact ⟨e, a', w', hq, .of_steps hs harr⟩
end Go.Proofs.Ytjhohnbdhopllaa.HL
end
section
namespace Go.Proofs.Ytjhohnbdhopllaa.HL
open Go
abbrev Hp := Nat → Option Obj
def Hp.upd (H : Hp) (b : Nat) (o : Obj) : Hp := fun x => if x = b then some o else H x
theorem zap (H : Hp) (b : Nat) (o : Obj) : H.upd b o b = some o := by simp [Hp.upd]
theorem zaE (H : Hp) {b x : Nat} (o : Obj) (h : x ≠ b) : H.upd b o x = H x := by simp [Hp.upd, h]
def Sub (H : Hp) (w : World) : Prop := ∀ b o, H b = some o → w.heap[b]? = some o
def Le (H H' : Hp) : Prop := ∀ b o, H b = some o → H' b = some o
theorem Le.refl (H : Hp) : Le H H := fun _ _ h => h
theorem Le.trans {A B C : Hp} (h : Le A B) (k : Le B C) : Le A C := fun b o x => k b o (h b o x)
theorem Sub.le {H H' : Hp} {w : World} (h : Sub H' w) (k : Le H H') : Sub H w := fun b o x => h b o (k b o x)
theorem Sub.lt {H : Hp} {w : World} (h : Sub H w) {b : Nat} {o : Obj} (k : H b = some o) : b < w.heap.size := by
  have := h b o k
  rcases Nat.lt_or_ge b w.heap.size with h' | h'
  · exact h'
  · simp [Array.getElem?_eq_none h'] at this
theorem le_upd (H : Hp) (b : Nat) (o : Obj) (h : H b = none) : Le H (H.upd b o) := fun x o' hx => by
  rw [zaE]; · exact hx
  · intro e; subst e; rw [h] at hx; cases hx
structure Ext (H : Hp) (w : World) (H' : Hp) (w' : World) : Prop where
  sub : Sub H' w'
  size : w.heap.size ≤ w'.heap.size
  same : ∀ b, b < w.heap.size → H b = none → w'.heap[b]? = w.heap[b]?
  dom : ∀ b, H' b ≠ none → H b ≠ none ∨ w.heap.size ≤ b
  os : w'.os = w.os
  output : w'.output = w.output
  tape : w'.tape = w.tape
theorem Ext.refl {H : Hp} {w : World} (h : Sub H w) : Ext H w H w := ⟨h, Nat.le_refl _, fun _ _ _ => rfl, fun _ h => .inl h, rfl, rfl, rfl⟩
theorem Ext.trans {H H' H'' : Hp} {w w' w'' : World} (h : Ext H w H' w') (k : Ext H' w' H'' w'') : Ext H w H'' w'' := by
  refine ⟨k.sub, Nat.le_trans h.size k.size, fun b hb hn => ?_, fun b hb => ?_, k.os.trans h.os, k.output.trans h.output, k.tape.trans h.tape⟩
  · have h1 : H' b = none := by
      cases hc : H' b with
      | none => rfl
      | some o =>
        rcases h.dom b (by simp [hc]) with h2 | h2
        · exact absurd hn h2
        · omega
    rw [k.same b (Nat.lt_of_lt_of_le hb h.size) h1, h.same b hb hn]
  · rcases k.dom b hb with h1 | h1
    · exact h.dom b h1
    · exact .inr (Nat.le_trans h.size h1)
theorem Ext.forget {H H' H'' : Hp} {w w' : World} (h : Ext H w H' w') (k : Le H'' H') : Ext H w H'' w' :=
  ⟨h.sub.le k, h.size, h.same, fun b hb => h.dom b (by
    cases hc : H'' b with
    | none => exact absurd hc hb
    | some o => rw [k b o hc]; simp), h.os, h.output, h.tape⟩
theorem Ext.drew {H : Hp} {w : World} (h : Sub H w) (n : Nat) : Ext H w H { w with drawn := n } := ⟨h, Nat.le_refl _, fun _ _ _ => rfl, fun _ h => .inl h, rfl, rfl, rfl⟩
theorem Ext.new {H : Hp} {w : World} (h : Sub H w) (o : Obj) : Ext H w (H.upd w.heap.size o) { w with heap := w.heap.push o } := by
  refine ⟨fun b o' hb => ?_, by simp, fun b hb _ => by rw [Array.getElem?_push, if_neg (by omega)], fun b hb => ?_, rfl, rfl, rfl⟩
  · by_cases hx : b = w.heap.size
    · subst hx; rw [zap] at hb; cases hb; simp
    · rw [zaE _ _ hx] at hb
      have := h.lt hb
      rw [Array.getElem?_push, if_neg (by omega)]; exact h _ _ hb
  · by_cases hx : b = w.heap.size
    · exact .inr (by omega)
    · rw [zaE _ _ hx] at hb; exact .inl hb
theorem Ext.set {H : Hp} {w : World} (h : Sub H w) {b : Nat} {o0 : Obj} (h0 : H b = some o0) (o : Obj) : Ext H w (H.upd b o) { w with heap := w.heap.setIfInBounds b o } := by
  have hlt := h.lt h0
  refine ⟨fun x o' hx => ?_, by simp, fun x hx hn => ?_, fun x hx => ?_, rfl, rfl, rfl⟩
  · by_cases he : x = b
    · subst he; rw [zap] at hx; cases hx; simp [hlt]
    · rw [zaE _ _ he] at hx
      simp only [Array.getElem?_setIfInBounds_ne (Ne.symm he)]; exact h _ _ hx
  · have he : x ≠ b := by intro e; subst e; rw [h0] at hn; cases hn
    simp only [Array.getElem?_setIfInBounds_ne (Ne.symm he)]
  · by_cases he : x = b
    · subst he; exact .inl (by rw [h0]; simp)
    · rw [zaE _ _ he] at hx; exact .inl hx
/-! ### cells -/
def Hp.cell (H : Hp) (a : Addr) : Option Value :=
  match H a.block with
  | some (.cells c _ _) => if a.spot.isSome then none else c[a.off]?
  | _ => none
theorem Sub.cell {H : Hp} {w : World} (h : Sub H w) {a : Addr} {v : Value} (k : H.cell a = some v) : w.cell? a = some v := by
  unfold Hp.cell at k; unfold World.cell?
  cases hb : H a.block with
  | none => simp [hb] at k
  | some o => rw [h _ _ hb]; rw [hb] at k; exact k
def shapeOf : Obj → Option (TypeId × Nat)
  | .cells c e _ => some (e, c.size)
  | _ => none
def frozenIn (off : Nat) : Obj → Bool
  | .cells _ _ (lo, hi) => lo ≤ off && off < hi
  | _ => false
def isCells : Obj → Bool
  | .cells .. => true
  | _ => false
def setIn (a : Addr) (v : Value) : Obj → Obj
  | .cells c e f => .cells (if a.spot.isSome then c else c.setIfInBounds a.off v) e f
  | o => o
def freezeIn (a : Addr) (n : Nat) : Obj → Obj
  | .cells c elem (lo, hi) => .cells c elem (if lo == hi then (a.off, a.off + n) else (min lo a.off, max hi (a.off + n)))
  | o => o
def plainCell : Value → Bool
  | .agg _ => false
  | .tuple _ => false
  | _ => true
theorem Ext.setCell {H : Hp} {w : World} (h : Sub H w) {a : Addr} {o : Obj} (h0 : H a.block = some o) (v : Value) : Ext H w (H.upd a.block (setIn a v o)) (w.setCell a v) := by
  have := Ext.set h h0 (setIn a v o)
  have e : w.setCell a v = { w with heap := w.heap.setIfInBounds a.block (setIn a v o) } := by
    have hb := h _ _ h0
    simp only [World.setCell]
    congr 1
    apply Array.ext_getElem?
    intro i
    rw [Array.getElem?_modify]
    by_cases hi : a.block = i
    · subst hi
      rw [if_pos rfl, hb]
      have := h.lt h0
      simp [this, setIn]
      cases o <;> rfl
    · rw [if_neg hi, Array.getElem?_setIfInBounds_ne hi]
  rw [e]; exact this
theorem Ext.freeze {H : Hp} {w : World} (h : Sub H w) {a : Addr} {n : Nat} (hn : n ≠ 0) {o : Obj} (h0 : H a.block = some o) : Ext H w (H.upd a.block (freezeIn a n o)) (w.freeze a n) := by
  have := Ext.set h h0 (freezeIn a n o)
  have e : w.freeze a n = { w with heap := w.heap.setIfInBounds a.block (freezeIn a n o) } := by
    have hb := h _ _ h0
    simp only [World.freeze, if_neg hn]
    congr 1
    apply Array.ext_getElem?
    intro i
    rw [Array.getElem?_modify]
    by_cases hi : a.block = i
    · subst hi
      rw [if_pos rfl, hb]
      have := h.lt h0
      simp [this, freezeIn]
      cases o <;> rfl
    · rw [if_neg hi, Array.getElem?_setIfInBounds_ne hi]
  rw [e]; exact this
/-! ### a run on a partial heap: whatever numbers new blocks get, whatever is drawn -/
def Lt (P : Program) {α : Type} : Sem α → Hp → (α → Hp → Prop) → Prop
  | .pure a, H, K => K a H
  | .load _ a k, H, K => ∃ v, H.cell a = some v ∧ Lt P (k v) H K
  | .store _ a v k, H, K => ∃ o, H a.block = some o ∧ plainCell v = true ∧ H.cell a ≠ none ∧ frozenIn a.off o = false ∧ Lt P k (H.upd a.block (setIn a v o)) K
  | .new o k, H, K => ∀ r, H r = none → Lt P (k r) (H.upd r o) K
  | .shape r k, H, K => ∃ o, H r = some o ∧ Lt P (k (shapeOf o)) H K
  | .freeze a n k, H, K => (n = 0 ∧ Lt P k H K) ∨ (n ≠ 0 ∧ ∃ o, H a.block = some o ∧ Lt P k (H.upd a.block (freezeIn a n o)) K)
  | .frozen a k, H, K => ∃ o, H a.block = some o ∧ Lt P (k (frozenIn a.off o)) H K
  | .getObj r k, H, K => ∃ o, H r = some o ∧ isCells o = false ∧ Lt P (k o) H K
  | .setObj r o k, H, K => ∃ o0, H r = some o0 ∧ isCells o0 = false ∧ Lt P k (H.upd r o) K
  | .choose q k, H, K => (q.forced = true → Lt P (k 0) H K) ∧ (q.forced = false → ∀ t, Lt P (k (q.cut t)) H K)
  | .program k, H, K => Lt P (k P) H K
  | .mark _ k, H, K => Lt P k H K
  | .sys _ _, _, _ => False
  | .halt _, _, _ => False
theorem Lt_bind {P : Program} {α β : Type} (s : Sem α) (f : α → Sem β) (H : Hp) (K : β → Hp → Prop) : Lt P (s.bind f) H K = Lt P s H (fun a H' => Lt P (f a) H' K) := by
  induction s generalizing H with
  | pure a => rfl
  | load m a k ih => simp only [Sem.bind, Lt, ih]
  | store m a v k ih => simp only [Sem.bind, Lt, ih]
  | new o k ih => simp only [Sem.bind, Lt, ih]
  | shape r k ih => simp only [Sem.bind, Lt, ih]
  | freeze a n k ih => simp only [Sem.bind, Lt, ih]
  | frozen a k ih => simp only [Sem.bind, Lt, ih]
  | getObj r k ih => simp only [Sem.bind, Lt, ih]
  | setObj r o k ih => simp only [Sem.bind, Lt, ih]
  | choose q k ih => simp only [Sem.bind, Lt, ih]
  | sys c k ih => rfl
  | program k ih => simp only [Sem.bind, Lt, ih]
  | mark m k ih => simp only [Sem.bind, Lt, ih]
  | halt h => rfl
theorem Lt_mono {P : Program} {α : Type} (s : Sem α) (H : Hp) {K K' : α → Hp → Prop} (h : Lt P s H K) (hk : ∀ a H, K a H → K' a H) : Lt P s H K' := by
  induction s generalizing H with
  | pure a => exact hk _ _ h
  | load m a k ih => obtain ⟨v, h1, h2⟩ := h; exact ⟨v, h1, ih _ _ h2⟩
  | store m a v k ih => obtain ⟨o, h1, h2, h3, h4, h5⟩ := h; exact ⟨o, h1, h2, h3, h4, ih _ h5⟩
  | new o k ih => exact fun r hr => ih _ _ (h r hr)
  | shape r k ih => obtain ⟨o, h1, h2⟩ := h; exact ⟨o, h1, ih _ _ h2⟩
  | freeze a n k ih =>
    rcases h with ⟨h1, h2⟩ | ⟨h1, o, h2, h3⟩
    · exact .inl ⟨h1, ih _ h2⟩
    · exact .inr ⟨h1, o, h2, ih _ h3⟩
  | frozen a k ih => obtain ⟨o, h1, h2⟩ := h; exact ⟨o, h1, ih _ _ h2⟩
  | getObj r k ih => obtain ⟨o, h1, h2, h3⟩ := h; exact ⟨o, h1, h2, ih _ _ h3⟩
  | setObj r o k ih => obtain ⟨o0, h1, h2, h3⟩ := h; exact ⟨o0, h1, h2, ih _ h3⟩
  | choose q k ih => exact ⟨fun hf => ih _ _ (h.1 hf), fun hf t => ih _ _ (h.2 hf t)⟩
  | sys c k ih => exact h.elim
  | program k ih => exact ih _ _ h
  | mark m k ih => exact ih _ h
  | halt h' => exact h.elim
theorem Lt_sound {P : Program} {α : Type} (s : Sem α) : ∀ (H : Hp) (K : α → Hp → Prop) (w : World), Lt P s H K → Sub H w →
    ∃ a w' H', s.run P w = .ok a w' ∧ K a H' ∧ Ext H w H' w' := by
  induction s with
  | pure a => exact fun H K w h hs => ⟨a, w, H, rfl, h, .refl hs⟩
  | load m a k ih =>
    intro H K w ⟨v, h1, h2⟩ hs
    obtain ⟨x, w', H', hr, hk, he⟩ := ih v H K w h2 hs
    exact ⟨x, w', H', by simp only [Sem.run, hs.cell h1]; exact hr, hk, he⟩
  | store m a v k ih =>
    intro H K w ⟨o, h1, h2, h3, h4, h5⟩ hs
    have hx := Ext.setCell hs h1 v
    obtain ⟨x, w', H', hr, hk, he⟩ := ih _ K _ h5 hx.sub
    refine ⟨x, w', H', ?_, hk, hx.trans he⟩
    have hf : w.frozen? a = false := by
      unfold World.frozen?; rw [hs _ _ h1]; cases o <;> simp_all [frozenIn]
    cases hc : H.cell a with
    | none => exact absurd hc h3
    | some u =>
      have hc' := hs.cell hc
      cases v <;> first | (simp [plainCell] at h2; done) | (simp only [Sem.run, hc', hf, Bool.false_eq_true, if_false]; exact hr)
  | new o k ih =>
    intro H K w h hs
    have hn : H w.heap.size = none := by
      cases hc : H w.heap.size with
      | none => rfl
      | some o => exact absurd (hs.lt hc) (Nat.lt_irrefl _)
    have hx := Ext.new hs o
    obtain ⟨x, w', H', hr, hk, he⟩ := ih _ _ K _ (h _ hn) hx.sub
    exact ⟨x, w', H', hr, hk, hx.trans he⟩
  | shape r k ih =>
    intro H K w ⟨o, h1, h2⟩ hs
    obtain ⟨x, w', H', hr, hk, he⟩ := ih _ H K w h2 hs
    refine ⟨x, w', H', ?_, hk, he⟩
    have : w.shape? r = shapeOf o := by unfold World.shape?; rw [hs _ _ h1]; cases o <;> rfl
    simp only [Sem.run, this]; exact hr
  | freeze a n k ih =>
    intro H K w h hs
    rcases h with ⟨h1, h2⟩ | ⟨h1, o, h2, h3⟩
    · obtain ⟨x, w', H', hr, hk, he⟩ := ih H K w h2 hs
      exact ⟨x, w', H', by simp only [Sem.run, World.freeze, h1, if_true]; exact hr, hk, he⟩
    · have hx := Ext.freeze hs h1 h2
      obtain ⟨x, w', H', hr, hk, he⟩ := ih _ K _ h3 hx.sub
      exact ⟨x, w', H', hr, hk, hx.trans he⟩
  | frozen a k ih =>
    intro H K w ⟨o, h1, h2⟩ hs
    obtain ⟨x, w', H', hr, hk, he⟩ := ih _ H K w h2 hs
    refine ⟨x, w', H', ?_, hk, he⟩
    have : w.frozen? a = frozenIn a.off o := by unfold World.frozen?; rw [hs _ _ h1]; cases o <;> rfl
    simp only [Sem.run, this]; exact hr
  | getObj r k ih =>
    intro H K w ⟨o, h1, h2, h3⟩ hs
    obtain ⟨x, w', H', hr, hk, he⟩ := ih _ H K w h3 hs
    refine ⟨x, w', H', ?_, hk, he⟩
    simp only [Sem.run, hs _ _ h1]
    cases o <;> first | exact hr | simp [isCells] at h2
  | setObj r o k ih =>
    intro H K w ⟨o0, h1, h2, h3⟩ hs
    have hx := Ext.set hs h1 o
    obtain ⟨x, w', H', hr, hk, he⟩ := ih _ K _ h3 hx.sub
    refine ⟨x, w', H', ?_, hk, hx.trans he⟩
    simp only [Sem.run, hs _ _ h1]
    cases o0 <;> first | exact hr | simp [isCells] at h2
  | choose q k ih =>
    intro H K w ⟨h1, h2⟩ hs
    cases hf : q.forced with
    | true =>
      obtain ⟨x, w', H', hr, hk, he⟩ := ih _ H K w (h1 hf) hs
      exact ⟨x, w', H', by simp only [Sem.run, hf, if_true]; exact hr, hk, he⟩
    | false =>
      have hx := Ext.drew hs (w.drawn + 1)
      obtain ⟨x, w', H', hr, hk, he⟩ := ih _ H K _ (h2 hf (w.tape w.drawn q)) hx.sub
      exact ⟨x, w', H', by simp only [Sem.run, hf, Bool.false_eq_true, if_false]; exact hr, hk, hx.trans he⟩
  | sys c k ih => exact fun H K w h hs => h.elim
  | program k ih => exact fun H K w h hs => ih _ H K w h hs
  | mark m k ih => exact fun H K w h hs => ih H K w h hs
  | halt h' => exact fun H K w h hs => h.elim
def Lq (P : Program) {α : Type} : Sem α → Hp → (α → Prop) → Prop
  | .pure a, _, K => K a
  | .load _ a k, H, K => ∃ v, H.cell a = some v ∧ Lq P (k v) H K
  | .shape r k, H, K => ∃ o, H r = some o ∧ Lq P (k (shapeOf o)) H K
  | .frozen a k, H, K => ∃ o, H a.block = some o ∧ Lq P (k (frozenIn a.off o)) H K
  | .getObj r k, H, K => ∃ o, H r = some o ∧ isCells o = false ∧ Lq P (k o) H K
  | .program k, H, K => Lq P (k P) H K
  | .mark _ k, H, K => Lq P k H K
  | _, _, _ => False
theorem Lq_sound {P : Program} {α : Type} (s : Sem α) : ∀ (H : Hp) (K : α → Prop), Lq P s H K → ∃ a, K a ∧ ∀ w, Sub H w → s.run P w = .ok a w := by
  induction s with
  | pure a => exact fun H K h => ⟨a, h, fun _ _ => rfl⟩
  | load m a k ih =>
    intro H K ⟨v, h1, h2⟩
    obtain ⟨x, hk, hr⟩ := ih v H K h2
    exact ⟨x, hk, fun w hs => by simp only [Sem.run, hs.cell h1]; exact hr w hs⟩
  | shape r k ih =>
    intro H K ⟨o, h1, h2⟩
    obtain ⟨x, hk, hr⟩ := ih _ H K h2
    refine ⟨x, hk, fun w hs => ?_⟩
    have : w.shape? r = shapeOf o := by unfold World.shape?; rw [hs _ _ h1]; cases o <;> rfl
    simp only [Sem.run, this]; exact hr w hs
  | frozen a k ih =>
    intro H K ⟨o, h1, h2⟩
    obtain ⟨x, hk, hr⟩ := ih _ H K h2
    refine ⟨x, hk, fun w hs => ?_⟩
    have : w.frozen? a = frozenIn a.off o := by unfold World.frozen?; rw [hs _ _ h1]; cases o <;> rfl
    simp only [Sem.run, this]; exact hr w hs
  | getObj r k ih =>
    intro H K ⟨o, h1, h2, h3⟩
    obtain ⟨x, hk, hr⟩ := ih _ H K h3
    refine ⟨x, hk, fun w hs => ?_⟩
    simp only [Sem.run, hs _ _ h1]
    cases o <;> first | exact hr w hs | simp [isCells] at h2
  | program k ih =>
    intro H K h
    obtain ⟨x, hk, hr⟩ := ih _ H K h
    exact ⟨x, hk, fun w hs => hr w hs⟩
  | mark m k ih =>
    intro H K h
    obtain ⟨x, hk, hr⟩ := ih H K h
    exact ⟨x, hk, fun w hs => hr w hs⟩
  | store m a v k ih => exact fun H K h => h.elim
  | new o k ih => exact fun H K h => h.elim
  | freeze a n k ih => exact fun H K h => h.elim
  | setObj r o k ih => exact fun H K h => h.elim
  | choose q k ih => exact fun H K h => h.elim
  | sys c k ih => exact fun H K h => h.elim
  | halt h' => exact fun H K h => h.elim
end Go.Proofs.Ytjhohnbdhopllaa.HL
end
section
namespace Go.Proofs.Ytjhohnbdhopllaa.HL
open Go
abbrev Env := List (Nat × Value)
def Env.get : Env → Nat → Option Value
  | [], _ => none
  | (k, v) :: r, t => if t = k then some v else Env.get r t
def Env.put : Env → Nat → Value → Env
  | [], t, v => [(t, v)]
  | (k, u) :: r, t, v => if t = k then (k, v) :: r else (k, u) :: Env.put r t v
def Env.putO (e : Env) (d : Option Nat) (v : Value) : Env := match d with | some d => e.put d v | none => e
def Env.sub (e e' : Env) : Prop := ∀ t v, e.get t = some v → e'.get t = some v
theorem get_put (e : Env) (t u : Nat) (v : Value) : (e.put t v).get u = if u = t then some v else e.get u := by
  induction e with
  | nil => simp only [Env.put, Env.get]
  | cons x r ih =>
    obtain ⟨k, w⟩ := x
    simp only [Env.put]
    by_cases h : t = k
    · subst h; rw [if_pos rfl]; simp only [Env.get]; by_cases hu : u = t <;> simp [hu]
    · rw [if_neg h]; simp only [Env.get, ih]
      by_cases hu : u = k
      · subst hu; rw [if_pos rfl, if_neg (Ne.symm h), if_pos rfl]
      · rw [if_neg hu, if_neg hu]
def ev (e : Env) (r : Nat → Value) : Operand → Value
  | .tmp t => (e.get t).getD (r t)
  | .const v => v
  | .global g => .pointer (some ⟨g, 0, none⟩)
  | .func f => .func (.func f) #[] #[]
structure Rel (n B : Nat) (e : Env) (a : Act) (w : World) (H : Hp) : Prop where
  bound : B ≤ w.heap.size
  size : a.tmps.size = n
  tmps : ∀ t v, e.get t = some v → a.tmps[t]? = some v
  marks : ∃ rs : List Nat, a.defers = rs.map markOf ∧ rs.Nodup ∧ ∀ r ∈ rs, w.heap[r]? = some (.deferred (some [])) ∧ H r = none ∧ B ≤ r
theorem Rel.ev {n B : Nat} {e : Env} {a : Act} {w : World} {H : Hp} (h : Rel n B e a w H) : a.eval = HL.ev e (fun t => a.tmps.getD t undef) := by
  funext x
  cases x with
  | tmp t =>
    simp only [Act.eval, HL.ev]
    cases hg : e.get t with
    | none => rfl
    | some v => have := h.tmps t v hg; simp [Array.getD_eq_getD_getElem?, this]
  | _ => rfl
theorem Rel.put {n B : Nat} {e : Env} {a : Act} {w : World} {H : Hp} (h : Rel n B e a w H) {d : Option Nat} (hd : ∀ t, d = some t → t < n) (v : Value) : Rel n B (e.putO d v) (a.put d v) w H := by
  cases d with
  | none => exact h
  | some d =>
    have hd' := hd d rfl
    refine ⟨h.bound, by simp [Act.put, h.size], fun t u hu => ?_, h.marks⟩
    simp only [Env.putO, get_put] at hu
    simp only [Act.put]
    by_cases ht : t = d
    · subst ht; rw [if_pos rfl] at hu; cases hu; rw [← h.size] at hd'; simp [hd']
    · rw [if_neg ht] at hu; rw [Array.getElem?_setIfInBounds_ne (Ne.symm ht)]; exact h.tmps t u hu
theorem Rel.ext {n B : Nat} {e : Env} {a : Act} {w w' : World} {H H' : Hp} (h : Rel n B e a w H) (x : Ext H w H' w') : Rel n B e a w' H' := by
  obtain ⟨rs, h1, h2, h3⟩ := h.marks
  refine ⟨Nat.le_trans h.bound x.size, h.size, h.tmps, rs, h1, h2, fun r hr => ?_⟩
  obtain ⟨h4, h5, h7⟩ := h3 r hr
  have hlt : r < w.heap.size := by
    rcases Nat.lt_or_ge r w.heap.size with h' | h'
    · exact h'
    · simp [Array.getElem?_eq_none h'] at h4
  refine ⟨by rw [x.same r hlt h5]; exact h4, ?_, h7⟩
  cases hc : H' r with
  | none => rfl
  | some o =>
    rcases x.dom r (by simp [hc]) with h6 | h6
    · exact absurd h5 h6
    · omega
theorem Rel.sub {n B : Nat} {e e' : Env} {a : Act} {w : World} {H : Hp} (h : Rel n B e a w H) (k : Env.sub e' e) : Rel n B e' a w H := ⟨h.bound, h.size, fun t v hv => h.tmps t v (k t v hv), h.marks⟩
theorem Rel.le {n B : Nat} {e : Env} {a : Act} {w : World} {H H' : Hp} (h : Rel n B e a w H) (k : Le H' H) : Rel n B e a w H' := by
  obtain ⟨rs, h1, h2, h3⟩ := h.marks
  refine ⟨h.bound, h.size, h.tmps, rs, h1, h2, fun r hr => ⟨(h3 r hr).1, ?_, (h3 r hr).2.2⟩⟩
  cases hc : H' r with
  | none => rfl
  | some o => have := k r o hc; rw [(h3 r hr).2.1] at this; cases this
/-! ### contracts -/
def CallH (P : Program) (f : FuncId) (args : Array Value) (H : Hp) (R : Value → Hp → Prop) : Prop :=
  ∀ w, Sub H w → Calls P f args w fun e w' => ∃ v, e = .returned v ∧ ∃ H', R v H' ∧ Ext H w H' w'
theorem CallH.mono {P : Program} {f : FuncId} {args : Array Value} {H : Hp} {R R' : Value → Hp → Prop} (h : CallH P f args H R) (hr : ∀ v H', R v H' → R' v H') : CallH P f args H R' :=
  fun w hs => (h w hs).mono fun _ _ ⟨v, he, H', hR, hx⟩ => ⟨v, he, H', hr _ _ hR, hx⟩
def NextH (P : Program) (nx : Next) (H : Hp) (R : Value → Hp → Prop) : Prop :=
  match nx with
  | .value v => R v H
  | .skip => R undef H
  | .enter f args => CallH P f args H R
  | .round l f tmps assign body => ∀ w, Sub H w → RoundRuns P l f tmps assign body w fun v w' => ∃ H', R v H' ∧ Ext H w H' w'
  | _ => False
theorem NextH.sound {P : Program} {nx : Next} {H : Hp} {R : Value → Hp → Prop} (h : NextH P nx H R) {w : World} (hs : Sub H w) : NextRuns P nx w fun v w' => ∃ H', R v H' ∧ Ext H w H' w' := by
  cases nx <;> simp only [NextH] at h <;> first
    | exact ⟨H, h, .refl hs⟩
    | exact h w hs
    | exact h.elim
theorem NextH.mono {P : Program} {nx : Next} {H : Hp} {R R' : Value → Hp → Prop} (h : NextH P nx H R) (hr : ∀ v H', R v H' → R' v H') : NextH P nx H R' := by
  cases nx <;> simp only [NextH] at * <;> first
    | exact hr _ _ h
    | exact CallH.mono h hr
    | exact fun w hs => (h w hs).mono fun v w' ⟨H', hR, hx⟩ => ⟨H', hr _ _ hR, hx⟩
    | exact h.elim
def ValH (P : Program) (g : Value) (args : Array Value) (H : Hp) (R : Value → Hp → Prop) : Prop :=
  Lt P (do let d ← Deferred.ofValue g args; invoke d.target d.args) H (fun nx H' => NextH P nx H' R)
/-! ### operations -/
def wantE (ops : Array Oper) (e : Env) (o : Oper) : Option Bool :=
  match o.guard with
  | none => some true
  | some (j, want) =>
    match (ops[j]?).bind (·.dst) with
    | none => some false
    | some d => (e.get d).map fun v => match v with | .bool b => b == want | _ => false
theorem wantE_sound {ops : Array Oper} {n B : Nat} {e : Env} {a : Act} {w : World} {H : Hp} (h : Rel n B e a w H) {o : Oper} {b : Bool} (hw : wantE ops e o = some b) : Region.wanted o (yielded ops a.tmps) = b := by
  unfold wantE at hw
  unfold Region.wanted
  cases hg : o.guard with
  | none => simp only [hg] at hw ⊢; cases hw; rfl
  | some g =>
    obtain ⟨j, want⟩ := g
    simp only [hg] at hw ⊢
    unfold yielded
    cases hd : (ops[j]?).bind (·.dst) with
    | none => simp only [hd] at hw; cases hw; simp
    | some d =>
      simp only [hd, Option.bind_some] at hw ⊢
      cases hv : e.get d with
      | none => rw [hv] at hw; cases hw
      | some v =>
        rw [hv] at hw
        rw [h.tmps d v hv]
        cases v <;> simp only [Option.map_some, Option.some.injEq] at hw <;> rw [← hw] <;> first | rfl | (rename_i b; cases b <;> cases want <;> rfl)
def noDefer (o : Oper) : Bool := match o.op with | .defer _ => false | _ => true
theorem noDefer_spec {o : Oper} (h : noDefer o = true) : ∀ c, o.op ≠ .defer c := by
  intro c hc; simp [noDefer, hc] at h
def OpH (P : Program) (o : Oper) (e : Env) (H : Hp) (K : Env → Hp → Prop) : Prop :=
  ∀ r, Lt P (execOp (ev e r) o) H (fun nx H' => NextH P nx H' (fun v H'' => K (e.putO o.dst v) H''))
def OW (P : Program) (n : Nat) (ops : Array Oper) (Q : Env → Hp → Prop) : List Oper → Env → Hp → Prop
  | [], e, H => Q e H
  | o :: rest, e, H => noDefer o = true ∧ (∀ t, o.dst = some t → t < n) ∧ ∃ b, wantE ops e o = some b ∧
      if b then OpH P o e H (OW P n ops Q rest) else OW P n ops Q rest (e.putO o.dst undef) H
def Sat (n B : Nat) (H0 : Hp) (w0 : World) (Q : Env → Hp → Prop) (a : Act) (w : World) : Prop := ∃ e H, Q e H ∧ Rel n B e a w H ∧ Ext H0 w0 H w
theorem opR_of_OpH {P : Program} {n B : Nat} {ops : Array Oper} {i : Nat} {o : Oper} (ho : ops[i]? = some o) (hd : noDefer o = true) (ht : ∀ t, o.dst = some t → t < n)
    {e : Env} {H H0 : Hp} {w w0 : World} {a : Act} (hr : Rel n B e a w H) (hx : Ext H0 w0 H w) {b : Bool} (hb : wantE ops e o = some b) {K : Env → Hp → Prop}
    (h : if b then OpH P o e H K else K (e.putO o.dst undef) H) : opR P ops i (Sat n B H0 w0 K) a w := by
  unfold opR
  simp only [ho]
  refine ⟨noDefer_spec hd, ?_⟩
  rw [wantE_sound hr hb]
  cases b with
  | false => exact ⟨_, H, h, hr.put ht _, hx⟩
  | true =>
    simp only [if_true] at h ⊢
    have h1 := h (fun t => a.tmps.getD t undef)
    rw [← hr.ev] at h1
    obtain ⟨nx, w', H', hrun, hn, hx'⟩ := Lt_sound _ _ _ _ h1 hx.sub
    exact ⟨nx, w', hrun, (hn.sound hx'.sub).mono fun v w'' ⟨H'', hK, hx''⟩ => ⟨_, H'', hK, ((hr.ext hx').ext hx'').put ht _, (hx.trans hx').trans hx''⟩⟩
theorem opsR_of_OW {P : Program} {n B : Nat} {ops : Array Oper} {H0 : Hp} {w0 : World} {Q : Env → Hp → Prop} : ∀ (l : List Oper) (k : Nat), (∀ j, l[j]? = ops[k + j]?) → ∀ (e : Env) (H : Hp) (a : Act) (w : World),
    OW P n ops Q l e H → Rel n B e a w H → Ext H0 w0 H w → opsR P ops (Sat n B H0 w0 Q) (List.range' k l.length) a w
  | [], _, _, e, H, a, w, h, hr, hx => ⟨e, H, h, hr, hx⟩
  | o :: l, k, hl, e, H, a, w, h, hr, hx => by
    obtain ⟨hd, ht, b, hb, h⟩ := h
    have h0 : ops[k]? = some o := by simpa using (hl 0).symm
    have hl' : ∀ j, l[j]? = ops[k + 1 + j]? := fun j => by have := hl (j + 1); simpa [Nat.add_assoc, Nat.add_comm 1 j] using this
    simp only [List.length_cons, List.range'_succ, opsR]
    exact opR_mono (opR_of_OpH h0 hd ht hr hx hb h) fun a' w' ⟨e', H', hK, hr', hx'⟩ => opsR_of_OW l (k + 1) hl' e' H' a' w' hK hr' hx'
/-! ### code -/
def CW (P : Program) (n : Nat) (rd : Option Nat) (c : Code) (Q : Ex → Env → Hp → Prop) (e : Env) (H : Hp) : Prop :=
  ∀ (B : Nat) (a : Act) (w : World), Rel n B e a w H → Sub H w → CR P rd c (fun x a' w' => Sat n B H w (Q x) a' w') a w
section rules
variable {P : Program} {n : Nat} {rd : Option Nat} {Q : Ex → Env → Hp → Prop} {e : Env} {H : Hp}
theorem CW.mono {c : Code} {Q' : Ex → Env → Hp → Prop} (h : CW P n rd c Q e H) (hq : ∀ x e H, Q x e H → Q' x e H) : CW P n rd c Q' e H :=
  fun B a w hr hs => (h B a w hr hs).mono fun _ _ _ ⟨e', H', hQ, hr', hx⟩ => ⟨e', H', hq _ _ _ hQ, hr', hx⟩
theorem zaL (h : Q .normal e H) : CW P n rd .skip Q e H := fun _ _ _ hr hs => CR_skip ⟨e, H, h, hr, .refl hs⟩
theorem CW_exit {id : Nat} (h : Q (.exit id) e H) : CW P n rd (.exit id) Q e H := fun _ _ _ hr hs => CR_exit ⟨e, H, h, hr, .refl hs⟩
theorem zaV (h : Q .ret e H) : CW P n rd .ret Q e H := fun _ _ _ hr hs => CR_ret ⟨e, H, h, hr, .refl hs⟩
def Ex.thnH (next : Env → Hp → Prop) (Q : Ex → Env → Hp → Prop) : Ex → Env → Hp → Prop
  | .normal, e, H => next e H
  | x, e, H => Q x e H
theorem CW_seq0 {x y : Code} (h : CW P n rd x (Ex.thnH (CW P n rd y Q) Q) e H) : CW P n rd (.seq x y) Q e H := by
  refine fun B a w hr hs => CR_seq ((h B a w hr hs).mono fun z a' w' ⟨e', H', hQ, hr', hx⟩ => ?_)
  cases z with
  | normal => exact (hQ B a' w' hr' hx.sub).mono fun z2 a2 w2 ⟨e2, H2, hQ2, hr2, hx2⟩ => ⟨e2, H2, hQ2, hr2, hx.trans hx2⟩
  | exit id => exact ⟨e', H', hQ, hr', hx⟩
  | ret => exact ⟨e', H', hQ, hr', hx⟩
theorem zad {x y : Code} (h : ∀ K : Env → Hp → Prop, (∀ e H, CW P n rd y Q e H → K e H) → CW P n rd x (Ex.thnH K Q) e H) : CW P n rd (.seq x y) Q e H :=
  CW_seq0 (h _ fun _ _ h => h)
theorem zaH {c : Operand} {x y : Code} {t : Bool} (hc : ∀ r, ev e r c = .bool t) (ht : t = true → CW P n rd x Q e H) (hf : t = false → CW P n rd y Q e H) : CW P n rd (.cond c x y) Q e H :=
  fun B a w hr hs => CR_cond (t := t) (by rw [hr.ev]; exact hc _) (by cases t with | true => exact ht rfl B a w hr hs | false => exact hf rfl B a w hr hs)
def Ex.inBlockH (id : Nat) (Q : Ex → Env → Hp → Prop) : Ex → Env → Hp → Prop
  | .exit id', e, H => if id' = id then Q .normal e H else Q (.exit id') e H
  | x, e, H => Q x e H
theorem zaP {id : Nat} {c : Code} (h : CW P n rd c (Ex.inBlockH id Q) e H) : CW P n rd (.block id c) Q e H := by
  refine fun B a w hr hs => CR_block ((h B a w hr hs).mono fun z a' w' ⟨e', H', hQ, hr', hx⟩ => ?_)
  cases z with
  | normal => exact ⟨e', H', hQ, hr', hx⟩
  | ret => exact ⟨e', H', hQ, hr', hx⟩
  | exit id' =>
    by_cases hid : id' = id
    · simp only [Ex.inBlockH, Ex.inBlock, if_pos hid] at hQ ⊢; exact ⟨e', H', hQ, hr', hx⟩
    · simp only [Ex.inBlockH, Ex.inBlock, if_neg hid] at hQ ⊢; exact ⟨e', H', hQ, hr', hx⟩
theorem CW_loop {c : Code} (I : Nat → Env → Hp → Prop) (m : Nat) (h0 : I m e H)
    (round : ∀ m e H, I m e H → CW P n rd c (Ex.thnH (fun e' H' => ∃ m', m' < m ∧ I m' e' H') Q) e H) : CW P n rd (.loop c) Q e H := by
  intro B a w hr hs
  refine CR_loop (fun m a' w' => Sat n B H w (I m) a' w') m ⟨e, H, h0, hr, .refl hs⟩ fun m a' w' ⟨e', H', hI, hr', hx⟩ => ?_
  refine (round m e' H' hI B a' w' hr' hx.sub).mono fun z a2 w2 ⟨e2, H2, hQ, hr2, hx2⟩ => ?_
  cases z with
  | normal => obtain ⟨m', hlt, hI'⟩ := hQ; exact ⟨m', hlt, e2, H2, hI', hr2, hx.trans hx2⟩
  | exit id => exact ⟨e2, H2, hQ, hr2, hx.trans hx2⟩
  | ret => exact ⟨e2, H2, hQ, hr2, hx.trans hx2⟩
end rules
end Go.Proofs.Ytjhohnbdhopllaa.HL
end
section
namespace Go.Proofs.Ytjhohnbdhopllaa.HL
open Go
section
variable {P : Program} {n : Nat} {rd : Option Nat} {Q : Ex → Env → Hp → Prop} {e : Env} {H : Hp}
theorem zab {id : Nat} {l : List Oper} (h : OW P n l.toArray (fun e H => Q .normal e H) l e H) : CW P n rd (.region id l.toArray false) Q e H := by
  intro B a w hr hs
  refine CR_region ?_
  have := opsR_of_OW (B := B) (H0 := H) (w0 := w) l 0 (by simp) e H a w h hr (.refl hs)
  simpa [List.range_eq_range'] using this
end
def emptyHp : Hp := fun _ => none
theorem le_empty (H : Hp) : Le emptyHp H := fun _ _ h => by cases h
theorem Ext.float {R H H2 : Hp} {w w' : World} (hs : Sub H w) (hR : Le R H) (hx : Ext R w H2 w') (h2 : Le R H2) : Ext H w H w' := by
  refine ⟨fun b o hb => ?_, hx.size, fun b hb hn => hx.same b hb ?_, fun b hb => .inl hb, hx.os, hx.output, hx.tape⟩
  · cases hr : R b with
    | none => rw [hx.same b (hs.lt hb) hr]; exact hs b o hb
    | some o' => have := hR b o' hr; rw [hb] at this; cases this; exact hx.sub b o (h2 b o hr)
  · cases hr : R b with
    | none => rfl
    | some o' => rw [hR b o' hr] at hn; cases hn
def Yields0 (P : Program) (ops : Array Oper) (R : Hp) (o : Oper) (v : Value) (a : Act) : Prop :=
  (Region.wanted o (yielded ops a.tmps) = true ∧ Lt P (execOp a.eval o) R (fun nx H' => nx = .value v ∧ Le R H')) ∨
  (Region.wanted o (yielded ops a.tmps) = false ∧ v = undef)
def YieldsF (P : Program) (ops : Array Oper) (R : Hp) (o : Oper) (v : Value) (a : Act) : Prop := ∃ R0, Le R0 R ∧ Yields0 P ops R0 o v a
theorem YieldsF.grow {P : Program} {ops : Array Oper} {R R' : Hp} {o : Oper} {v : Value} {a : Act} (h : YieldsF P ops R o v a) (k : Le R R') : YieldsF P ops R' o v a := by
  obtain ⟨R0, h1, h2⟩ := h; exact ⟨R0, Le.trans h1 k, h2⟩
theorem YieldsF.one {P : Program} {ops : Array Oper} {R : Hp} {o : Oper} {v u : Value} {a : Act} (h : YieldsF P ops R o v a) (k : YieldsF P ops R o u a) {w : World} (hs : Sub R w) : v = u := by
  obtain ⟨R1, l1, h⟩ := h
  obtain ⟨R2, l2, k⟩ := k
  rcases h with ⟨h1, h2⟩ | ⟨h1, h2⟩
  · rcases k with ⟨k1, k2⟩ | ⟨k1, k2⟩
    · obtain ⟨nx, w1, H1, hr1, ⟨rfl, _⟩, _⟩ := Lt_sound _ _ _ _ h2 (hs.le l1)
      obtain ⟨nx, w2, H2, hr2, ⟨rfl, _⟩, _⟩ := Lt_sound _ _ _ _ k2 (hs.le l2)
      have := hr1.symm.trans hr2; injection this with e _; injection e
    · rw [h1] at k1; cases k1
  · rcases k with ⟨k1, k2⟩ | ⟨k1, k2⟩
    · rw [h1] at k1; cases k1
    · rw [h2, k2]
theorem NextRuns.some {P : Program} {nx : Next} {w : World} {R : Value → World → Prop} (h : NextRuns P nx w R) : ∃ v w', R v w' := by
  cases nx <;> simp only [NextRuns] at h <;> first
    | exact ⟨_, _, h⟩
    | (obtain ⟨e, w', _, ⟨v, _, hR⟩, _⟩ := h []; exact ⟨v, w', hR⟩)
    | (obtain ⟨v, w', hR, _⟩ := h default []; exact ⟨v, w', hR⟩)
theorem step_some {P : Program} {s : Sem Next} {H : Hp} {R : Value → Hp → Prop} (h : Lt P s H (fun nx H' => NextH P nx H' R)) (hw : ∃ w, Sub H w) : ∃ v H'', R v H'' ∧ ∃ w, Sub H'' w := by
  obtain ⟨w, hs⟩ := hw
  obtain ⟨nx, w', H', _, hn, hx⟩ := Lt_sound _ _ _ _ h hs
  obtain ⟨v, w'', H'', hR, hx'⟩ := (hn.sound hx.sub).some
  exact ⟨v, H'', hR, w'', hx'.sub⟩
theorem sub_new {H : Hp} {r : Nat} {o : Obj} (hw : ∃ w, Sub H w) (hr : H r = none) : ∃ w, Sub (H.upd r o) w := by
  obtain ⟨w, hs⟩ := hw
  refine ⟨{ w with heap := Array.ofFn (n := w.heap.size + r + 1) fun i => if i.1 = r then o else w.heap.getD i.1 default }, fun b o' hb => ?_⟩
  by_cases hbr : b = r
  · subst hbr; rw [zap] at hb; cases hb; simp only [Array.getElem?_ofFn]; rw [dif_pos (by omega)]; simp
  · rw [zaE _ _ hbr] at hb
    have h1 := hs b o' hb
    have h2 := hs.lt hb
    simp only [Array.getElem?_ofFn]
    rw [dif_pos (by omega), if_neg hbr]
    rw [Array.getElem?_eq_getElem h2] at h1
    simp [h2]; simpa using h1
theorem Lt_world {P : Program} {α : Type} {s : Sem α} : ∀ {H : Hp} {K K' : α → Hp → Prop}, Lt P s H K → (∃ w, Sub H w) → (∀ a H', K a H' → (∃ w, Sub H' w) → K' a H') → Lt P s H K' := by
  induction s with
  | pure a => exact fun h hw hk => hk _ _ h hw
  | load m a k ih => intro H K K' ⟨v, h1, h2⟩ hw hk; exact ⟨v, h1, ih _ h2 hw hk⟩
  | store m a v k ih => intro H K K' ⟨o, h1, h2, h3, h4, h5⟩ ⟨w, hs⟩ hk; exact ⟨o, h1, h2, h3, h4, ih h5 ⟨_, (Ext.setCell hs h1 v).sub⟩ hk⟩
  | new o k ih =>
    intro H K K' h ⟨w, hs⟩ hk r hr
    exact ih _ (h r hr) (sub_new ⟨w, hs⟩ hr) hk
  | shape r k ih => intro H K K' ⟨o, h1, h2⟩ hw hk; exact ⟨o, h1, ih _ h2 hw hk⟩
  | freeze a n k ih =>
    intro H K K' h hw hk
    rcases h with ⟨h1, h2⟩ | ⟨h1, o, h2, h3⟩
    · exact .inl ⟨h1, ih h2 hw hk⟩
    · obtain ⟨w, hs⟩ := hw; exact .inr ⟨h1, o, h2, ih h3 ⟨_, (Ext.freeze hs h1 h2).sub⟩ hk⟩
  | frozen a k ih => intro H K K' ⟨o, h1, h2⟩ hw hk; exact ⟨o, h1, ih _ h2 hw hk⟩
  | getObj r k ih => intro H K K' ⟨o, h1, h2, h3⟩ hw hk; exact ⟨o, h1, h2, ih _ h3 hw hk⟩
  | setObj r o k ih => intro H K K' ⟨o0, h1, h2, h3⟩ ⟨w, hs⟩ hk; exact ⟨o0, h1, h2, ih h3 ⟨_, (Ext.set hs h1 o).sub⟩ hk⟩
  | choose q k ih => intro H K K' h hw hk; exact ⟨fun hf => ih _ (h.1 hf) hw hk, fun hf t => ih _ (h.2 hf t) hw hk⟩
  | sys c k ih => exact fun h _ _ => h.elim
  | program k ih => exact fun h hw hk => ih _ h hw hk
  | mark m k ih => exact fun h hw hk => ih h hw hk
  | halt h' => exact fun h _ _ => h.elim
theorem NextH_world {P : Program} {nx : Next} {H : Hp} {R R' : Value → Hp → Prop} (h : NextH P nx H R) (hw : ∃ w, Sub H w) (hr : ∀ v H', R v H' → (∃ w, Sub H' w) → R' v H') : NextH P nx H R' := by
  cases nx <;> simp only [NextH] at * <;> first
    | exact hr _ _ h hw
    | exact fun w hs => (h w hs).mono fun _ _ ⟨v, he, H', hR, hx⟩ => ⟨v, he, H', hr _ _ hR ⟨_, hx.sub⟩, hx⟩
    | exact fun w hs => (h w hs).mono fun v w' ⟨H', hR, hx⟩ => ⟨H', hr _ _ hR ⟨_, hx.sub⟩, hx⟩
    | exact h.elim
theorem anyR_mono {P : Program} {ops : Array Oper} {Q Q' : Act → World → Prop} (hq : ∀ a w, Q a w → Q' a w) : ∀ (fuel : Nat) (listed : Array Bool) (a : Act) (w : World), anyR P ops Q fuel listed a w → anyR P ops Q' fuel listed a w
  | 0, _, _, _, h => ⟨h.1, hq _ _ h.2⟩
  | fuel + 1, _, _, _, h => ⟨fun h0 => hq _ _ (h.1 h0), fun i hi => opR_mono (h.2 i hi) (fun a w => anyR_mono hq fuel _ a w)⟩
theorem upd_swap (H : Hp) {a b : Nat} (h : a ≠ b) (x y : Obj) : (H.upd a x).upd b y = (H.upd b y).upd a x := by
  funext i
  by_cases h1 : i = a
  · subst h1; rw [zaE _ _ h, zap, zap]
  · by_cases h2 : i = b
    · subst h2; rw [zap, zaE _ _ h1, zap]
    · rw [zaE _ _ h2, zaE _ _ h1, zaE _ _ h1, zaE _ _ h2]
theorem Ext.frame {H H' : Hp} {w w' : World} {r : Nat} {o : Obj} (hs : Sub (H.upd r o) w) (hr : H r = none) (hx : Ext H w H' w') : H' r = none ∧ Ext (H.upd r o) w (H'.upd r o) w' := by
  have hlt : r < w.heap.size := hs.lt (zap H r o)
  have hn : H' r = none := by
    cases hc : H' r with
    | none => rfl
    | some x => rcases hx.dom r (by rw [hc]; simp) with h | h
                · exact absurd hr h
                · omega
  refine ⟨hn, ⟨fun b o' hb => ?_, hx.size, fun b hb hbn => hx.same b hb ?_, fun b hb => ?_, hx.os, hx.output, hx.tape⟩⟩
  · by_cases e : b = r
    · subst e; rw [zap] at hb; cases hb; rw [hx.same b hlt hr]; exact hs b _ (zap H b _)
    · rw [zaE _ _ e] at hb; exact hx.sub b o' hb
  · by_cases e : b = r
    · subst e; exact hr
    · rw [zaE _ _ e] at hbn; exact hbn
  · by_cases e : b = r
    · subst e; exact .inl (by rw [zap]; simp)
    · rw [zaE _ _ e] at hb; rw [zaE _ _ e]; exact hx.dom b hb
theorem cell_upd {H : Hp} {r : Nat} {o : Obj} {a : Addr} {v : Value} (hr : H r = none) (h : H.cell a = some v) : (H.upd r o).cell a = some v := by
  have : a.block ≠ r := fun e => by unfold Hp.cell at h; rw [e, hr] at h; cases h
  unfold Hp.cell at *; rw [zaE _ _ this]; exact h
theorem Lt_frame {P : Program} {α : Type} (s : Sem α) {r : Nat} {o : Obj} : ∀ {H : Hp} {K : α → Hp → Prop}, Lt P s H K → H r = none → Lt P s (H.upd r o) (fun x H1 => ∃ H', H1 = H'.upd r o ∧ H' r = none ∧ K x H') := by
  have key : ∀ {H : Hp} {b : Nat} {o' : Obj}, H r = none → H b = some o' → b ≠ r := fun h1 h2 e => by rw [e, h1] at h2; cases h2
  induction s with
  | pure a => exact fun h hr => ⟨_, rfl, hr, h⟩
  | load m a k ih => intro H K ⟨v, h1, h2⟩ hr; exact ⟨v, cell_upd hr h1, ih _ h2 hr⟩
  | store m a v k ih =>
    intro H K ⟨o', h1, h2, h3, h4, h5⟩ hr
    have hb := key hr h1
    refine ⟨o', by rw [zaE _ _ hb]; exact h1, h2, ?_, h4, ?_⟩
    · cases hc : H.cell a with
      | none => exact absurd hc h3
      | some u => rw [cell_upd hr hc]; simp
    · rw [upd_swap _ (Ne.symm hb)]
      exact ih h5 (by rw [zaE _ _ (Ne.symm hb)]; exact hr)
  | new o' k ih =>
    intro H K h hr r' hr'
    have hne : r' ≠ r := fun e => by rw [e, zap] at hr'; cases hr'
    rw [zaE _ _ hne] at hr'
    rw [upd_swap _ (Ne.symm hne)]
    exact ih _ (h r' hr') (by rw [zaE _ _ (Ne.symm hne)]; exact hr)
  | shape r' k ih => intro H K ⟨o', h1, h2⟩ hr; exact ⟨o', by rw [zaE _ _ (key hr h1)]; exact h1, ih _ h2 hr⟩
  | freeze a n k ih =>
    intro H K h hr
    rcases h with ⟨h1, h2⟩ | ⟨h1, o', h2, h3⟩
    · exact .inl ⟨h1, ih h2 hr⟩
    · have hb := key hr h2
      refine .inr ⟨h1, o', by rw [zaE _ _ hb]; exact h2, ?_⟩
      rw [upd_swap _ (Ne.symm hb)]
      exact ih h3 (by rw [zaE _ _ (Ne.symm hb)]; exact hr)
  | frozen a k ih => intro H K ⟨o', h1, h2⟩ hr; exact ⟨o', by rw [zaE _ _ (key hr h1)]; exact h1, ih _ h2 hr⟩
  | getObj r' k ih => intro H K ⟨o', h1, h2, h3⟩ hr; exact ⟨o', by rw [zaE _ _ (key hr h1)]; exact h1, h2, ih _ h3 hr⟩
  | setObj r' o' k ih =>
    intro H K ⟨o0, h1, h2, h3⟩ hr
    have hb := key hr h1
    refine ⟨o0, by rw [zaE _ _ hb]; exact h1, h2, ?_⟩
    rw [upd_swap _ (Ne.symm hb)]
    exact ih h3 (by rw [zaE _ _ (Ne.symm hb)]; exact hr)
  | choose q k ih => exact fun h hr => ⟨fun hf => ih _ (h.1 hf) hr, fun hf t => ih _ (h.2 hf t) hr⟩
  | sys c k ih => exact fun h _ => h.elim
  | program k ih => exact fun h hr => ih _ h hr
  | mark m k ih => exact fun h hr => ih h hr
  | halt h' => exact fun h _ => h.elim
theorem NextH_frame {P : Program} {nx : Next} {H : Hp} {R : Value → Hp → Prop} {r : Nat} {o : Obj} (h : NextH P nx H R) (hr : H r = none) : NextH P nx (H.upd r o) (fun v H1 => ∃ H', H1 = H'.upd r o ∧ H' r = none ∧ R v H') := by
  have hle : Le H (H.upd r o) := fun b o' hb => by rw [zaE _ _ (fun e => by rw [e, hr] at hb; cases hb)]; exact hb
  cases nx <;> simp only [NextH] at * <;> first
    | exact ⟨_, rfl, hr, h⟩
    | exact fun w hs => (h w (hs.le hle)).mono fun _ _ ⟨v, he, H', hR, hx⟩ => ⟨v, he, H'.upd r o, ⟨H', rfl, (hx.frame hs hr).1, hR⟩, (hx.frame hs hr).2⟩
    | exact fun w hs => (h w (hs.le hle)).mono fun v w' ⟨H', hR, hx⟩ => ⟨H'.upd r o, ⟨H', rfl, (hx.frame hs hr).1, hR⟩, (hx.frame hs hr).2⟩
    | exact h.elim
def NewOp (P : Program) (o : Oper) : Prop := (∀ y, Region.wanted o y = true) ∧ ∀ ρ : Operand → Value, (∃ (ob : Obj) (f : Nat → Value), ∀ (H : Hp) (K : Next → Hp → Prop), Lt P (execOp ρ o) H K = ∀ r, H r = none → K (.value (f r)) (H.upd r ob)) ∨ ∀ (H : Hp) (K : Next → Hp → Prop), ¬ Lt P (execOp ρ o) H K
/- classes: 0: no block is looked at; 1: blocks of R are; 2: in the chain, R stays; 3: in the chain, R need not stay; 4: a block is made, whenever; 5: in the chain, and what looks stands wholly before or behind it: R is chosen anew; 6: in the chain, what looks and does not wait for it is listed before it: R grows -/
section
variable (P : Program) (ops : Array Oper) (R : Hp) (cl : Nat → Nat)
def Rof (i : Nat) : Hp := if cl i = 0 then emptyHp else R
def stepT (i : Nat) (K : Hp → Act → Hp → Prop) (a : Act) (H : Hp) : Prop :=
  match ops[i]? with
  | none => K R a H
  | some o => noDefer o = true ∧
    if 2 ≤ cl i then
      (if Region.wanted o (yielded ops a.tmps) then Lt P (execOp a.eval o) H (fun nx H' => NextH P nx H' (fun v H'' => ∃ R', ((cl i = 2 → Le R H'') ∧ (5 ≤ cl i → Le R' H'') ∧ (cl i < 5 → R' = R) ∧ (cl i ≠ 5 → Le R R')) ∧ K R' (a.put o.dst v) H'')) else K R (a.put o.dst undef) H)
    else ∃ v, YieldsF P ops (Rof R cl i) o v a ∧ K R (a.put o.dst v) H
end
section
variable (P : Program) (ops : Array Oper) (cl : Nat → Nat)
def anyT (Q : Act → Hp → Prop) : Nat → Hp → Array Bool → Act → Hp → Prop
  | 0, _, listed, a, H => Region.ready .any ops listed = [] ∧ Q a H
  | fuel + 1, R, listed, a, H =>
    (Region.ready .any ops listed = [] → Q a H) ∧
    ∀ i ∈ Region.ready .any ops listed, stepT P ops R cl i (fun R' => anyT Q fuel R' (listed.setIfInBounds i true)) a H
end
section
variable (P : Program) (ops : Array Oper) (R : Hp) (cl : Nat → Nat)
def Inv (listed : Array Bool) (H : Hp) : Prop := (∃ j o, ops[j]? = some o ∧ cl j = 1 ∧ listed.getD j true = false) → Le R H
def waitsFor (j i : Nat) : Bool := ((ops[j]?).map fun o => o.after.toList.any fun e => Region.binds .any e && e.on == i).getD false
end
variable {P : Program} {ops : Array Oper} {R : Hp} {cl : Nat → Nat} {Q : Act → Hp → Prop}
theorem stepT_mono {i : Nat} {K K' : Hp → Act → Hp → Prop} {a : Act} {H : Hp} (hk : ∀ R a H, K R a H → K' R a H) (h : stepT P ops R cl i K a H) : stepT P ops R cl i K' a H := by
  unfold stepT at *
  cases ho : ops[i]? with
  | none => simp only [ho] at h ⊢; exact hk _ _ _ h
  | some o =>
    simp only [ho] at h ⊢
    refine ⟨h.1, ?_⟩
    have h2 := h.2
    split
    · rename_i hc; rw [if_pos hc] at h2
      split
      · rename_i hw; rw [if_pos hw] at h2
        exact Lt_mono _ _ h2 fun nx H' hn => hn.mono fun v H'' ⟨R', h3, h4⟩ => ⟨R', h3, hk _ _ _ h4⟩
      · rename_i hw; rw [if_neg hw] at h2; exact hk _ _ _ h2
    · rename_i hc; rw [if_neg hc] at h2
      obtain ⟨v, hy, h3⟩ := h2
      exact ⟨v, hy, hk _ _ _ h3⟩
theorem getD_set_le {listed : Array Bool} {i k : Nat} (h : (listed.setIfInBounds i true).getD k true = false) : listed.getD k true = false := by
  by_cases hij : i = k
  · subst hij
    rcases Nat.lt_or_ge i listed.size with h' | h'
    · simp [h'] at h
    · simp at h
  · rw [getD_set_ne true hij] at h; exact h
theorem inv_listed {listed : Array Bool} {H : Hp} (h : Inv ops R cl listed H) (i : Nat) : Inv ops R cl (listed.setIfInBounds i true) H := by
  rintro ⟨j, o, h1, h2, h3⟩
  exact h ⟨j, o, h1, h2, getD_set_le h3⟩
theorem not_waits {i j : Nat} {oj : Oper} {listed : Array Bool} (hi : listed.getD i true = false) (hj : j ∈ Region.ready .any ops listed) (hoj : ops[j]? = some oj) : waitsFor ops j i = false := by
  cases hw : waitsFor ops j i with
  | false => rfl
  | true =>
    simp only [waitsFor, hoj, Option.map_some, Option.getD_some, List.any_eq_true, Bool.and_eq_true, beq_iff_eq, Array.mem_toList_iff] at hw
    obtain ⟨e, he, hb, heq⟩ := hw
    obtain ⟨_, o', ho', hall⟩ := mem_ready.1 hj
    rw [hoj] at ho'; cases ho'
    have hl := hall e he hb
    rw [heq] at hl
    rcases Nat.lt_or_ge i listed.size with h' | h'
    · simp [h'] at hl hi; rw [hl] at hi; cases hi
    · simp [Array.getElem?_eq_none h'] at hl
def Closed (ops : Array Oper) (listed : Array Bool) : Prop := ∀ m om i, ops[m]? = some om → listed[m]? = some true → waitsFor ops m i = true → listed[i]? = some true
def depsOf (ops : Array Oper) (m : Nat) : List Nat := ((ops[m]?).map fun o => o.after.toList.filterMap fun e => if Region.binds .any e then some e.on else none).getD []
def cloOf (ops : Array Oper) : Nat → List Nat → List Nat
  | 0, S => S
  | m + 1, S => cloOf ops m (if S.contains m then depsOf ops m ++ S else S)
def wait2 (ops : Array Oper) (j i : Nat) : Bool := waitsFor ops j i || (cloOf ops j (depsOf ops j)).contains i
theorem deps_waits {m i : Nat} (h : i ∈ depsOf ops m) : waitsFor ops m i = true := by
  unfold depsOf at h
  cases ho : ops[m]? with
  | none => rw [ho] at h; simp at h
  | some o =>
    rw [ho] at h
    simp only [Option.map_some, Option.getD_some, List.mem_filterMap] at h
    obtain ⟨e, he, hb⟩ := h
    split at hb
    · rename_i hbi
      cases hb
      simp only [waitsFor, ho, Option.map_some, Option.getD_some, List.any_eq_true, Bool.and_eq_true, beq_iff_eq]
      exact ⟨e, he, hbi, rfl⟩
    · cases hb
theorem wait_listed {j m : Nat} {oj : Oper} {listed : Array Bool} (hj : j ∈ Region.ready .any ops listed) (hoj : ops[j]? = some oj) (hw : waitsFor ops j m = true) : listed[m]? = some true := by
  simp only [waitsFor, hoj, Option.map_some, Option.getD_some, List.any_eq_true, Bool.and_eq_true, beq_iff_eq, Array.mem_toList_iff] at hw
  obtain ⟨e, he, hb, heq⟩ := hw
  obtain ⟨_, o', ho', hall⟩ := mem_ready.1 hj
  rw [hoj] at ho'; cases ho'
  have hl := hall e he hb
  rw [heq] at hl
  rcases Nat.lt_or_ge m listed.size with h' | h'
  · simpa [h'] using hl
  · simp [Array.getElem?_eq_none h'] at hl
theorem clo_listed {listed : Array Bool} (hc : Closed ops listed) : ∀ (m : Nat) (S : List Nat), (∀ x ∈ S, listed[x]? = some true) → ∀ x ∈ cloOf ops m S, listed[x]? = some true
  | 0, S, h, x, hx => h x hx
  | m + 1, S, h, x, hx => by
    unfold cloOf at hx
    refine clo_listed hc m _ (fun y hy => ?_) x hx
    split at hy
    · rename_i hm
      rcases List.mem_append.1 hy with hy | hy
      · have hw := deps_waits hy
        cases ho : ops[m]? with
        | none => simp [waitsFor, ho] at hw
        | some om => exact hc m om y ho (h m (by simpa using hm)) hw
      · exact h y hy
    · exact h y hy
theorem not_wait2 {i j : Nat} {oj : Oper} {listed : Array Bool} (hc : Closed ops listed) (hi : listed.getD i true = false) (hj : j ∈ Region.ready .any ops listed) (hoj : ops[j]? = some oj) : wait2 ops j i = false := by
  cases hw : wait2 ops j i with
  | false => rfl
  | true =>
    simp only [wait2, Bool.or_eq_true, List.contains_iff_mem] at hw
    rcases hw with hw | hw
    · rw [not_waits hi hj hoj] at hw; cases hw
    · have h4 := clo_listed hc j (depsOf ops j) (fun x hx => wait_listed hj hoj (deps_waits hx)) i hw
      simp [Array.getD_eq_getD_getElem?, h4] at hi
theorem Closed.set {j : Nat} {listed : Array Bool} (hc : Closed ops listed) (hj : j ∈ Region.ready .any ops listed) : Closed ops (listed.setIfInBounds j true) := by
  intro m om i hm hl hw
  have hup : listed[i]? = some true → (listed.setIfInBounds j true)[i]? = some true := by
    intro h
    by_cases e : j = i
    · subst e
      have := (Array.getElem?_eq_some_iff.1 h).1
      simp [this]
    · rw [Array.getElem?_setIfInBounds_ne e]; exact h
  by_cases e : j = m
  · subst e
    exact hup (wait_listed hj hm hw)
  · rw [Array.getElem?_setIfInBounds_ne e] at hl
    exact hup (hc m om i hm hl hw)
theorem inv_after {listed : Array Bool} {i : Nat} {o : Oper} (hkeep : ∀ j oj, ops[j]? = some oj → cl j = 1 → waitsFor ops i j = true) (_h3 : cl i = 3) (ho : ops[i]? = some o) (hr : i ∈ Region.ready .any ops listed) (H : Hp) : Inv ops R cl (listed.setIfInBounds i true) H := by
  rintro ⟨j, oj, hj, hcj, hlj⟩
  have h1 := not_waits (getD_set_le hlj) hr ho
  rw [hkeep j oj hj hcj] at h1; cases h1
theorem anyR_of_anyT (hkeep : ∀ i o, ops[i]? = some o → cl i = 3 → ∀ j oj, ops[j]? = some oj → cl j = 1 → waitsFor ops i j = true) (hcl : ∀ i, i < ops.size → cl i ≤ 6) (hnew : ∀ j oj, ops[j]? = some oj → cl j = 4 → NewOp P oj) {H0 : Hp} {w0 : World} :
    ∀ (fuel : Nat) (R : Hp) (listed : Array Bool) (a : Act) (H : Hp) (w : World), Inv ops R cl listed H → Ext H0 w0 H w → anyT P ops cl Q fuel R listed a H → anyR P ops (fun a' w' => ∃ H', Q a' H' ∧ Ext H0 w0 H' w') fuel listed a w
  | 0, _, _, _, H, _, _, hx, h => ⟨h.1, H, h.2, hx⟩
  | fuel + 1, R, listed, a, H, w, hi, hx, h => by
    refine ⟨fun h0 => ⟨H, h.1 h0, hx⟩, fun i hr => ?_⟩
    have h1 := h.2 i hr
    unfold stepT at h1
    unfold opR
    cases ho : ops[i]? with
    | none => simp only [ho] at h1 ⊢; exact anyR_of_anyT hkeep hcl hnew fuel _ _ a H w (inv_listed hi i) hx h1
    | some o =>
      simp only [ho] at h1 ⊢
      refine ⟨noDefer_spec h1.1, ?_⟩
      have h2 := h1.2
      by_cases h44 : cl i = 4
      · obtain ⟨hwj, hnr⟩ := hnew i o ho h44
        rw [if_pos (by omega), hwj, if_pos rfl] at h2
        rcases hnr a.eval with ⟨ob, f, hf⟩ | hno
        rotate_left
        · exact absurd h2 (hno _ _)
        rw [hf] at h2
        rw [hwj, if_pos rfl]
        have h3 : Lt P (execOp a.eval o) H (fun nx H' => NextH P nx H' (fun v H'' => Inv ops R cl (listed.setIfInBounds i true) H'' ∧ anyT P ops cl Q fuel R (listed.setIfInBounds i true) (a.put o.dst v) H'')) := by
          rw [hf]
          exact fun r hr0 => ⟨inv_listed (fun hex b o' hb => by
            have := hi hex b o' hb
            rw [zaE _ _ (fun e => by rw [e, hr0] at this; cases this)]; exact this) i, by
            obtain ⟨R', ⟨_, _, h7, _⟩, h8⟩ := h2 r hr0
            have := h7 (by omega); subst this; exact h8⟩
        obtain ⟨nx, w', H', hrun, hn, hx'⟩ := Lt_sound _ _ _ _ h3 hx.sub
        exact ⟨nx, w', hrun, (hn.sound hx'.sub).mono fun v w'' ⟨H'', ⟨h3, h4⟩, hx''⟩ => anyR_of_anyT hkeep hcl hnew fuel _ _ _ H'' w'' h3 ((hx.trans hx').trans hx'') h4⟩
      by_cases hc : 2 ≤ cl i
      · rw [if_pos hc] at h2
        split
        · rename_i hw; rw [if_pos hw] at h2
          obtain ⟨nx, w', H', hrun, hn, hx'⟩ := Lt_sound _ _ _ _ h2 hx.sub
          refine ⟨nx, w', hrun, (hn.sound hx'.sub).mono fun v w'' ⟨H'', ⟨R', ⟨h3, h35, h3n, _⟩, h4⟩, hx''⟩ => anyR_of_anyT hkeep hcl hnew fuel _ _ _ H'' w'' ?_ ((hx.trans hx').trans hx'') h4⟩
          by_cases h55 : 5 ≤ cl i
          · exact fun _ => h35 h55
          have := h3n (by omega); subst this
          by_cases h22 : cl i = 2
          · exact fun _ => h3 h22
          · exact inv_after (hkeep i o ho (by have := hcl i (Array.getElem?_eq_some_iff.1 ho).1; omega)) (by have := hcl i (Array.getElem?_eq_some_iff.1 ho).1; omega) ho hr _
        · rename_i hw; rw [if_neg hw] at h2
          exact anyR_of_anyT hkeep hcl hnew fuel _ _ _ H w (inv_listed hi i) hx h2
      · rw [if_neg hc] at h2
        obtain ⟨v, hy, h3⟩ := h2
        have hs : Le (Rof R cl i) H := by
          unfold Rof
          by_cases h0 : cl i = 0
          · rw [if_pos h0]; exact le_empty H
          · rw [if_neg h0]; exact hi ⟨i, o, ho, by omega, (mem_ready.1 hr).1⟩
        obtain ⟨R0, hl0, hy⟩ := hy
        have hs := Le.trans hl0 hs
        rcases hy with ⟨hw, hv⟩ | ⟨hw, rfl⟩
        · rw [if_pos hw]
          obtain ⟨nx, w', H2, hrun, ⟨rfl, hl⟩, hx2⟩ := Lt_sound _ _ _ _ hv (hx.sub.le hs)
          exact ⟨_, w', hrun, anyR_of_anyT hkeep hcl hnew fuel _ _ _ H w' (inv_listed hi i) (hx.trans (.float hx.sub hs hx2 hl)) h3⟩
        · rw [if_neg (by rw [hw]; simp)]; exact anyR_of_anyT hkeep hcl hnew fuel _ _ _ H w (inv_listed hi i) hx h3
section apart
variable {oi oj : Oper} {i j : Nat} {v : Value}
theorem yieldsF_put {Rj : Hp} (hap : oi.apart ops oj = true) (hsj : ∀ cs b, oj.op ≠ .select cs b) {a : Act} {u : Value} : YieldsF P ops Rj oj u (a.put oi.dst v) ↔ YieldsF P ops Rj oj u a := by
  obtain ⟨h1, _, _⟩ := Oper.apart_spec hap
  unfold YieldsF Yields0
  rw [execOp_put oj hsj a oi.dst v h1, wanted_put oj a oi.dst v h1]
theorem yieldsF_put' {Ri : Hp} (hap : oi.apart ops oj = true) (hsi : ∀ cs b, oi.op ≠ .select cs b) {a : Act} {u : Value} : YieldsF P ops Ri oi u (a.put oj.dst v) ↔ YieldsF P ops Ri oi u a := by
  obtain ⟨_, _, h3⟩ := Oper.apart_spec hap
  unfold YieldsF Yields0
  rw [execOp_put oi hsi a oj.dst v h3, wanted_put oi a oj.dst v h3]
theorem stepT_put (hj : ops[j]? = some oj) (hap : oi.apart ops oj = true) (hsi : ∀ cs b, oi.op ≠ .select cs b) (hsj : ∀ cs b, oj.op ≠ .select cs b) {Ri : Hp} {K : Hp → Act → Hp → Prop} {a : Act} {H : Hp}
    (hy : YieldsF P ops Ri oi v a) (h : stepT P ops R cl j K (a.put oi.dst v) H) : stepT P ops R cl j (fun R' a' H' => (cl j ≠ 5 → Le R R') ∧ YieldsF P ops Ri oi v a' ∧ K R' (a'.put oi.dst v) H') a H := by
  obtain ⟨h1, h2, h3⟩ := Oper.apart_spec hap
  unfold stepT at *
  simp only [hj] at h ⊢
  refine ⟨h.1, ?_⟩
  have hh := h.2
  rw [wanted_put oj a oi.dst v h1, execOp_put oj hsj a oi.dst v h1] at hh
  split
  · rename_i hc; rw [if_pos hc] at hh
    split
    · rename_i hw; rw [if_pos hw] at hh
      exact Lt_mono _ _ hh fun nx H' hn => hn.mono fun u H'' ⟨R', h4, h5⟩ => ⟨R', h4, h4.2.2.2, (yieldsF_put' hap hsi).2 hy, by rw [← Act.put_comm a v u h2]; exact h5⟩
    · rename_i hw; rw [if_neg hw] at hh
      exact ⟨fun _ => Le.refl _, (yieldsF_put' hap hsi).2 hy, by rw [← Act.put_comm a v undef h2]; exact hh⟩
  · rename_i hc; rw [if_neg hc] at hh
    obtain ⟨u, hu, hK⟩ := hh
    exact ⟨u, (yieldsF_put hap hsj).1 hu, fun _ => Le.refl _, (yieldsF_put' hap hsi).2 hy, by rw [← Act.put_comm a v u h2]; exact hK⟩
end apart
def Free (ops : Array Oper) (cl : Nat → Nat) (listed : Array Bool) (i : Nat) (oi : Oper) : Prop :=
  ∀ j oj, ops[j]? = some oj → j ≠ i → listed.getD j true = false → wait2 ops j i = false → oi.apart ops oj = true ∧ (2 ≤ cl i → cl j < 2 ∨ cl j = 4) ∧ (cl i = 6 → cl j ≠ 1)
theorem Free.set {listed : Array Bool} {i j : Nat} {oi : Oper} (h : Free ops cl listed i oi) : Free ops cl (listed.setIfInBounds j true) i oi :=
  fun k ok hk hki hl hw => h k ok hk hki (getD_set_le hl) hw
theorem anyT_first {i : Nat} {oi : Oper} {v : Value} (hk5 : ∀ i oi, ops[i]? = some oi → cl i = 5 → ∀ j oj, ops[j]? = some oj → cl j = 1 → wait2 ops j i = true ∨ wait2 ops i j = true) (hi : ops[i]? = some oi) (hnd : noDefer oi = true) (hc : cl i < 2) (hsel : ∀ (j : Nat) (o : Oper) cs b, ops[j]? = some o → o.op ≠ .select cs b) :
    ∀ (fuel : Nat) (R : Hp) (listed : Array Bool) (a : Act) (H : Hp), Closed ops listed → Free ops cl listed i oi →
      i ∈ Region.ready .any ops listed → YieldsF P ops (Rof R cl i) oi v a →
      anyT P ops cl Q fuel R (listed.setIfInBounds i true) (a.put oi.dst v) H → anyT P ops cl Q (fuel + 1) R listed a H := by
  have me : ∀ (R : Hp) (K : Hp → Act → Hp → Prop) (a : Act) (H : Hp), YieldsF P ops (Rof R cl i) oi v a → K R (a.put oi.dst v) H → stepT P ops R cl i K a H := fun R K a H hy hK => by
    unfold stepT; simp only [hi]; exact ⟨hnd, by rw [if_neg (by omega)]; exact ⟨v, hy, hK⟩⟩
  intro fuel
  induction fuel with
  | zero =>
    intro R listed a H _ _ hr hy G
    refine ⟨fun h => (by rw [h] at hr; cases hr), fun j hj => ?_⟩
    by_cases hji : j = i
    · subst hji; exact me _ _ _ _ hy G
    · have := ready_mono hj hji
      rw [G.1] at this; cases this
  | succ fuel ih =>
    intro R listed a H hcz hfree hr hy G
    refine ⟨fun h => (by rw [h] at hr; cases hr), fun j hj => ?_⟩
    by_cases hji : j = i
    · subst hji; exact me _ _ _ _ hy G
    · have h1 := G.2 j (ready_mono hj hji)
      obtain ⟨hjun, oj, hoj, _⟩ := mem_ready.1 hj
      have hap := (hfree j oj hoj hji hjun (not_wait2 hcz (mem_ready.1 hr).1 hj hoj)).1
      have h2 := stepT_put hoj hap (fun cs b => hsel i oi cs b hi) (fun cs b => hsel j oj cs b hoj) hy h1
      refine stepT_mono (fun R' a' H' h3 => ih R' (listed.setIfInBounds j true) a' H' (hcz.set hj) hfree.set (ready_mono hr (Ne.symm hji)) ?_ ?_) h2
      · have hro : Le (Rof R cl i) (Rof R' cl i) := by
          unfold Rof
          by_cases h0 : cl i = 0
          · rw [if_pos h0, if_pos h0]; exact Le.refl _
          · rw [if_neg h0, if_neg h0]
            refine h3.1 fun h5 => ?_
            have k1 := not_wait2 hcz (mem_ready.1 hr).1 hj hoj
            have k2 := not_wait2 hcz hjun hr hi
            rcases hk5 j oj hoj h5 i oi hi (by omega) with h | h
            · rw [k2] at h; cases h
            · rw [k1] at h; cases h
        exact h3.2.1.grow hro
      · rw [Array.setIfInBounds_comm _ _ hji]
        exact h3.2.2
theorem anyT_chain {i : Nat} {oi : Oper} (hcl : ∀ i, i < ops.size → cl i ≤ 6) (hk5 : ∀ i oi, ops[i]? = some oi → cl i = 5 → ∀ j oj, ops[j]? = some oj → cl j = 1 → wait2 ops j i = true ∨ wait2 ops i j = true) (hi : ops[i]? = some oi) (hc : 2 ≤ cl i) (hnew : ∀ j oj, ops[j]? = some oj → cl j = 4 → NewOp P oj) (hsel : ∀ (j : Nat) (o : Oper) cs b, ops[j]? = some o → o.op ≠ .select cs b) :
    ∀ (fuel : Nat) (R : Hp) (listed : Array Bool) (a : Act) (H : Hp), (∃ w, Sub H w) → Inv ops R cl listed H → Closed ops listed → Free ops cl listed i oi → i ∈ Region.ready .any ops listed →
      stepT P ops R cl i (fun R' => anyT P ops cl Q fuel R' (listed.setIfInBounds i true)) a H → anyT P ops cl Q (fuel + 1) R listed a H := by
  intro fuel
  induction fuel with
  | zero =>
    intro R listed a H hne hinv hcz hfree hr G
    refine ⟨fun h => (by rw [h] at hr; cases hr), fun j hj => ?_⟩
    by_cases hji : j = i
    · subst hji; exact G
    · have hj' := ready_mono hj hji
      unfold stepT at G
      simp only [hi] at G
      have h2 := G.2
      rw [if_pos hc] at h2
      split at h2
      · obtain ⟨u, H'', ⟨_, _, h3⟩, _⟩ := step_some h2 hne
        rw [h3.1] at hj'; cases hj'
      · rw [h2.1] at hj'; cases hj'
  | succ fuel ih =>
    intro R listed a H hne hinv hcz hfree hr G
    refine ⟨fun h => (by rw [h] at hr; cases hr), fun j hj => ?_⟩
    by_cases hji : j = i
    · subst hji; exact G
    · obtain ⟨hjun, oj, hoj, _⟩ := mem_ready.1 hj
      obtain ⟨hap, hcj, hc6⟩ := hfree j oj hoj hji hjun (not_wait2 hcz (mem_ready.1 hr).1 hj hoj)
      have hsi := fun cs b => hsel i oi cs b hi
      have hsj := fun cs b => hsel j oj cs b hoj
      obtain ⟨h1, h2, h3⟩ := Oper.apart_spec hap
      have hrun : ∀ v, execOp (a.put oj.dst v).eval oi = execOp a.eval oi := fun v => execOp_put oi hsi a oj.dst v h3
      have hwt : ∀ v, Region.wanted oi (yielded ops (a.put oj.dst v).tmps) = Region.wanted oi (yielded ops a.tmps) := fun v => wanted_put oi a oj.dst v h3
      rcases hcj hc with hcj | hcj
      rotate_left
      · -- 'j' makes a block
        obtain ⟨hwj, hnr⟩ := hnew j oj hoj hcj
        have hrunj : ∀ v, execOp (a.put oi.dst v).eval oj = execOp a.eval oj := fun v => execOp_put oj hsj a oi.dst v h1
        have G' := G
        unfold stepT at G'
        simp only [hi] at G'
        have h6 := G'.2
        rw [if_pos hc] at h6
        have fin0 : ∀ u R2 H2, anyT P ops cl Q (fuel + 1) R2 (listed.setIfInBounds i true) (a.put oi.dst u) H2 → noDefer oj = true ∧ ∃ K, Lt P (execOp a.eval oj) H2 K := by
          intro u R2 H2 h
          have h4 := h.2 j (ready_mono hj hji)
          unfold stepT at h4
          simp only [hoj] at h4
          have h5 := h4.2
          rw [if_pos (by omega), hwj, if_pos rfl, hrunj] at h5
          exact ⟨h4.1, _, h5⟩
        have hex : ∃ u R2 H2, anyT P ops cl Q (fuel + 1) R2 (listed.setIfInBounds i true) (a.put oi.dst u) H2 := by
          obtain ⟨w0, hw0⟩ := hne
          by_cases hw : Region.wanted oi (yielded ops a.tmps) = true
          · rw [if_pos hw] at h6
            obtain ⟨u, H'', ⟨R2, _, h7⟩, w2, hw2⟩ := step_some h6 ⟨w0, hw0⟩
            exact ⟨u, R2, H'', h7⟩
          · rw [if_neg hw] at h6
            exact ⟨undef, R, H, h6⟩
        have hnd : noDefer oj = true := by
          obtain ⟨u, R2, H2, h⟩ := hex
          exact (fin0 u R2 H2 h).1
        rcases hnr a.eval with ⟨ob, f, hf⟩ | hno
        rotate_left
        · obtain ⟨u, R2, H2, h⟩ := hex
          obtain ⟨_, K, h⟩ := fin0 u R2 H2 h
          exact absurd h (hno _ _)
        have fin : ∀ u R2 H2 r, H2 r = none → anyT P ops cl Q (fuel + 1) R2 (listed.setIfInBounds i true) (a.put oi.dst u) H2 → noDefer oj = true ∧
            anyT P ops cl Q fuel R2 ((listed.setIfInBounds i true).setIfInBounds j true) ((a.put oi.dst u).put oj.dst (f r)) (H2.upd r ob) := by
          intro u R2 H2 r hr2 h
          have h4 := h.2 j (ready_mono hj hji)
          unfold stepT at h4
          simp only [hoj] at h4
          have h5 := h4.2
          rw [if_pos (by omega), hwj, if_pos rfl, hrunj, hf] at h5
          obtain ⟨R', ⟨_, _, h7, _⟩, h8⟩ := h5 r hr2
          have := h7 (by omega); subst this
          exact ⟨h4.1, h8⟩
        unfold stepT
        simp only [hoj]
        refine ⟨hnd, ?_⟩
        rw [if_pos (by omega), hwj, if_pos rfl, hf]
        intro r hr0
        have hR' : Inv ops R cl listed (H.upd r ob) := fun hex => fun b o' hb => by
          have := hinv hex b o' hb
          rw [zaE _ _ (fun e => by rw [e, hr0] at this; cases this)]; exact this
        refine ⟨R, ⟨fun h => by omega, fun h => by omega, fun _ => rfl, fun _ => Le.refl _⟩, ?_⟩
        refine ih R (listed.setIfInBounds j true) _ (H.upd r ob) ?_ (inv_listed hR' j) (hcz.set hj) hfree.set (ready_mono hr (Ne.symm hji)) ?_
        · exact sub_new hne hr0
        unfold stepT
        simp only [hi]
        refine ⟨G'.1, ?_⟩
        rw [if_pos hc, hwt, hrun]
        by_cases hw : Region.wanted oi (yielded ops a.tmps) = true
        · rw [if_pos hw] at h6 ⊢
          refine Lt_mono _ _ (Lt_frame (o := ob) _ h6 hr0) fun nx H1 ⟨H', e1, hn1, hn⟩ => ?_
          subst e1
          refine (NextH_frame (o := ob) hn hn1).mono fun u H2 ⟨H2', e2, hn2, R2, h8, h9⟩ => ?_
          subst e2
          obtain ⟨_, h11⟩ := fin u R2 H2' r hn2 h9
          refine ⟨R2, ⟨fun h22 b o' hb => ?_, fun h55 b o' hb => ?_, h8.2.2⟩, ?_⟩
          · have := h8.1 h22 b o' hb
            rw [zaE _ _ (fun e => by rw [e, hn2] at this; cases this)]; exact this
          · have := h8.2.1 h55 b o' hb
            rw [zaE _ _ (fun e => by rw [e, hn2] at this; cases this)]; exact this
          rw [Array.setIfInBounds_comm _ _ hji, ← Act.put_comm a u (f r) h2]
          exact h11
        · rw [if_neg hw] at h6 ⊢
          obtain ⟨_, h11⟩ := fin undef R H r hr0 h6
          rw [Array.setIfInBounds_comm _ _ hji, ← Act.put_comm a undef (f r) h2]
          exact h11
      -- at any state behind 'i', 'j' yields its value
      have hro : ∀ R2 : Hp, (cl i < 5 → R2 = R) → Rof R2 cl j = Rof R cl j := fun R2 h2 => by
        unfold Rof
        by_cases h0 : cl j = 0
        · rw [if_pos h0, if_pos h0]
        · rw [if_neg h0, if_neg h0]
          have hcj1 : cl j = 1 := by omega
          have hc66 : cl i ≠ 6 := fun h => hc6 h hcj1
          have hi6 := hcl i (Array.getElem?_eq_some_iff.1 hi).1
          apply Classical.byContradiction; intro hne5
          have h5 : cl i = 5 := Classical.byContradiction fun h5 => hne5 (h2 (by omega))
          have k1 := not_wait2 hcz (mem_ready.1 hr).1 hj hoj
          have k2 := not_wait2 hcz hjun hr hi
          rcases hk5 i oi hi h5 j oj hoj (by omega) with h | h
          · rw [k1] at h; cases h
          · rw [k2] at h; cases h
      have at_j : ∀ (u : Value) (R2 H'' : Hp), (cl i < 5 → R2 = R) → anyT P ops cl Q (fuel + 1) R2 (listed.setIfInBounds i true) (a.put oi.dst u) H'' →
          noDefer oj = true ∧ ∃ v, YieldsF P ops (Rof R cl j) oj v a ∧ anyT P ops cl Q fuel R2 ((listed.setIfInBounds i true).setIfInBounds j true) ((a.put oi.dst u).put oj.dst v) H'' := by
        intro u R2 H'' hR2 h
        have h4 := h.2 j (ready_mono hj hji)
        unfold stepT at h4
        simp only [hoj] at h4
        have h5 := h4.2
        rw [if_neg (by omega), hro R2 hR2] at h5
        obtain ⟨v, hy, hK⟩ := h5
        exact ⟨h4.1, v, (yieldsF_put hap hsj).1 hy, hK⟩
      have hle : Le (Rof R cl j) H := by
        unfold Rof
        by_cases h0 : cl j = 0
        · rw [if_pos h0]; exact le_empty H
        · rw [if_neg h0]; exact hinv ⟨j, oj, hoj, by omega, hjun⟩
      obtain ⟨w0, hw0⟩ := hne
      have goal : ∀ v, noDefer oj = true → YieldsF P ops (Rof R cl j) oj v a → anyT P ops cl Q (fuel + 1) R (listed.setIfInBounds j true) (a.put oj.dst v) H →
          stepT P ops R cl j (fun R' => anyT P ops cl Q (fuel + 1) R' (listed.setIfInBounds j true)) a H := fun v hnd hy hK => by
        unfold stepT; simp only [hoj]; exact ⟨hnd, by rw [if_neg (by omega)]; exact ⟨v, hy, hK⟩⟩
      have G' := G
      unfold stepT at G'
      simp only [hi] at G'
      have h6 := G'.2
      rw [if_pos hc] at h6
      by_cases hw : Region.wanted oi (yielded ops a.tmps) = true
      · rw [if_pos hw] at h6
        obtain ⟨u, H'', ⟨R2, h70, h7⟩, _⟩ := step_some h6 ⟨w0, hw0⟩
        obtain ⟨hnd, v, hy, _⟩ := at_j u R2 H'' h70.2.2.1 h7
        refine goal v hnd hy (ih R (listed.setIfInBounds j true) (a.put oj.dst v) H ⟨w0, hw0⟩ (inv_listed hinv j) (hcz.set hj) hfree.set (ready_mono hr (Ne.symm hji)) ?_)
        unfold stepT
        simp only [hi]
        refine ⟨G'.1, ?_⟩
        rw [if_pos hc, hwt v, if_pos hw, hrun v]
        refine Lt_mono _ _ h6 fun nx H' hn => hn.mono fun u2 H2 ⟨R2, h8, h9⟩ => ⟨R2, h8, ?_⟩
        obtain ⟨_, v2, hy2, hK2⟩ := at_j u2 R2 H2 h8.2.2.1 h9
        have := hy.one hy2 (hw0.le hle)
        subst this
        rw [Array.setIfInBounds_comm _ _ hji, ← Act.put_comm a u2 v h2]
        exact hK2
      · rw [if_neg hw] at h6
        obtain ⟨hnd, v, hy, hK⟩ := at_j undef R H (fun _ => rfl) h6
        refine goal v hnd hy (ih R (listed.setIfInBounds j true) (a.put oj.dst v) H ⟨w0, hw0⟩ (inv_listed hinv j) (hcz.set hj) hfree.set (ready_mono hr (Ne.symm hji)) ?_)
        unfold stepT
        simp only [hi]
        refine ⟨G'.1, ?_⟩
        rw [if_pos hc, hwt v, if_neg hw]
        rw [Array.setIfInBounds_comm _ _ hji, ← Act.put_comm a undef v h2]
        exact hK
/-! ### the text's order serves every order -/
def freeB (ops : Array Oper) (cl : Nat → Nat) (listed : Array Bool) (i : Nat) : Bool :=
  match ops[i]? with
  | none => false
  | some oi => (List.range ops.size).all fun j => j == i || listed.getD j true || waitsFor ops j i ||
      (((ops[j]?).map fun oj => oi.apart ops oj).getD false && (cl i < 2 || cl j < 2 || cl j == 4) && (cl i != 6 || cl j != 1)) || wait2 ops j i
theorem freeB_spec {listed : Array Bool} {i : Nat} {oi : Oper} (hi : ops[i]? = some oi) (h : freeB ops cl listed i = true) : Free ops cl listed i oi := by
  intro j oj hj hji hl hw
  unfold freeB at h
  simp only [hi, List.all_eq_true, List.mem_range] at h
  have hlt : j < ops.size := (Array.getElem?_eq_some_iff.1 hj).1
  have := h j hlt
  have hw0 : waitsFor ops j i = false := by
    cases h0 : waitsFor ops j i with
    | false => rfl
    | true => simp [wait2, h0] at hw
  simp only [hw0, hj, Option.map_some, Option.getD_some, hl, hw, Bool.or_false, Bool.or_eq_true, beq_iff_eq, Bool.and_eq_true, decide_eq_true_eq] at this
  rcases this with h1 | ⟨⟨h1, h2⟩, h3⟩
  · exact absurd h1 hji
  · exact ⟨h1, fun hc => by omega, fun h6 h7 => by simp [h6, h7] at h3⟩
def lexT (ops : Array Oper) (cl : Nat → Nat) : List Nat → Array Bool → Bool
  | [], listed => (Region.ready .any ops listed).isEmpty
  | k :: r, listed => (Region.ready .any ops listed).contains k && freeB ops cl listed k && lexT ops cl r (listed.setIfInBounds k true)
def okT (ops : Array Oper) (cl : Nat → Nat) (ord : List Nat) : Bool :=
  Region.noSelect ops && lexT ops cl ord (Array.replicate ops.size false) &&
  ((List.range ops.size).all fun i => cl i ≤ 6 && (cl i != 3 || (List.range ops.size).all fun j => cl j != 1 || waitsFor ops i j) && (cl i != 5 || (List.range ops.size).all fun j => cl j != 1 || wait2 ops j i || wait2 ops i j))
def permL (ord : List Nat) (l : List Oper) : List (Nat × Oper) := ord.filterMap fun i => (l[i]?).map (i, ·)
theorem permL_ok (ord : List Nat) (l : List Oper) : ∀ x ∈ permL ord l, l.toArray[x.1]? = some x.2 := by
  intro x hx
  simp only [permL, List.mem_filterMap, Option.map_eq_some_iff] at hx
  obtain ⟨i, _, o, ho, rfl⟩ := hx
  simpa using ho
def TW (P : Program) (n : Nat) (ops : Array Oper) : Hp → (Nat → Nat) → (Env → Hp → Prop) → List (Nat × Oper) → Env → Hp → Prop
  | _, _, Q, [], e, H => Q e H
  | R, cl, Q, (i, o) :: rest, e, H => noDefer o = true ∧ (∀ t, o.dst = some t → t < n) ∧ ∃ b, wantE ops e o = some b ∧
      if b then
        (if 2 ≤ cl i then OpH P o e H (fun e' H' => ∃ R', ((cl i = 2 → Le R H') ∧ (5 ≤ cl i → Le R' H') ∧ (cl i < 5 → R' = R) ∧ (cl i ≠ 5 → Le R R')) ∧ TW P n ops R' cl Q rest e' H')
         else ∃ v, (∀ r, Lt P (execOp (ev e r) o) (Rof R cl i) (fun nx H' => nx = .value v ∧ Le (Rof R cl i) H')) ∧ TW P n ops R cl Q rest (e.putO o.dst v) H)
      else TW P n ops R cl Q rest (e.putO o.dst undef) H
structure TRel (n : Nat) (e : Env) (a : Act) : Prop where
  size : a.tmps.size = n
  tmps : ∀ t v, e.get t = some v → a.tmps[t]? = some v
theorem TRel.rel {n : Nat} {e : Env} {a : Act} (h : TRel n e a) : Rel n 0 e { a with defers := [] } default emptyHp := ⟨Nat.zero_le _, h.size, h.tmps, [], rfl, .nil, fun _ h => by cases h⟩
theorem TRel.ev {n : Nat} {e : Env} {a : Act} (h : TRel n e a) : a.eval = HL.ev e (fun t => a.tmps.getD t undef) := by
  have := h.rel.ev
  rw [← this]; funext x; cases x <;> rfl
theorem TRel.put {n : Nat} {e : Env} {a : Act} (h : TRel n e a) {d : Option Nat} (hd : ∀ t, d = some t → t < n) (v : Value) : TRel n (e.putO d v) (a.put d v) := by
  have := h.rel.put hd v
  cases d <;> exact ⟨this.size, this.tmps⟩
theorem TRel.want {n : Nat} {e : Env} {a : Act} (h : TRel n e a) {o : Oper} {b : Bool} (hw : wantE ops e o = some b) : Region.wanted o (yielded ops a.tmps) = b := wantE_sound h.rel hw
theorem put_defers (a : Act) (d : Option Nat) (v : Value) : (a.put d v).defers = a.defers := by cases d <;> rfl
theorem anyT_of_TW {n : Nat} {Q : Env → Hp → Prop} {ds : List Deferred} (hsel : ∀ (j : Nat) (o : Oper) cs b, ops[j]? = some o → o.op ≠ .select cs b) (hcl : ∀ i, i < ops.size → cl i ≤ 6)
    (hnew : ∀ j oj, ops[j]? = some oj → cl j = 4 → NewOp P oj)
    (hkeep : ∀ i o, ops[i]? = some o → cl i = 3 → ∀ j oj, ops[j]? = some oj → cl j = 1 → waitsFor ops i j = true) (hk5 : ∀ i oi, ops[i]? = some oi → cl i = 5 → ∀ j oj, ops[j]? = some oj → cl j = 1 → wait2 ops j i = true ∨ wait2 ops i j = true) :
    ∀ (l : List (Nat × Oper)) (R : Hp) (listed : Array Bool), (∀ x ∈ l, ops[x.1]? = some x.2) → lexT ops cl (l.map (·.1)) listed = true → ∀ (e : Env) (H : Hp) (a : Act),
    (∃ w, Sub H w) → Inv ops R cl listed H → Closed ops listed → TW P n ops R cl Q l e H → TRel n e a → a.defers = ds → anyT P ops cl (fun a' H' => ∃ e', Q e' H' ∧ TRel n e' a' ∧ a'.defers = ds) l.length R listed a H
  | [], _, _, _, hB, e, H, a, _, _, _, h, hr, hd => ⟨by simpa [lexT] using hB, e, h, hr, hd⟩
  | (k, o) :: l, R, listed, hl, hB, e, H, a, hne, hinv, hcz, h, hr, hdf => by
    have h0 : ops[k]? = some o := hl (k, o) (by simp)
    have hl' : ∀ x ∈ l, ops[x.1]? = some x.2 := fun x hx => hl x (by simp [hx])
    simp only [List.map_cons, lexT, Bool.and_eq_true] at hB
    obtain ⟨⟨hrd, hf⟩, hB'⟩ := hB
    have hrd : k ∈ Region.ready .any ops listed := by simpa using hrd
    have hfree := freeB_spec h0 hf
    obtain ⟨hnd, ht, b, hb, h⟩ := h
    have hwant := hr.want hb
    have IH := fun R => anyT_of_TW (n := n) (Q := Q) (ds := ds) hsel hcl hnew hkeep hk5 l R (listed.setIfInBounds k true) hl' hB'
    by_cases hc : 2 ≤ cl k
    · refine anyT_chain hcl hk5 h0 hc hnew hsel l.length R listed a H hne hinv hcz hfree hrd ?_
      unfold stepT
      simp only [h0]
      refine ⟨hnd, ?_⟩
      rw [if_pos hc, hwant]
      cases b with
      | false => simp only [Bool.false_eq_true, if_false] at h ⊢; exact IH R _ _ _ hne (inv_listed hinv k) (hcz.set hrd) h (hr.put ht _) (by rw [put_defers]; exact hdf)
      | true =>
        simp only [if_true] at h ⊢
        rw [if_pos hc] at h
        have h1 := h (fun t => a.tmps.getD t undef)
        rw [← hr.ev] at h1
        -- what comes of it has a world of its own: the outcomes that matter are those of a world
        by_cases h44 : cl k = 4
        · obtain ⟨hwj, hnr⟩ := hnew k o h0 h44
          rcases hnr a.eval with ⟨ob, f, hf4⟩ | hno
          rotate_left
          · exact absurd h1 (hno _ _)
          rw [hf4] at h1 ⊢
          intro r hr0
          obtain ⟨R', ⟨_, _, h7, _⟩, h8⟩ := h1 r hr0
          have := h7 (by omega); subst this
          exact ⟨R', ⟨fun h => by omega, fun h => by omega, fun _ => rfl, fun _ => Le.refl _⟩, IH R' _ _ _ (sub_new hne hr0) (inv_listed (fun hex b o' hb => by
            have := hinv hex b o' hb
            rw [zaE _ _ (fun e => by rw [e, hr0] at this; cases this)]; exact this) k) (hcz.set hrd) h8 (hr.put ht _) (by rw [put_defers]; exact hdf)⟩
        refine Lt_world h1 hne fun nx H' hn hne' => NextH_world hn hne' fun v H'' ⟨R', hkp, hK⟩ hne'' => ⟨R', hkp, IH R' _ _ _ hne'' ?_ (hcz.set hrd) hK (hr.put ht _) (by rw [put_defers]; exact hdf)⟩
        by_cases h55 : 5 ≤ cl k
        · exact fun _ => hkp.2.1 h55
        have := hkp.2.2.1 (by omega); subst this
        by_cases h22 : cl k = 2
        · exact fun _ => hkp.1 h22
        · exact inv_after (hkeep k o h0 (by have := hcl k (Array.getElem?_eq_some_iff.1 h0).1; omega)) (by have := hcl k (Array.getElem?_eq_some_iff.1 h0).1; omega) h0 hrd _
    · cases b with
      | false =>
        simp only [Bool.false_eq_true, if_false] at h
        exact anyT_first hk5 h0 hnd (by omega) hsel l.length R listed a H hcz hfree hrd ⟨_, Le.refl _, .inr ⟨hwant, rfl⟩⟩ (IH R _ _ _ hne (inv_listed hinv k) (hcz.set hrd) h (hr.put ht _) (by rw [put_defers]; exact hdf))
      | true =>
        simp only [if_true] at h
        rw [if_neg hc] at h
        obtain ⟨v, h1, h2⟩ := h
        have h1 := h1 (fun t => a.tmps.getD t undef)
        rw [← hr.ev] at h1
        exact anyT_first hk5 h0 hnd (by omega) hsel l.length R listed a H hcz hfree hrd ⟨_, Le.refl _, .inl ⟨hwant, h1⟩⟩ (IH R _ _ _ hne (inv_listed hinv k) (hcz.set hrd) h2 (hr.put ht _) (by rw [put_defers]; exact hdf))
theorem CW_draw {n : Nat} {rd : Option Nat} {Q : Ex → Env → Hp → Prop} {e : Env} {H : Hp} {id : Nat} {l : List Oper} (cls : List Nat) (ord : List Nat) (R : Hp) (hm : P.follows .mixedOrders = true) (hok : okT l.toArray (fun i => cls.getD i 0) ord = true)
    (hnew : ∀ j oj, l[j]? = some oj → cls.getD j 0 = 4 → NewOp P oj) (hlen : (permL ord l).map (·.1) = ord)
    (hlen2 : ord.length = l.length)
    (hR : Le R H) (h : TW P n l.toArray R (fun i => cls.getD i 0) (fun e H => Q .normal e H) (permL ord l) e H) : CW P n rd (.region id l.toArray true) Q e H := by
  intro B a w hr hs
  simp only [okT, Bool.and_eq_true, List.all_eq_true, List.mem_range] at hok
  obtain ⟨⟨hsel, hlex⟩, hk⟩ := hok
  have hsel' := Region.noSelect_spec hsel
  have hcl : ∀ i, i < l.toArray.size → cls.getD i 0 ≤ 6 := fun i hi => by simpa using (hk i hi).1.1
  have hnew' : ∀ j oj, l.toArray[j]? = some oj → cls.getD j 0 = 4 → NewOp P oj := fun j oj hj => hnew j oj (by simpa using hj)
  have hkeep : ∀ i o, l.toArray[i]? = some o → cls.getD i 0 = 3 → ∀ j oj, l.toArray[j]? = some oj → cls.getD j 0 = 1 → waitsFor l.toArray i j = true := by
    intro i o hi h3 j oj hj h1
    have hil : i < l.toArray.size := (Array.getElem?_eq_some_iff.1 hi).1
    have hjl : j < l.toArray.size := (Array.getElem?_eq_some_iff.1 hj).1
    have h2 := (hk i hil).1.2
    rw [h3] at h2
    simp only [bne_self_eq_false, Bool.false_or, List.all_eq_true, List.mem_range] at h2
    have h4 := h2 j hjl
    rw [h1] at h4
    simpa using h4
  have hk5 : ∀ i oi, l.toArray[i]? = some oi → cls.getD i 0 = 5 → ∀ j oj, l.toArray[j]? = some oj → cls.getD j 0 = 1 → wait2 l.toArray j i = true ∨ wait2 l.toArray i j = true := by
    intro i oi hi h5 j oj hj h1
    have hil : i < l.toArray.size := (Array.getElem?_eq_some_iff.1 hi).1
    have hjl : j < l.toArray.size := (Array.getElem?_eq_some_iff.1 hj).1
    have h2 := (hk i hil).2
    rw [h5] at h2
    simp only [bne_self_eq_false, Bool.false_or, List.all_eq_true, List.mem_range] at h2
    have h4 := h2 j hjl
    rw [h1] at h4
    simpa using h4
  have hx : Ext H w H { w with drawn := w.drawn + 1 } := .drew hs _
  have hll : (permL ord l).length = l.length := by rw [← hlen2, ← hlen, List.length_map, hlen]
  have h1 := anyT_of_TW (P := P) (n := n) (Q := fun e H => Q .normal e H) (ds := a.defers) hsel' hcl hnew' hkeep hk5 (permL ord l) R (Array.replicate l.toArray.size false) (permL_ok ord l) (by rw [hlen]; exact hlex) e H a ⟨w, hs⟩ (fun _ => hR) (fun m om i hm hl _ => by simp [Array.getElem?_replicate] at hl) h ⟨hr.size, hr.tmps⟩ rfl
  rw [hll] at h1
  have h2 := anyR_of_anyT hkeep hcl hnew' (H0 := H) (w0 := w) l.length R _ a H { w with drawn := w.drawn + 1 } (fun _ => hR) hx h1
  have h3 : anyR P l.toArray (Sat n B H w (Q .normal)) l.length (Array.replicate l.toArray.size false) a { w with drawn := w.drawn + 1 } := by
    refine anyR_mono (fun a' w' h => ?_) _ _ _ _ h2
    obtain ⟨H', ⟨e', hQ, ht, hd⟩, hx'⟩ := h
    refine ⟨e', H', hQ, ⟨(hr.ext hx').bound, ht.size, ht.tmps, ?_⟩, hx'⟩
    have := (hr.ext hx').marks
    rw [hd]; exact this
  exact CR_region_any hm (by simpa using h3)
end Go.Proofs.Ytjhohnbdhopllaa.HL
end
section
namespace Go.Proofs.Ytjhohnbdhopllaa.HL
open Go
section
variable {P : Program} {n : Nat} {rd : Option Nat} {Q : Ex → Env → Hp → Prop} {e : Env} {H : Hp}
theorem CW_env {c : Code} {e' : Env} (hs : Env.sub e' e) (h : CW P n rd c Q e' H) : CW P n rd c Q e H := fun B a w hr hw => h B a w (hr.sub hs) hw
theorem Ext.of_le {H H' H2 : Hp} {w w2 : World} (hl : Le H' H) (hx : Ext H' w H2 w2) : Ext H w H2 w2 :=
  ⟨hx.sub, hx.size, fun b hb hn => hx.same b hb (by
      cases hc : H' b with
      | none => rfl
      | some o => rw [hl b o hc] at hn; cases hn),
    fun b hb => (hx.dom b hb).imp (fun h' hn => by
      cases hc : H' b with
      | none => exact h' hc
      | some o => rw [hl b o hc] at hn; cases hn) id, hx.os, hx.output, hx.tape⟩
theorem CallH.forget {f : FuncId} {args : Array Value} {H H' : Hp} {R : Value → Hp → Prop} (hl : Le H' H) (h : CallH P f args H' R) : CallH P f args H R :=
  fun w hs => (h w (hs.le hl)).mono fun _ _ ⟨v, he, H2, hR, hx⟩ => ⟨v, he, H2, hR, hx.of_le hl⟩
theorem CallH.drop {f : FuncId} {args : Array Value} {H : Hp} {R : Value → Hp → Prop} (h : CallH P f args H (fun v H' => ∃ H'', Le H'' H' ∧ R v H'')) : CallH P f args H R :=
  fun w hs => (h w hs).mono fun _ _ ⟨v, he, _, ⟨H'', hl, hR⟩, hx⟩ => ⟨v, he, H'', hR, hx.forget hl⟩
end
/-! ### a function's results -/
def ResV (P : Program) (e : Env) (H : Hp) : ResultVar → Value → Prop
  | .tmp t, v => e.get t = some v
  | .cell a t, v => ∃ ad, e.get a = some (.pointer (some ad)) ∧ Lq P (loadVar t ad) H (fun x => x = v)
def resS (tmps : Array Value) : ResultVar → Sem Value
  | .tmp t => pure (tmps.getD t undef)
  | .cell a t => do loadVar t (← asAddr (tmps.getD a undef))
theorem resS_run {P : Program} {n B : Nat} {e : Env} {H : Hp} {x : ResultVar} {v : Value} (h : ResV P e H x v) {a : Act} {w : World} (hr : Rel n B e a w H) {w' : World} (hs : Sub H w') : (resS a.tmps x).run P w' = .ok v w' := by
  cases x with
  | tmp t => have := hr.tmps t v h; simp [resS, Pure.pure, Array.getD_eq_getD_getElem?, this]
  | cell b t =>
    obtain ⟨ad, h1, h2⟩ := h
    have := hr.tmps b _ h1
    obtain ⟨u, rfl, hrun⟩ := Lq_sound _ _ _ h2
    have e1 : (resS a.tmps (.cell b t)) = loadVar t ad := by
      simp [resS, Array.getD_eq_getD_getElem?, this, asAddr, Bind.bind, Sem.bind, Pure.pure]
    rw [e1]; exact hrun w' hs
def retOf : List Value → Value
  | [v] => v
  | vs => .tuple vs.toArray
def ResL (P : Program) (e : Env) (H : Hp) : List ResultVar → List Value → Prop
  | [], [] => True
  | x :: xs, v :: vs => ResV P e H x v ∧ ResL P e H xs vs
  | _, _ => False
theorem results_run {P : Program} {n B : Nat} {e : Env} {H : Hp} {fn : Func} {l : List ResultVar} (hl : fn.results = l.toArray) {vs : List Value} (h : ResL P e H l vs) (h4 : l.length ≤ 5) {a : Act} {w : World} (hr : Rel n B e a w H) {w' : World} (hs : Sub H w') :
    (results fn a.tmps).run P w' = .ok (retOf vs) w' := by
  have hres : results fn a.tmps = (do let vs ← fn.results.mapM (resS a.tmps); pure (if h : vs.size = 1 then vs[0] else .tuple vs)) := by
    unfold results; congr 1
  rw [hres, hl]
  match l, vs, h, h4 with
  | [], [], _, _ => simp [retOf]
  | [x], [v], h, _ =>
    have h1 := resS_run h.1 hr hs
    simp [retOf, h1]
  | [x, y], [v, u], h, _ =>
    have h1 := resS_run h.1 hr hs
    have h2 := resS_run h.2.1 hr hs
    simp [retOf, h1, h2, Result.andThen]
  | [x, y, z], [v, u, t], h, _ =>
    have h1 := resS_run h.1 hr hs
    have h2 := resS_run h.2.1 hr hs
    have h3 := resS_run h.2.2.1 hr hs
    simp [retOf, h1, h2, h3, Result.andThen]
  | [x, y, z, q], [v, u, t, s], h, _ =>
    have h1 := resS_run h.1 hr hs
    have h2 := resS_run h.2.1 hr hs
    have h3 := resS_run h.2.2.1 hr hs
    have h4 := resS_run h.2.2.2.1 hr hs
    simp [retOf, h1, h2, h3, h4, Result.andThen]
  | [x, y, z, q, p], [v, u, t, s, r], h, _ =>
    have h1 := resS_run h.1 hr hs
    have h2 := resS_run h.2.1 hr hs
    have h3 := resS_run h.2.2.1 hr hs
    have h4 := resS_run h.2.2.2.1 hr hs
    have h5 := resS_run h.2.2.2.2.1 hr hs
    simp [retOf, h1, h2, h3, h4, h5, Result.andThen]
def envOf : Nat → List Value → Env
  | _, [] => []
  | i, v :: r => (i, v) :: envOf (i + 1) r
theorem envOf_get : ∀ (l : List Value) (i t : Nat) (v : Value), (envOf i l).get t = some v → i ≤ t ∧ l[t - i]? = some v
  | [], _, _, _, h => by simp [envOf, Env.get] at h
  | u :: r, i, t, v, h => by
    simp only [envOf, Env.get] at h
    by_cases ht : t = i
    · subst ht; rw [if_pos rfl] at h; cases h; exact ⟨Nat.le_refl _, by simp⟩
    · rw [if_neg ht] at h
      obtain ⟨h1, h2⟩ := envOf_get r (i + 1) t v h
      refine ⟨by omega, ?_⟩
      have : t - i = (t - (i + 1)) + 1 := by omega
      rw [this]; simpa using h2
def EndH (P : Program) (l : List ResultVar) (R : Value → Hp → Prop) : Ex → Env → Hp → Prop
  | .exit _, _, _ => False
  | _, e, H => ∃ vs, ResL P e H l vs ∧ ∃ H', Le H' H ∧ R (retOf vs) H'
theorem CallH_of_CW {P : Program} {f : FuncId} {fn : Func} {c : Code} {l : List Value} {rl : List ResultVar} {H : Hp} {R : Value → Hp → Prop}
    (hf : P.funcs[f]? = some fn) (hb : fn.body = some c) (hrl : fn.results = rl.toArray) (h5 : rl.length ≤ 5) (hn : l.length ≤ fn.ntmps)
    (h : CW P fn.ntmps none c (EndH P rl R) (envOf 0 l) H) : CallH P f l.toArray H R := by
  intro w hs
  refine calls_of_CR hf hb ?_
  have hr : Rel fn.ntmps w.heap.size (envOf 0 l) { tmps := l.toArray ++ Array.replicate (fn.ntmps - l.toArray.size) undef, defers := [] } w H := by
    refine ⟨Nat.le_refl _, by simp; omega, fun t v ht => ?_, [], rfl, .nil, fun r hr => by cases hr⟩
    obtain ⟨_, h2⟩ := envOf_get l 0 t v ht
    simp only [Nat.sub_zero] at h2
    have hlt : t < l.length := (List.getElem?_eq_some_iff.1 h2).1
    rw [Array.getElem?_append_left (by simpa using hlt)]
    simpa using h2
  refine (h _ _ w hr hs).mono fun x a' w' ⟨e', H', hQ, hr', hx⟩ => ?_
  have fin : (∃ vs, ResL P e' H' rl vs ∧ ∃ H'', Le H'' H' ∧ R (retOf vs) H'') → ∃ rs : List Nat, a'.defers = rs.map markOf ∧ rs.Nodup ∧ (∀ r ∈ rs, w'.heap[r]? = some (.deferred (some []))) ∧
      ∃ v, (results fn a'.tmps).run P (takeMarks rs w') = .ok v (takeMarks rs w') ∧ ∃ H'', R v H'' ∧ Ext H w H'' (takeMarks rs w') := by
    rintro ⟨vs, h1, H'', hl, h2⟩
    obtain ⟨rs, h3, h4, h5'⟩ := hr'.marks
    have hsub : Sub H' (takeMarks rs w') := fun b o hb => by
      have hbr : b ∉ rs := fun hm => by rw [(h5' b hm).2.1] at hb; cases hb
      rw [takeMarks_other rs w' b hbr]; exact hx.sub b o hb
    have hx' : Ext H w H' (takeMarks rs w') := by
      obtain ⟨r1, r2, r3, _⟩ := takeMarks_rest rs w'
      refine ⟨hsub, by rw [takeMarks_size]; exact hx.size, fun b hb hnn => ?_, hx.dom, r1.trans hx.os, r2.trans hx.output, r3.trans hx.tape⟩
      rw [takeMarks_other rs w' b ?_]; · exact hx.same b hb hnn
      intro hm
      -- a mark is a block of the function's own
      have := (h5' b hm).2.2
      omega
    exact ⟨rs, h3, h4, fun r hr => (h5' r hr).1, _, results_run hrl h1 h5 hr' hsub, H'', h2, hx'.forget hl⟩
  cases x with
  | exit id => exact hQ.elim
  | normal => exact fin hQ
  | ret => exact fin hQ
end Go.Proofs.Ytjhohnbdhopllaa.HL
end
section
namespace Go.Proofs.Ytjhohnbdhopllaa.HL
set_option linter.unusedSimpArgs false
set_option linter.unusedVariables false
open Go
section
variable {P : Program} {α β : Type} {H : Hp} {K : α → Hp → Prop}
theorem zaO (a : α) : Lt P (pure a : Sem α) H K = K a H := rfl
theorem l_pure' (a : α) : Lt P (Sem.pure a) H K = K a H := rfl
theorem zaD (s : Sem β) (f : β → Sem α) : Lt P (s >>= f) H K = Lt P s H (fun a H' => Lt P (f a) H' K) := Lt_bind s f H K
theorem l_map (s : Sem β) (f : β → α) : Lt P (f <$> s) H K = Lt P s H (fun a H' => K (f a) H') := Lt_bind s _ H K
theorem l_stuck (why : String) : Lt P (stuck why : Sem α) H K = False := rfl
end
def szOf (P : Program) (t : TypeId) : Option Nat := (P.info? t).map (·.size)
def zrOf (P : Program) (t : TypeId) : Option (Option Value) := (P.info? t).map (·.zero)
def byOf (P : Program) (t : TypeId) : Option Nat := (P.info? t).map (·.bytes)
def isAggD : TypeDesc → Bool
  | .struct _ => true
  | .array _ _ => true
  | _ => false
def orF {α : Type} (o : Option α) (f : α → Prop) : Prop := match o with | some a => f a | none => False
theorem zai {α : Type} (a : α) (f : α → Prop) : orF (some a) f = f a := rfl
section
variable {P : Program} {H : Hp}
theorem l_und (t : TypeId) (K : TypeDesc → Hp → Prop) : Lt P (underlying t) H K = orF (P.underlying t) (fun d => K d H) := by
  simp only [underlying, program, Bind.bind, Lt_bind, Lt]; cases P.underlying t <;> rfl
theorem l_size (t : TypeId) (K : Nat → Hp → Prop) : Lt P (sizeOf t) H K = orF (szOf P t) (fun n => K n H) := by
  simp only [sizeOf, typeInfo, program, Bind.bind, Lt_bind, Lt, szOf]; cases P.info? t <;> rfl
theorem l_zero (t : TypeId) (K : Value → Hp → Prop) : Lt P (zeroValue t) H K = orF (zrOf P t) (fun z => orF z (fun v => K v H)) := by
  simp only [zeroValue, typeInfo, program, Bind.bind, Lt_bind, Lt, zrOf]
  cases P.info? t with
  | none => rfl
  | some i => simp only [Option.map_some, orF]; cases h : i.zero <;> simp [Lt, Pure.pure, h, unsupported]
theorem l_isAgg (t : TypeId) (K : Bool → Hp → Prop) : Lt P (isAgg t) H K = orF (P.underlying t) (fun d => K (isAggD d) H) := by
  simp only [isAgg, zaD, l_und]; cases P.underlying t with
  | none => rfl
  | some d => cases d <;> rfl
theorem l_load (a : Addr) (K : Value → Hp → Prop) : Lt P (load a) H K = ∃ v, H.cell a = some v ∧ K v H := rfl
theorem l_sureAddr (a : Addr) (K : Addr → Hp → Prop) : Lt P (Instr.sureAddr (.pointer (some a))) H K = K a H := rfl
theorem l_new (o : Obj) (K : Nat → Hp → Prop) : Lt P (newObj o) H K = ∀ r, H r = none → K r (H.upd r o) := rfl
theorem l_newRow (t : TypeId) (c : Array Value) (K : Addr → Hp → Prop) : Lt P (newRow t c) H K = ∀ r, H r = none → K ⟨r, 0, none⟩ (H.upd r (.cells c t)) := rfl
theorem l_asIntOf (k : IntKind) (n : Int) (K : IntKind × Int → Hp → Prop) : Lt P (asIntOf (.int k n)) H K = K (k, n) H := rfl
theorem l_asBool (b : Bool) (K : Bool → Hp → Prop) : Lt P (asBool (.bool b)) H K = K b H := rfl
end
/-! ### rows of cells -/
theorem Addr_add_spot (a : Addr) (h : a.spot = none) (n : Nat) : a.add n = ⟨a.block, a.off + n, none⟩ := by
  unfold Addr.add; split
  · rename_i h0; subst h0; cases a; simp_all
  · cases a; simp_all
theorem zaA (b o n : Nat) : (⟨b, o, none⟩ : Addr).add n = ⟨b, o + n, none⟩ := Addr_add_spot _ rfl n
theorem cell_of {H : Hp} {b : Nat} {c : Array Value} {t : TypeId} {f : Nat × Nat} (h : H b = some (.cells c t f)) (o : Nat) : H.cell ⟨b, o, none⟩ = c[o]? := by
  simp [Hp.cell, h]
theorem loadCellsFrom_lt {P : Program} {H : Hp} {b : Nat} {c : Array Value} {t : TypeId} {f : Nat × Nat} (h : H b = some (.cells c t f)) (o : Nat) : ∀ (n i : Nat) (acc : Array Value) (K : Array Value → Hp → Prop), o + i + n ≤ c.size →
    Lt P (loadCellsFrom ⟨b, o, none⟩ i n acc) H K = K (acc ++ c.extract (o + i) (o + i + n)) H
  | 0, i, acc, K, _ => by
    have : c.extract (o + i) (o + i + 0) = #[] := by simp; omega
    rw [this]; simp [loadCellsFrom, zaO]
  | n + 1, i, acc, K, hn => by
    have hc : H.cell ⟨b, o + i, none⟩ = some c[o + i] := by rw [cell_of h]; simp
    simp only [loadCellsFrom, zaD, zaA, l_load, hc]
    have ih := loadCellsFrom_lt (P := P) h o n (i + 1) (acc.push c[o + i]) K (by omega)
    have e1 : (acc.push c[o + i]) ++ c.extract (o + (i + 1)) (o + (i + 1) + n) = acc ++ c.extract (o + i) (o + i + (n + 1)) := by
      apply Array.ext'
      simp only [Array.toList_append, Array.toList_push, Array.toList_extract, List.append_assoc]
      congr 1
      have : o + i + (n + 1) - (o + i) = n + 1 := by omega
      have h2 : o + (i + 1) + n - (o + (i + 1)) = n := by omega
      rw [List.extract_eq_take_drop, List.extract_eq_take_drop, this, h2]
      have h3 : c.toList.drop (o + i) = c[o + i] :: c.toList.drop (o + (i + 1)) := by
        rw [List.drop_eq_getElem_cons (by simp; omega)]; rfl
      rw [h3]; simp
    rw [← e1, ← ih]
    apply propext; constructor
    · rintro ⟨v, hv, hk⟩; cases hv; exact hk
    · intro hk; exact ⟨_, rfl, hk⟩
theorem loadCells_lt {P : Program} {H : Hp} {b : Nat} {c : Array Value} {t : TypeId} {f : Nat × Nat} (h : H b = some (.cells c t f)) (o n : Nat) (hn : o + n ≤ c.size) (K : Array Value → Hp → Prop) :
    Lt P (loadCells ⟨b, o, none⟩ n) H K = K (c.extract o (o + n)) H := by
  have := loadCellsFrom_lt (P := P) h o n 0 #[] K (by omega)
  simpa [loadCells] using this
def putCells (c : Array Value) : Nat → List Value → Array Value
  | _, [] => c
  | o, v :: r => putCells (c.setIfInBounds o v) (o + 1) r
@[simp] theorem putCells_size : ∀ (l : List Value) (c : Array Value) (o : Nat), (putCells c o l).size = c.size
  | [], _, _ => rfl
  | v :: r, c, o => by rw [putCells, putCells_size r]; simp
theorem upd_upd (H : Hp) (b : Nat) (o o' : Obj) : (H.upd b o).upd b o' = H.upd b o' := by
  funext x; unfold Hp.upd; split <;> rfl
theorem upd_self (H : Hp) (b : Nat) (o : Obj) (h : H b = some o) : H.upd b o = H := by
  funext x; unfold Hp.upd; split
  · rename_i e; subst e; exact h.symm
  · rfl
theorem storeCells_lt {P : Program} {b : Nat} {t : TypeId} {f : Nat × Nat} {o : Nat} : ∀ (l : List Value) (i : Nat) (H : Hp) (c : Array Value) (K : Unit → Hp → Prop), H b = some (.cells c t f) →
    (∀ v ∈ l, plainCell v = true) → o + i + l.length ≤ c.size → (∀ j, o + i ≤ j → j < o + i + l.length → ¬ (f.1 ≤ j ∧ j < f.2)) →
    Lt P (storeCells ⟨b, o, none⟩ l i) H K = K () (H.upd b (.cells (putCells c (o + i) l) t f))
  | [], i, H, c, K, h, _, _, _ => by rw [storeCells, zaO, putCells, upd_self H b _ h]
  | v :: r, i, H, c, K, h, hp, hn, hf => by
    simp only [List.length_cons] at hn hf
    have ih := storeCells_lt (P := P) (b := b) (t := t) (f := f) (o := o) r (i + 1) (H.upd b (.cells (c.setIfInBounds (o + i) v) t f)) (c.setIfInBounds (o + i) v) K (zap _ _ _)
      (fun u hu => hp u (by simp [hu])) (by simp; omega) (fun j h1 h2 => hf j (by omega) (by omega))
    simp only [storeCells, zaD, zaA]
    rw [putCells]
    have hcell : H.cell ⟨b, o + i, none⟩ ≠ none := by rw [cell_of h]; simp; omega
    have hfr : frozenIn (o + i) (.cells c t f) = false := by
      obtain ⟨lo, hi⟩ := f
      have := hf (o + i) (by omega) (by omega)
      simp only [frozenIn, Bool.and_eq_false_iff, decide_eq_false_iff_not]
      by_cases h1 : lo ≤ o + i
      · right; intro h2; exact this ⟨h1, h2⟩
      · left; exact h1
    have hv := hp v (by simp)
    apply propext
    have e2 : (H.upd b (.cells (c.setIfInBounds (o + i) v) t f)).upd b (.cells (putCells (c.setIfInBounds (o + i) v) (o + (i + 1)) r) t f) = H.upd b (.cells (putCells (c.setIfInBounds (o + i) v) (o + i + 1) r) t f) := by
      rw [upd_upd]; rfl
    rw [← e2, ← ih]
    show (∃ o', H b = some o' ∧ _) ↔ _
    constructor
    · rintro ⟨o', h1, _, _, _, h5⟩
      rw [h] at h1; cases h1
      exact h5
    · intro h5
      exact ⟨_, h, hv, hcell, hfr, h5⟩
theorem loadVar_one {P : Program} {H : Hp} (t : TypeId) (a : Addr) (K : Value → Hp → Prop) : Lt P (loadVar t a) H K = orF (P.underlying t) (fun d => if isAggD d then orF (szOf P t) (fun n => Lt P (loadCells a n) H (fun cs H' => K (.agg cs) H')) else ∃ v, H.cell a = some v ∧ K v H) := by
  simp only [loadVar, zaD, l_isAgg]
  cases P.underlying t with
  | none => rfl
  | some d =>
    simp only [zai]
    cases isAggD d
    · rfl
    · simp only [if_true, zaD, l_size, zaO]
theorem storeVar_eq {P : Program} {H : Hp} (t : TypeId) (a : Addr) (v : Value) (K : Unit → Hp → Prop) : Lt P (storeVar t a v) H K = orF (szOf P t) (fun n => v.cells.size = n ∧ Lt P (storeCells a v.cells.toList) H K) := by
  simp only [storeVar, zaD, l_size]
  cases szOf P t with
  | none => rfl
  | some n =>
    simp only [zai]
    by_cases h : v.cells.size = n
    · simp [h, zaD, zaO]
    · simp [h, zaD, l_stuck]
/-! ### the operations -/
section
variable {P : Program} {ρ : Operand → Value} {d : Option Nat} {ty : TypeId} {p : String} {af : Array Edge} {g : Option (Nat × Bool)} {H : Hp} {K : Next → Hp → Prop}
theorem zaq (x : Operand) : Lt P (execOp ρ ⟨d, .move x, ty, p, af, g⟩) H K = K (.value (ρ x)) H := rfl
theorem x_assign (x : Operand) : Lt P (execOp ρ ⟨d, .assign x, ty, p, af, g⟩) H K = K (.value (ρ x)) H := rfl
theorem x_pick (c a b : Operand) : Lt P (execOp ρ ⟨d, .pick c a b, ty, p, af, g⟩) H K = Lt P (asBool (ρ c)) H (fun t H' => K (.value (if t then ρ a else ρ b)) H') := Lt_bind _ _ _ _
theorem x_alloc (t : TypeId) : Lt P (execOp ρ ⟨d, .alloc t, ty, p, af, g⟩) H K = orF (zrOf P t) (fun z => orF z (fun v => ∀ r, H r = none → K (.value (.pointer (some ⟨r, 0, none⟩))) (H.upd r (.cells v.cells t)))) := by
  simp only [execOp, Instr.alloc, zaD, l_zero]
  rfl
theorem x_box (t : TypeId) (x : Operand) : Lt P (execOp ρ ⟨d, .box t x, ty, p, af, g⟩) H K = ∀ r, H r = none → K (.value (.pointer (some ⟨r, 0, none⟩))) (H.upd r (.cells (ρ x).cells t)) := rfl
theorem x_build (t : TypeId) (ps : Array (Nat × Operand)) : Lt P (execOp ρ ⟨d, .build t ps, ty, p, af, g⟩) H K = Lt P (Instr.build t (ps.map fun (i, x) => (i, ρ x))) H (fun v H' => K (.value v) H') := Lt_bind _ _ _ _
theorem x_buildSlice (t : TypeId) (n : Nat) (ps : Array (Nat × Operand)) : Lt P (execOp ρ ⟨d, .buildSlice t n ps, ty, p, af, g⟩) H K = Lt P (Instr.buildSlice t n (ps.map fun (i, x) => (i, ρ x))) H (fun v H' => K (.value v) H') := Lt_bind _ _ _ _
theorem zar (t : TypeId) (a : Operand) : Lt P (execOp ρ ⟨d, .load t a, ty, p, af, g⟩) H K = Lt P (Instr.loadAt t (ρ a)) H (fun v H' => K (.value v) H') := Lt_bind _ _ _ _
theorem l_loadAt (t : TypeId) (a : Addr) (K : Value → Hp → Prop) : Lt P (Instr.loadAt t (.pointer (some a))) H K = Lt P (loadVar t a) H K := rfl
theorem x_store (t : TypeId) (a x : Operand) : Lt P (execOp ρ ⟨d, .store t a x, ty, p, af, g⟩) H K = Lt P (Instr.storeAt t (ρ a) (ρ x)) H (fun _ H' => K .skip H') := Lt_bind _ _ _ _
theorem l_storeAt (t : TypeId) (a : Addr) (v : Value) (K : Unit → Hp → Prop) : Lt P (Instr.storeAt t (.pointer (some a)) v) H K = Lt P (storeVar t a v) H K := rfl
theorem zaT (x : Operand) (a : Addr) (h : ρ x = .pointer (some a)) : Lt P (execOp ρ ⟨d, .nilCheck x, ty, p, af, g⟩) H K = K (.value (.pointer (some a))) H := by
  simp only [execOp, h]; rfl
theorem zaI (op : BinOp) (xt : TypeId) (x y : Operand) (yt : TypeId) : Lt P (execOp ρ ⟨d, .binOp op xt x y yt, ty, p, af, g⟩) H K = Lt P (eqGuard op xt x y (ρ x) (ρ y)) H (fun _ H' => Lt P (binOp op xt (ρ x) (ρ y)) H' (fun v H'' => K (.value v) H'')) := by
  simp only [execOp, zaD, zaO]
theorem x_un (op : UnOp) (xt : TypeId) (x : Operand) : Lt P (execOp ρ ⟨d, .unOp op xt x, ty, p, af, g⟩) H K = Lt P (Op.unary op (ρ x)) H (fun v H' => K (.value v) H') := Lt_bind _ _ _ _
theorem x_convert (s t : TypeId) (x : Operand) : Lt P (execOp ρ ⟨d, .convert s t x, ty, p, af, g⟩) H K = Lt P (Go.convert s t (ρ x)) H (fun v H' => K (.value v) H') := Lt_bind _ _ _ _
theorem x_makeInterface (t : TypeId) (x : Operand) : Lt P (execOp ρ ⟨d, .makeInterface t x, ty, p, af, g⟩) H K = Lt P (Instr.makeInterface t (ρ x)) H (fun v H' => K (.value v) H') := Lt_bind _ _ _ _
theorem x_makeFunc (fn : Fn) (a b : Array Operand) : Lt P (execOp ρ ⟨d, .makeFunc fn a b, ty, p, af, g⟩) H K = K (.value (.func fn (a.map ρ) (b.map ρ))) H := rfl
theorem x_makeMap (t : TypeId) (a : Option Operand) : Lt P (execOp ρ ⟨d, .makeMap t a, ty, p, af, g⟩) H K = Lt P (Instr.makeMap t (a.map ρ)) H (fun v H' => K (.value v) H') := Lt_bind _ _ _ _
theorem x_slice (t : TypeId) (x : Operand) (lo hi mx : Option Operand) : Lt P (execOp ρ ⟨d, .slice t x lo hi mx, ty, p, af, g⟩) H K = Lt P (Instr.sliceAt t (ρ x) (lo.map ρ) (hi.map ρ) (mx.map ρ)) H (fun v H' => K (.value v) H') := Lt_bind _ _ _ _
theorem zah (t : TypeId) (x : Operand) (f : Nat) : Lt P (execOp ρ ⟨d, .fieldAddr t x f, ty, p, af, g⟩) H K = Lt P (Instr.fieldAt t (ρ x) f) H (fun v H' => K (.value v) H') := Lt_bind _ _ _ _
theorem zav (t : TypeId) (x i : Operand) : Lt P (execOp ρ ⟨d, .indexAddr t x i, ty, p, af, g⟩) H K = Lt P (Instr.indexAt t (ρ x) (ρ i)) H (fun v H' => K (.value v) H') := Lt_bind _ _ _ _
theorem x_extract (x : Operand) (i : Nat) : Lt P (execOp ρ ⟨d, .extract x i, ty, p, af, g⟩) H K = Lt P (Instr.extract (ρ x) i) H (fun v H' => K (.value v) H') := Lt_bind _ _ _ _
theorem x_typeAssert (x : Operand) (a b : TypeId) (ok : Bool) : Lt P (execOp ρ ⟨d, .typeAssert x a b ok, ty, p, af, g⟩) H K = Lt P (Instr.typeAssert (ρ x) a b ok) H (fun v H' => K (.value v) H') := Lt_bind _ _ _ _
theorem x_lookup (t : TypeId) (x i : Operand) (ok : Bool) : Lt P (execOp ρ ⟨d, .lookup t x i ok, ty, p, af, g⟩) H K = Lt P (Instr.lookup t (ρ x) (ρ i) ok) H (fun v H' => K (.value v) H') := Lt_bind _ _ _ _
theorem x_mapUpdate (t : TypeId) (m k x : Operand) : Lt P (execOp ρ ⟨d, .mapUpdate t m k x, ty, p, af, g⟩) H K = Lt P (Instr.mapUpdate t (ρ m) (ρ k) (ρ x)) H (fun _ H' => K .skip H') := Lt_bind _ _ _ _
theorem zaC (b : Builtin) (args : Array Operand) (ts : Array TypeId) : Lt P (execOp ρ ⟨d, .call ⟨.builtin b, args, ts⟩, ty, p, af, g⟩) H K =
    Lt P (Go.builtin b ts ty (args.map fun | .const _ => true | _ => false) (args.map ρ)) H K := rfl
theorem l_len (ts : Array TypeId) (c : Array Bool) (args : Array Value) : Lt P (Go.builtin .len ts ty c args) H K = Lt P (Builtin.len_ ts ty args) H (fun v H' => K (.value v) H') := Lt_bind _ _ _ _
theorem l_cap (ts : Array TypeId) (c : Array Bool) (args : Array Value) : Lt P (Go.builtin .cap ts ty c args) H K = Lt P (Builtin.cap_ ts ty args) H (fun v H' => K (.value v) H') := Lt_bind _ _ _ _
theorem l_min (ts : Array TypeId) (c : Array Bool) (args : Array Value) : Lt P (Go.builtin .min ts ty c args) H K = Lt P (Builtin.min_ ts ty args) H (fun v H' => K (.value v) H') := Lt_bind _ _ _ _
theorem l_max (ts : Array TypeId) (c : Array Bool) (args : Array Value) : Lt P (Go.builtin .max ts ty c args) H K = Lt P (Builtin.max_ ts ty args) H (fun v H' => K (.value v) H') := Lt_bind _ _ _ _
theorem l_append (ts : Array TypeId) (c : Array Bool) (args : Array Value) : Lt P (Go.builtin .append ts ty c args) H K = Lt P (Builtin.append_ ts ty args) H (fun v H' => K (.value v) H') := Lt_bind _ _ _ _
theorem l_copy (ts : Array TypeId) (c : Array Bool) (args : Array Value) : Lt P (Go.builtin .copy ts ty c args) H K = Lt P (Builtin.copy_ ts ty args) H (fun v H' => K (.value v) H') := Lt_bind _ _ _ _
theorem l_delete (ts : Array TypeId) (c : Array Bool) (args : Array Value) : Lt P (Go.builtin .delete ts ty c args) H K = Lt P (Builtin.delete_ ts ty args) H (fun v H' => K (.value v) H') := Lt_bind _ _ _ _
theorem x_call (f : Operand) (args : Array Operand) (ts : Array TypeId) : Lt P (execOp ρ ⟨d, .call ⟨.value f, args, ts⟩, ty, p, af, g⟩) H K =
    Lt P (do let q ← Deferred.ofValue (ρ f) (args.map ρ); invoke q.target q.args) H K := rfl
end
def bodied (P : Program) (f : FuncId) : Bool := match P.funcs[f]? with | some fn => fn.name != "runtime.NumGoroutine" && fn.body.isSome | none => false
section
variable {P : Program} {H : Hp} {K : Next → Hp → Prop}
theorem l_callFunc (f : FuncId) (args : Array Value) (h : bodied P f = true) : Lt P (callFunc f args) H K = K (.enter f args) H := by
  unfold bodied at h
  simp only [callFunc, program, Bind.bind, Lt_bind, Lt]
  cases hf : P.funcs[f]? with
  | none => rw [hf] at h; cases h
  | some fn =>
    rw [hf] at h
    simp only [Bool.and_eq_true, bne_iff_ne, ne_eq] at h
    have h1 : (fn.name == "runtime.NumGoroutine") = false := by simpa using h.1
    have h2 : fn.body.isNone = false := by cases hb : fn.body <;> simp_all
    simp only [h1, h2, Bool.false_eq_true, if_false]
    rfl
theorem l_callV (f : FuncId) (caps args : Array Value) : Lt P (do let q ← Deferred.ofValue (.func (.func f) #[] caps) args; invoke q.target q.args) H K = Lt P (callFunc f ((#[] ++ args) ++ caps)) H K := rfl
end
end Go.Proofs.Ytjhohnbdhopllaa.HL
end
section
namespace Go.Proofs.Ytjhohnbdhopllaa.HL
open Go
set_option linter.unusedSimpArgs false
set_option linter.unusedVariables false
section
variable {P : Program} {H : Hp}
/-! ### addresses -/
theorem i_fieldAt (t : TypeId) (a : Addr) (f : Nat) (K : Value → Hp → Prop) : Lt P (Instr.fieldAt t (.pointer (some a)) f) H K =
    orF (P.underlying t) (fun d => match d with
      | .struct fs => orF fs[f]? (fun fd => orF (szOf P fd.type) (fun n => if n = 0 then Lt P (partAt a fd.offset fd.byteOffset) H (fun a' H' => K (.pointer (some a')) H') else K (.pointer (some (a.add fd.offset))) H))
      | _ => False) := by
  simp only [Instr.fieldAt, zaD, l_und]
  cases P.underlying t with
  | none => rfl
  | some d =>
    simp only [zai]
    cases d <;> try rfl
    rename_i fs
    simp only []
    cases hf : fs[f]? with
    | none => rfl
    | some fd =>
      simp only [zai, zaD, l_sureAddr, fieldPlace, l_size, zaO]
      cases szOf P fd.type with
      | none => rfl
      | some n => simp only [zai]; split <;> rfl
theorem i_indexSlice (t : TypeId) (e : TypeId) (hu : P.underlying t = some (.slice e)) (a : Addr) (len cap : Nat) (k : IntKind) (i : Int) (h0 : 0 ≤ i) (h1 : i < len) (K : Value → Hp → Prop) :
    Lt P (Instr.indexAt t (.slice (some a) len cap) (.int k i)) H K = orF (szOf P e) (fun n => K (.pointer (some (a.add (i.toNat * n)))) H) := by
  simp only [Instr.indexAt, zaD, l_asIntOf, l_und, hu, zai, zaO, if_pos (And.intro h0 h1), l_size]
theorem i_indexArray (t : TypeId) (e : TypeId) (n : Nat) (hu : P.underlying t = some (.array n e)) (a : Addr) (k : IntKind) (i : Int) (h0 : 0 ≤ i) (h1 : i < n) (K : Value → Hp → Prop) :
    Lt P (Instr.indexAt t (.pointer (some a)) (.int k i)) H K = orF (szOf P e) (fun m => K (.pointer (some (a.add (i.toNat * m)))) H) := by
  simp only [Instr.indexAt, zaD, l_asIntOf, l_und, hu, zai, zaO, l_sureAddr]
  by_cases hl : n ≤ 1 <;> simp [hl, zaD, l_map, l_und, hu, zai, zaO, l_size, h0, h1]
theorem i_sliceBound (k : IntKind) (i : Int) (y : Nat) (c : BoundsCode) (h0 : 0 ≤ i) (h1 : i ≤ y) (K : Nat → Hp → Prop) : Lt P (Instr.sliceBound (.int k i) y c) H K = K i.toNat H := by
  simp only [Instr.sliceBound, zaD, l_asIntOf, if_pos (And.intro h0 h1), zaO]
def bound (v : Option Value) (d : Nat) : Option Nat := match v with | none => some d | some (.int _ i) => if 0 ≤ i then some i.toNat else none | _ => none
theorem i_sliceBounds (isS : Bool) (len cap : Nat) (lo hi mx : Option Value) (l h m : Nat) (hm : bound mx cap = some m) (hh : bound hi len = some h) (hl : bound lo 0 = some l) (h1 : l ≤ h) (h2 : hi.isSome = true → h ≤ m) (h3 : mx.isSome = true → m ≤ cap ∧ hi.isSome = true) (K : Nat × Nat × Nat → Hp → Prop) :
    Lt P (Instr.sliceBounds isS len cap lo hi mx) H K = K (l, h, m) H := by
  have key : ∀ (v : Value) (d y n : Nat) (c : BoundsCode) (K : Nat → Hp → Prop), bound (some v) d = some n → n ≤ y → Lt P (Instr.sliceBound v y c) H K = K n H := by
    intro v d y n c K hv hn
    cases v <;> simp only [bound] at hv <;> try (cases hv; done)
    rename_i k i
    split at hv
    · rename_i h0; cases hv; exact i_sliceBound k i y c h0 (by omega) K
    · cases hv
  have k0 : ∀ v, lo = some v → ∀ c K, Lt P (Instr.sliceBound v h c) H K = K l H := fun v hv c K => key v 0 h l c K (hv ▸ hl) h1
  have k1 : ∀ v, hi = some v → ∀ c K, Lt P (Instr.sliceBound v m c) H K = K h H := fun v hv c K => key v len m h c K (hv ▸ hh) (h2 (by rw [hv]; rfl))
  have k2 : ∀ v, mx = some v → ∀ c K, Lt P (Instr.sliceBound v cap c) H K = K m H := fun v hv c K => key v cap cap m c K (hv ▸ hm) (h3 (by rw [hv]; rfl)).1
  cases mx with
  | none =>
    simp only [bound, Option.some.injEq] at hm; subst hm
    cases hi with
    | none =>
      simp only [bound, Option.some.injEq] at hh; subst hh
      cases lo with
      | none => simp only [bound, Option.some.injEq] at hl; subst hl; simp only [Instr.sliceBounds, zaD, zaO]
      | some v => simp only [Instr.sliceBounds, zaD, zaO, k0 v rfl]
    | some u =>
      cases lo with
      | none => simp only [bound, Option.some.injEq] at hl; subst hl; simp only [Instr.sliceBounds, zaD, zaO, k1 u rfl]
      | some v => simp only [Instr.sliceBounds, zaD, zaO, k1 u rfl, k0 v rfl]
  | some x =>
    cases hi with
    | none => cases (h3 rfl).2
    | some u =>
      cases lo with
      | none => simp only [bound, Option.some.injEq] at hl; subst hl; simp only [Instr.sliceBounds, zaD, zaO, k2 x rfl, k1 u rfl]
      | some v => simp only [Instr.sliceBounds, zaD, zaO, k2 x rfl, k1 u rfl, k0 v rfl]
theorem i_sliceSlice (t e : TypeId) (hu : P.underlying t = some (.slice e)) (a : Option Addr) (len cap : Nat) (lo hi mx : Option Value) (l h m : Nat) (hm : bound mx cap = some m) (hh : bound hi len = some h) (hl : bound lo 0 = some l) (h1 : l ≤ h) (h2 : hi.isSome = true → h ≤ m) (h3 : mx.isSome = true → m ≤ cap ∧ hi.isSome = true) (K : Value → Hp → Prop) :
    Lt P (Instr.sliceAt t (.slice a len cap) lo hi mx) H K = orF (szOf P e) (fun n => K (.slice (if m = l then a else a.map (·.add (l * n))) (h - l) (m - l)) H) := by
  simp only [Instr.sliceAt, Instr.slice, zaD, l_und, hu, zai]
  rw [i_sliceBounds true len cap lo hi mx l h m hm hh hl h1 h2 h3]
  simp only [zaD, l_size]; cases szOf P e <;> rfl
/-! ### values -/
theorem i_makeInterface (t : TypeId) (x : Value) (K : Value → Hp → Prop) : Lt P (Instr.makeInterface t x) H K = orF (P.underlying t) (fun d => match d with | .interface _ => False | _ => K (.iface t x) H) := by
  simp only [Instr.makeInterface, zaD, l_und]; cases P.underlying t with
  | none => rfl
  | some d => cases d <;> rfl
theorem i_extract (vs : Array Value) (i : Nat) (K : Value → Hp → Prop) : Lt P (Instr.extract (.tuple vs) i) H K = orF vs[i]? (fun v => K v H) := by
  simp only [Instr.extract]; cases vs[i]? <;> rfl
theorem zaF (t e : TypeId) (hu : P.underlying t = some (.slice e)) (ty : TypeId) (a : Option Addr) (n c : Nat) (K : Value → Hp → Prop) : Lt P (Builtin.len_ #[t] ty #[.slice a n c]) H K = K (.int .i64 n) H := by
  simp [Builtin.len_, zaD, l_und, hu, zai, zaO, goInt]
theorem i_cap_slice (t e : TypeId) (hu : P.underlying t = some (.slice e)) (ty : TypeId) (a : Option Addr) (n c : Nat) (K : Value → Hp → Prop) : Lt P (Builtin.cap_ #[t] ty #[.slice a n c]) H K = K (.int .i64 c) H := by
  simp [Builtin.cap_, zaD, l_und, hu, zai, zaO, goInt]
theorem i_min2 (ts : Array TypeId) (ty : TypeId) (k k' : IntKind) (x y : Int) (K : Value → Hp → Prop) : Lt P (Builtin.min_ ts ty #[.int k x, .int k' y]) H K = K (.int k (if y < x then y else x)) H := by
  simp [Builtin.min_, Builtin.min2, zaO, zaD]
theorem i_max2 (ts : Array TypeId) (ty : TypeId) (k k' : IntKind) (x y : Int) (K : Value → Hp → Prop) : Lt P (Builtin.max_ ts ty #[.int k x, .int k' y]) H K = K (.int k (if y > x then y else x)) H := by
  simp [Builtin.max_, Builtin.max2, zaO, zaD]
/-! ### arithmetic -/
theorem zaM (op : BinOp) (t : TypeId) (x y : Operand) (k : IntKind) (a : Int) (v : Value) (K : Unit → Hp → Prop) : Lt P (eqGuard op t x y (.int k a) v) H K = K () H := by
  cases op <;> rfl
theorem g_bool (op : BinOp) (t : TypeId) (x y : Operand) (a : Bool) (v : Value) (K : Unit → Hp → Prop) : Lt P (eqGuard op t x y (.bool a) v) H K = K () H := by
  cases op <;> rfl
theorem g_string (op : BinOp) (t : TypeId) (x y : Operand) (a : ByteArray) (v : Value) (K : Unit → Hp → Prop) : Lt P (eqGuard op t x y (.string a) v) H K = K () H := by
  cases op <;> rfl
theorem g_pointer (op : BinOp) (t : TypeId) (x y : Operand) (a : Option Addr) (v : Value) (K : Unit → Hp → Prop) : Lt P (eqGuard op t x y (.pointer a) v) H K = K () H := by
  cases op <;> rfl
theorem g_slice (op : BinOp) (t : TypeId) (x y : Operand) (a : Option Addr) (n c : Nat) (v : Value) (K : Unit → Hp → Prop) : Lt P (eqGuard op t x y (.slice a n c) v) H K = K () H := by
  cases op <;> rfl
theorem g_map (op : BinOp) (t : TypeId) (x y : Operand) (a : Option Nat) (v : Value) (K : Unit → Hp → Prop) : Lt P (eqGuard op t x y (.map a) v) H K = K () H := by
  cases op <;> rfl
theorem g_func (op : BinOp) (t : TypeId) (x y : Operand) (f : Fn) (a b : Array Value) (v : Value) (K : Unit → Hp → Prop) : Lt P (eqGuard op t x y (.func f a b) v) H K = K () H := by
  cases op <;> rfl
theorem g_nilFunc (op : BinOp) (t : TypeId) (x y : Operand) (v : Value) (K : Unit → Hp → Prop) : Lt P (eqGuard op t x y .nilFunc v) H K = K () H := by
  cases op <;> rfl
theorem g_iface (op : BinOp) (t : TypeId) (x y : Operand) (u : TypeId) (a v : Value) (K : Unit → Hp → Prop) : Lt P (eqGuard op t x y (.iface u a) v) H K = K () H := by
  cases op <;> rfl
theorem g_nil_iface (op : BinOp) (t : TypeId) (x y : Operand) (u : TypeId) (a : Value) (K : Unit → Hp → Prop) : Lt P (eqGuard op t x y .nilIface (.iface u a)) H K = K () H := by
  cases op <;> rfl
theorem g_nil_r (op : BinOp) (t : TypeId) (x : Operand) (c : Value) (K : Unit → Hp → Prop) : Lt P (eqGuard op t x (.const c) .nilIface .nilIface) H K = K () H := by
  cases op <;> cases x <;> rfl
theorem g_nil_l (op : BinOp) (t : TypeId) (y : Operand) (c : Value) (K : Unit → Hp → Prop) : Lt P (eqGuard op t (.const c) y .nilIface .nilIface) H K = K () H := by
  cases op <;> rfl
section
variable (t : TypeId) (k : IntKind) (a b : Int) (K : Value → Hp → Prop)
theorem b_add : Lt P (binOp .add t (.int k a) (.int k b)) H K = K (.int k (k.wrap (a + b))) H := by simp only [binOp, ne_eq, not_true_eq_false, if_false, Op.intArith, zaO]
theorem b_sub : Lt P (binOp .sub t (.int k a) (.int k b)) H K = K (.int k (k.wrap (a - b))) H := by simp only [binOp, ne_eq, not_true_eq_false, if_false, Op.intArith, zaO]
theorem b_mul : Lt P (binOp .mul t (.int k a) (.int k b)) H K = K (.int k (k.wrap (a * b))) H := by simp only [binOp, ne_eq, not_true_eq_false, if_false, Op.intArith, zaO]
theorem b_quo (h : b ≠ 0) : Lt P (binOp .quo t (.int k a) (.int k b)) H K = K (.int k (k.wrap (a.tdiv b))) H := by simp only [binOp, ne_eq, not_true_eq_false, if_false, Op.intDiv, if_neg h, zaO]
theorem b_eql : Lt P (binOp .eql t (.int k a) (.int k b)) H K = K (.bool (decide (a = b))) H := by
  simp only [binOp, ne_eq, not_true_eq_false, if_false, Op.intCmp, zaO]; congr
theorem b_neq : Lt P (binOp .neq t (.int k a) (.int k b)) H K = K (.bool (!decide (a = b))) H := by
  simp only [binOp, ne_eq, not_true_eq_false, if_false, Op.intCmp, zaO]; rfl
theorem b_lss : Lt P (binOp .lss t (.int k a) (.int k b)) H K = K (.bool (decide (a < b))) H := by simp only [binOp, ne_eq, not_true_eq_false, if_false, Op.intCmp, zaO]
theorem b_leq : Lt P (binOp .leq t (.int k a) (.int k b)) H K = K (.bool (decide (a ≤ b))) H := by simp only [binOp, ne_eq, not_true_eq_false, if_false, Op.intCmp, zaO]
theorem b_gtr : Lt P (binOp .gtr t (.int k a) (.int k b)) H K = K (.bool (decide (b < a))) H := by simp only [binOp, ne_eq, not_true_eq_false, if_false, Op.intCmp, zaO]
theorem b_geq : Lt P (binOp .geq t (.int k a) (.int k b)) H K = K (.bool (decide (b ≤ a))) H := by simp only [binOp, ne_eq, not_true_eq_false, if_false, Op.intCmp, zaO]
theorem b_shr (k' : IntKind) (h : 0 ≤ b) : Lt P (binOp .shr t (.int k a) (.int k' b)) H K = K (.int k (a.fdiv (2 ^ (min b.toNat k.bits)))) H := by
  simp only [binOp, Op.shift, if_neg (Int.not_lt.2 h), zaO]
theorem u_not (x : Bool) : Lt P (Op.unary .not (.bool x)) H K = K (.bool (!x)) H := rfl
end
/-! ### '==' of other kinds -/
theorem e_eql (t : TypeId) (x y : Value) (K : Value → Hp → Prop) (hx : (∀ k n, x ≠ .int k n) ∧ (∀ k n, x ≠ .float k n) ∧ (∀ k n m, x ≠ .complex k n m) ∧ ∀ s, x ≠ .string s) : Lt P (binOp .eql t x y) H K = Lt P (Op.equal t x y) H (fun b H' => K (.bool b) H') := by
  obtain ⟨h1, h2, h3, h4⟩ := hx
  cases x <;> first | exact absurd rfl (h1 _ _) | exact absurd rfl (h2 _ _) | exact absurd rfl (h3 _ _ _) | exact absurd rfl (h4 _) | (cases y <;> simp only [binOp, zaD, zaO])
theorem e_neq (t : TypeId) (x y : Value) (K : Value → Hp → Prop) (hx : (∀ k n, x ≠ .int k n) ∧ (∀ k n, x ≠ .float k n) ∧ (∀ k n m, x ≠ .complex k n m) ∧ ∀ s, x ≠ .string s) : Lt P (binOp .neq t x y) H K = Lt P (Op.equal t x y) H (fun b H' => K (.bool (!b)) H') := by
  obtain ⟨h1, h2, h3, h4⟩ := hx
  cases x <;> first | exact absurd rfl (h1 _ _) | exact absurd rfl (h2 _ _) | exact absurd rfl (h3 _ _ _) | exact absurd rfl (h4 _) | (cases y <;> simp only [binOp, zaD, zaO])
end
end Go.Proofs.Ytjhohnbdhopllaa.HL
end
section
namespace Go.Proofs.Ytjhohnbdhopllaa.HL
open Go
set_option linter.unusedSimpArgs false
set_option linter.unusedVariables false
section
variable {P : Program} {H : Hp}
theorem c_int (s t : TypeId) (k : IntKind) (ds : TypeDesc) (hs : P.underlying s = some ds) (ht : P.underlying t = some (.int k)) (k' : IntKind) (n : Int) (K : Value → Hp → Prop) : Lt P (Go.convert s t (.int k' n)) H K = K (.int k (k.wrap n)) H := by
  simp only [Go.convert, zaD, l_und, hs, ht, zai]
  cases ds <;> rfl
def byteOfV : Value → Option UInt8
  | .int .u8 n => some (UInt8.ofNat n.toNat)
  | _ => none
def bytesOf : List Value → Option (List UInt8)
  | [] => some []
  | v :: r => match byteOfV v, bytesOf r with | some b, some l => some (b :: l) | _, _ => none
/-! ### '==' -/
section
variable (d : Nat)
theorem q_iface_nil (t : TypeId) (ms : Array (String × TypeId)) (hu : P.underlying t = some (.interface ms)) (u : TypeId) (x : Value) (K : Bool → Hp → Prop) : Lt P (Op.equalIn (d + 1) t (.iface u x) .nilIface) H K = K false H := by
  simp only [Op.equalIn, zaD, l_und, hu, zai, zaO]
theorem q_nil_iface (t : TypeId) (ms : Array (String × TypeId)) (hu : P.underlying t = some (.interface ms)) (u : TypeId) (x : Value) (K : Bool → Hp → Prop) : Lt P (Op.equalIn (d + 1) t .nilIface (.iface u x)) H K = K false H := by
  simp only [Op.equalIn, zaD, l_und, hu, zai, zaO]
theorem q_nil_nil (t : TypeId) (ms : Array (String × TypeId)) (hu : P.underlying t = some (.interface ms)) (K : Bool → Hp → Prop) : Lt P (Op.equalIn (d + 1) t .nilIface .nilIface) H K = K true H := by
  simp only [Op.equalIn, zaD, l_und, hu, zai, zaO]
theorem q_bool (t : TypeId) (hu : P.underlying t = some .bool) (a b : Bool) (K : Bool → Hp → Prop) : Lt P (Op.equalIn (d + 1) t (.bool a) (.bool b)) H K = K (a == b) H := by
  simp only [Op.equalIn, zaD, l_und, hu, zai, zaO]
theorem q_ptr_nil (t e : TypeId) (hu : P.underlying t = some (.pointer e)) (a : Option Addr) (K : Bool → Hp → Prop) : Lt P (Op.equalIn (d + 1) t (.pointer a) (.pointer none)) H K = K a.isNone H := by
  cases a <;> simp only [Op.equalIn, zaD, l_und, hu, zai, zaO, Option.isNone_none, Option.isNone_some]
theorem q_nil_ptr (t e : TypeId) (hu : P.underlying t = some (.pointer e)) (a : Option Addr) (K : Bool → Hp → Prop) : Lt P (Op.equalIn (d + 1) t (.pointer none) (.pointer a)) H K = K a.isNone H := by
  simp only [Op.equalIn, zaD, l_und, hu, zai, zaO]
theorem q_slice_nil (t e : TypeId) (hu : P.underlying t = some (.slice e)) (a : Option Addr) (n c : Nat) (n' c' : Nat) (K : Bool → Hp → Prop) : Lt P (Op.equalIn (d + 1) t (.slice a n c) (.slice none n' c')) H K = K a.isNone H := by
  cases a <;> simp only [Op.equalIn, zaD, l_und, hu, zai, zaO, Option.isNone_none, Option.isNone_some]
theorem q_int (t : TypeId) (k : IntKind) (hu : P.underlying t = some (.int k)) (k' : IntKind) (a b : Int) (K : Bool → Hp → Prop) : Lt P (Op.equalIn (d + 1) t (.int k' a) (.int k' b)) H K = K (decide (a = b)) H := by
  simp only [Op.equalIn, zaD, l_und, hu, zai, if_true, zaO]; rfl
end
/-! ### type assertions -/
theorem t_same (xt t : TypeId) (dd : TypeDesc) (hu : P.underlying t = some dd) (hd : ∀ ms, dd ≠ .interface ms) (v : Value) (ok : Bool) (K : Value → Hp → Prop) :
    Lt P (Instr.typeAssert (.iface t v) xt t ok) H K = K (if ok then .tuple #[v, .bool true] else v) H := by
  simp only [Instr.typeAssert, zaD, l_und, hu, zai]
  cases dd <;> first | exact absurd rfl (hd _) | (simp only [if_true, zaO])
theorem t_other (xt t u : TypeId) (dd : TypeDesc) (hu : P.underlying t = some dd) (hd : ∀ ms, dd ≠ .interface ms) (hne : u ≠ t) (v z : Value) (hz : zrOf P t = some (some z)) (K : Value → Hp → Prop) :
    Lt P (Instr.typeAssert (.iface u v) xt t true) H K = K (.tuple #[z, .bool false]) H := by
  simp only [Instr.typeAssert, zaD, l_und, hu, zai]
  cases dd <;> first | exact absurd rfl (hd _) | (simp only [if_neg hne, if_true, zaD, l_zero, hz, zai, zaO])
theorem t_nil (xt t : TypeId) (dd : TypeDesc) (hu : P.underlying t = some dd) (hd : ∀ ms, dd ≠ .interface ms) (z : Value) (hz : zrOf P t = some (some z)) (K : Value → Hp → Prop) :
    Lt P (Instr.typeAssert .nilIface xt t true) H K = K (.tuple #[z, .bool false]) H := by
  simp only [Instr.typeAssert, zaD, l_und, hu, zai]
  cases dd <;> first | exact absurd rfl (hd _) | (simp only [if_true, zaD, l_zero, hz, zai, zaO])
theorem q_equal (t : TypeId) (x y : Value) (K : Bool → Hp → Prop) : Lt P (Op.equal t x y) H K = Lt P (Op.equalIn (9999 + 1) t x y) H K := rfl
end
end Go.Proofs.Ytjhohnbdhopllaa.HL
end
section
namespace Go.Proofs.Ytjhohnbdhopllaa.HL
open Go
set_option linter.unusedSimpArgs false
set_option linter.unusedVariables false
def PlainL (l : List Value) : Prop := ∀ v ∈ l, plainCell v = true
theorem plain_int (k : IntKind) (n : Int) : plainCell (.int k n) = true := rfl
theorem plain_slice (a : Option Addr) (n c : Nat) : plainCell (.slice a n c) = true := rfl
theorem PlainL.nil : PlainL [] := fun _ h => by cases h
theorem PlainL.cons {v : Value} {l : List Value} (h : plainCell v = true) (k : PlainL l) : PlainL (v :: l) := fun u hu => by
  rcases List.mem_cons.1 hu with rfl | hu; exact h; exact k u hu
theorem PlainL.append {a b : List Value} (h : PlainL a) (k : PlainL b) : PlainL (a ++ b) := fun u hu => (List.mem_append.1 hu).elim (h u) (k u)
theorem PlainL.ints (k : IntKind) (l : List Int) : PlainL (l.map (.int k ·)) := fun u hu => by
  obtain ⟨x, _, rfl⟩ := List.mem_map.1 hu; rfl
theorem PlainL.extract {c : Array Value} (h : PlainL c.toList) (a b : Nat) : PlainL (c.extract a b).toList := fun u hu => by
  rw [Array.toList_extract, List.extract_eq_take_drop] at hu
  exact h u (List.mem_of_mem_drop (List.mem_of_mem_take hu))
theorem PlainL.set {c : Array Value} (h : PlainL c.toList) {v : Value} (hv : plainCell v = true) (i : Nat) : PlainL (c.setIfInBounds i v).toList := fun u hu => by
  rw [Array.toList_setIfInBounds] at hu
  rcases List.mem_or_eq_of_mem_set hu with h1 | h1
  · exact h u h1
  · subst h1; exact hv
theorem PlainL.putCells : ∀ {l : List Value} {c : Array Value} {o : Nat}, PlainL c.toList → PlainL l → PlainL (HL.putCells c o l).toList
  | [], _, _, h, _ => h
  | v :: r, c, o, h, k => PlainL.putCells (l := r) (h.set (k v (by simp)) o) (fun u hu => k u (by simp [hu]))
theorem PlainL.replicate (n : Nat) {v : Value} (hv : plainCell v = true) : PlainL (Array.replicate n v).toList := fun u hu => by
  simp at hu; rw [hu.2]; exact hv
def Env.has : Env → Env → Prop
  | [], _ => True
  | (t, v) :: r, e => e.get t = some v ∧ Env.has r e
theorem Env.has.sub : ∀ {l e : Env}, Env.has l e → Env.sub l e
  | [], _, _, _, _, h => by cases h
  | (k, u) :: r, e, hh, t, v, h => by
    simp only [Env.get] at h
    by_cases ht : t = k
    · subst ht; rw [if_pos rfl] at h; cases h; exact hh.1
    · rw [if_neg ht] at h; exact Env.has.sub hh.2 t v h
section
variable {P : Program} {n : Nat} {rd : Option Nat} {ops : Array Oper} {Q : Env → Hp → Prop} {e : Env} {H : Hp} {rest : List Oper} {d : Option Nat} {op : Op} {ty : TypeId} {p : String} {af : Array Edge}
theorem zae (h : Q e H) : OW P n ops Q [] e H := h
theorem OW_op (hd : noDefer ⟨d, op, ty, p, af, none⟩ = true) (ht : ∀ t, d = some t → t < n)
    (h : ∀ K : Env → Hp → Prop, (∀ e H, OW P n ops Q rest e H → K e H) → ∀ r, Lt P (execOp (ev e r) ⟨d, op, ty, p, af, none⟩) H (fun nx H' => NextH P nx H' (fun v H'' => K (e.putO d v) H''))) :
    OW P n ops Q (⟨d, op, ty, p, af, none⟩ :: rest) e H :=
  ⟨hd, ht, true, rfl, fun r => h _ (fun _ _ h => h) r⟩
theorem zaa {d n : Nat} (h : d < n) : ∀ t, some d = some t → t < n := fun t ht => by cases ht; exact h
theorem lt_none {n : Nat} : ∀ t, (none : Option Nat) = some t → t < n := fun t ht => by cases ht
section
variable {R : Hp} {cl : Nat → Nat} {i : Nat}
theorem TW_nil (h : Q e H) : TW P n ops R cl Q [] e H := h
theorem TW_chain {rest : List (Nat × Oper)} (hd : noDefer ⟨d, op, ty, p, af, none⟩ = true) (ht : ∀ t, d = some t → t < n) (hc : cl i = 2)
    (h : ∀ K : Env → Hp → Prop, (∀ e H, Le R H → TW P n ops R cl Q rest e H → K e H) → ∀ r, Lt P (execOp (ev e r) ⟨d, op, ty, p, af, none⟩) H (fun nx H' => NextH P nx H' (fun v H'' => K (e.putO d v) H''))) :
    TW P n ops R cl Q ((i, ⟨d, op, ty, p, af, none⟩) :: rest) e H :=
  ⟨hd, ht, true, rfl, by rw [if_pos rfl, if_pos (by omega)]; exact fun r => h (fun e' H' => ∃ R', ((cl i = 2 → Le R H') ∧ (5 ≤ cl i → Le R' H') ∧ (cl i < 5 → R' = R) ∧ (cl i ≠ 5 → Le R R')) ∧ TW P n ops R' cl Q rest e' H') (fun e H hl hT => ⟨R, ⟨fun _ => hl, fun h5 => by omega, fun _ => rfl, fun _ => Le.refl _⟩, hT⟩) r⟩
theorem TW_last {rest : List (Nat × Oper)} (hd : noDefer ⟨d, op, ty, p, af, none⟩ = true) (ht : ∀ t, d = some t → t < n) (hc : cl i = 3)
    (h : ∀ K : Env → Hp → Prop, (∀ e H, TW P n ops R cl Q rest e H → K e H) → ∀ r, Lt P (execOp (ev e r) ⟨d, op, ty, p, af, none⟩) H (fun nx H' => NextH P nx H' (fun v H'' => K (e.putO d v) H''))) :
    TW P n ops R cl Q ((i, ⟨d, op, ty, p, af, none⟩) :: rest) e H :=
  ⟨hd, ht, true, rfl, by rw [if_pos rfl, if_pos (by omega)]; exact fun r => h (fun e' H' => ∃ R', ((cl i = 2 → Le R H') ∧ (5 ≤ cl i → Le R' H') ∧ (cl i < 5 → R' = R) ∧ (cl i ≠ 5 → Le R R')) ∧ TW P n ops R' cl Q rest e' H') (fun e H hT => ⟨R, ⟨fun h2 => by omega, fun h5 => by omega, fun _ => rfl, fun _ => Le.refl _⟩, hT⟩) r⟩
theorem TW_make {rest : List (Nat × Oper)} (hd : noDefer ⟨d, op, ty, p, af, none⟩ = true) (ht : ∀ t, d = some t → t < n) (hc : cl i = 4)
    (h : ∀ K : Env → Hp → Prop, (∀ e H, TW P n ops R cl Q rest e H → K e H) → ∀ r, Lt P (execOp (ev e r) ⟨d, op, ty, p, af, none⟩) H (fun nx H' => NextH P nx H' (fun v H'' => K (e.putO d v) H''))) :
    TW P n ops R cl Q ((i, ⟨d, op, ty, p, af, none⟩) :: rest) e H :=
  ⟨hd, ht, true, rfl, by rw [if_pos rfl, if_pos (by omega)]; exact fun r => h (fun e' H' => ∃ R', ((cl i = 2 → Le R H') ∧ (5 ≤ cl i → Le R' H') ∧ (cl i < 5 → R' = R) ∧ (cl i ≠ 5 → Le R R')) ∧ TW P n ops R' cl Q rest e' H') (fun e H hT => ⟨R, ⟨fun h2 => by omega, fun h5 => by omega, fun _ => rfl, fun _ => Le.refl _⟩, hT⟩) r⟩
theorem TW_fence {rest : List (Nat × Oper)} (hd : noDefer ⟨d, op, ty, p, af, none⟩ = true) (ht : ∀ t, d = some t → t < n) (hc : cl i = 5)
    (h : ∀ K : Env → Hp → Prop, (∀ e H, (∀ R' : Hp, R' = H → TW P n ops R' cl Q rest e H) → K e H) → ∀ r, Lt P (execOp (ev e r) ⟨d, op, ty, p, af, none⟩) H (fun nx H' => NextH P nx H' (fun v H'' => K (e.putO d v) H''))) :
    TW P n ops R cl Q ((i, ⟨d, op, ty, p, af, none⟩) :: rest) e H :=
  ⟨hd, ht, true, rfl, by rw [if_pos rfl, if_pos (by omega)]; exact fun r => h (fun e' H' => ∃ R', ((cl i = 2 → Le R H') ∧ (5 ≤ cl i → Le R' H') ∧ (cl i < 5 → R' = R) ∧ (cl i ≠ 5 → Le R R')) ∧ TW P n ops R' cl Q rest e' H') (fun e H hT => ⟨H, ⟨fun h2 => by omega, fun _ => Le.refl _, fun h5 => by omega, fun h5 => absurd hc h5⟩, hT H rfl⟩) r⟩
theorem zaf {rest : List (Nat × Oper)} (hd : noDefer ⟨d, op, ty, p, af, none⟩ = true) (ht : ∀ t, d = some t → t < n) (hc : cl i = 0) (v : Value)
    (h1 : ∀ r, Lt P (execOp (ev e r) ⟨d, op, ty, p, af, none⟩) emptyHp (fun nx H' => nx = .value v ∧ Le emptyHp H')) (h : TW P n ops R cl Q rest (e.putO d v) H) :
    TW P n ops R cl Q ((i, ⟨d, op, ty, p, af, none⟩) :: rest) e H :=
  ⟨hd, ht, true, rfl, by rw [if_pos rfl, if_neg (by omega)]; exact ⟨v, by unfold Rof; rw [if_pos hc]; exact h1, h⟩⟩
theorem zaW {rest : List (Nat × Oper)} (hd : noDefer ⟨d, op, ty, p, af, none⟩ = true) (ht : ∀ t, d = some t → t < n) (hc : cl i = 1) (v : Value)
    (h1 : ∀ r, Lt P (execOp (ev e r) ⟨d, op, ty, p, af, none⟩) R (fun nx H' => nx = .value v ∧ Le R H')) (h : TW P n ops R cl Q rest (e.putO d v) H) :
    TW P n ops R cl Q ((i, ⟨d, op, ty, p, af, none⟩) :: rest) e H :=
  ⟨hd, ht, true, rfl, by rw [if_pos rfl, if_neg (by omega)]; exact ⟨v, by unfold Rof; rw [if_neg (by omega)]; exact h1, h⟩⟩
end
end
end Go.Proofs.Ytjhohnbdhopllaa.HL
namespace Go.Proofs.Ytjhohnbdhopllaa.HL
open Go
section
variable {P : Program} {H : Hp} {e : Env} {r : Nat → Value} {d : Option Nat} {ty : TypeId} {p : String} {af : Array Edge} {g : Option (Nat × Bool)}
theorem zaQ (f : FuncId) (hb : bodied P f = true) (args : Array Operand) (ts : Array TypeId) (K : Next → Hp → Prop) : Lt P (execOp (ev e r) ⟨d, .call ⟨.value (.func f), args, ts⟩, ty, p, af, g⟩) H K = K (.enter f (args.map (ev e r))) H := by
  rw [x_call]
  show Lt P (callFunc f ((#[] ++ args.map (ev e r)) ++ #[])) H K = _
  rw [l_callFunc f _ hb]; simp
theorem fieldAt_one {t : TypeId} {fs : Array Field} {f : Nat} {fd : Field} {n : Nat} (hu : P.underlying t = some (.struct fs)) (hf : fs[f]? = some fd) (hs : szOf P fd.type = some n) (hn : n ≠ 0) (a : Addr) (H : Hp) (K : Value → Hp → Prop) :
    Lt P (Instr.fieldAt t (.pointer (some a)) f) H K = K (.pointer (some (a.add fd.offset))) H := by
  rw [i_fieldAt, hu, zai]; simp only []; rw [hf, zai, hs, zai, if_neg hn]
theorem zaz {x b : Nat} {o : Obj} (h : H x = some o) (k : H b = none) : x ≠ b := by intro e; subst e; rw [h] at k; cases k
theorem Lt_storeAt1 {t : TypeId} (hs : szOf P t = some 1) {b o : Nat} {c : Array Value} {T : TypeId} {f : Nat × Nat} {v : Value} (hb : H b = some (.cells c T f)) (ho : o < c.size) (hv : plainCell v = true) (hf : ¬ (f.1 ≤ o ∧ o < f.2)) {K : Unit → Hp → Prop}
    (h : K () (H.upd b (.cells (c.setIfInBounds o v) T f))) : Lt P (Instr.storeAt t (.pointer (some ⟨b, o, none⟩)) v) H K := by
  rw [l_storeAt, storeVar_eq, hs, zai]
  have hc : v.cells = #[v] := by cases v <;> first | rfl | (simp [plainCell] at hv; done)
  refine ⟨by rw [hc]; rfl, ?_⟩
  rw [hc]
  have key := storeCells_lt (P := P) (b := b) (t := T) (f := f) (o := o) [v] 0 H c K hb (by simpa using hv) (by simp; omega) (fun j h1 h2 => by
    have : j = o := by simp at h2; omega
    rw [this]; exact hf)
  rw [key]
  exact h
theorem Lt_storeAtA {t : TypeId} {vs : Array Value} {n : Nat} (hs : szOf P t = some n) (hvs : vs.size = n) {b o : Nat} {c : Array Value} {T : TypeId} {f : Nat × Nat} (hb : H b = some (.cells c T f)) (ho : o + vs.size ≤ c.size) (hv : PlainL vs.toList) (hf : f.2 ≤ f.1) {K : Unit → Hp → Prop}
    (h : K () (H.upd b (.cells (putCells c o vs.toList) T f))) : Lt P (Instr.storeAt t (.pointer (some ⟨b, o, none⟩)) (.agg vs)) H K := by
  subst hvs
  rw [l_storeAt, storeVar_eq, hs, zai]
  refine ⟨rfl, ?_⟩
  show Lt P (storeCells _ vs.toList) H K
  rw [storeCells_lt vs.toList 0 H c K hb hv (by simp; omega) (fun j h1 h2 => by omega)]
  exact h
theorem zaS {t : TypeId} {n : Nat} {td : TypeDesc} (hu : P.underlying t = some td) (ha : isAggD td = true) (hs : szOf P t = some n) {b o : Nat} {c : Array Value} {T : TypeId} {f : Nat × Nat} (hb : H b = some (.cells c T f)) (ho : o + n ≤ c.size) {K : Value → Hp → Prop}
    (h : K (.agg (c.extract o (o + n))) H) : Lt P (Instr.loadAt t (.pointer (some ⟨b, o, none⟩))) H K := by
  rw [l_loadAt, loadVar_one, hu, zai, ha, if_pos rfl, hs, zai, loadCells_lt hb o n ho]
  exact h
theorem zak {t : TypeId} {td : TypeDesc} (hu : P.underlying t = some td) (ha : isAggD td = false) {b o : Nat} {c : Array Value} {T : TypeId} {f : Nat × Nat} (hb : H b = some (.cells c T f)) {v : Value} (hc : c[o]? = some v) {K : Value → Hp → Prop}
    (h : K v H) : Lt P (Instr.loadAt t (.pointer (some ⟨b, o, none⟩))) H K := by
  rw [l_loadAt, loadVar_one, hu, zai, ha]
  exact ⟨v, (cell_of hb o).trans hc, h⟩
def Hp.del (H : Hp) (b : Nat) : Hp := fun x => if x = b then none else H x
theorem le_del (H : Hp) (b : Nat) : Le (H.del b) H := fun x o h => by unfold Hp.del at h; split at h; cases h; exact h
theorem le_del_upd (A : Hp) (b : Nat) (o : Obj) : Le (A.del b) (A.upd b o) := fun x o' h => by
  unfold Hp.del at h; split at h
  · cases h
  · rename_i hn; rw [zaE _ _ hn]; exact h
theorem del_ne (H : Hp) {b x : Nat} (h : x ≠ b) : H.del b x = H x := by simp [Hp.del, h]
theorem zal {R G : Hp} {b : Nat} {o : Obj} (h : Le R G) (hb : R b = none) : Le R (G.upd b o) := fun x o' hx => by
  rw [zaE]; · exact h x o' hx
  intro e; subst e; rw [hb] at hx; cases hx
theorem zaj {R G : Hp} {b : Nat} (h : Le R G) (hb : G b = none) : R b = none := by
  cases hr : R b with
  | none => rfl
  | some o => rw [h b o hr] at hb; cases hb
theorem ite_bool (c : Prop) [Decidable c] (x y : Bool) : (if c then Value.bool x else Value.bool y) = Value.bool (if c then x else y) := by split <;> rfl
theorem zaB {f : FuncId} {fn : Func} {c : Code} {n : Nat} {l : List Value} {rl : List ResultVar} {R : Value → Hp → Prop}
  (hf : P.funcs[f]? = some fn) (hb : fn.body = some c) (hrl : fn.results = rl.toArray) (h5 : rl.length.ble 5 = true) (hnt : fn.ntmps = n) (hn : l.length.ble n = true)
  (h : CW P n none c (EndH P rl R) (envOf 0 l) H) : CallH P f l.toArray H R := by
 subst hnt
 exact CallH_of_CW hf hb hrl (Nat.le_of_ble_eq_true h5) (Nat.le_of_ble_eq_true hn) h
end
end Go.Proofs.Ytjhohnbdhopllaa.HL
namespace Go.Proofs.Ytjhohnbdhopllaa.HL
open Go
section
variable {P : Program} {n : Nat} {ops : Array Oper} {Q : Env → Hp → Prop} {e : Env} {H : Hp} {rest : List Oper} {d : Option Nat} {op : Op} {ty : TypeId} {p : String} {af : Array Edge} {g : Nat × Bool} {R : Hp} {cl : Nat → Nat} {i : Nat}
theorem zam (hd : noDefer ⟨d, op, ty, p, af, some g⟩ = true) (ht : ∀ t, d = some t → t < n) (hw : wantE ops e ⟨d, op, ty, p, af, some g⟩ = some true)
    (h : ∀ K : Env → Hp → Prop, (∀ e H, OW P n ops Q rest e H → K e H) → ∀ r, Lt P (execOp (ev e r) ⟨d, op, ty, p, af, some g⟩) H (fun nx H' => NextH P nx H' (fun v H'' => K (e.putO d v) H''))) :
    OW P n ops Q (⟨d, op, ty, p, af, some g⟩ :: rest) e H := ⟨hd, ht, true, hw, fun r => h _ (fun _ _ h => h) r⟩
theorem zan (hd : noDefer ⟨d, op, ty, p, af, some g⟩ = true) (ht : ∀ t, d = some t → t < n) (hw : wantE ops e ⟨d, op, ty, p, af, some g⟩ = some false)
    (h : OW P n ops Q rest (e.putO d undef) H) : OW P n ops Q (⟨d, op, ty, p, af, some g⟩ :: rest) e H := ⟨hd, ht, false, hw, h⟩
theorem put_same : ∀ (e : Env) (d : Nat) (v : Value), e.get d = some v → e.put d v = e
  | [], _, _, h => by simp [Env.get] at h
  | (k, u) :: r, d, v, h => by
    simp only [Env.get, Env.put] at h ⊢
    by_cases hk : d = k
    · rw [if_pos hk] at h ⊢; cases h; rfl
    · rw [if_neg hk] at h ⊢; rw [put_same r d v h]
theorem OW_split {l : List Oper} {d : Nat} {b : Bool} (hg : e.get d = some (.bool b)) (h1 : b = true → OW P n ops Q l (e.put d (.bool true)) H) (h0 : b = false → OW P n ops Q l (e.put d (.bool false)) H) : OW P n ops Q l e H := by
  cases b with
  | true => have := h1 rfl; rwa [put_same e d _ hg] at this
  | false => have := h0 rfl; rwa [put_same e d _ hg] at this
theorem TW_split {l : List (Nat × Oper)} {d : Nat} {b : Bool} (hg : e.get d = some (.bool b)) (h1 : b = true → TW P n ops R cl Q l (e.put d (.bool true)) H) (h0 : b = false → TW P n ops R cl Q l (e.put d (.bool false)) H) : TW P n ops R cl Q l e H := by
  cases b with
  | true => have := h1 rfl; rwa [put_same e d _ hg] at this
  | false => have := h0 rfl; rwa [put_same e d _ hg] at this
theorem zaX {rest : List (Nat × Oper)} (hd : noDefer ⟨d, op, ty, p, af, some g⟩ = true) (ht : ∀ t, d = some t → t < n) (hw : wantE ops e ⟨d, op, ty, p, af, some g⟩ = some false)
    (h : TW P n ops R cl Q rest (e.putO d undef) H) : TW P n ops R cl Q ((i, ⟨d, op, ty, p, af, some g⟩) :: rest) e H := ⟨hd, ht, false, hw, h⟩
theorem TW_chainG {rest : List (Nat × Oper)} (hd : noDefer ⟨d, op, ty, p, af, some g⟩ = true) (ht : ∀ t, d = some t → t < n) (hw : wantE ops e ⟨d, op, ty, p, af, some g⟩ = some true) (hc : cl i = 2)
    (h : ∀ K : Env → Hp → Prop, (∀ e H, Le R H → TW P n ops R cl Q rest e H → K e H) → ∀ r, Lt P (execOp (ev e r) ⟨d, op, ty, p, af, some g⟩) H (fun nx H' => NextH P nx H' (fun v H'' => K (e.putO d v) H''))) :
    TW P n ops R cl Q ((i, ⟨d, op, ty, p, af, some g⟩) :: rest) e H :=
  ⟨hd, ht, true, hw, by rw [if_pos rfl, if_pos (by omega)]; exact fun r => h (fun e' H' => ∃ R', ((cl i = 2 → Le R H') ∧ (5 ≤ cl i → Le R' H') ∧ (cl i < 5 → R' = R) ∧ (cl i ≠ 5 → Le R R')) ∧ TW P n ops R' cl Q rest e' H') (fun e H hl hT => ⟨R, ⟨fun _ => hl, fun h5 => by omega, fun _ => rfl, fun _ => Le.refl _⟩, hT⟩) r⟩
theorem TW_pureG {rest : List (Nat × Oper)} (hd : noDefer ⟨d, op, ty, p, af, some g⟩ = true) (ht : ∀ t, d = some t → t < n) (hw : wantE ops e ⟨d, op, ty, p, af, some g⟩ = some true) (hc : cl i = 0) (v : Value)
    (h1 : ∀ r, Lt P (execOp (ev e r) ⟨d, op, ty, p, af, some g⟩) emptyHp (fun nx H' => nx = .value v ∧ Le emptyHp H')) (h : TW P n ops R cl Q rest (e.putO d v) H) :
    TW P n ops R cl Q ((i, ⟨d, op, ty, p, af, some g⟩) :: rest) e H :=
  ⟨hd, ht, true, hw, by rw [if_pos rfl, if_neg (by omega)]; exact ⟨v, by unfold Rof; rw [if_pos hc]; exact h1, h⟩⟩
theorem TW_lookG {rest : List (Nat × Oper)} (hd : noDefer ⟨d, op, ty, p, af, some g⟩ = true) (ht : ∀ t, d = some t → t < n) (hw : wantE ops e ⟨d, op, ty, p, af, some g⟩ = some true) (hc : cl i = 1) (v : Value)
    (h1 : ∀ r, Lt P (execOp (ev e r) ⟨d, op, ty, p, af, some g⟩) R (fun nx H' => nx = .value v ∧ Le R H')) (h : TW P n ops R cl Q rest (e.putO d v) H) :
    TW P n ops R cl Q ((i, ⟨d, op, ty, p, af, some g⟩) :: rest) e H :=
  ⟨hd, ht, true, hw, by rw [if_pos rfl, if_neg (by omega)]; exact ⟨v, by unfold Rof; rw [if_neg (by omega)]; exact h1, h⟩⟩
theorem zau {a b : Int} (h : a < b) : decide (a < b) = true := decide_eq_true h
theorem zaw {a b : Int} (h : ¬ a < b) : decide (a < b) = false := decide_eq_false h
theorem zat {a b : Int} (h : a ≤ b) : decide (a ≤ b) = true := decide_eq_true h
theorem zax {a b : Int} (h : ¬ a ≤ b) : decide (a ≤ b) = false := decide_eq_false h
theorem zas {a b : Int} (h : a = b) : decide (a = b) = true := decide_eq_true h
theorem zay {a b : Int} (h : ¬ a = b) : decide (a = b) = false := decide_eq_false h
end
end Go.Proofs.Ytjhohnbdhopllaa.HL
end
section
namespace Go.Proofs.Ytjhohnbdhopllaa.HL
open Go
set_option linter.unusedSimpArgs false
set_option linter.unusedVariables false
theorem i64_def (x : Int) : IntKind.i64.wrap x = if 9223372036854775808 ≤ x % 18446744073709551616 then x % 18446744073709551616 - 18446744073709551616 else x % 18446744073709551616 := by
  simp [IntKind.wrap, IntKind.signed, IntKind.bits]
theorem u64_def (x : Int) : IntKind.u64.wrap x = x % 18446744073709551616 := by simp [IntKind.wrap, IntKind.signed, IntKind.bits]
theorem u32_def (x : Int) : IntKind.u32.wrap x = x % 4294967296 := by simp [IntKind.wrap, IntKind.signed, IntKind.bits]
theorem u8_def (x : Int) : IntKind.u8.wrap x = x % 256 := by simp [IntKind.wrap, IntKind.signed, IntKind.bits]
theorem zaG (x : Int) (h1 : -9223372036854775808 ≤ x) (h2 : x ≤ 9223372036854775807) : IntKind.i64.wrap x = x := by
  rw [i64_def]; split <;> omega
theorem zaK (x : Int) (h1 : 0 ≤ x) (h2 : x ≤ 18446744073709551615) : IntKind.u64.wrap x = x := by rw [u64_def]; omega
theorem zaJ (x : Int) (h1 : 0 ≤ x) (h2 : x ≤ 4294967295) : IntKind.u32.wrap x = x := by rw [u32_def]; omega
theorem zaR (x : Int) (h1 : 0 ≤ x) (h2 : x ≤ 255) : IntKind.u8.wrap x = x := by rw [u8_def]; omega
end Go.Proofs.Ytjhohnbdhopllaa.HL
end
section
namespace Go.Proofs.Ytjhohnbdhopllaa.HL
open Go
set_option linter.unusedSimpArgs false
set_option linter.unusedVariables false
def Holds (H : Hp) (w : Nat) (v : Value) (n : Nat) (cs : List Value) : Prop :=
  n * w = cs.length ∧ ((∃ a cap, v = .slice a 0 cap ∧ n = 0) ∨
    ∃ b o cap c T f, v = .slice (some ⟨b, o, none⟩) n cap ∧ H b = some (.cells c T f) ∧ o + n * w ≤ c.size ∧ (c.extract o (o + n * w)).toList = cs)
theorem Holds.le {H H' : Hp} {w : Nat} {v : Value} {n : Nat} {cs : List Value} (h : Holds H w v n cs) (k : Le H H') : Holds H' w v n cs := by
  obtain ⟨h1, h2⟩ := h
  refine ⟨h1, h2.imp id ?_⟩
  rintro ⟨b, o, cap, c, T, f, h3, h4, h5⟩
  exact ⟨b, o, cap, c, T, f, h3, k _ _ h4, h5⟩
theorem Holds.form {H : Hp} {w : Nat} {v : Value} {n : Nat} {cs : List Value} (h : Holds H w v n cs) : ∃ a cap, v = .slice a n cap := by
  obtain ⟨_, ⟨a, cap, rfl, rfl⟩ | ⟨b, o, cap, c, T, f, rfl, _⟩⟩ := h <;> exact ⟨_, _, rfl⟩
theorem Holds.at {H : Hp} {w : Nat} {a : Option Addr} {n cap : Nat} {cs : List Value} (h : Holds H w (.slice a n cap) n cs) (hn : 0 < n) : ∃ b o c T f, a = some ⟨b, o, none⟩ ∧ H b = some (.cells c T f) ∧ o + n * w ≤ c.size ∧ ∀ j, j < n * w → c[o + j]? = cs[j]? := by
  obtain ⟨h1, ⟨a0, cap, h2, h3⟩ | ⟨b, o, cap, c, T, f, h2, h3, h4, h5⟩⟩ := h
  · omega
  · cases h2
    refine ⟨b, o, c, T, f, rfl, h3, h4, fun j hj => ?_⟩
    rw [← h5, Array.toList_extract, List.extract_eq_take_drop, List.getElem?_take_of_lt (by omega), List.getElem?_drop]
    simp
def OwnS (H : Hp) (E : TypeId) (w : Nat) (v : Value) (n : Nat) (cs : List Value) (rs : Option Nat) : Prop :=
  n * w = cs.length ∧ ((v = .slice none 0 0 ∧ n = 0 ∧ rs = none) ∨
    ∃ r cap c, v = .slice (some ⟨r, 0, none⟩) n cap ∧ H r = some (.cells c E) ∧ n ≤ cap ∧ c.size = cap * w ∧ (c.extract 0 (n * w)).toList = cs ∧ rs = some r)
theorem OwnS.holds {H : Hp} {E : TypeId} {w : Nat} {v : Value} {n : Nat} {cs : List Value} {rs : Option Nat} (h : OwnS H E w v n cs rs) : Holds H w v n cs := by
  obtain ⟨h1, h2⟩ := h
  refine ⟨h1, ?_⟩
  rcases h2 with ⟨h3, h4, _⟩ | ⟨r, cap, c, h3, h4, h5, h6, h7, _⟩
  · exact .inl ⟨none, 0, h3, h4⟩
  · refine .inr ⟨r, 0, cap, c, E, (0, 0), h3, h4, ?_, by simpa using h7⟩
    rw [h6]; have := Nat.mul_le_mul_right w h5; omega
theorem OwnS.nil (H : Hp) (E : TypeId) (w : Nat) : OwnS H E w (.slice none 0 0) 0 [] none := ⟨by simp, .inl ⟨rfl, rfl, rfl⟩⟩
def Grow (H : Hp) (rs : Option Nat) (H' : Hp) : Prop := H' = H ∨ ∃ r o, (rs = some r ∨ H r = none) ∧ H' = H.upd r o
theorem Grow.keep {H H' : Hp} {rs : Option Nat} (h : Grow H rs H') {b : Nat} {o : Obj} (hb : H b = some o) (hn : rs ≠ some b) : H' b = some o := by
  rcases h with rfl | ⟨r, o', h1, rfl⟩
  · exact hb
  · rw [zaE]; · exact hb
    intro e; subst e
    rcases h1 with h1 | h1
    · exact hn h1
    · rw [h1] at hb; cases hb
theorem Grow.le {H H' H0 : Hp} {rs : Option Nat} (h : Grow H rs H') (hl : Le H0 H) (hn : ∀ r, rs = some r → H0 r = none) : Le H0 H' := fun b o hb =>
  h.keep (hl b o hb) (fun e => by rw [hn b e] at hb; cases hb)
theorem OwnS.keep {H H' : Hp} {E : TypeId} {w : Nat} {v : Value} {n : Nat} {cs : List Value} {rs rs' : Option Nat} (h : OwnS H E w v n cs rs) (hg : Grow H rs' H') (hn : rs ≠ rs' ∨ rs = none) : OwnS H' E w v n cs rs := by
  obtain ⟨h1, h2⟩ := h
  refine ⟨h1, h2.imp id ?_⟩
  rintro ⟨r, cap, c, h3, h4, h5⟩
  refine ⟨r, cap, c, h3, hg.keep h4 ?_, h5⟩
  rcases hn with hn | hn
  · rw [h5.2.2.2] at hn; exact fun e => hn e.symm
  · rw [h5.2.2.2] at hn; cases hn
section
variable {P : Program} {H : Hp}
theorem l_info (t : TypeId) (K : TypeInfo → Hp → Prop) : Lt P (typeInfo t) H K = orF (P.info? t) (fun i => K i H) := by
  simp only [typeInfo, program, Bind.bind, Lt_bind, Lt]; cases P.info? t <;> rfl
theorem first_slice {w n : Nat} {v : Value} {cs : List Value} (h : Holds H w v n cs) (K : Array Value → Hp → Prop) : Lt P (Builtin.firstCells w n v) H K = K cs.toArray H := by
  obtain ⟨h1, ⟨a, cap, rfl, rfl⟩ | ⟨b, o, cap, c, T, f, rfl, hb, hn, hc⟩⟩ := h
  · have : cs = [] := by simpa using h1.symm
    subst this; cases a with
    | none => rfl
    | some a => simp only [Builtin.firstCells, Nat.zero_mul]; rfl
  · simp only [Builtin.firstCells, loadCells_lt hb o (n * w) hn]
    have : c.extract o (o + n * w) = cs.toArray := by rw [← hc]
    rw [this]
theorem growBy_le (L : Nat) : ∀ (k c : Nat), c ≤ 2 * L + 1000 → Builtin.growBy L k c ≤ 4 * L + 2000
  | 0, c, h => by simp only [Builtin.growBy]; omega
  | k + 1, c, h => by
    simp only [Builtin.growBy]
    split
    · omega
    · exact growBy_le L k _ (by omega)
theorem nextcap_le (L c : Nat) (h : c < L) : Builtin.nextslicecap L c ≤ 4 * L + 2000 := by
  unfold Builtin.nextslicecap
  split
  · omega
  · split
    · omega
    · exact growBy_le L 4 c (by omega)
theorem putCells_toList : ∀ (l : List Value) (c : Array Value) (o : Nat), o + l.length ≤ c.size → (putCells c o l).toList = c.toList.take o ++ l ++ c.toList.drop (o + l.length)
  | [], c, o, h => by simp [putCells]
  | v :: r, c, o, h => by
    simp only [List.length_cons] at h
    rw [putCells, putCells_toList r _ _ (by simp; omega)]
    have h1 : (c.setIfInBounds o v).toList = c.toList.take o ++ v :: c.toList.drop (o + 1) := by
      rw [Array.toList_setIfInBounds, List.set_eq_take_append_cons_drop, if_pos (by simp; omega)]
    have h2 : (c.toList.take o).length = o := by simp; omega
    have h3 : c.toList.drop (o + (r.length + 1)) = (c.toList.drop (o + 1)).drop r.length := by rw [List.drop_drop]; congr 1; omega
    rw [h1, List.length_cons, h3]
    generalize c.toList.take o = A at *
    generalize c.toList.drop (o + 1) = B at *
    subst h2
    have e1 : (A ++ v :: B).take (A.length + 1) = A ++ [v] := by
      rw [List.take_append, List.take_of_length_le (by omega)]
      have : A.length + 1 - A.length = 1 := by omega
      rw [this]; simp
    have e2 : (A ++ v :: B).drop (A.length + 1 + r.length) = B.drop r.length := by
      rw [List.drop_append, List.drop_eq_nil_of_le (by omega)]
      have : A.length + 1 + r.length - A.length = r.length + 1 := by omega
      rw [this]; simp
    rw [e1, e2]; simp
theorem putCells_extract (c : Array Value) (o : Nat) (l : List Value) (h : o + l.length ≤ c.size) : ((putCells c o l).extract 0 (o + l.length)).toList = (c.extract 0 o).toList ++ l := by
  rw [Array.toList_extract, putCells_toList l c o h, Array.toList_extract]
  simp only [List.extract_eq_take_drop, Nat.sub_zero, List.drop_zero]
  rw [List.take_append_of_le_length (by simp; omega), List.take_of_length_le (by simp; omega)]
theorem zeroCells_size (z : Array Value) (n : Nat) : (Builtin.zeroCells z n).size = n * z.size := by simp [Builtin.zeroCells]
theorem Lt_append {t1 t2 E : TypeId} {w by_ : Nat} {z : Value} {d2 : TypeDesc} (hu : P.underlying t1 = some (.slice E)) (hu2 : P.underlying t2 = some d2) (hd2 : ∀ k, d2 ≠ .int k) (hw : szOf P E = some w) (hby : byOf P E = some by_) (hby0 : 0 < by_)
    (hz : zrOf P E = some (some z)) (hzw : z.cells.size = w) (ty : TypeId) {v x : Value} {n m : Nat} {cs ds : List Value} {rs : Option Nat} (hv : OwnS H E w v n cs rs)
    (hlen : ∀ K : Nat → Hp → Prop, Lt P (Builtin.lenOf x) H K = K m H) (hx : ∀ K : Array Value → Hp → Prop, Lt P (Builtin.firstCells w m x) H K = K ds.toArray H) (hm : m * w = ds.length) (hp : PlainL ds)
    (hroom : (4 * (n + m) + 2000) * by_ ≤ 281474976710656) {K : Value → Hp → Prop}
    (h : ∀ v' H' rs', Grow H rs H' → OwnS H' E w v' (n + m) (cs ++ ds) rs' → (∀ r, rs' = some r → rs = some r ∨ H r = none) → K v' H') : Lt P (Builtin.append_ #[t1, t2] ty #[v, x]) H K := by
  obtain ⟨inf, hinf, hib⟩ : ∃ i, P.info? E = some i ∧ i.bytes = by_ := by
    unfold byOf at hby
    cases hi : P.info? E with
    | none => rw [hi] at hby; cases hby
    | some i => rw [hi] at hby; exact ⟨i, rfl, by simpa using hby⟩
  have hnot : (match d2 with | .int _ => true | _ => false) = false := by cases d2 <;> first | rfl | exact absurd rfl (hd2 _)
  obtain ⟨hn, hv⟩ := hv
  have hcase : ∃ (base : Option Addr) (sLen sCap : Nat), v = .slice base sLen sCap ∧ sLen = n ∧ n ≤ sCap ∧
      ((base = none ∧ n = 0 ∧ sCap = 0 ∧ rs = none) ∨ ∃ r c, base = some ⟨r, 0, none⟩ ∧ H r = some (.cells c E) ∧ c.size = sCap * w ∧ (c.extract 0 (n * w)).toList = cs ∧ rs = some r) := by
    rcases hv with ⟨rfl, rfl, h3⟩ | ⟨r, cap, c, rfl, h4, h5, h6, h7, h8⟩
    · exact ⟨none, 0, 0, rfl, rfl, Nat.le_refl _, .inl ⟨rfl, rfl, rfl, h3⟩⟩
    · exact ⟨_, n, cap, rfl, rfl, h5, .inr ⟨r, c, rfl, h4, h6, h7, h8⟩⟩
  obtain ⟨base, sLen, sCap, rfl, rfl, hcap, hb⟩ := hcase
  simp only [Builtin.append_, List.getElem?_toArray, List.getElem?_cons_zero, List.getElem?_cons_succ, zaD, l_und, hu, hu2, zai, l_size, hw, zaO, hnot, Bool.false_eq_true, if_false, hlen]
  by_cases hneed : sLen + m ≤ sCap
  · simp only [if_pos hneed, zaD, Bool.not_false, if_true, hx]
    rcases hb with ⟨rfl, h2, h3, h4⟩ | ⟨r, c, rfl, h5, h6, h7, h8⟩
    · subst h2; subst h3
      have hm0 : m = 0 := by omega
      subst hm0
      have hds : ds = [] := by simpa using hm.symm
      have hcs : cs = [] := by simpa using hn.symm
      subst hds; subst hcs
      simp only [zaD, zaO]
      exact h _ _ none (.inl rfl) (.nil _ _ _) (fun r hr => by cases hr)
    · simp only [zaD, zaA, Nat.zero_add]
      have hle : sLen * w + m * w ≤ c.size := by rw [h6, ← Nat.add_mul]; exact Nat.mul_le_mul_right w hneed
      have key := storeCells_lt (P := P) (b := r) (t := E) (f := (0, 0)) (o := sLen * w) ds 0 H c (fun _ H' => Lt P (pure (Value.slice (some ⟨r, 0, none⟩) (sLen + m) sCap)) H' K) h5 hp (by omega) (fun j _ _ => by omega)
      rw [key]
      simp only [zaO, Nat.add_zero]
      refine h _ _ (some r) (.inr ⟨r, _, .inl h8, rfl⟩) ⟨by rw [Nat.add_mul, List.length_append]; omega, .inr ⟨r, sCap, _, rfl, zap _ _ _, hneed, by simpa using h6, ?_, rfl⟩⟩ (fun r' hr' => by cases hr'; exact .inl h8)
      have e : (sLen + m) * w = sLen * w + ds.length := by rw [Nat.add_mul, hm]
      rw [e, putCells_extract c (sLen * w) ds (by omega), h7]
  · simp only [if_neg hneed]
    have hbytes : ¬ (((sLen + m : Nat) : Int) > IntKind.i64.max) := by
      have h1 : IntKind.i64.max = 9223372036854775807 := by decide
      rw [h1]
      have h2 : 4 * (sLen + m) + 2000 ≤ (4 * (sLen + m) + 2000) * by_ := Nat.le_mul_of_pos_right _ hby0
      omega
    have hcapb : ¬ (Builtin.nextslicecap (sLen + m) sCap * by_ > 2 ^ 48) := by
      have h1 := nextcap_le (sLen + m) sCap (by omega)
      have h2 := Nat.mul_le_mul_right by_ h1
      omega
    have hb0 : ¬ by_ = 0 := by omega
    have hfirst : ∀ (K : Array Value → Hp → Prop), Lt P (Builtin.firstCells w sLen (.slice base sLen sCap)) H K = K cs.toArray H := by
      intro K
      refine first_slice (n := sLen) ⟨hn, ?_⟩ K
      rcases hb with ⟨rfl, h2, h3, h4⟩ | ⟨r, c, rfl, h5, h6, h7, h8⟩
      · subst h2; exact .inl ⟨_, _, rfl, rfl⟩
      · exact .inr ⟨r, 0, sCap, c, E, (0, 0), rfl, h5, by rw [h6]; have := Nat.mul_le_mul_right w hcap; omega, by simpa using h7⟩
    simp only [zaD, l_info, hinf, zai, hib, if_neg (fun hh => hbytes hh.1 : ¬ (((sLen + m : Nat) : Int) > IntKind.i64.max ∧ (False ∨ by_ = 0))), if_neg hcapb]
    refine ⟨fun hf => by simp [Question.forced] at hf, fun _ t => ?_⟩
    generalize hnc : (Question.appendCap (sLen + m) sCap E).cut t = nc
    have hncge : sLen + m ≤ nc := by subst hnc; simp only [Question.cut]; omega
    have hask : ∀ (H : Hp) (K : Unit → Hp → Prop), Lt P (askRoom (nc * by_)) H K = K () H := by
      intro H K; unfold askRoom; split <;> rfl
    simp only [Sem.pure, l_pure', zaD, l_info, hinf, zai, hib, hask, hfirst, Bool.not_false, if_true, hx, l_zero, hz, l_newRow, zaO]
    intro r hr
    have hsz : (cs.toArray ++ ds.toArray ++ Builtin.zeroCells z.cells (nc - (sLen + m))).size = nc * w := by
      simp only [Array.size_append, zeroCells_size, hzw, List.size_toArray]
      rw [← hn, ← hm, ← Nat.add_mul, ← Nat.add_mul]; congr 1; omega
    refine h _ _ (some r) (.inr ⟨r, _, .inr hr, rfl⟩) ⟨by rw [Nat.add_mul, List.length_append]; omega, .inr ⟨r, nc, _, rfl, zap _ _ _, hncge, hsz, ?_, rfl⟩⟩ (fun r' hr' => by cases hr'; exact .inr hr)
    rw [Array.toList_extract, List.extract_eq_take_drop]
    simp only [Array.toList_append, Nat.sub_zero, List.drop_zero]
    have hl : (sLen + m) * w = (cs ++ ds).length := by rw [Nat.add_mul, List.length_append]; omega
    rw [hl, List.take_append_of_le_length (Nat.le_refl _), List.take_of_length_le (Nat.le_refl _)]
theorem Lt_appendRoom {t1 t2 E : TypeId} {w : Nat} {d2 : TypeDesc} (hu : P.underlying t1 = some (.slice E)) (hu2 : P.underlying t2 = some d2) (hd2 : ∀ k, d2 ≠ .int k) (hw : szOf P E = some w) (ty : TypeId) {b o n cap m : Nat} {c : Array Value} {T : TypeId} {f : Nat × Nat} {x : Value} {ds : List Value}
    (hb : H b = some (.cells c T f)) (hc : o + cap * w ≤ c.size) (hlen : ∀ K : Nat → Hp → Prop, Lt P (Builtin.lenOf x) H K = K m H) (hx : ∀ K : Array Value → Hp → Prop, Lt P (Builtin.firstCells w m x) H K = K ds.toArray H) (hm : m * w = ds.length) (hp : PlainL ds) (hf : f.2 ≤ f.1) (hroom : n + m ≤ cap) {K : Value → Hp → Prop}
    (h : K (.slice (some ⟨b, o, none⟩) (n + m) cap) (H.upd b (.cells (putCells c (o + n * w) ds) T f))) : Lt P (Builtin.append_ #[t1, t2] ty #[.slice (some ⟨b, o, none⟩) n cap, x]) H K := by
  have hnot : (match d2 with | .int _ => true | _ => false) = false := by cases d2 <;> first | rfl | exact absurd rfl (hd2 _)
  simp only [Builtin.append_, List.getElem?_toArray, List.getElem?_cons_zero, List.getElem?_cons_succ, zaD, l_und, hu, hu2, zai, l_size, hw, zaO, hnot, Bool.false_eq_true, if_false, hlen]
  simp only [if_pos hroom, zaD, Bool.not_false, if_true, hx, zaA]
  have hle : n * w + m * w ≤ cap * w := by rw [← Nat.add_mul]; exact Nat.mul_le_mul_right w hroom
  have key := storeCells_lt (P := P) (b := b) (t := T) (f := f) (o := o + n * w) ds 0 H c (fun _ H' => Lt P (pure (Value.slice (some ⟨b, o, none⟩) (n + m) cap)) H' K) hb hp (by omega) (fun j _ _ => by omega)
  rw [key]
  simp only [zaO, Nat.add_zero]
  exact h
theorem putCells_all (c : Array Value) (l : List Value) (h : l.length = c.size) : putCells c 0 l = l.toArray := by
  apply Array.ext'
  rw [putCells_toList _ _ _ (by omega), List.drop_eq_nil_of_le (by simp; omega)]; simp
theorem fill_one {place : Nat → Option (Nat × Nat)} {c : Array Value} {i off : Nat} {v : Value} {r : List (Nat × Value)} (hp : place i = some (off, 1)) (hv : v.cells = #[v]) (ho : off < c.size) : Instr.fill place c ((i, v) :: r) = Instr.fill place (c.setIfInBounds off v) r := by
  simp only [Instr.fill, hp, hv]
  rw [if_neg (by simp; omega)]
  simp [List.zipIdx]
theorem fill_nil {place : Nat → Option (Nat × Nat)} {c : Array Value} : Instr.fill place c [] = some c := rfl
theorem Lt_copy {t1 t2 E : TypeId} {w : Nat} (hu : P.underlying t1 = some (.slice E)) (hw : szOf P E = some w) (ty : TypeId) {b o dLen cap n : Nat} {c : Array Value} {T : TypeId} {f : Nat × Nat} {x : Value} {cs : List Value}
    (hb : H b = some (.cells c T f)) (hc : o + dLen * w ≤ c.size) (hlen : ∀ K : Nat → Hp → Prop, Lt P (Builtin.lenOf x) H K = K n H)
    (hx : ∀ K : Array Value → Hp → Prop, Lt P (Builtin.firstCells w (Nat.min n dLen) x) H K = K cs.toArray H) (hm : cs.length = Nat.min n dLen * w) (hp : PlainL cs) (hf : f.2 ≤ f.1) {K : Value → Hp → Prop}
    (h : K (.int .i64 (Nat.min n dLen : Nat)) (H.upd b (.cells (putCells c o cs) T f))) : Lt P (Builtin.copy_ #[t1, t2] ty #[.slice (some ⟨b, o, none⟩) dLen cap, x]) H K := by
  simp only [Builtin.copy_, List.getElem?_toArray, List.getElem?_cons_zero, List.getElem?_cons_succ, zaD, l_und, hu, zai, hlen, l_size, hw, hx]
  have hle : cs.length ≤ dLen * w := by rw [hm]; exact Nat.mul_le_mul_right w (Nat.min_le_right _ _)
  have key := storeCells_lt (P := P) (b := b) (t := T) (f := f) (o := o) cs 0 H c (fun _ H' => K (goInt (Nat.min n dLen : Nat)) H') hb hp (by omega) (fun j _ _ => by omega)
  simp only [zaO, zaD] at key ⊢
  rw [key]
  exact h
theorem len_slice (a : Option Addr) (n c : Nat) (K : Nat → Hp → Prop) : Lt P (Builtin.lenOf (.slice a n c)) H K = K n H := rfl
theorem first_holds {w n m : Nat} {v : Value} {cs : List Value} (h : Holds H w v n cs) (hm : m ≤ n) (K : Array Value → Hp → Prop) : Lt P (Builtin.firstCells w m v) H K = K (cs.take (m * w)).toArray H := by
  obtain ⟨h1, ⟨a, cap, rfl, rfl⟩ | ⟨b, o, cap, c, T, f, rfl, hb, hn, hc⟩⟩ := h
  · have : cs = [] := by simpa using h1.symm
    have hm0 : m = 0 := by omega
    subst this; subst hm0; cases a with
    | none => simp [Builtin.firstCells, zaO]
    | some a => simp only [Builtin.firstCells, Nat.zero_mul]; rfl
  · have h2 := Nat.mul_le_mul_right w hm
    simp only [Builtin.firstCells, loadCells_lt hb o (m * w) (by omega)]
    have : c.extract o (o + m * w) = (cs.take (m * w)).toArray := by
      rw [← hc]; apply Array.ext'
      simp only [Array.toList_extract, List.extract_eq_take_drop]
      rw [List.take_take]; congr 1; omega
    rw [this]
theorem len_holds {w n : Nat} {v : Value} {cs : List Value} (h : Holds H w v n cs) (K : Nat → Hp → Prop) : Lt P (Builtin.lenOf v) H K = K n H := by
  obtain ⟨_, ⟨a, cap, rfl, rfl⟩ | ⟨b, o, cap, c, T, f, rfl, _⟩⟩ := h <;> rfl
/-! ### addresses of elements, cuts -/
theorem Lt_indexS {t e : TypeId} {n : Nat} (hu : P.underlying t = some (.slice e)) (hw : szOf P e = some n) {a : Addr} {len cap : Nat} {k : IntKind} {i : Int} (h0 : 0 ≤ i) (h1 : i < len) {K : Value → Hp → Prop}
    (h : K (.pointer (some (a.add (i.toNat * n)))) H) : Lt P (Instr.indexAt t (.slice (some a) len cap) (.int k i)) H K := by
  rw [i_indexSlice t e hu a len cap k i h0 h1, hw, zai]; exact h
theorem Lt_indexA {t e : TypeId} {m n : Nat} (hu : P.underlying t = some (.array m e)) (hw : szOf P e = some n) {a : Addr} {k : IntKind} {i : Int} (h0 : 0 ≤ i) (h1 : i < m) {K : Value → Hp → Prop}
    (h : K (.pointer (some (a.add (i.toNat * n)))) H) : Lt P (Instr.indexAt t (.pointer (some a)) (.int k i)) H K := by
  rw [i_indexArray t e m hu a k i h0 h1, hw, zai]; exact h
theorem bound_some {k : IntKind} {i : Int} {d : Nat} (h : 0 ≤ i) : bound (some (.int k i)) d = some i.toNat := by simp [bound, h]
theorem zaU {d : Nat} : bound none d = some d := rfl
theorem Lt_sliceS {t e : TypeId} {s : Nat} (hu : P.underlying t = some (.slice e)) (hw : szOf P e = some s) {a : Option Addr} {len cap : Nat} {lo hi mx : Option Value} {l h m : Nat} (hm : bound mx cap = some m) (hh : bound hi len = some h) (hl : bound lo 0 = some l) (h1 : l ≤ h) (h2 : h ≤ m) (h3 : m ≤ cap) (h4 : mx.isSome = true → hi.isSome = true) {K : Value → Hp → Prop}
    (hK : K (.slice (if m = l then a else a.map (·.add (l * s))) (h - l) (m - l)) H) : Lt P (Instr.sliceAt t (.slice a len cap) lo hi mx) H K := by
  rw [i_sliceSlice t e hu a len cap lo hi mx l h m hm hh hl h1 (fun _ => h2) (fun hx => ⟨h3, h4 hx⟩), hw, zai]; exact hK
theorem Holds.slice {H : Hp} {w : Nat} {a : Option Addr} {n cap : Nat} {cs : List Value} (hh : Holds H w (.slice a n cap) n cs) {l h m : Nat} (h1 : l ≤ h) (h2 : h ≤ n) (h0 : h ≤ m) : Holds H w (.slice (if m = l then a else a.map (·.add (l * w))) (h - l) (m - l)) (h - l) ((cs.drop (l * w)).take ((h - l) * w)) := by
  obtain ⟨h3, ⟨a0, cap', h4, h5⟩ | ⟨b, o, cap', c, T, f, h4, h5, h6, h7⟩⟩ := hh
  · cases h4
    have : cs = [] := by simpa using h3.symm
    subst this
    have e0 : h - l = 0 := by omega
    refine ⟨by rw [e0]; simp, .inl ⟨(if m = l then a else a.map (·.add (l * w))), m - l, ?_, by omega⟩⟩
    rw [e0]
  · cases h4
    have hb := Nat.mul_le_mul_right w h2
    have hb1 := Nat.mul_le_mul_right w h1
    have hs : (h - l) * w = h * w - l * w := Nat.sub_mul h l w
    refine ⟨by rw [List.length_take, List.length_drop, ← h3, hs]; omega, .inr ?_⟩
    by_cases hm : m = l
    · by_cases he : h = l
      · subst he
        refine ⟨b, o, m - h, c, T, f, by rw [if_pos hm], h5, by simp; omega, ?_⟩
        simp
      · omega
    · refine ⟨b, o + l * w, m - l, c, T, f, by rw [if_neg hm]; simp [zaA], h5, by rw [hs]; omega, ?_⟩
      rw [← h7, Array.toList_extract, Array.toList_extract]
      simp only [List.extract_eq_take_drop]
      rw [List.drop_take, List.take_take, List.drop_drop, hs]
      congr 1
      omega
/-! ### a slice of elements that are written out -/
theorem fill_seq (w : Nat) : ∀ (vs : List Value) (k : Nat) (c : Array Value), (∀ v ∈ vs, v.cells.size = w) → k * w + vs.length * w ≤ c.size →
    Instr.fill (fun i => some (i * w, w)) c ((vs.zipIdx k).map fun (v, i) => (i, v)) = some (putCells c (k * w) (vs.flatMap fun v => v.cells.toList))
  | [], _, _, _, _ => rfl
  | v :: r, k, c, hv, hc => by
    have h1 := hv v (by simp)
    simp only [List.length_cons, Nat.add_mul, Nat.one_mul] at hc
    simp only [List.zipIdx_cons, List.map_cons, Instr.fill]
    rw [if_neg (by simp [h1]; omega)]
    have key : ∀ (l : List Value) (c : Array Value) (o j : Nat), (l.zipIdx j).foldl (fun cs (c, j) => cs.setIfInBounds (o + j) c) c = putCells c (o + j) l := by
      intro l
      induction l with
      | nil => intro c o j; rfl
      | cons u l ih => intro c o j; simp only [List.zipIdx_cons, List.foldl_cons, putCells]; rw [ih]; rfl
    have h2 : Array.foldl (fun cs (x : Value × Nat) => match x with | (c, j) => cs.setIfInBounds (k * w + j) c) c v.cells.zipIdx = putCells c (k * w) v.cells.toList := by
      rw [← Array.foldl_toList, Array.toList_zipIdx]
      exact key _ _ _ _
    rw [h2, fill_seq w r (k + 1) _ (fun u hu => hv u (by simp [hu])) (by rw [putCells_size, Nat.add_mul]; omega)]
    have h3 : ∀ (a b : List Value) (c : Array Value) (o : Nat), putCells (putCells c o a) (o + a.length) b = putCells c o (a ++ b) := by
      intro a
      induction a with
      | nil => intro b c o; rfl
      | cons u a ih => intro b c o; simp only [putCells, List.cons_append, List.length_cons]; rw [← ih]; congr 1; omega
    have h4 : (k + 1) * w = k * w + v.cells.toList.length := by rw [Nat.add_mul]; simp [h1]
    rw [h4, h3]; rfl
theorem Lt_buildSlice {t E : TypeId} {w : Nat} {z : Value} (hu : P.underlying t = some (.slice E)) (hw : szOf P E = some w) (hz : zrOf P E = some (some z)) (hzw : z.cells.size = w) (vs : List Value) (hv : ∀ v ∈ vs, v.cells.size = w) (hl : vs.length * w ≤ 16777216) {K : Value → Hp → Prop}
    (h : ∀ r, H r = none → K (.slice (some ⟨r, 0, none⟩) vs.length vs.length) (H.upd r (.cells (vs.flatMap fun v => v.cells.toList).toArray E))) : Lt P (Instr.buildSlice t vs.length (((vs.zipIdx 0).map fun (v, i) => (i, v)).toArray)) H K := by
  simp only [Instr.buildSlice, zaD, l_und, hu, zai, l_size, hw]
  rw [if_neg (by omega)]
  have hflat : (vs.flatMap fun v => v.cells.toList).length = vs.length * w := by
    clear h hl
    induction vs with
    | nil => simp
    | cons v r ih => simp only [List.flatMap_cons, List.length_append, List.length_cons, Nat.add_mul, Nat.one_mul]; rw [ih (fun u hu => hv u (by simp [hu]))]; have := hv v (by simp); simp [this]; omega
  have fin : ∀ c : Array Value, c.size = vs.length * w → Lt P (do
      let some cells := Instr.fill (fun i => some (i * w, w)) c (((vs.zipIdx 0).map fun (v, i) => (i, v)).toArray).toList | stuck "buildSlice: a part of the wrong size"
      pure (.slice (some (← newRow E cells)) vs.length vs.length)) H K := by
    intro c hc
    have := fill_seq w vs 0 c hv (by omega)
    simp only [Nat.zero_mul] at this
    simp only [List.toList_toArray, this, zaD, l_newRow, zaO]
    intro r hr
    have h1 := h r hr
    have e : putCells c 0 (vs.flatMap fun v => v.cells.toList) = (vs.flatMap fun v => v.cells.toList).toArray := by
      apply Array.ext'
      rw [putCells_toList _ c 0 (by omega), List.drop_eq_nil_of_le (by rw [hflat]; simp; omega)]; simp
    rw [e]; exact h1
  by_cases hn : vs.length * w = 0
  · simp only [if_pos hn, zaO, zaD]
    exact fin _ (by simp)
  · simp only [if_neg hn, zaD, l_zero, hz, zai, zaO]
    exact fin _ (by simp)
end
end Go.Proofs.Ytjhohnbdhopllaa.HL
end
section
namespace Go.Proofs.Ytjhohnbdhopllaa.HL
open Go
set_option linter.unusedSimpArgs false
set_option linter.unusedVariables false
abbrev u8s (l : List Int) : List Value := l.map (.int .u8 ·)
def ByteL (l : List Int) : Prop := ∀ x ∈ l, 0 ≤ x ∧ x ≤ 255
def strOf (l : List Int) : ByteArray := ⟨(l.map fun x => UInt8.ofNat x.toNat).toArray⟩
section
variable {P : Program} {H : Hp}
end
theorem Holds.length {H : Hp} {v : Value} {n : Nat} {cs : List Value} (h : Holds H 1 v n cs) : n = cs.length := by have := h.1; omega
end Go.Proofs.Ytjhohnbdhopllaa.HL
end
section
namespace Go.Proofs.Ytjhohnbdhopllaa.HL
open Go
set_option linter.unusedSimpArgs false
set_option linter.unusedVariables false
section
variable {P : Program} {H : Hp}
theorem l_isAggF (t : TypeId) (k : IntKind) (hu : P.underlying t = some (.int k)) (K : Bool → Hp → Prop) : Lt P (isAgg t) H K = K false H := by
  rw [l_isAgg, hu, zai]; rfl
theorem l_program (K : Program → Hp → Prop) : Lt P program H K = K P H := rfl
theorem g_agg (op : BinOp) (t : TypeId) (x y : Operand) (a b : Array Value) (h : P.eqGuardType P.depth t = false) (K : Unit → Hp → Prop) : Lt P (eqGuard op t x y (.agg a) (.agg b)) H K = K () H := by
  cases op <;> first | rfl | (simp [eqGuard, zaD, l_program, h, zaO])
end
end Go.Proofs.Ytjhohnbdhopllaa.HL
end
section
namespace Go.Proofs.Ytjhohnbdhopllaa.HL
open Go
set_option linter.unusedSimpArgs false
theorem base_at {R H : Hp} {b : Nat} {o : Obj} (e : R = H) (h : H b = some o) : R b = some o := by rw [e]; exact h
theorem le_of_base {R H H' : Hp} (e : R = H) (h : Le H H') : Le R H' := by rw [e]; exact h
def newB (P : Program) (o : Oper) : Bool :=
  match o.op, o.guard with
  | .alloc t, none => match zrOf P t with | some (some _) => true | _ => false
  | .buildSlice t n _, none => (match P.underlying t with | some (.slice e) => (match szOf P e with | some w => decide (n * w ≤ 16777216) && (decide (n * w = 0) || (match zrOf P e with | some (some _) => true | _ => false)) | none => false) | _ => false)
  | _, _ => false
theorem newB_alloc {P : Program} {d : Option Nat} {t ty : TypeId} {p : String} {af : Array Edge} (h : newB P ⟨d, .alloc t, ty, p, af, none⟩ = true) : NewOp P ⟨d, .alloc t, ty, p, af, none⟩ := by
  simp only [newB] at h
  cases hz : zrOf P t with
  | none => rw [hz] at h; cases h
  | some z =>
    cases z with
    | none => rw [hz] at h; cases h
    | some v =>
      refine ⟨fun y => rfl, fun ρ => .inl ⟨.cells v.cells t, fun r => .pointer (some ⟨r, 0, none⟩), fun H K => ?_⟩⟩
      rw [x_alloc, hz]; rfl
theorem newB_slice {P : Program} {d : Option Nat} {t n ty : Nat} {ps : Array (Nat × Operand)} {p : String} {af : Array Edge} (h : newB P ⟨d, .buildSlice t n ps, ty, p, af, none⟩ = true) : NewOp P ⟨d, .buildSlice t n ps, ty, p, af, none⟩ := by
  simp only [newB] at h
  cases hu : P.underlying t with
  | none => rw [hu] at h; cases h
  | some td =>
    rw [hu] at h
    cases td <;> try (cases h; done)
    rename_i e
    cases hs : szOf P e with
    | none => simp only [hs] at h; cases h
    | some w =>
      simp only [hs, Bool.and_eq_true, decide_eq_true_eq] at h
      obtain ⟨hle, hz⟩ := h
      refine ⟨fun y => rfl, fun ρ => ?_⟩
      have key : ∀ c0 : Array Value, (∀ (H : Hp) (K : Next → Hp → Prop), Lt P (execOp ρ ⟨d, .buildSlice t n ps, ty, p, af, none⟩) H K = Lt P (do
          let some cells := Instr.fill (fun i => some (i * w, w)) c0 (ps.map fun x => (x.1, ρ x.2)).toList | stuck "buildSlice: a part of the wrong size"
          pure (.slice (some (← newRow e cells)) n n)) H (fun v H' => K (.value v) H')) → ((∃ (ob : Obj) (f : Nat → Value), ∀ (H : Hp) (K : Next → Hp → Prop), Lt P (execOp ρ ⟨d, .buildSlice t n ps, ty, p, af, none⟩) H K = ∀ r, H r = none → K (.value (f r)) (H.upd r ob)) ∨ ∀ (H : Hp) (K : Next → Hp → Prop), ¬ Lt P (execOp ρ ⟨d, .buildSlice t n ps, ty, p, af, none⟩) H K) := by
        intro c0 he
        cases hf : Instr.fill (fun i => some (i * w, w)) c0 (ps.map fun x => (x.1, ρ x.2)).toList with
        | none =>
          right
          intro H K hx
          rw [he] at hx
          simp only [hf] at hx
          exact hx
        | some cells =>
          left
          refine ⟨.cells cells e, fun r => .slice (some ⟨r, 0, none⟩) n n, fun H K => ?_⟩
          rw [he]
          simp only [hf, zaD, l_newRow, zaO]
      by_cases h0 : n * w = 0
      · refine key ((Array.range (n * w)).map fun x => (#[] : Array Value)[x % (#[] : Array Value).size]!) (fun H K => ?_)
        rw [x_buildSlice]
        simp only [Instr.buildSlice, zaD, l_und, hu, zai, l_size, hs]
        rw [if_neg (by omega)]
        simp only [if_pos h0, zaO, zaD]
        rfl
      · have hz : (match zrOf P e with | some (some _) => true | _ => false) = true := by simpa [h0] using hz
        cases hzz : zrOf P e with
        | none => rw [hzz] at hz; cases hz
        | some zo =>
          cases zo with
          | none => rw [hzz] at hz; cases hz
          | some z =>
            refine key ((Array.range (n * w)).map fun x => z.cells[x % z.cells.size]!) (fun H K => ?_)
            rw [x_buildSlice]
            simp only [Instr.buildSlice, zaD, l_und, hu, zai, l_size, hs]
            rw [if_neg (by omega)]
            simp only [if_neg h0, zaD, l_zero, hzz, zai, zaO]
            rfl
theorem newB_ok {P : Program} {o : Oper} (h : newB P o = true) : NewOp P o := by
  obtain ⟨d, op, ty, p, af, g⟩ := o
  cases g with
  | some g => cases op <;> simp [newB] at h
  | none =>
    cases op with
    | alloc t => exact newB_alloc h
    | buildSlice t n ps => exact newB_slice h
    | _ => simp [newB] at h
def newsB (P : Program) (l : List Oper) (cls : List Nat) : Bool := (List.range l.length).all fun j => cls.getD j 0 != 4 || ((l[j]?).map (newB P)).getD false
theorem newsB_ok {P : Program} {l : List Oper} {cls : List Nat} (h : newsB P l cls = true) : ∀ j oj, l[j]? = some oj → cls.getD j 0 = 4 → NewOp P oj := by
  intro j oj hj hc
  simp only [newsB, List.all_eq_true, List.mem_range] at h
  have := h j (List.getElem?_eq_some_iff.1 hj).1
  rw [hc, hj] at this
  exact newB_ok (by simpa using this)
theorem CW_drawO {P : Program} {n : Nat} {rd : Option Nat} {Q : Ex → Env → Hp → Prop} {e : Env} {H : Hp} {id : Nat} {l : List Oper} (cls ord : List Nat) (R : Hp) (hm : P.follows .mixedOrders = true) (hok : (okT l.toArray (fun i => cls.getD i 0) ord && newsB P l cls && decide ((permL ord l).map (·.1) = ord) && decide (ord.length = l.length)) = true)
    (hR : Le R H) (h : TW P n l.toArray R (fun i => cls.getD i 0) (fun e H => Q .normal e H) (permL ord l) e H) : CW P n rd (.region id l.toArray true) Q e H := by
  simp only [Bool.and_eq_true, decide_eq_true_eq] at hok
  exact CW_draw cls ord R hm hok.1.1.1 (newsB_ok hok.1.1.2) hok.1.2 hok.2 hR h
theorem CW_drawE {P : Program} {n : Nat} {rd : Option Nat} {Q : Ex → Env → Hp → Prop} {e : Env} {H : Hp} {id : Nat} {l : List Oper} (cls ord : List Nat) (hm : P.follows .mixedOrders = true) (hok : (okT l.toArray (fun i => cls.getD i 0) ord && newsB P l cls && decide ((permL ord l).map (·.1) = ord) && decide (ord.length = l.length)) = true)
    (h : ∀ R : Hp, R = H → TW P n l.toArray R (fun i => cls.getD i 0) (fun e H => Q .normal e H) (permL ord l) e H) : CW P n rd (.region id l.toArray true) Q e H :=
  CW_drawO cls ord H hm hok (Le.refl _) (h H rfl)
theorem CW_drawR {P : Program} {n : Nat} {rd : Option Nat} {Q : Ex → Env → Hp → Prop} {e : Env} {H : Hp} {id : Nat} {l : List Oper} (cls ord : List Nat) (R : Hp) (hm : P.follows .mixedOrders = true) (hok : (okT l.toArray (fun i => cls.getD i 0) ord && newsB P l cls && decide ((permL ord l).map (·.1) = ord) && decide (ord.length = l.length)) = true)
    (hR : Le R H) (h : Le R H → TW P n l.toArray R (fun i => cls.getD i 0) (fun e H => Q .normal e H) (permL ord l) e H) : CW P n rd (.region id l.toArray true) Q e H :=
  CW_drawO cls ord R hm hok hR (h hR)
theorem le_put {R H : Hp} {b : Nat} {o : Obj} (h : Le R H) (hb : H b = some o) : Le (R.upd b o) H := by
  intro x o' hx
  by_cases e : x = b
  · subst e; rw [zap] at hx; cases hx; exact hb
  · rw [zaE _ _ e] at hx; exact h x o' hx
theorem plain_bool (b : Bool) : plainCell (.bool b) = true := rfl
theorem plain_string (b : ByteArray) : plainCell (.string b) = true := rfl
theorem plain_pointer (a : Option Addr) : plainCell (.pointer a) = true := rfl
theorem plain_map (a : Option Nat) : plainCell (.map a) = true := rfl
theorem plain_iface (t : TypeId) (v : Value) : plainCell (.iface t v) = true := rfl
theorem plain_nilIface : plainCell .nilIface = true := rfl
theorem plain_nilFunc : plainCell .nilFunc = true := rfl
theorem plain_func (f : Fn) (a b : Array Value) : plainCell (.func f a b) = true := rfl
end Go.Proofs.Ytjhohnbdhopllaa.HL
end
section
namespace Go.Proofs.Ytjhohnbdhopllaa.HL
open Go
theorem rfA {p : Prop} (h : p := by (first | rfl | trivial)) : p := h
theorem hbA {p : Prop} (h : p := by (first | (with_reducible assumption) | (with_reducible refine base_at (by assumption) ?_; (first | (with_reducible assumption) | (with_reducible exact zap _ _ _) | (((first | refine (zaE _ _ (by with_reducible first | assumption | exact Ne.symm (by assumption))).trans ?_ | refine (del_ne _ (by with_reducible first | assumption | exact Ne.symm (by assumption))).trans ?_)); (first | (with_reducible assumption) | (with_reducible exact zap _ _ _) | (((first | refine (zaE _ _ (by with_reducible first | assumption | exact Ne.symm (by assumption))).trans ?_ | refine (del_ne _ (by with_reducible first | assumption | exact Ne.symm (by assumption))).trans ?_)); (first | (with_reducible assumption) | (with_reducible exact zap _ _ _) | (((first | refine (zaE _ _ (by with_reducible first | assumption | exact Ne.symm (by assumption))).trans ?_ | refine (del_ne _ (by with_reducible first | assumption | exact Ne.symm (by assumption))).trans ?_)); (first | (with_reducible assumption) | (with_reducible exact zap _ _ _) | (((first | refine (zaE _ _ (by with_reducible first | assumption | exact Ne.symm (by assumption))).trans ?_ | refine (del_ne _ (by with_reducible first | assumption | exact Ne.symm (by assumption))).trans ?_)); (first | (with_reducible assumption) | (with_reducible exact zap _ _ _) | (((first | refine (zaE _ _ (by with_reducible first | assumption | exact Ne.symm (by assumption))).trans ?_ | refine (del_ne _ (by with_reducible first | assumption | exact Ne.symm (by assumption))).trans ?_)); (first | (with_reducible assumption) | (with_reducible exact zap _ _ _) | (((first | refine (zaE _ _ (by with_reducible first | assumption | exact Ne.symm (by assumption))).trans ?_ | refine (del_ne _ (by with_reducible first | assumption | exact Ne.symm (by assumption))).trans ?_)); (first | (with_reducible assumption) | (with_reducible exact zap _ _ _) | (((first | refine (zaE _ _ (by with_reducible first | assumption | exact Ne.symm (by assumption))).trans ?_ | refine (del_ne _ (by with_reducible first | assumption | exact Ne.symm (by assumption))).trans ?_)); (first | (with_reducible assumption) | (with_reducible exact zap _ _ _) | (((first | refine (zaE _ _ (by with_reducible first | assumption | exact Ne.symm (by assumption))).trans ?_ | refine (del_ne _ (by with_reducible first | assumption | exact Ne.symm (by assumption))).trans ?_)); (with_reducible assumption)))))))))))))))))) | (first | (with_reducible assumption) | (with_reducible exact zap _ _ _) | (((first | refine (zaE _ _ (by with_reducible first | assumption | exact Ne.symm (by assumption))).trans ?_ | refine (del_ne _ (by with_reducible first | assumption | exact Ne.symm (by assumption))).trans ?_)); (first | (with_reducible assumption) | (with_reducible exact zap _ _ _) | (((first | refine (zaE _ _ (by with_reducible first | assumption | exact Ne.symm (by assumption))).trans ?_ | refine (del_ne _ (by with_reducible first | assumption | exact Ne.symm (by assumption))).trans ?_)); (first | (with_reducible assumption) | (with_reducible exact zap _ _ _) | (((first | refine (zaE _ _ (by with_reducible first | assumption | exact Ne.symm (by assumption))).trans ?_ | refine (del_ne _ (by with_reducible first | assumption | exact Ne.symm (by assumption))).trans ?_)); (first | (with_reducible assumption) | (with_reducible exact zap _ _ _) | (((first | refine (zaE _ _ (by with_reducible first | assumption | exact Ne.symm (by assumption))).trans ?_ | refine (del_ne _ (by with_reducible first | assumption | exact Ne.symm (by assumption))).trans ?_)); (first | (with_reducible assumption) | (with_reducible exact zap _ _ _) | (((first | refine (zaE _ _ (by with_reducible first | assumption | exact Ne.symm (by assumption))).trans ?_ | refine (del_ne _ (by with_reducible first | assumption | exact Ne.symm (by assumption))).trans ?_)); (first | (with_reducible assumption) | (with_reducible exact zap _ _ _) | (((first | refine (zaE _ _ (by with_reducible first | assumption | exact Ne.symm (by assumption))).trans ?_ | refine (del_ne _ (by with_reducible first | assumption | exact Ne.symm (by assumption))).trans ?_)); (first | (with_reducible assumption) | (with_reducible exact zap _ _ _) | (((first | refine (zaE _ _ (by with_reducible first | assumption | exact Ne.symm (by assumption))).trans ?_ | refine (del_ne _ (by with_reducible first | assumption | exact Ne.symm (by assumption))).trans ?_)); (first | (with_reducible assumption) | (with_reducible exact zap _ _ _) | (((first | refine (zaE _ _ (by with_reducible first | assumption | exact Ne.symm (by assumption))).trans ?_ | refine (del_ne _ (by with_reducible first | assumption | exact Ne.symm (by assumption))).trans ?_)); (with_reducible assumption))))))))))))))))))) : p := h
theorem lhA {p : Prop} (h : p := by (first | (with_reducible assumption) | (first | with_reducible exact Le.refl _ | (with_reducible assumption) | (refine zal ?_ (by with_reducible assumption); (first | with_reducible exact Le.refl _ | (with_reducible assumption) | (refine zal ?_ (by with_reducible assumption); (first | with_reducible exact Le.refl _ | (with_reducible assumption) | (refine zal ?_ (by with_reducible assumption); (first | with_reducible exact Le.refl _ | (with_reducible assumption) | (refine zal ?_ (by with_reducible assumption); (first | with_reducible exact Le.refl _ | (with_reducible assumption) | (refine zal ?_ (by with_reducible assumption); (first | with_reducible exact Le.refl _ | (with_reducible assumption) | (refine zal ?_ (by with_reducible assumption); (first | with_reducible exact Le.refl _ | (with_reducible assumption) | (refine zal ?_ (by with_reducible assumption); (first | with_reducible exact Le.refl _ | (with_reducible assumption) | (refine zal ?_ (by with_reducible assumption); (first | with_reducible exact Le.refl _ | (with_reducible assumption) | (refine zal ?_ (by with_reducible assumption); (first | with_reducible exact Le.refl _ | (with_reducible assumption) | (refine zal ?_ (by with_reducible assumption); (first | with_reducible exact Le.refl _ | (with_reducible assumption) | (refine zal ?_ (by with_reducible assumption); (first | with_reducible exact Le.refl _ | (with_reducible assumption) | (refine zal ?_ (by with_reducible assumption); (with_reducible exact Le.refl _))))))))))))))))))))))))) | (with_reducible refine le_of_base (by assumption) ?_; (first | with_reducible exact Le.refl _ | (with_reducible assumption) | (refine zal ?_ (by with_reducible assumption); (first | with_reducible exact Le.refl _ | (with_reducible assumption) | (refine zal ?_ (by with_reducible assumption); (first | with_reducible exact Le.refl _ | (with_reducible assumption) | (refine zal ?_ (by with_reducible assumption); (first | with_reducible exact Le.refl _ | (with_reducible assumption) | (refine zal ?_ (by with_reducible assumption); (first | with_reducible exact Le.refl _ | (with_reducible assumption) | (refine zal ?_ (by with_reducible assumption); (first | with_reducible exact Le.refl _ | (with_reducible assumption) | (refine zal ?_ (by with_reducible assumption); (first | with_reducible exact Le.refl _ | (with_reducible assumption) | (refine zal ?_ (by with_reducible assumption); (first | with_reducible exact Le.refl _ | (with_reducible assumption) | (refine zal ?_ (by with_reducible assumption); (first | with_reducible exact Le.refl _ | (with_reducible assumption) | (refine zal ?_ (by with_reducible assumption); (first | with_reducible exact Le.refl _ | (with_reducible assumption) | (refine zal ?_ (by with_reducible assumption); (first | with_reducible exact Le.refl _ | (with_reducible assumption) | (refine zal ?_ (by with_reducible assumption); (first | with_reducible exact Le.refl _ | (with_reducible assumption) | (refine zal ?_ (by with_reducible assumption); (with_reducible exact Le.refl _)))))))))))))))))))))))))))) : p := h
theorem bdA {p : Prop} (h : p := by (first | (with_reducible assumption) | (simp [zeroCells_size, Value.cells]; done) | (simp [zeroCells_size, Value.cells]; omega) | omega)) : p := h
theorem plA {p : Prop} (h : p := by (first | with_reducible assumption | (show plainCell _ = true; rfl) | (with_reducible (repeat (first | exact PlainL.ints _ _ | exact PlainL.nil | apply PlainL.extract | apply PlainL.set | apply PlainL.putCells | apply PlainL.replicate | apply PlainL.append | apply PlainL.cons | exact plain_int _ _ | exact plain_slice _ _ _ | exact plain_pointer _ | exact plain_bool _ | exact plain_string _ | exact plain_iface _ _ | exact plain_nilIface | exact plain_nilFunc | exact plain_map _ | assumption)); done) | (simp only [List.toList_toArray]; (with_reducible (repeat (first | exact PlainL.ints _ _ | exact PlainL.nil | apply PlainL.extract | apply PlainL.set | apply PlainL.putCells | apply PlainL.replicate | apply PlainL.append | apply PlainL.cons | exact plain_int _ _ | exact plain_slice _ _ _ | exact plain_pointer _ | exact plain_bool _ | exact plain_string _ | exact plain_iface _ _ | exact plain_nilIface | exact plain_nilFunc | exact plain_map _ | exact plain_func _ _ | assumption)); done)) | (simp [plainCell]; done))) : p := h
theorem fzA {p : Prop} (h : p := by (first | decide | (simp; omega) | omega)) : p := h
theorem ldA {p : Prop} (h : p := by (first | (with_reducible assumption) | (simp only [List.getElem?_toArray, List.getElem?_cons_succ, List.getElem?_cons_zero]; done) | (simp only [List.getElem?_toArray, List.getElem?_cons_succ, List.getElem?_cons_zero]; rfl) | rfl)) : p := h
theorem ixA {p : Prop} (h : p := by (first | (with_reducible assumption) | omega | (simp; omega) | decide)) : p := h
theorem bxA {p : Prop} (h : p := by (first | (with_reducible assumption) | omega | (simp; done) | (simp; omega) | decide)) : p := h
theorem clA {p : Prop} (h : p := by (first | rfl | assumption)) : p := h
theorem bsA {p : Prop} (h : p := by (first | (simp [Value.cells]; done) | (intro v hv; simp at hv; subst hv; rfl))) : p := h
theorem leA {p : Prop} (h : p := by (first | with_reducible exact Le.refl _ | (exact lhA) | with_reducible exact le_empty _ | with_reducible exact le_del_upd _ _ _ | with_reducible exact le_del _ _ | with_reducible assumption | (exact zal (le_del _ _) (by simp [Hp.del, *])) | (exact zal (zal (le_del _ _) (by simp [Hp.del, *])) (by simp [Hp.del, *])) | (exact zal (zal (zal (le_del _ _) (by simp [Hp.del, *])) (by simp [Hp.del, *])) (by simp [Hp.del, *])))) : p := h
theorem cnA {q p : Prop} (c : q) (h : q → p := by (intro c; (first | (cases c; done) | (simp at c; done) | (simp at c; omega)))) : p := h c
end Go.Proofs.Ytjhohnbdhopllaa.HL
end
section
namespace Go.Proofs.Ytjhohnbdhopllaa.HL
open Go
set_option linter.unusedSimpArgs false
set_option linter.unusedVariables false
def errVT (T : TypeId) : Option Int → Value
  | none => .nilIface
  | some k => .iface T (.int .i64 k)
theorem g_err {P : Program} {H : Hp} (op : BinOp) (t : TypeId) (x : Operand) (c : Value) (T : TypeId) (o : Option Int) (K : Unit → Hp → Prop) : Lt P (eqGuard op t x (.const c) (errVT T o) .nilIface) H K = K () H := by
  cases o with
  | none => exact g_nil_r op t x c K
  | some k => exact g_iface op t x (.const c) T _ _ K
theorem b_err_neq {P : Program} {H : Hp} (t : TypeId) (ms : Array (String × TypeId)) (hu : P.underlying t = some (.interface ms)) (T : TypeId) (o : Option Int) (K : Value → Hp → Prop) : Lt P (binOp .neq t (errVT T o) .nilIface) H K = K (.bool o.isSome) H := by
  cases o with
  | none => show Lt P (binOp .neq t .nilIface .nilIface) H K = _; rw [e_neq _ _ _ _ (by simp), q_equal, q_nil_nil _ t ms hu]; rfl
  | some k => show Lt P (binOp .neq t (.iface T (.int .i64 k)) .nilIface) H K = _; rw [e_neq _ _ _ _ (by simp), q_equal, q_iface_nil _ t ms hu]; rfl
theorem b_err_eql {P : Program} {H : Hp} (t : TypeId) (ms : Array (String × TypeId)) (hu : P.underlying t = some (.interface ms)) (T : TypeId) (o : Option Int) (K : Value → Hp → Prop) : Lt P (binOp .eql t (errVT T o) .nilIface) H K = K (.bool o.isNone) H := by
  cases o with
  | none => show Lt P (binOp .eql t .nilIface .nilIface) H K = _; rw [e_eql _ _ _ _ (by simp), q_equal, q_nil_nil _ t ms hu]; rfl
  | some k => show Lt P (binOp .eql t (.iface T (.int .i64 k)) .nilIface) H K = _; rw [e_eql _ _ _ _ (by simp), q_equal, q_iface_nil _ t ms hu]; rfl
theorem Lt_loadAll {P : Program} {H : Hp} {t : TypeId} {n : Nat} {td : TypeDesc} (hu : P.underlying t = some td) (ha : isAggD td = true) (hs : szOf P t = some n) {b : Nat} {c : Array Value} {T : TypeId} {f : Nat × Nat} (hb : H b = some (.cells c T f)) (ho : c.size = n) {K : Value → Hp → Prop}
    (h : K (.agg c) H) : Lt P (Instr.loadAt t (.pointer (some ⟨b, 0, none⟩))) H K := by
  refine zaS hu ha hs hb (by omega) ?_
  have : c.extract 0 (0 + n) = c := by rw [← ho]; simp
  rw [this]; exact h
theorem OwnS.upd {H : Hp} {E : TypeId} {w : Nat} {v : Value} {n : Nat} {cs : List Value} {rs : Option Nat} (h : OwnS H E w v n cs rs) {b : Nat} {o : Obj} (hb : rs ≠ some b) : OwnS (H.upd b o) E w v n cs rs := by
  obtain ⟨h1, h2⟩ := h
  refine ⟨h1, h2.imp id ?_⟩
  rintro ⟨r, cap, c, h3, h4, h5, h6, h7, rfl⟩
  exact ⟨r, cap, c, h3, by rw [zaE _ _ (fun e => hb (by rw [e]))]; exact h4, h5, h6, h7, rfl⟩
theorem OwnS.ne_fresh {H : Hp} {E : TypeId} {w : Nat} {v : Value} {n : Nat} {cs : List Value} {rs : Option Nat} (h : OwnS H E w v n cs rs) {b : Nat} (hb : H b = none) : rs ≠ some b := by
  obtain ⟨h1, ⟨_, _, rfl⟩ | ⟨r, cap, c, h3, h4, h5, h6, h7, rfl⟩⟩ := h
  · intro e; cases e
  · intro e; cases e; rw [h4] at hb; cases hb
theorem OwnS.make {H : Hp} {E : TypeId} {w : Nat} {v : Value} {n : Nat} {cs : List Value} {rs : Option Nat} (h : OwnS H E w v n cs rs) {b : Nat} {o : Obj} (hb : H b = none) : OwnS (H.upd b o) E w v n cs rs := h.upd (h.ne_fresh hb)
theorem OwnS.le {H H' : Hp} {E : TypeId} {w : Nat} {v : Value} {n : Nat} {cs : List Value} {rs : Option Nat} (h : OwnS H E w v n cs rs) (hl : Le H H') : OwnS H' E w v n cs rs := by
  obtain ⟨h1, h2⟩ := h
  refine ⟨h1, h2.imp id ?_⟩
  rintro ⟨r, cap, c, h3, h4, h5⟩
  exact ⟨r, cap, c, h3, hl _ _ h4, h5⟩
theorem setL0 ( v x : Value) (l : List Value) : (List.toArray (v :: l)).setIfInBounds 0 x = List.toArray (x :: l) := by simp
theorem setL1 (a0 v x : Value) (l : List Value) : (List.toArray (a0 :: v :: l)).setIfInBounds 1 x = List.toArray (a0 :: x :: l) := by simp
theorem setL2 (a0 a1 v x : Value) (l : List Value) : (List.toArray (a0 :: a1 :: v :: l)).setIfInBounds 2 x = List.toArray (a0 :: a1 :: x :: l) := by simp
theorem setL3 (a0 a1 a2 v x : Value) (l : List Value) : (List.toArray (a0 :: a1 :: a2 :: v :: l)).setIfInBounds 3 x = List.toArray (a0 :: a1 :: a2 :: x :: l) := by simp
theorem setL4 (a0 a1 a2 a3 v x : Value) (l : List Value) : (List.toArray (a0 :: a1 :: a2 :: a3 :: v :: l)).setIfInBounds 4 x = List.toArray (a0 :: a1 :: a2 :: a3 :: x :: l) := by simp
theorem setL5 (a0 a1 a2 a3 a4 v x : Value) (l : List Value) : (List.toArray (a0 :: a1 :: a2 :: a3 :: a4 :: v :: l)).setIfInBounds 5 x = List.toArray (a0 :: a1 :: a2 :: a3 :: a4 :: x :: l) := by simp
theorem setL6 (a0 a1 a2 a3 a4 a5 v x : Value) (l : List Value) : (List.toArray (a0 :: a1 :: a2 :: a3 :: a4 :: a5 :: v :: l)).setIfInBounds 6 x = List.toArray (a0 :: a1 :: a2 :: a3 :: a4 :: a5 :: x :: l) := by simp
theorem setL7 (a0 a1 a2 a3 a4 a5 a6 v x : Value) (l : List Value) : (List.toArray (a0 :: a1 :: a2 :: a3 :: a4 :: a5 :: a6 :: v :: l)).setIfInBounds 7 x = List.toArray (a0 :: a1 :: a2 :: a3 :: a4 :: a5 :: a6 :: x :: l) := by simp
theorem setL8 (a0 a1 a2 a3 a4 a5 a6 a7 v x : Value) (l : List Value) : (List.toArray (a0 :: a1 :: a2 :: a3 :: a4 :: a5 :: a6 :: a7 :: v :: l)).setIfInBounds 8 x = List.toArray (a0 :: a1 :: a2 :: a3 :: a4 :: a5 :: a6 :: a7 :: x :: l) := by simp
theorem setL9 (a0 a1 a2 a3 a4 a5 a6 a7 a8 v x : Value) (l : List Value) : (List.toArray (a0 :: a1 :: a2 :: a3 :: a4 :: a5 :: a6 :: a7 :: a8 :: v :: l)).setIfInBounds 9 x = List.toArray (a0 :: a1 :: a2 :: a3 :: a4 :: a5 :: a6 :: a7 :: a8 :: x :: l) := by simp
theorem Lt_storeAll {P : Program} {H : Hp} {t : TypeId} {vs : Array Value} {n : Nat} (hs : szOf P t = some n) (hvs : vs.size = n) {b : Nat} {c : Array Value} {T : TypeId} {f : Nat × Nat} (hb : H b = some (.cells c T f)) (ho : vs.size = c.size) (hv : PlainL vs.toList) (hf : f.2 ≤ f.1) {K : Unit → Hp → Prop}
    (h : K () (H.upd b (.cells vs T f))) : Lt P (Instr.storeAt t (.pointer (some ⟨b, 0, none⟩)) (.agg vs)) H K := by
  refine Lt_storeAtA hs hvs hb (by omega) hv hf ?_
  rw [putCells_all _ _ (by simpa using ho)]
  exact h
end Go.Proofs.Ytjhohnbdhopllaa.HL
end
section
namespace Go.Proofs.Ytjhohnbdhopllaa.HL
open Go
set_option linter.unusedSimpArgs false
set_option linter.unusedVariables false
section
variable {P : Program} {H : Hp} {e : Env} {r : Nat → Value} {d : Option Nat} {ty : TypeId} {p : String} {af : Array Edge} {g : Option (Nat × Bool)}
theorem x_callE {f : FuncId} {fn : Func} {en : Array Value → Sem Value} (hf : P.funcs[f]? = some fn) (hname : (fn.name == "runtime.NumGoroutine") = false) (hb : fn.body.isNone = true) (hn : Extern.findNext fn = none) (he : Extern.find fn = some en)
    (args : Array Operand) (ts : Array TypeId) (K : Next → Hp → Prop) : Lt P (execOp (ev e r) ⟨d, .call ⟨.value (.func f), args, ts⟩, ty, p, af, g⟩) H K = Lt P (en (args.map (ev e r))) H (fun v H' => K (.value v) H') := by
  rw [x_call]
  show Lt P (callFunc f ((#[] ++ args.map (ev e r)) ++ #[])) H K = _
  have h1 : fn.name ≠ "runtime.NumGoroutine" := by simpa using hname
  have h2 : fn.body = none := by simpa using hb
  simp only [callFunc, program, Bind.bind, Lt_bind, Lt, hf, hname, hb, hn, he, Bool.false_eq_true, if_false, if_true, mark]
  simp [zaD, zaO]
theorem q_struct2 (D : Nat) (t : TypeId) {f0 f1 : Field} (hu : P.underlying t = some (.struct #[f0, f1])) (hst : P.stoodInHeld t = false) (h0 : (f0.name ≠ "_") ∧ f0.offset = 0) (h1 : (f1.name ≠ "_") ∧ f1.offset = 1) {k0 k1 : IntKind} (u0 : P.underlying f0.type = some (.int k0)) (u1 : P.underlying f1.type = some (.int k1))
    (a0 a1 b0 b1 : Int) (K : Bool → Hp → Prop) :
    Lt P (Op.equalIn (D + 2) t (.agg #[.int k0 a0, .int k1 a1]) (.agg #[.int k0 b0, .int k1 b1])) H K = K (decide (a0 = b0) && decide (a1 = b1)) H := by
  have p0 : ∀ (x y : Value) (K : Value → Hp → Prop), Lt P (part f0.type #[x, y] f0.offset) H K = K x H := by
    intro x y K
    simp only [part, zaD, l_isAggF f0.type k0 u0, Bool.false_eq_true, if_false, h0.2]; rfl
  have p1 : ∀ (x y : Value) (K : Value → Hp → Prop), Lt P (part f1.type #[x, y] f1.offset) H K = K y H := by
    intro x y K
    simp only [part, zaD, l_isAggF f1.type k1 u1, Bool.false_eq_true, if_false, h1.2]; rfl
  have q0 : ∀ (x y : Int) (K : Bool → Hp → Prop), Lt P (Op.equalIn (D + 1) f0.type (.int k0 x) (.int k0 y)) H K = K (decide (x = y)) H := fun x y K => q_int D f0.type _ u0 k0 x y K
  have q1 : ∀ (x y : Int) (K : Bool → Hp → Prop), Lt P (Op.equalIn (D + 1) f1.type (.int k1 x) (.int k1 y)) H K = K (decide (x = y)) H := fun x y K => q_int D f1.type _ u1 k1 x y K
  rw [Op.equalIn]
  simp only [zaD, l_und, hu, zai, l_program, hst, Bool.false_eq_true, if_false]
  simp [h0.1, h1.1, zaD, p0, p1, q0, q1]
  by_cases ha : a0 = b0 <;> by_cases hb : a1 = b1 <;> simp [ha, hb, zaO, zaD, p0, p1, q0, q1]
end
theorem ints_at {kd : IntKind} {l : List Int} {c : Array Value} {o n : Nat} (h : ∀ j, j < n * 1 → c[o + j]? = (l.map (.int kd ·))[j]?) (hn : n = l.length) (i : Nat) (hi : i < l.length) : c[o + i]? = some (.int kd (l.getD i 0)) := by
  rw [h i (by omega)]
  simp [List.getElem?_eq_getElem hi, List.getD_eq_getElem?_getD]
abbrev i64s (l : List Int) : List Value := l.map (.int .i64 ·)
def I64L (l : List Int) : Prop := ∀ x ∈ l, -9223372036854775808 ≤ x ∧ x ≤ 9223372036854775807
theorem I64L.at {l : List Int} (h : I64L l) (i : Nat) : -9223372036854775808 ≤ l.getD i 0 ∧ l.getD i 0 ≤ 9223372036854775807 := by
  by_cases hi : i < l.length
  · rw [List.getD_eq_getElem?_getD, List.getElem?_eq_getElem hi]; exact h _ (List.getElem_mem hi)
  · rw [List.getD_eq_getElem?_getD, List.getElem?_eq_none (by omega)]; simp
end Go.Proofs.Ytjhohnbdhopllaa.HL
end
section
namespace Go.Proofs.Ytjhohnbdhopllaa.HL
open Go
set_option linter.unusedSimpArgs false
set_option linter.unusedVariables false
abbrev CK := Option IntKind
def fitC : CK → Value → Prop
  | none, v => ∃ b, v = .bool b
  | some k, v => ∃ n, v = .int k n
def Fit (ks : List CK) (vs : List Value) : Prop := vs.length = ks.length ∧ ∀ (i : Nat) (k : CK) (v : Value), ks[i]? = some k → vs[i]? = some v → fitC k v
noncomputable def eqV (xs ys : List Value) : Bool := @decide (xs = ys) (Classical.propDecidable _)
theorem eqV_iff {xs ys : List Value} : eqV xs ys = true ↔ xs = ys := by unfold eqV; exact @decide_eq_true_iff _ (Classical.propDecidable _)
theorem eqV_of {xs ys : List Value} {p : Prop} [Decidable p] (h : xs = ys ↔ p) : eqV xs ys = decide p := by
  rw [Bool.eq_iff_iff, eqV_iff, h]; simp
theorem Fit.cut {a b : List CK} {vs : List Value} (h : Fit (a ++ b) vs) : Fit a (vs.take a.length) ∧ Fit b (vs.drop a.length) := by
  obtain ⟨h1, h2⟩ := h
  rw [List.length_append] at h1
  refine ⟨⟨by rw [List.length_take]; omega, fun i k v hk hv => ?_⟩, ⟨by rw [List.length_drop]; omega, fun i k v hk hv => ?_⟩⟩
  · have hi : i < a.length := (List.getElem?_eq_some_iff.1 hk).1
    rw [List.getElem?_take_of_lt hi] at hv
    exact h2 i k v (by rw [List.getElem?_append_left hi]; exact hk) hv
  · rw [List.getElem?_drop] at hv
    exact h2 (a.length + i) k v (by rw [List.getElem?_append_right (by omega)]; simpa using hk) hv
def fieldsK (g : TypeId → Option (List CK)) : Nat → List Field → Option (List CK)
  | _, [] => some []
  | off, f :: r => if f.name = "_" ∨ f.offset ≠ off then none else (g f.type).bind fun k => (fieldsK g (off + k.length) r).map (k ++ ·)
def flatK (P : Program) : Nat → TypeId → Option (List CK)
  | 0, _ => none
  | d + 1, t =>
    match P.underlying t with
    | some .bool => some [none]
    | some (.int k) => some [some k]
    | some (.struct fs) => if P.stoodInHeld t = true then none else fieldsK (fun t => (flatK P d t).bind fun k => if szOf P t = some k.length then some k else none) 0 fs.toList
    | _ => none
def wrapT (P : Program) (t : TypeId) (vs : List Value) : Value := if (P.underlying t).any isAggD = true then .agg vs.toArray else vs.getD 0 undef
section
variable {P : Program}
theorem flat_scalar {d : Nat} {t : TypeId} {ks : List CK} (h : flatK P d t = some ks) (hs : (P.underlying t).any isAggD = false) : ks.length = 1 := by
  cases d with
  | zero => cases h
  | succ d =>
    unfold flatK at h
    cases hu : P.underlying t with
    | none => rw [hu] at h; cases h
    | some td =>
      rw [hu] at h hs
      cases td <;> simp at h
      · subst h; rfl
      · subst h; rfl
      · simp [isAggD] at hs
theorem part_flat {d : Nat} {t : TypeId} {ks : List CK} (h : flatK P d t = some ks) (hz : szOf P t = some ks.length) (X : List Value) (off : Nat) (ho : off + ks.length ≤ X.length) (H : Hp) (K : Value → Hp → Prop) :
    Lt P (part t X.toArray off) H K = K (wrapT P t ((X.drop off).take ks.length)) H := by
  have hd : ∃ td, P.underlying t = some td := by
    cases d with
    | zero => cases h
    | succ d =>
      unfold flatK at h
      cases hu : P.underlying t with
      | none => rw [hu] at h; cases h
      | some td => exact ⟨td, rfl⟩
  obtain ⟨td, hu⟩ := hd
  by_cases ha : isAggD td = true
  · simp only [part, zaD, l_isAgg, hu, zai, ha, if_true, l_size, hz, zaO, wrapT, Option.any_some]
    congr 2
    apply Array.ext'
    rw [Array.toList_extract, List.extract_eq_take_drop]
    simp
  · have ha' : isAggD td = false := by simpa using ha
    have h1 := flat_scalar h (by rw [hu]; exact ha')
    simp only [part, zaD, l_isAgg, hu, zai, ha', Bool.false_eq_true, if_false, wrapT, Option.any_some]
    have h2 : X.toArray[off]? = some (X[off]'(by omega)) := by simp
    rw [h2]
    have h3 : ((X.drop off).take ks.length).getD 0 undef = X[off]'(by omega) := by
      rw [h1, List.getD_eq_getElem?_getD, List.getElem?_take_of_lt (by omega), List.getElem?_drop, Nat.add_zero, List.getElem?_eq_getElem (by omega)]
      rfl
    rw [h3]; rfl
theorem all_loop' {α σ : Type} {H : Hp} (s0 s1 : σ) (cond : α → Bool) (g : α → σ → Sem (ForInStep σ)) : ∀ (l : List α), (∀ i ∈ l, ∀ K : ForInStep σ → Hp → Prop, Lt P (g i s0) H K = if cond i then K (.yield s0) H else K (.done s1) H) →
    ∀ K : σ → Hp → Prop, Lt P (forIn l s0 g) H K = K (if l.all cond then s0 else s1) H
  | [], _, K => by simp [zaO]
  | i :: r, h, K => by
    simp only [List.forIn_cons, zaD, h i (by simp), List.all_cons]
    by_cases hc : cond i = true
    · simp only [hc, if_true, Bool.true_and]
      exact all_loop' s0 s1 cond g r (fun j hj => h j (by simp [hj])) K
    · have hc' : cond i = false := by simpa using hc
      simp [hc', zaO]
theorem fields_mem {g : TypeId → Option (List CK)} : ∀ {fs : List Field} {off : Nat} {ks : List CK}, fieldsK g off fs = some ks → ∀ f ∈ fs, f.name ≠ "_" ∧ ∃ k, g f.type = some k ∧ off ≤ f.offset ∧ f.offset + k.length ≤ off + ks.length ∧ ∀ vs, Fit ks vs → Fit k ((vs.drop (f.offset - off)).take k.length)
  | [], _, _, _, f, hf => by cases hf
  | f0 :: r, off, ks, h, f, hf => by
    unfold fieldsK at h
    split at h
    · cases h
    · rename_i hn
      simp only [not_or, Decidable.not_not] at hn
      obtain ⟨k, hk, h⟩ := Option.bind_eq_some_iff.1 h
      obtain ⟨ks', hks, rfl⟩ := Option.map_eq_some_iff.1 h
      rcases List.mem_cons.1 hf with rfl | hf
      · refine ⟨hn.1, k, hk, by omega, by rw [List.length_append]; omega, fun vs hv => ?_⟩
        rw [hn.2, Nat.sub_self, List.drop_zero]
        exact hv.cut.1
      · obtain ⟨h1, k', hk', h2, h3, h4⟩ := fields_mem hks f hf
        refine ⟨h1, k', hk', by omega, by rw [List.length_append]; omega, fun vs hv => ?_⟩
        have := h4 _ hv.cut.2
        rw [List.drop_drop] at this
        have e : k.length + (f.offset - (off + k.length)) = f.offset - off := by omega
        rw [e] at this; exact this
theorem fields_all {g : TypeId → Option (List CK)} (xs ys : List Value) : ∀ {fs : List Field} {off : Nat} {ks : List CK}, fieldsK g off fs = some ks → xs.length = off + ks.length → ys.length = off + ks.length →
    fs.all (fun f => eqV ((xs.drop f.offset).take ((g f.type).getD []).length) ((ys.drop f.offset).take ((g f.type).getD []).length)) = eqV (xs.drop off) (ys.drop off)
  | [], off, ks, h, hx, hy => by
    cases h
    simp at hx hy
    rw [List.drop_eq_nil_of_le (by omega), List.drop_eq_nil_of_le (by omega)]; exact (eqV_iff.2 rfl).symm
  | f0 :: r, off, ks, h, hx, hy => by
    unfold fieldsK at h
    split at h
    · cases h
    · rename_i hn
      simp only [not_or, Decidable.not_not] at hn
      obtain ⟨k, hk, h⟩ := Option.bind_eq_some_iff.1 h
      obtain ⟨ks', hks, rfl⟩ := Option.map_eq_some_iff.1 h
      rw [List.length_append] at hx hy
      rw [List.all_cons, fields_all xs ys hks (by omega) (by omega), hn.2, hk]
      simp only [Option.getD_some]
      rw [Bool.eq_iff_iff]
      simp only [Bool.and_eq_true, eqV_iff]
      constructor
      · rintro ⟨e1, e2⟩
        rw [← List.take_append_drop k.length (xs.drop off), ← List.take_append_drop k.length (ys.drop off), e1, List.drop_drop, List.drop_drop, e2]
      · intro e
        rw [e]
        refine ⟨rfl, ?_⟩
        have := congrArg (List.drop k.length) e
        rw [List.drop_drop, List.drop_drop] at this
        exact this
theorem q_flat : ∀ (d : Nat) (t : TypeId) (ks : List CK), flatK P d t = some ks → ∀ D, d ≤ D → ∀ xs ys, Fit ks xs → Fit ks ys → ∀ (H : Hp) (K : Bool → Hp → Prop), Lt P (Op.equalIn D t (wrapT P t xs) (wrapT P t ys)) H K = K (eqV xs ys) H
  | 0, t, ks, h, _, _, _, _, _, _, _, _ => by cases h
  | d + 1, t, ks, h, D, hD, xs, ys, fx, fy, H, K => by
    obtain ⟨D', rfl⟩ : ∃ D', D = D' + 1 := ⟨D - 1, by omega⟩
    unfold flatK at h
    cases hu : P.underlying t with
    | none => rw [hu] at h; cases h
    | some td =>
      rw [hu] at h
      cases td <;> simp at h
      · subst h
        obtain ⟨x, rfl⟩ : ∃ x, xs = [x] := List.length_eq_one_iff.1 fx.1
        obtain ⟨y, rfl⟩ : ∃ y, ys = [y] := List.length_eq_one_iff.1 fy.1
        obtain ⟨a, rfl⟩ := fx.2 0 none x rfl rfl
        obtain ⟨b, rfl⟩ := fy.2 0 none y rfl rfl
        simp only [wrapT, hu, Option.any_some, isAggD, Bool.false_eq_true, if_false, List.getD_cons_zero]
        rw [q_bool D' t hu]
        congr 1; rw [Bool.eq_iff_iff, eqV_iff]; cases a <;> cases b <;> simp
      · subst h
        obtain ⟨x, rfl⟩ : ∃ x, xs = [x] := List.length_eq_one_iff.1 fx.1
        obtain ⟨y, rfl⟩ : ∃ y, ys = [y] := List.length_eq_one_iff.1 fy.1
        obtain ⟨a, rfl⟩ := fx.2 0 _ x rfl rfl
        obtain ⟨b, rfl⟩ := fy.2 0 _ y rfl rfl
        simp only [wrapT, hu, Option.any_some, isAggD, Bool.false_eq_true, if_false, List.getD_cons_zero]
        rw [q_int D' t _ hu]
        congr 1; rw [Bool.eq_iff_iff, eqV_iff]; simp
      · obtain ⟨hst, h⟩ := h
        simp only [wrapT, hu, Option.any_some, isAggD, if_true]
        rw [Op.equalIn]
        simp only [zaD, l_und, hu, zai, l_program, hst, Bool.false_eq_true, if_false]
        rw [← Array.forIn_toList]
        refine (all_loop' (none, ()) (some false, ()) (fun f => eqV ((xs.drop f.offset).take ((((flatK P d f.type).bind fun k => if szOf P f.type = some k.length then some k else none)).getD []).length) ((ys.drop f.offset).take ((((flatK P d f.type).bind fun k => if szOf P f.type = some k.length then some k else none)).getD []).length)) _ _ ?_ _).trans ?_
        · intro f hf K
          obtain ⟨hn, k, hk, h2, h3, h4⟩ := fields_mem h f hf
          obtain ⟨k', hk', hz⟩ := Option.bind_eq_some_iff.1 hk
          split at hz
          · rename_i hsz
            cases hz
            have gx := h4 xs fx
            have gy := h4 ys fy
            rw [Nat.sub_zero] at gx gy
            have lx := fx.1
            have ly := fy.1
            simp only [ne_eq, hn, not_false_eq_true, if_true, zaD]
            rw [part_flat hk' hsz xs f.offset (by omega), part_flat hk' hsz ys f.offset (by omega)]
            rw [q_flat d f.type k hk' D' (by omega) _ _ gx gy]
            simp only [hk', Option.bind_some, hsz, if_true, Option.getD_some]
            cases hc : eqV ((xs.drop f.offset).take k.length) ((ys.drop f.offset).take k.length) <;> simp [zaO]
          · cases hz
        · rw [fields_all xs ys h (by rw [fx.1]; omega) (by rw [fy.1]; omega)]
          simp only [List.drop_zero]
          cases hc : eqV xs ys <;> simp [zaO]
end
end Go.Proofs.Ytjhohnbdhopllaa.HL
end
