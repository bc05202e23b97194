/- Code over partial heaps: known temporaries, known blocks. -/
import Derived.Test.YtlkopcgoaldpeaaHLHeap
namespace Go.Proofs.Ytlkopcgoaldpeaa.HL
open Go

abbrev Env := List (Nat × Value)
def Env.get : Env → Nat → Option Value
  | [], _ => none
  | (k, v) :: r, t => if t = k then some v else Env.get r t
def Env.put : Env → Nat → Value → Env
  | [], t, v => [(t, v)]
  | (k, u) :: r, t, v => if t = k then (k, v) :: r else (k, u) :: Env.put r t v
def Env.putO (e : Env) (d : Option Nat) (v : Value) : Env := match d with | some d => e.put d v | none => e
def Env.sub (e e' : Env) : Prop := ∀ t v, e.get t = some v → e'.get t = some v

theorem get_put (e : Env) (t u : Nat) (v : Value) : (e.put t v).get u = if u = t then some v else e.get u := by
  induction e with
  | nil => simp only [Env.put, Env.get]
  | cons x r ih =>
    obtain ⟨k, w⟩ := x
    simp only [Env.put]
    by_cases h : t = k
    · subst h; rw [if_pos rfl]; simp only [Env.get]; by_cases hu : u = t <;> simp [hu]
    · rw [if_neg h]; simp only [Env.get, ih]
      by_cases hu : u = k
      · subst hu; rw [if_pos rfl, if_neg (Ne.symm h), if_pos rfl]
      · rw [if_neg hu, if_neg hu]

def ev (e : Env) (r : Nat → Value) : Operand → Value
  | .tmp t => (e.get t).getD (r t)
  | .const v => v
  | .global g => .pointer (some ⟨g, 0, none⟩)
  | .func f => .func (.func f) #[] #[]

structure Rel (n B : Nat) (e : Env) (a : Act) (w : World) (H : Hp) : Prop where
  size : a.tmps.size = n
  tmps : ∀ t v, e.get t = some v → a.tmps[t]? = some v
  marks : ∃ rs : List Nat, a.defers = rs.map markOf ∧ rs.Nodup ∧ ∀ r ∈ rs, w.heap[r]? = some (.deferred (some [])) ∧ H r = none ∧ B ≤ r

theorem Rel.ev {n B : Nat} {e : Env} {a : Act} {w : World} {H : Hp} (h : Rel n B e a w H) : a.eval = HL.ev e (fun t => a.tmps.getD t undef) := by
  funext x
  cases x with
  | tmp t =>
    simp only [Act.eval, HL.ev]
    cases hg : e.get t with
    | none => rfl
    | some v => have := h.tmps t v hg; simp [Array.getD_eq_getD_getElem?, this]
  | _ => rfl
theorem Rel.put {n B : Nat} {e : Env} {a : Act} {w : World} {H : Hp} (h : Rel n B e a w H) {d : Option Nat} (hd : ∀ t, d = some t → t < n) (v : Value) : Rel n B (e.putO d v) (a.put d v) w H := by
  cases d with
  | none => exact h
  | some d =>
    have hd' := hd d rfl
    refine ⟨by simp [Act.put, h.size], fun t u hu => ?_, h.marks⟩
    simp only [Env.putO, get_put] at hu
    simp only [Act.put]
    by_cases ht : t = d
    · subst ht; rw [if_pos rfl] at hu; cases hu; rw [← h.size] at hd'; simp [hd']
    · rw [if_neg ht] at hu; rw [Array.getElem?_setIfInBounds_ne (Ne.symm ht)]; exact h.tmps t u hu
theorem Rel.ext {n B : Nat} {e : Env} {a : Act} {w w' : World} {H H' : Hp} (h : Rel n B e a w H) (x : Ext H w H' w') : Rel n B e a w' H' := by
  obtain ⟨rs, h1, h2, h3⟩ := h.marks
  refine ⟨h.size, h.tmps, rs, h1, h2, fun r hr => ?_⟩
  obtain ⟨h4, h5, h7⟩ := h3 r hr
  have hlt : r < w.heap.size := by
    rcases Nat.lt_or_ge r w.heap.size with h' | h'
    · exact h'
    · simp [Array.getElem?_eq_none h'] at h4
  refine ⟨by rw [x.same r hlt h5]; exact h4, ?_, h7⟩
  cases hc : H' r with
  | none => rfl
  | some o =>
    rcases x.dom r (by simp [hc]) with h6 | h6
    · exact absurd h5 h6
    · omega
theorem Rel.sub {n B : Nat} {e e' : Env} {a : Act} {w : World} {H : Hp} (h : Rel n B e a w H) (k : Env.sub e' e) : Rel n B e' a w H := ⟨h.size, fun t v hv => h.tmps t v (k t v hv), h.marks⟩
theorem Rel.le {n B : Nat} {e : Env} {a : Act} {w : World} {H H' : Hp} (h : Rel n B e a w H) (k : Le H' H) : Rel n B e a w H' := by
  obtain ⟨rs, h1, h2, h3⟩ := h.marks
  refine ⟨h.size, h.tmps, rs, h1, h2, fun r hr => ⟨(h3 r hr).1, ?_, (h3 r hr).2.2⟩⟩
  cases hc : H' r with
  | none => rfl
  | some o => have := k r o hc; rw [(h3 r hr).2.1] at this; cases this

/-! ### contracts -/
def CallH (P : Program) (f : FuncId) (args : Array Value) (H : Hp) (R : Value → Hp → Prop) : Prop :=
  ∀ w, Sub H w → Calls P f args w fun e w' => ∃ v, e = .returned v ∧ ∃ H', R v H' ∧ Ext H w H' w'
theorem CallH.mono {P : Program} {f : FuncId} {args : Array Value} {H : Hp} {R R' : Value → Hp → Prop} (h : CallH P f args H R) (hr : ∀ v H', R v H' → R' v H') : CallH P f args H R' :=
  fun w hs => (h w hs).mono fun _ _ ⟨v, he, H', hR, hx⟩ => ⟨v, he, H', hr _ _ hR, hx⟩
/-- What an operation's 'Next' comes to. -/
def NextH (P : Program) (nx : Next) (H : Hp) (R : Value → Hp → Prop) : Prop :=
  match nx with
  | .value v => R v H
  | .skip => R undef H
  | .enter f args => CallH P f args H R
  | .round l f tmps assign body => ∀ w, Sub H w → RoundRuns P l f tmps assign body w fun v w' => ∃ H', R v H' ∧ Ext H w H' w'
  | _ => False
theorem NextH.sound {P : Program} {nx : Next} {H : Hp} {R : Value → Hp → Prop} (h : NextH P nx H R) {w : World} (hs : Sub H w) : NextRuns P nx w fun v w' => ∃ H', R v H' ∧ Ext H w H' w' := by
  cases nx <;> simp only [NextH] at h <;> first
    | exact ⟨H, h, .refl hs⟩
    | exact h w hs
    | exact h.elim
theorem NextH.mono {P : Program} {nx : Next} {H : Hp} {R R' : Value → Hp → Prop} (h : NextH P nx H R) (hr : ∀ v H', R v H' → R' v H') : NextH P nx H R' := by
  cases nx <;> simp only [NextH] at * <;> first
    | exact hr _ _ h
    | exact CallH.mono h hr
    | exact fun w hs => (h w hs).mono fun v w' ⟨H', hR, hx⟩ => ⟨H', hr _ _ hR, hx⟩
    | exact h.elim
/-- A call of a function value. -/
def ValH (P : Program) (g : Value) (args : Array Value) (H : Hp) (R : Value → Hp → Prop) : Prop :=
  Lt P (do let d ← Deferred.ofValue g args; invoke d.target d.args) H (fun nx H' => NextH P nx H' R)

/-! ### operations -/
/-- Is an operation carried out? 'none': that is not known. -/
def wantE (ops : Array Oper) (e : Env) (o : Oper) : Option Bool :=
  match o.guard with
  | none => some true
  | some (j, want) =>
    match (ops[j]?).bind (·.dst) with
    | none => some false
    | some d => (e.get d).map fun v => match v with | .bool b => b == want | _ => false
theorem wantE_sound {ops : Array Oper} {n B : Nat} {e : Env} {a : Act} {w : World} {H : Hp} (h : Rel n B e a w H) {o : Oper} {b : Bool} (hw : wantE ops e o = some b) : Region.wanted o (yielded ops a.tmps) = b := by
  unfold wantE at hw
  unfold Region.wanted
  cases hg : o.guard with
  | none => simp only [hg] at hw ⊢; cases hw; rfl
  | some g =>
    obtain ⟨j, want⟩ := g
    simp only [hg] at hw ⊢
    unfold yielded
    cases hd : (ops[j]?).bind (·.dst) with
    | none => simp only [hd] at hw; cases hw; simp
    | some d =>
      simp only [hd, Option.bind_some] at hw ⊢
      cases hv : e.get d with
      | none => rw [hv] at hw; cases hw
      | some v =>
        rw [hv] at hw
        rw [h.tmps d v hv]
        cases v <;> simp only [Option.map_some, Option.some.injEq] at hw <;> rw [← hw] <;> first | rfl | (rename_i b; cases b <;> cases want <;> rfl)

def noDefer (o : Oper) : Bool := match o.op with | .defer _ => false | _ => true
theorem noDefer_spec {o : Oper} (h : noDefer o = true) : ∀ c, o.op ≠ .defer c := by
  intro c hc; simp [noDefer, hc] at h

/-- One operation at a time. -/
def OpH (P : Program) (o : Oper) (e : Env) (H : Hp) (K : Env → Hp → Prop) : Prop :=
  ∀ r, Lt P (execOp (ev e r) o) H (fun nx H' => NextH P nx H' (fun v H'' => K (e.putO o.dst v) H''))
def OW (P : Program) (n : Nat) (ops : Array Oper) (Q : Env → Hp → Prop) : List Oper → Env → Hp → Prop
  | [], e, H => Q e H
  | o :: rest, e, H => noDefer o = true ∧ (∀ t, o.dst = some t → t < n) ∧ ∃ b, wantE ops e o = some b ∧
      if b then OpH P o e H (OW P n ops Q rest) else OW P n ops Q rest (e.putO o.dst undef) H

/-- The state as the machine has it. -/
def Sat (n B : Nat) (H0 : Hp) (w0 : World) (Q : Env → Hp → Prop) (a : Act) (w : World) : Prop := ∃ e H, Q e H ∧ Rel n B e a w H ∧ Ext H0 w0 H w

theorem opR_of_OpH {P : Program} {n B : Nat} {ops : Array Oper} {i : Nat} {o : Oper} (ho : ops[i]? = some o) (hd : noDefer o = true) (ht : ∀ t, o.dst = some t → t < n)
    {e : Env} {H H0 : Hp} {w w0 : World} {a : Act} (hr : Rel n B e a w H) (hx : Ext H0 w0 H w) {b : Bool} (hb : wantE ops e o = some b) {K : Env → Hp → Prop}
    (h : if b then OpH P o e H K else K (e.putO o.dst undef) H) : opR P ops i (Sat n B H0 w0 K) a w := by
  unfold opR
  simp only [ho]
  refine ⟨noDefer_spec hd, ?_⟩
  rw [wantE_sound hr hb]
  cases b with
  | false => exact ⟨_, H, h, hr.put ht _, hx⟩
  | true =>
    simp only [if_true] at h ⊢
    have h1 := h (fun t => a.tmps.getD t undef)
    rw [← hr.ev] at h1
    obtain ⟨nx, w', H', hrun, hn, hx'⟩ := Lt_sound _ _ _ _ h1 hx.sub
    exact ⟨nx, w', hrun, (hn.sound hx'.sub).mono fun v w'' ⟨H'', hK, hx''⟩ => ⟨_, H'', hK, ((hr.ext hx').ext hx'').put ht _, (hx.trans hx').trans hx''⟩⟩

theorem opsR_of_OW {P : Program} {n B : Nat} {ops : Array Oper} {H0 : Hp} {w0 : World} {Q : Env → Hp → Prop} : ∀ (l : List Oper) (k : Nat), (∀ j, l[j]? = ops[k + j]?) → ∀ (e : Env) (H : Hp) (a : Act) (w : World),
    OW P n ops Q l e H → Rel n B e a w H → Ext H0 w0 H w → opsR P ops (Sat n B H0 w0 Q) (List.range' k l.length) a w
  | [], _, _, e, H, a, w, h, hr, hx => ⟨e, H, h, hr, hx⟩
  | o :: l, k, hl, e, H, a, w, h, hr, hx => by
    obtain ⟨hd, ht, b, hb, h⟩ := h
    have h0 : ops[k]? = some o := by simpa using (hl 0).symm
    have hl' : ∀ j, l[j]? = ops[k + 1 + j]? := fun j => by have := hl (j + 1); simpa [Nat.add_assoc, Nat.add_comm 1 j] using this
    simp only [List.length_cons, List.range'_succ, opsR]
    exact opR_mono (opR_of_OpH h0 hd ht hr hx hb h) fun a' w' ⟨e', H', hK, hr', hx'⟩ => opsR_of_OW l (k + 1) hl' e' H' a' w' hK hr' hx'

/-! ### code -/
def CW (P : Program) (n : Nat) (rd : Option Nat) (c : Code) (Q : Ex → Env → Hp → Prop) (e : Env) (H : Hp) : Prop :=
  ∀ (B : Nat) (a : Act) (w : World), Rel n B e a w H → Sub H w → CR P rd c (fun x a' w' => Sat n B H w (Q x) a' w') a w

section rules
variable {P : Program} {n : Nat} {rd : Option Nat} {Q : Ex → Env → Hp → Prop} {e : Env} {H : Hp}

theorem CW.mono {c : Code} {Q' : Ex → Env → Hp → Prop} (h : CW P n rd c Q e H) (hq : ∀ x e H, Q x e H → Q' x e H) : CW P n rd c Q' e H :=
  fun B a w hr hs => (h B a w hr hs).mono fun _ _ _ ⟨e', H', hQ, hr', hx⟩ => ⟨e', H', hq _ _ _ hQ, hr', hx⟩
theorem CW_skip (h : Q .normal e H) : CW P n rd .skip Q e H := fun _ _ _ hr hs => CR_skip ⟨e, H, h, hr, .refl hs⟩
theorem CW_label {l : Nat} (h : Q .normal e H) : CW P n rd (.label l) Q e H := fun _ _ _ hr hs => CR_label ⟨e, H, h, hr, .refl hs⟩
theorem CW_exit {id : Nat} (h : Q (.exit id) e H) : CW P n rd (.exit id) Q e H := fun _ _ _ hr hs => CR_exit ⟨e, H, h, hr, .refl hs⟩
theorem CW_ret (h : Q .ret e H) : CW P n rd .ret Q e H := fun _ _ _ hr hs => CR_ret ⟨e, H, h, hr, .refl hs⟩

def Ex.thnH (next : Env → Hp → Prop) (Q : Ex → Env → Hp → Prop) : Ex → Env → Hp → Prop
  | .normal, e, H => next e H
  | x, e, H => Q x e H
theorem CW_seq0 {x y : Code} (h : CW P n rd x (Ex.thnH (CW P n rd y Q) Q) e H) : CW P n rd (.seq x y) Q e H := by
  refine fun B a w hr hs => CR_seq ((h B a w hr hs).mono fun z a' w' ⟨e', H', hQ, hr', hx⟩ => ?_)
  cases z with
  | normal => exact (hQ B a' w' hr' hx.sub).mono fun z2 a2 w2 ⟨e2, H2, hQ2, hr2, hx2⟩ => ⟨e2, H2, hQ2, hr2, hx.trans hx2⟩
  | exit id => exact ⟨e', H', hQ, hr', hx⟩
  | ret => exact ⟨e', H', hQ, hr', hx⟩
/-- What follows stands behind a variable. -/
theorem CW_seq {x y : Code} (h : ∀ K : Env → Hp → Prop, (∀ e H, CW P n rd y Q e H → K e H) → CW P n rd x (Ex.thnH K Q) e H) : CW P n rd (.seq x y) Q e H :=
  CW_seq0 (h _ fun _ _ h => h)
theorem CW_cond {c : Operand} {x y : Code} {t : Bool} (hc : ∀ r, ev e r c = .bool t) (ht : t = true → CW P n rd x Q e H) (hf : t = false → CW P n rd y Q e H) : CW P n rd (.cond c x y) Q e H :=
  fun B a w hr hs => CR_cond (t := t) (by rw [hr.ev]; exact hc _) (by cases t with | true => exact ht rfl B a w hr hs | false => exact hf rfl B a w hr hs)
def Ex.inBlockH (id : Nat) (Q : Ex → Env → Hp → Prop) : Ex → Env → Hp → Prop
  | .exit id', e, H => if id' = id then Q .normal e H else Q (.exit id') e H
  | x, e, H => Q x e H
theorem CW_block {id : Nat} {c : Code} (h : CW P n rd c (Ex.inBlockH id Q) e H) : CW P n rd (.block id c) Q e H := by
  refine fun B a w hr hs => CR_block ((h B a w hr hs).mono fun z a' w' ⟨e', H', hQ, hr', hx⟩ => ?_)
  cases z with
  | normal => exact ⟨e', H', hQ, hr', hx⟩
  | ret => exact ⟨e', H', hQ, hr', hx⟩
  | exit id' =>
    by_cases hid : id' = id
    · simp only [Ex.inBlockH, Ex.inBlock, if_pos hid] at hQ ⊢; exact ⟨e', H', hQ, hr', hx⟩
    · simp only [Ex.inBlockH, Ex.inBlock, if_neg hid] at hQ ⊢; exact ⟨e', H', hQ, hr', hx⟩
theorem CW_scope {c : Code} (h : CW P n rd c Q e H) : CW P n rd (.scope c) Q e H := fun B a w hr hs => CR_scope (h B a w hr hs)
theorem CW_loop {c : Code} (I : Nat → Env → Hp → Prop) (m : Nat) (h0 : I m e H)
    (round : ∀ m e H, I m e H → CW P n rd c (Ex.thnH (fun e' H' => ∃ m', m' < m ∧ I m' e' H') Q) e H) : CW P n rd (.loop c) Q e H := by
  intro B a w hr hs
  refine CR_loop (fun m a' w' => Sat n B H w (I m) a' w') m ⟨e, H, h0, hr, .refl hs⟩ fun m a' w' ⟨e', H', hI, hr', hx⟩ => ?_
  refine (round m e' H' hI B a' w' hr' hx.sub).mono fun z a2 w2 ⟨e2, H2, hQ, hr2, hx2⟩ => ?_
  cases z with
  | normal => obtain ⟨m', hlt, hI'⟩ := hQ; exact ⟨m', hlt, e2, H2, hI', hr2, hx.trans hx2⟩
  | exit id => exact ⟨e2, H2, hQ, hr2, hx.trans hx2⟩
  | ret => exact ⟨e2, H2, hQ, hr2, hx.trans hx2⟩
end rules
end Go.Proofs.Ytlkopcgoaldpeaa.HL
