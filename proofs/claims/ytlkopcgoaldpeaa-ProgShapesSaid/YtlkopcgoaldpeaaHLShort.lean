/- Short names for what a walk does at each step. -/
import Derived.Test.YtlkopcgoaldpeaaHLFrame2
namespace Go.Proofs.Ytlkopcgoaldpeaa.HL
open Go
/-- environments, and what comes behind an operation -/
theorem eX :
    (∀ (e : Env) (r : Nat → Value) (t : Nat), ev e r (.tmp t) = (e.get t).getD (r t)) ∧ (∀ (e : Env) (r : Nat → Value) (v : Value), ev e r (.const v) = v) ∧
    (∀ (e : Env) (r : Nat → Value) (k : Nat), ev e r (.global k) = .pointer (some ⟨k, 0, none⟩)) ∧ (∀ (e : Env) (r : Nat → Value) (k : Nat), ev e r (.func k) = .func (.func k) #[] #[]) ∧
    (∀ t : Nat, Env.get [] t = none) ∧ (∀ (e : Env) (k t : Nat) (v : Value), Env.get ((k, v) :: e) t = if t = k then some v else Env.get e t) ∧ (∀ v u : Value, (some v).getD u = v) ∧
    (∀ (P : Program) (v : Value) (H : Hp) (R : Value → Hp → Prop), NextH P (.value v) H R = R v H) ∧ (∀ (e : Env) (t : Nat) (v : Value), Env.putO e (some t) v = e.put t v) ∧ (∀ (e : Env) (v : Value), Env.putO e none v = e) ∧
    (∀ (t : Nat) (v : Value), Env.put [] t v = [(t, v)]) ∧ (∀ (e : Env) (k t : Nat) (u v : Value), Env.put ((k, u) :: e) t v = if t = k then (k, v) :: e else (k, u) :: Env.put e t v) ∧
    (∀ (H : Hp) (b : Nat) (o o' : Obj), (H.upd b o).upd b o' = H.upd b o') ∧ (∀ (P : Program) (f : FuncId) (args : Array Value) (H : Hp) (R : Value → Hp → Prop), NextH P (.enter f args) H R = CallH P f args H R) :=
  ⟨fun _ _ _ => rfl, fun _ _ _ => rfl, fun _ _ _ => rfl, fun _ _ _ => rfl, fun _ => rfl, fun _ _ _ _ => rfl, fun _ _ => rfl, fun _ _ _ _ => rfl, fun _ _ _ => rfl, fun _ _ => rfl, fun _ _ => rfl, fun _ _ _ _ _ => rfl, fun _ _ _ _ => upd_upd _ _ _ _, fun _ _ _ _ _ => rfl⟩
section
variable {P : Program} {n : Nat} {ops : Array Oper} {Q : Env → Hp → Prop} {d : Nat} {op : Op} {ty : TypeId} {p : String} {af : Array Edge} {rest : List Oper} {e : Env} {H : Hp}
theorem OW_opS (h : ∀ K : Env → Hp → Prop, (∀ e H, OW P n ops Q rest e H → K e H) → ∀ r, Lt P (execOp (ev e r) ⟨some d, op, ty, p, af, none⟩) H (fun nx H' => NextH P nx H' (fun v H'' => K (e.putO (some d) v) H''))) (hd : noDefer ⟨some d, op, ty, p, af, none⟩ = true := by rfl) (ht : d < n := by decide) :
    OW P n ops Q (⟨some d, op, ty, p, af, none⟩ :: rest) e H := OW_op hd (lt_some ht) h
/-- What an operand is, where it is known. -/
def evO (e : Env) : Operand → Option Value
  | .tmp t => e.get t
  | .const v => some v
  | _ => none
theorem evO_ev {e : Env} {x : Operand} {v : Value} (h : evO e x = some v) (r : Nat → Value) : ev e r x = v := by
  cases x with
  | tmp t => simp only [evO] at h; simp only [ev, h, Option.getD_some]
  | const c => simp only [evO, Option.some.injEq] at h; subst h; rfl
  | _ => simp [evO] at h
theorem OW_mv {x : Operand} {v : Value} (hv : evO e x = some v) (h : OW P n ops Q rest (e.put d v) H) (hd : noDefer ⟨some d, .move x, ty, p, af, none⟩ = true := by rfl) (ht : d < n := by decide) : OW P n ops Q (⟨some d, .move x, ty, p, af, none⟩ :: rest) e H :=
  OW_op hd (lt_some ht) fun K hK r => by
    rw [x_move, evO_ev hv r]
    exact hK _ _ h
theorem OW_as {x : Operand} {v : Value} (hv : evO e x = some v) (h : OW P n ops Q rest (e.put d v) H) (hd : noDefer ⟨some d, .assign x, ty, p, af, none⟩ = true := by rfl) (ht : d < n := by decide) : OW P n ops Q (⟨some d, .assign x, ty, p, af, none⟩ :: rest) e H :=
  OW_op hd (lt_some ht) fun K hK r => by
    rw [x_assign, evO_ev hv r]
    exact hK _ _ h
end
end Go.Proofs.Ytlkopcgoaldpeaa.HL
