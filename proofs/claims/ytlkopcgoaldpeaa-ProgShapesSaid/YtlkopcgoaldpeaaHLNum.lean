/- Whole numbers: entries of the model for Go's library, wide numbers, structs compared. -/
import Derived.Test.YtlkopcgoaldpeaaHLMore
import Derived.Laws.Externs
import Derived.Laws.MathBits
namespace Go.Proofs.Ytlkopcgoaldpeaa.HL
open Go
set_option linter.unusedSimpArgs false
set_option linter.unusedVariables false

section
variable {P : Program} {H : Hp} {e : Env} {r : Nat → Value} {d : Option Nat} {ty : TypeId} {p : String} {af : Array Edge} {g : Option (Nat × Bool)}
theorem x_callE {f : FuncId} {fn : Func} {en : Array Value → Sem Value} (hf : P.funcs[f]? = some fn) (hname : (fn.name == "runtime.NumGoroutine") = false) (hb : fn.body.isNone = true) (hn : Extern.findNext fn = none) (he : Extern.find fn = some en)
    (args : Array Operand) (ts : Array TypeId) (K : Next → Hp → Prop) : Lt P (execOp (ev e r) ⟨d, .call ⟨.value (.func f), args, ts⟩, ty, p, af, g⟩) H K = Lt P (en (args.map (ev e r))) H (fun v H' => K (.value v) H') := by
  rw [x_call]
  show Lt P (callFunc f ((#[] ++ args.map (ev e r)) ++ #[])) H K = _
  have h1 : fn.name ≠ "runtime.NumGoroutine" := by simpa using hname
  have h2 : fn.body = none := by simpa using hb
  simp only [callFunc, program, Bind.bind, Lt_bind, Lt, hf, hname, hb, hn, he, Bool.false_eq_true, if_false, if_true, mark]
  simp [l_bind, l_pure]
theorem Lt_add64 (x y c : Int) (hx : 0 ≤ x) (hy : 0 ≤ y) (hc0 : 0 ≤ c) (hc : c ≤ 1) (K : Value → Hp → Prop) :
    Lt P (add64Entry #[.int .u64 x, .int .u64 y, .int .u64 c]) H K = K (.tuple #[.int .u64 ((x + y + c) % 18446744073709551616), .int .u64 ((x + y + c) / 18446744073709551616)]) H := by
  have key : ∀ k : Nat, k ≤ 1 → Lt P (add64Entry #[.int .u64 x, .int .u64 y, .int .u64 (k : Int)]) H K =
      K (Extern.MathBitsCarry.pair ((x.toNat + y.toNat + k) % Extern.MathBitsCarry.m64) ((x.toNat + y.toNat + k) / Extern.MathBitsCarry.m64)) H := by
    intro k hk
    have : k = 0 ∨ k = 1 := by omega
    rcases this with rfl | rfl <;> rfl
  obtain ⟨k, rfl⟩ := Int.eq_ofNat_of_zero_le hc0
  rw [key k (by omega)]
  obtain ⟨X, rfl⟩ := Int.eq_ofNat_of_zero_le hx
  obtain ⟨Y, rfl⟩ := Int.eq_ofNat_of_zero_le hy
  congr 1
/-- A struct of two numbers. -/
theorem q_struct2 (D : Nat) (t : TypeId) {f0 f1 : Field} (hu : P.underlying t = some (.struct #[f0, f1])) (hst : P.stoodInHeld t = false) (h0 : (f0.name ≠ "_") ∧ f0.offset = 0) (h1 : (f1.name ≠ "_") ∧ f1.offset = 1) {k0 k1 : IntKind} (u0 : P.underlying f0.type = some (.int k0)) (u1 : P.underlying f1.type = some (.int k1))
    (a0 a1 b0 b1 : Int) (K : Bool → Hp → Prop) :
    Lt P (Op.equalIn (D + 2) t (.agg #[.int k0 a0, .int k1 a1]) (.agg #[.int k0 b0, .int k1 b1])) H K = K (decide (a0 = b0) && decide (a1 = b1)) H := by
  have p0 : ∀ (x y : Value) (K : Value → Hp → Prop), Lt P (part f0.type #[x, y] f0.offset) H K = K x H := by
    intro x y K
    simp only [part, l_bind, l_isAggF f0.type k0 u0, Bool.false_eq_true, if_false, h0.2]; rfl
  have p1 : ∀ (x y : Value) (K : Value → Hp → Prop), Lt P (part f1.type #[x, y] f1.offset) H K = K y H := by
    intro x y K
    simp only [part, l_bind, l_isAggF f1.type k1 u1, Bool.false_eq_true, if_false, h1.2]; rfl
  have q0 : ∀ (x y : Int) (K : Bool → Hp → Prop), Lt P (Op.equalIn (D + 1) f0.type (.int k0 x) (.int k0 y)) H K = K (decide (x = y)) H := fun x y K => q_int D f0.type _ u0 k0 x y K
  have q1 : ∀ (x y : Int) (K : Bool → Hp → Prop), Lt P (Op.equalIn (D + 1) f1.type (.int k1 x) (.int k1 y)) H K = K (decide (x = y)) H := fun x y K => q_int D f1.type _ u1 k1 x y K
  rw [Op.equalIn]
  simp only [l_bind, l_und, hu, orF_some, l_program, hst, Bool.false_eq_true, if_false]
  simp [h0.1, h1.1, l_bind, p0, p1, q0, q1]
  by_cases ha : a0 = b0 <;> by_cases hb : a1 = b1 <;> simp [ha, hb, l_pure, l_bind, p0, p1, q0, q1]
end
theorem ints_at {kd : IntKind} {l : List Int} {c : Array Value} {o n : Nat} (h : ∀ j, j < n * 1 → c[o + j]? = (l.map (.int kd ·))[j]?) (hn : n = l.length) (i : Nat) (hi : i < l.length) : c[o + i]? = some (.int kd (l.getD i 0)) := by
  rw [h i (by omega)]
  simp [List.getElem?_eq_getElem hi, List.getD_eq_getElem?_getD]
abbrev i64s (l : List Int) : List Value := l.map (.int .i64 ·)
def I64L (l : List Int) : Prop := ∀ x ∈ l, -9223372036854775808 ≤ x ∧ x ≤ 9223372036854775807
theorem I64L.at {l : List Int} (h : I64L l) (i : Nat) : -9223372036854775808 ≤ l.getD i 0 ∧ l.getD i 0 ≤ 9223372036854775807 := by
  by_cases hi : i < l.length
  · rw [List.getD_eq_getElem?_getD, List.getElem?_eq_getElem hi]; exact h _ (List.getElem_mem hi)
  · rw [List.getD_eq_getElem?_getD, List.getElem?_eq_none (by omega)]; simp
theorem sum_take (l : List Int) (i : Nat) (hi : i < l.length) : (l.take (i + 1)).sum = (l.take i).sum + l.getD i 0 := by
  rw [List.take_succ_eq_append_getElem hi, List.sum_append, List.getD_eq_getElem?_getD, List.getElem?_eq_getElem hi]
  simp
theorem sum_bound : ∀ {l : List Int}, I64L l → -9223372036854775808 * (l.length : Int) ≤ l.sum ∧ l.sum ≤ 9223372036854775807 * (l.length : Int)
  | [], _ => by simp
  | x :: r, h => by
    have h1 := sum_bound (l := r) (fun y hy => h y (by simp [hy]))
    have h2 := h x (by simp)
    simp only [List.sum_cons, List.length_cons, Int.natCast_add]
    omega
end Go.Proofs.Ytlkopcgoaldpeaa.HL
