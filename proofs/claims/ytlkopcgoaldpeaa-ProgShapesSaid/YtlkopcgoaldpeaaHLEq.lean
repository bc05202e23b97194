/- '==' of arrays and structs. -/
import Derived.Test.YtlkopcgoaldpeaaHLBytes
namespace Go.Proofs.Ytlkopcgoaldpeaa.HL
open Go
set_option linter.unusedSimpArgs false
set_option linter.unusedVariables false
section
variable {P : Program} {H : Hp}
/-- A loop that ends where a test fails. -/
theorem all_loop {σ : Type} (s0 s1 : σ) (cond : Nat → Bool) (g : Nat → σ → Sem (ForInStep σ)) : ∀ (l : List Nat), (∀ i ∈ l, ∀ K : ForInStep σ → Hp → Prop, Lt P (g i s0) H K = if cond i then K (.yield s0) H else K (.done s1) H) →
    ∀ K : σ → Hp → Prop, Lt P (forIn l s0 g) H K = K (if l.all cond then s0 else s1) H
  | [], _, K => by simp [l_pure]
  | i :: r, h, K => by
    simp only [List.forIn_cons, l_bind, h i (by simp), List.all_cons]
    by_cases hc : cond i = true
    · simp only [hc, if_true, Bool.true_and]
      exact all_loop s0 s1 cond g r (fun j hj => h j (by simp [hj])) K
    · have hc' : cond i = false := by simpa using hc
      simp [hc', l_pure]
theorem l_isAggF (t : TypeId) (k : IntKind) (hu : P.underlying t = some (.int k)) (K : Bool → Hp → Prop) : Lt P (isAgg t) H K = K false H := by
  rw [l_isAgg, hu, orF_some]; rfl
theorem part_int (e : TypeId) (k : IntKind) (he : P.underlying e = some (.int k)) (a : List Int) (i : Nat) (h : i < a.length) (K : Value → Hp → Prop) : Lt P (part e (a.map (.int k ·)).toArray i) H K = K (.int k a[i]) H := by
  simp only [part, l_bind, l_isAggF e k he, Bool.false_eq_true, if_false]
  have : (List.map (fun x => Value.int k x) a).toArray[i]? = some (.int k a[i]) := by simp [h]
  rw [this]; rfl
theorem all_range_eq (a b : List Int) (n : Nat) (ha : a.length = n) (hb : b.length = n) : (List.range' 0 n).all (fun i => decide (a[i]? = b[i]?)) = decide (a = b) := by
  by_cases h : a = b
  · subst h; simp
  · rw [decide_eq_false h]
    rw [List.all_eq_false]
    apply Classical.byContradiction
    intro hc
    apply h
    apply List.ext_getElem?
    intro i
    by_cases hi : i < n
    · apply Classical.byContradiction
      intro hne
      exact hc ⟨i, by simp [hi], by simpa using hne⟩
    · rw [List.getElem?_eq_none (by omega), List.getElem?_eq_none (by omega)]
theorem q_array (D : Nat) (t e n : Nat) (hu : P.underlying t = some (.array n e)) (k : IntKind) (he : P.underlying e = some (.int k)) (hs : szOf P e = some 1) (hD : ∀ x y (K : Bool → Hp → Prop), Lt P (Op.equalIn D e (.int k x) (.int k y)) H K = K (decide (x = y)) H)
    (a b : List Int) (ha : a.length = n) (hb : b.length = n) (K : Bool → Hp → Prop) :
    Lt P (Op.equalIn (D + 1) t (.agg (a.map (.int k ·)).toArray) (.agg (b.map (.int k ·)).toArray)) H K = K (decide (a = b)) H := by
  simp only [Op.equalIn, l_bind, l_und, hu, orF_some, l_size, hs, Nat.mul_one]
  rw [Std.Legacy.Range.forIn_eq_forIn_range']
  have hr : List.range' 0 ((n - 0 + 1 - 1) / 1) 1 = List.range' 0 n := by simp
  simp only [Std.Legacy.Range.size]
  rw [hr]
  refine (all_loop (none, ()) (some false, ()) (fun i => decide (a[i]? = b[i]?)) _ (List.range' 0 n) ?_ _).trans ?_
  · intro i hi K
    have hi : i < n := by simpa using hi
    simp only [l_bind, part_int e k he a i (by omega), part_int e k he b i (by omega), hD]
    have : (a[i]? = b[i]?) = (a[i]'(by omega) = b[i]'(by omega)) := by
      rw [List.getElem?_eq_getElem (by omega), List.getElem?_eq_getElem (by omega)]; simp
    simp only [this]
    by_cases hh : a[i]'(by omega) = b[i]'(by omega) <;> simp [hh, l_pure]
  · rw [all_range_eq a b n ha hb]
    by_cases h : a = b <;> simp [h, l_pure]
theorem l_program (K : Program → Hp → Prop) : Lt P program H K = K P H := rfl
theorem g_agg (op : BinOp) (t : TypeId) (x y : Operand) (a b : Array Value) (h : P.eqGuardType P.depth t = false) (K : Unit → Hp → Prop) : Lt P (eqGuard op t x y (.agg a) (.agg b)) H K = K () H := by
  cases op <;> first | rfl | (simp [eqGuard, l_bind, l_program, h, l_pure])
end
end Go.Proofs.Ytlkopcgoaldpeaa.HL
