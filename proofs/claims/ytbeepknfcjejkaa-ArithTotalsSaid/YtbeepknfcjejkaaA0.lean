/- A part of the proof. -/
import Derived.Test.YtbeepknfcjejkaaT28
import Derived.Test.YtbeepknfcjejkaaT29
namespace Go.Proofs.Ytbeepknfcjejkaa.HL
open Go Go.Proofs
set_option linter.unusedSimpArgs false
set_option linter.unusedVariables false
attribute [local irreducible] Lt Lq CW OW TW CallH


def dvI (a b : Int) : Int := if b = 0 then 0 else okI (a.tdiv b)
def dvE (a b : Int) : Option Int := if b = 0 then some 7 else okE (a.tdiv b)
theorem Div_all (H : Hp) (a b : Int) (a1 : -9223372036854775808 ≤ a) (a2 : a ≤ 9223372036854775807) (b1 : -9223372036854775808 ≤ b) (b2 : b ≤ 9223372036854775807) : CallH Try.prog 24 #[.int .i64 a, .int .i64 b] H (fun v H' => v = .tuple #[.int .i64 (dvI a b), errV (dvE a b)] ∧ H' = H) := by
  unfold dvI dvE
  by_cases hb : b = 0
  · subst hb; simp only [if_true]; exact Div_0 H a
  · simp only [if_neg hb]; exact Div_ok H a b a1 a2 b1 b2 hb
def mdI (a b : Int) : Int := if b = 0 then 0 else a.tmod b
def mdE (b : Int) : Option Int := if b = 0 then some 7 else none
theorem Mod_all (H : Hp) (a b : Int) (a1 : -9223372036854775808 ≤ a) (a2 : a ≤ 9223372036854775807) (b1 : -9223372036854775808 ≤ b) (b2 : b ≤ 9223372036854775807) : CallH Try.prog 25 #[.int .i64 a, .int .i64 b] H (fun v H' => v = .tuple #[.int .i64 (mdI a b), errV (mdE b)] ∧ H' = H) := by
  unfold mdI mdE
  by_cases hb : b = 0
  · subst hb; simp only [if_true]; exact Mod_0 H a
  · simp only [if_neg hb]; exact Mod_ok H a b a1 a2 b1 b2 hb
theorem okE_isSome (W : Int) : (okE W).isSome = decide (¬ fitsI W) := by unfold okE; by_cases h : fitsI W <;> simp [h]
theorem okE_isNone (W : Int) : (okE W).isNone = decide (fitsI W) := by unfold okE; by_cases h : fitsI W <;> simp [h]
theorem dvE_isSome (a b : Int) : (dvE a b).isSome = decide (¬ (b ≠ 0 ∧ fitsI (a.tdiv b))) := by
  unfold dvE; by_cases hb : b = 0
  · simp [hb]
  · simp [hb, okE_isSome]
theorem dv_bad {a b : Int} (a1 : -9223372036854775808 ≤ a) (a2 : a ≤ 9223372036854775807) (h : ¬ (b ≠ 0 ∧ fitsI (a.tdiv b))) : b = 0 ∨ (a = -9223372036854775808 ∧ b = -1) := by
  apply Classical.byContradiction; intro hc
  exact h ⟨fun e => hc (.inl e), tdiv_fits a1 a2 fun e => hc (.inr e)⟩

end Go.Proofs.Ytbeepknfcjejkaa.HL
