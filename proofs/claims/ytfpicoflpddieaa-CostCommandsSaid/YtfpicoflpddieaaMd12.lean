/- Plain laws of costs. -/
import Derived.Test.YtfpicoflpddieaaMd05
namespace Go.Proofs.Ytfpicoflpddieaa.HL
open Go

def cmdS (pb pc pf bt fu : Int) : Int := pb + pc * bt + pf * fu
def cmdOk (pb pc pf bt fu : Int) : Prop := fitsI (pc * bt) ∧ fitsI (pf * fu) ∧ fitsI (cmdS pb pc pf bt fu)
instance (pb pc pf bt fu : Int) : Decidable (cmdOk pb pc pf bt fu) := inferInstanceAs (Decidable (_ ∧ _))
def cmdI (pb pc pf bt fu : Int) : Int := if cmdOk pb pc pf bt fu then cmdS pb pc pf bt fu else 0
def cmdE (pb pc pf bt fu : Int) : Option Int := if cmdOk pb pc pf bt fu then none else some 7
theorem cmd_no1 {pb pc pf bt fu : Int} (h : (okE (pc * bt)).isSome = true) : cmdI pb pc pf bt fu = 0 ∧ cmdE pb pc pf bt fu = okE (pc * bt) := by
  have h1 := okE_some.1 h
  have : ¬ cmdOk pb pc pf bt fu := fun c => h1 c.1
  simp [cmdI, cmdE, this, okE_not h1]
theorem cmd_no2 {pb pc pf bt fu : Int} (h : (okE (pf * fu)).isSome = true) : cmdI pb pc pf bt fu = 0 ∧ cmdE pb pc pf bt fu = okE (pf * fu) := by
  have h1 := okE_some.1 h
  have : ¬ cmdOk pb pc pf bt fu := fun c => h1 c.2.1
  simp [cmdI, cmdE, this, okE_not h1]
theorem cmd_yes {pb pc pf bt fu : Int} (h : (okE (pc * bt)).isSome = false) (k : (okE (pf * fu)).isSome = false) : cmdI pb pc pf bt fu = okI [pb, okI (pc * bt), okI (pf * fu)].sum ∧ cmdE pb pc pf bt fu = okE [pb, okI (pc * bt), okI (pf * fu)].sum := by
  have h1 := okE_none.1 h
  have k1 := okE_none.1 k
  have e : [pb, okI (pc * bt), okI (pf * fu)].sum = cmdS pb pc pf bt fu := by
    rw [okI_fits h1, okI_fits k1]; simp [cmdS]; omega
  rw [e]
  by_cases hs : fitsI (cmdS pb pc pf bt fu)
  · have : cmdOk pb pc pf bt fu := ⟨h1, k1, hs⟩
    simp [cmdI, cmdE, this, okE_fits hs, okI_fits hs]
  · have : ¬ cmdOk pb pc pf bt fu := fun c => hs c.2.2
    simp [cmdI, cmdE, this, okE_not hs, okI_not hs]
theorem cmdE_ok (pb pc pf bt fu : Int) : ∀ k, cmdE pb pc pf bt fu = some k → k ≠ 0 ∧ -9223372036854775808 ≤ k ∧ k ≤ 9223372036854775807 := by
  intro k h; unfold cmdE at h; split at h
  · cases h
  · cases h; omega
theorem cmdE_none {pb pc pf bt fu : Int} : (cmdE pb pc pf bt fu).isSome = false ↔ cmdOk pb pc pf bt fu := by unfold cmdE; split <;> simp [*]
theorem cmdE_some {pb pc pf bt fu : Int} : (cmdE pb pc pf bt fu).isSome = true ↔ ¬ cmdOk pb pc pf bt fu := by unfold cmdE; split <;> simp [*]
theorem cmdI_ok {pb pc pf bt fu : Int} (h : cmdOk pb pc pf bt fu) : cmdI pb pc pf bt fu = cmdS pb pc pf bt fu := by simp [cmdI, h]

/-- Is it logged as a command? -/
def comB (pb pc pf pw bt fu wr : Int) : Bool := if ¬ cmdOk pb pc pf bt fu ∨ ¬ fitsI (pw * wr) then decide (¬ fitsI (pw * wr)) else decide (cmdS pb pc pf bt fu ≤ pw * wr)
def cosOk (pb pc pf pw bt fu wr : Int) : Prop := cmdOk pb pc pf bt fu ∧ fitsI (pw * wr)
instance (pb pc pf pw bt fu wr : Int) : Decidable (cosOk pb pc pf pw bt fu wr) := inferInstanceAs (Decidable (_ ∧ _))
def cosC (pb pc pf pw bt fu wr : Int) : Int := if cosOk pb pc pf pw bt fu wr then cmdS pb pc pf bt fu else 0
def cosV (pb pc pf pw bt fu wr : Int) : Int := if cosOk pb pc pf pw bt fu wr then pw * wr else 0
def cosE (pb pc pf pw bt fu wr : Int) : Option Int := if cosOk pb pc pf pw bt fu wr then none else some 7
theorem cosE_ok (pb pc pf pw bt fu wr : Int) : ∀ k, cosE pb pc pf pw bt fu wr = some k → k ≠ 0 ∧ -9223372036854775808 ≤ k ∧ k ≤ 9223372036854775807 := by
  intro k h; unfold cosE at h; split at h
  · cases h
  · cases h; omega
theorem cosE_none {pb pc pf pw bt fu wr : Int} : (cosE pb pc pf pw bt fu wr).isSome = false ↔ cosOk pb pc pf pw bt fu wr := by unfold cosE; split <;> simp [*]
theorem cosE_some {pb pc pf pw bt fu wr : Int} : (cosE pb pc pf pw bt fu wr).isSome = true ↔ ¬ cosOk pb pc pf pw bt fu wr := by unfold cosE; split <;> simp [*]
theorem cos_no {pb pc pf pw bt fu wr : Int} (h : ¬ cosOk pb pc pf pw bt fu wr) : cosC pb pc pf pw bt fu wr = 0 ∧ cosV pb pc pf pw bt fu wr = 0 ∧ cosE pb pc pf pw bt fu wr = some 7 := by simp [cosC, cosV, cosE, h]
theorem cos_no1 {pb pc pf pw bt fu wr : Int} (h : (cmdE pb pc pf bt fu).isSome = true) : cosC pb pc pf pw bt fu wr = 0 ∧ cosV pb pc pf pw bt fu wr = 0 ∧ cosE pb pc pf pw bt fu wr = cmdE pb pc pf bt fu := by
  have h1 := cmdE_some.1 h
  have h2 := cos_no (pb := pb) (pc := pc) (pf := pf) (pw := pw) (bt := bt) (fu := fu) (wr := wr) (fun c => h1 c.1)
  refine ⟨h2.1, h2.2.1, ?_⟩
  rw [h2.2.2]; simp [cmdE, h1]
theorem cos_no2 {pb pc pf pw bt fu wr : Int} (h : (okE (pw * wr)).isSome = true) : cosC pb pc pf pw bt fu wr = 0 ∧ cosV pb pc pf pw bt fu wr = 0 ∧ cosE pb pc pf pw bt fu wr = okE (pw * wr) := by
  have h1 := okE_some.1 h
  have h2 := cos_no (pb := pb) (pc := pc) (pf := pf) (pw := pw) (bt := bt) (fu := fu) (wr := wr) (fun c => h1 c.2)
  refine ⟨h2.1, h2.2.1, ?_⟩
  rw [h2.2.2, okE_not h1]
theorem cos_yes {pb pc pf pw bt fu wr : Int} (h : (cmdE pb pc pf bt fu).isSome = false) (k : (okE (pw * wr)).isSome = false) : cosC pb pc pf pw bt fu wr = cmdI pb pc pf bt fu ∧ cosV pb pc pf pw bt fu wr = okI (pw * wr) ∧ cosE pb pc pf pw bt fu wr = none := by
  have h1 := cmdE_none.1 h
  have k1 := okE_none.1 k
  have : cosOk pb pc pf pw bt fu wr := ⟨h1, k1⟩
  simp [cosC, cosV, cosE, this, cmdI, h1, okI_fits k1]
theorem com_beyond {pb pc pf pw bt fu wr : Int} (h : (cmdE pb pc pf bt fu).isSome = true ∨ (okE (pw * wr)).isSome = true) : (okE (pw * wr)).isSome = comB pb pc pf pw bt fu wr := by
  have h' : ¬ cmdOk pb pc pf bt fu ∨ ¬ fitsI (pw * wr) := h.imp cmdE_some.1 okE_some.1
  rw [comB, if_pos h']
  by_cases hf : fitsI (pw * wr)
  · simp [hf, okE_fits hf]
  · simp [hf, okE_not hf]
theorem com_within {pb pc pf pw bt fu wr : Int} (h : (cmdE pb pc pf bt fu).isSome = false) (k : (okE (pw * wr)).isSome = false) : decide (cmdI pb pc pf bt fu ≤ okI (pw * wr)) = comB pb pc pf pw bt fu wr := by
  have h1 := cmdE_none.1 h
  have k1 := okE_none.1 k
  rw [comB, if_neg (by simp [h1, k1]), cmdI_ok h1, okI_fits k1]

theorem mul_mono {p x y : Int} (hp : 0 ≤ p) (h : x ≤ y) : p * x ≤ p * y := Int.mul_le_mul_of_nonneg_left h hp
theorem steady_writes {pb pc pf pw bt fu wr wr2 : Int} (hw : 0 ≤ pw) (h0 : 0 ≤ wr) (h : wr ≤ wr2) (c : comB pb pc pf pw bt fu wr = true) : comB pb pc pf pw bt fu wr2 = true := by
  have m := mul_mono hw h
  have m0 : 0 ≤ pw * wr := Int.mul_nonneg hw h0
  unfold comB at *
  by_cases hf2 : fitsI (pw * wr2)
  · have hf : fitsI (pw * wr) := ⟨by omega, by have := hf2.2; omega⟩
    by_cases hc : cmdOk pb pc pf bt fu
    · simp [hf, hf2, hc] at *; omega
    · simp [hf, hc] at c
  · simp [hf2]
theorem steady_bytes {pb pc pf pw bt bt2 fu wr : Int} (hc : 0 ≤ pc) (h : bt ≤ bt2) (e : cosOk pb pc pf pw bt fu wr) (f : cosOk pb pc pf pw bt2 fu wr) (is : comB pb pc pf pw bt fu wr = false) : comB pb pc pf pw bt2 fu wr = false := by
  have m := mul_mono hc h
  unfold comB at *
  simp only [e.1, e.2, f.1, not_true_eq_false, or_self, if_false, decide_eq_false_iff_not] at *
  simp only [cmdS] at *
  omega
end Go.Proofs.Ytfpicoflpddieaa.HL
