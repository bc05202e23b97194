/- Plain laws of costs by the document's answer. -/
import Derived.Test.YtfpicoflpddieaaMd12b
import Derived.Test.YtfpicoflpddieaaMd06
namespace Go.Proofs.Ytfpicoflpddieaa.HL
open Go

def rcC (pb pc pf bt fu : Int) : Int := IntKind.i64.wrap (pb + (IntKind.i64.wrap (pc * bt) + IntKind.i64.wrap (pf * fu)))
theorem rc_near (pb pc pf bt fu : Int) : ((fitsI (pc * bt) ∧ fitsI (pf * fu)) ∧ fitsI (pb + (IntKind.i64.wrap (pc * bt) + IntKind.i64.wrap (pf * fu)))) ↔ cmdOk pb pc pf bt fu := by
  unfold cmdOk
  constructor
  · rintro ⟨⟨h1, h2⟩, h3⟩
    rw [wrap_fits.2 h1, wrap_fits.2 h2] at h3
    refine ⟨h1, h2, ?_⟩
    unfold cmdS; rw [Int.add_assoc]; exact h3
  · rintro ⟨h1, h2, h3⟩
    refine ⟨⟨h1, h2⟩, ?_⟩
    rw [wrap_fits.2 h1, wrap_fits.2 h2]
    unfold cmdS at h3; rw [Int.add_assoc] at h3; exact h3
theorem rc_val {pb pc pf bt fu : Int} (h : cmdOk pb pc pf bt fu) : rcC pb pc pf bt fu = cmdS pb pc pf bt fu := by
  unfold rcC
  rw [wrap_fits.2 h.1, wrap_fits.2 h.2.1]
  have h3 := h.2.2
  unfold cmdS at *
  rw [← Int.add_assoc]; exact wrap_fits.2 h3
theorem rcom_over {pb pc pf pw bt fu wr : Int} (h : ¬ fitsI (pw * wr)) : true = comB pb pc pf pw bt fu wr := by unfold comB; simp [h]
theorem rcom_near {pb pc pf pw bt fu wr : Int} (h : fitsI (pw * wr)) (c : cmdOk pb pc pf bt fu) : decide (rcC pb pc pf bt fu ≤ IntKind.i64.wrap (pw * wr)) = comB pb pc pf pw bt fu wr := by
  unfold comB; rw [if_neg (by simp [h, c]), rc_val c, wrap_fits.2 h]
theorem rcom_far {pb pc pf pw bt fu wr : Int} (h : fitsI (pw * wr)) (c : ¬ cmdOk pb pc pf bt fu) : false = comB pb pc pf pw bt fu wr := by unfold comB; simp [h, c]
theorem cos_eq {pb pc pf pw bt fu wr : Int} (h : cosOk pb pc pf pw bt fu wr) : cosC pb pc pf pw bt fu wr = rcC pb pc pf bt fu ∧ cosV pb pc pf pw bt fu wr = IntKind.i64.wrap (pw * wr) ∧ cosE pb pc pf pw bt fu wr = none := by
  refine ⟨?_, ?_, ?_⟩
  · rw [rc_val h.1]; simp [cosC, h]
  · rw [wrap_fits.2 h.2]; simp [cosV, h]
  · simp [cosE, h]
end Go.Proofs.Ytfpicoflpddieaa.HL
