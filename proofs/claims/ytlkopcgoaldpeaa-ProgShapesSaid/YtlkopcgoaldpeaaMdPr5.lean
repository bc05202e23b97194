/- Plain laws of what the functions compute; no program stands here. -/
import Derived.Test.YtlkopcgoaldpeaaMdPr4
namespace Go.Proofs.Ytlkopcgoaldpeaa.HL
open Go
set_option linter.unusedSimpArgs false
abbrev exC : Cd := ⟨15, 1, 0, 0, 0, 0⟩
theorem ex_check : checkP 5 [exC] = -2 := by decide
theorem ex_none : checkP 0 [] = -1 := by decide
theorem ex_bytes : encP 5 [exC] = [5, 1, 15, 1] := by
  have e : ∀ n : Nat, n < 128 → cnt n = [(n : Int)] := fun n h => cnt_lt h
  have e1 : (IntKind.u64.wrap 5).toNat = 5 := by decide
  have e2 : (IntKind.u64.wrap 1).toNat = 1 := by decide
  have e3 : shp 15 = [97] := by decide
  have e4 : exC.fld 97 = 1 := by decide
  unfold encP
  rw [e1, e 5 (by decide), List.length_singleton, e 1 (by decide), List.flatMap_cons, List.flatMap_nil]
  unfold encC
  rw [show exC.op = 15 from rfl, e3, List.flatMap_cons, List.flatMap_nil]
  unfold encF
  rw [if_neg (by decide), e4, e2, e 1 (by decide)]
  rfl
theorem ex_ok : ∀ x ∈ [exC], x.ok := fun x hx => by
  simp at hx; subst hx
  constructor <;> decide
end Go.Proofs.Ytlkopcgoaldpeaa.HL
