/- More openers of arguments: a slice of numbers with its room. -/
import Derived.Test.YtlkopcgoaldpeaaHLFrame
namespace Go.Proofs.Ytlkopcgoaldpeaa.HL
open Go Go.ChangeShapes Go.WideShapes
variable {P : Program} {H : Type} {enc : TypeId × Value → H} {w : World} {base : Nat} {spare : Nat → Bool} {held : Bool} {r : Reach} {b0 : Nat} {t : TypeId} {v : Value} {d : DataW H} {ps : List MemPlace}
theorem u64_of_wf {x : Int} (h : (Lit.int .u64 x).wf = true) : 0 ≤ x ∧ x ≤ 18446744073709551615 := by
  simp [Lit.wf, IntKind.min, IntKind.max, IntKind.signed, IntKind.bits] at h; omega
theorem okWide_cap {e : TypeId} {a : Option Addr} {len cap : Nat} (ht : P.underlying t = some (.slice e)) (h : Value.okWide P w r b0 t (.slice a len cap)) : len ≤ cap := by
  simp only [Value.okWide, ht, Cell.okWide] at h
  cases a with
  | none =>
    match len, cap, h with
    | 0, cap, _ => omega
    | n + 1, cap, h => simp [Cell.ok, ht] at h
  | some a => simp only [Cell.ok, ht] at h; exact h.1
theorem arg_ints_cap {e : TypeId} {k : IntKind} (ht : P.underlying t = some (.slice e)) (he : P.underlying e = some (.int k)) (hc : P.cellsOf e = 1)
    (hval : Value.okWide P w r b0 t v) (hd : DataW.Trod enc P w base spare held t v d ps) : ∃ (L : List Int) (a : Option Addr) (cap : Nat), v = .slice a L.length cap ∧ L.length ≤ cap ∧ Holds (oldH w) 1 (.slice a L.length cap) L.length (L.map (.int k ·)) ∧ L.length ≤ maxLen ∧ ∀ z ∈ L, (Lit.int k z).wf = true := by
  obtain ⟨L, h1, h2, h3⟩ := arg_ints_slice ht he hc hval hd
  obtain ⟨a, cap, rfl⟩ := h1.form
  exact ⟨L, a, cap, rfl, okWide_cap ht hval, h1, h2, h3⟩
end Go.Proofs.Ytlkopcgoaldpeaa.HL
