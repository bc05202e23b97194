/- Fields of struct values. -/
import Derived.Test.YtbeepknfcjejkaaHLApi
namespace Go.Proofs.Ytbeepknfcjejkaa.HL
open Go
variable {P : Program} {H : Hp}
theorem Lt_fieldV {t : TypeId} {fs : Array Field} {f : Nat} {fd : Field} {td : TypeDesc} (hu : P.underlying t = some (.struct fs)) (hf : fs[f]? = some fd) (ht : P.underlying fd.type = some td) (ha : isAggD td = false) {vs : Array Value} {v : Value} (hv : vs[fd.offset]? = some v) {K : Value → Hp → Prop} (h : K v H) :
    Lt P (Instr.field t (.agg vs) f) H K := by
  simp only [Instr.field, l_bind, l_und, hu, orF_some, hf, asAgg, l_pure, part, l_isAgg, ht, ha, Bool.false_eq_true, if_false, hv]
  exact h
theorem Lt_fieldA {t : TypeId} {fs : Array Field} {f : Nat} {fd : Field} {td : TypeDesc} {n : Nat} (hu : P.underlying t = some (.struct fs)) (hf : fs[f]? = some fd) (ht : P.underlying fd.type = some td) (ha : isAggD td = true) (hs : szOf P fd.type = some n) {vs : Array Value} {K : Value → Hp → Prop} (h : K (.agg (vs.extract fd.offset (fd.offset + n))) H) :
    Lt P (Instr.field t (.agg vs) f) H K := by
  simp only [Instr.field, l_bind, l_und, hu, orF_some, hf, asAgg, l_pure, part, l_isAgg, ht, ha, if_true, l_size, hs]
  exact h
end Go.Proofs.Ytbeepknfcjejkaa.HL
