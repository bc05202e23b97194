/- Interface values that may be nil; letters of a text. -/
import Derived.Test.YtlkopcgoaldpeaaHLShort
namespace Go.Proofs.Ytlkopcgoaldpeaa.HL
open Go
set_option linter.unusedSimpArgs false
/-- A value of one type, or nil. -/
def ifV (T : TypeId) : Option Value → Value
  | none => .nilIface
  | some v => .iface T v
theorem g_ifv {P : Program} {H : Hp} (op : BinOp) (t : TypeId) (x : Operand) (c : Value) (T : TypeId) (o : Option Value) (K : Unit → Hp → Prop) : Lt P (eqGuard op t x (.const c) (ifV T o) .nilIface) H K = K () H := by
  cases o with
  | none => exact g_nil_r op t x c K
  | some k => exact g_iface op t x (.const c) T _ _ K
theorem b_ifv_neq {P : Program} {H : Hp} (t : TypeId) (ms : Array (String × TypeId)) (hu : P.underlying t = some (.interface ms)) (T : TypeId) (o : Option Value) (K : Value → Hp → Prop) : Lt P (binOp .neq t (ifV T o) .nilIface) H K = K (.bool o.isSome) H := by
  cases o with
  | none => show Lt P (binOp .neq t .nilIface .nilIface) H K = _; rw [e_neq _ _ _ _ (by simp), q_equal, q_nil_nil _ t ms hu]; rfl
  | some k => show Lt P (binOp .neq t (.iface T k) .nilIface) H K = _; rw [e_neq _ _ _ _ (by simp), q_equal, q_iface_nil _ t ms hu]; rfl
theorem b_ifv_eql {P : Program} {H : Hp} (t : TypeId) (ms : Array (String × TypeId)) (hu : P.underlying t = some (.interface ms)) (T : TypeId) (o : Option Value) (K : Value → Hp → Prop) : Lt P (binOp .eql t (ifV T o) .nilIface) H K = K (.bool o.isNone) H := by
  cases o with
  | none => show Lt P (binOp .eql t .nilIface .nilIface) H K = _; rw [e_eql _ _ _ _ (by simp), q_equal, q_nil_nil _ t ms hu]; rfl
  | some k => show Lt P (binOp .eql t (.iface T k) .nilIface) H K = _; rw [e_eql _ _ _ _ (by simp), q_equal, q_iface_nil _ t ms hu]; rfl
theorem str_get {l : List Int} (hB : ByteL l) {k : Nat} (h : k < l.length) : ∃ b : UInt8, (strOf l)[k]? = some b ∧ (b.toNat : Int) = l.getD k 0 := by
  have hs : k < (strOf l).size := by rw [strOf_size]; exact h
  refine ⟨(strOf l)[k]'hs, by simp [hs], ?_⟩
  have hg : l.getD k 0 = l[k] := by simp [List.getD_eq_getElem?_getD, h]
  have hb := hB l[k] (List.getElem_mem h)
  have e : (strOf l)[k]'hs = UInt8.ofNat (l[k]).toNat := by
    have : (strOf l)[k]'hs = (strOf l).data[k]'hs := rfl
    rw [this]; simp [strOf]
  rw [e, hg, UInt8.toNat_ofNat']; omega
theorem Lt_letter {P : Program} {H : Hp} {t : TypeId} (hu : P.underlying t = some .string) {l : List Int} (hB : ByteL l) {k : IntKind} {i : Nat} (h : i < l.length) {K : Value → Hp → Prop} (hK : K (.int .u8 (l.getD i 0)) H) : Lt P (Instr.index t (.string (strOf l)) (.int k (i : Int))) H K := by
  obtain ⟨b, h1, h2⟩ := str_get hB h
  refine Lt_indexStr hu (by omega) (b := b) (by rw [Int.toNat_natCast]; exact h1) ?_
  rw [h2]; exact hK
end Go.Proofs.Ytlkopcgoaldpeaa.HL
