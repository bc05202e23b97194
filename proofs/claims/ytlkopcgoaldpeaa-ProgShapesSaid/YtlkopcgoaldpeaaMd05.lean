/- Plain laws of wide numbers: 128 bits as a higher signed half and a lower one. -/
import Derived.Test.YtlkopcgoaldpeaaHLNum
namespace Go.Proofs.Ytlkopcgoaldpeaa.HL
open Go

theorem w_i64 (x : Int) : IntKind.i64.wrap x = (x + 9223372036854775808) % 18446744073709551616 - 9223372036854775808 := by
  simp [IntKind.wrap, IntKind.bits, IntKind.signed]; omega
theorem w_u64 (x : Int) : IntKind.u64.wrap x = x % 18446744073709551616 := by simp [IntKind.wrap, IntKind.bits, IntKind.signed]
def loW (W : Int) : Int := W % 18446744073709551616
def hiW (W : Int) : Int := (W / 18446744073709551616 + 9223372036854775808) % 18446744073709551616 - 9223372036854775808
theorem loW_range (W : Int) : 0 ≤ loW W ∧ loW W ≤ 18446744073709551615 := by unfold loW; omega
theorem hiW_range (W : Int) : -9223372036854775808 ≤ hiW W ∧ hiW W ≤ 9223372036854775807 := by unfold hiW; omega
def fitsI (W : Int) : Prop := -9223372036854775808 ≤ W ∧ W ≤ 9223372036854775807
instance (W : Int) : Decidable (fitsI W) := inferInstanceAs (Decidable (_ ∧ _))
def okI (W : Int) : Int := if fitsI W then W else 0
def okE (W : Int) : Option Int := if fitsI W then none else some 7
theorem okI_range (W : Int) : -9223372036854775808 ≤ okI W ∧ okI W ≤ 9223372036854775807 := by
  unfold okI; split
  · assumption
  · omega
theorem okE_ok (W : Int) : ∀ k, okE W = some k → k ≠ 0 ∧ -9223372036854775808 ≤ k ∧ k ≤ 9223372036854775807 := by
  intro k h; unfold okE at h; split at h
  · cases h
  · cases h; omega
theorem okE_none {W : Int} : (okE W).isSome = false ↔ fitsI W := by unfold okE; split <;> simp [*]
theorem okE_some {W : Int} : (okE W).isSome = true ↔ ¬ fitsI W := by unfold okE; split <;> simp [*]
theorem okE_fits {W : Int} (h : fitsI W) : okE W = none := by simp [okE, h]
theorem okI_fits {W : Int} (h : fitsI W) : okI W = W := by simp [okI, h]
theorem okE_not {W : Int} (h : ¬ fitsI W) : okE W = some 7 := by simp [okE, h]
theorem okI_not {W : Int} (h : ¬ fitsI W) : okI W = 0 := by simp [okI, h]

theorem widen_hi (n : Int) (h1 : -9223372036854775808 ≤ n) (h2 : n ≤ 9223372036854775807) : n.fdiv (2 ^ (min (63 : Int).toNat IntKind.i64.bits)) = hiW n := by
  have e : (2 : Int) ^ (min (63 : Int).toNat IntKind.i64.bits) = 9223372036854775808 := by decide
  rw [e, Int.fdiv_eq_ediv_of_nonneg _ (by omega)]
  unfold hiW; omega
theorem widen_lo (n : Int) : IntKind.u64.wrap n = loW n := by rw [w_u64]; rfl
theorem plus_lo (a b : Int) : (loW a + loW b + 0) % 18446744073709551616 = loW (a + b) := by unfold loW; omega
theorem plus_hi (a b : Int) : IntKind.i64.wrap (IntKind.i64.wrap (hiW a + hiW b) + (loW a + loW b + 0) / 18446744073709551616) = hiW (a + b) := by
  rw [w_i64, w_i64]; unfold hiW loW
  have h1 : (a + b) / 18446744073709551616 = a / 18446744073709551616 + b / 18446744073709551616 + (a % 18446744073709551616 + b % 18446744073709551616 + 0) / 18446744073709551616 := by omega
  have h2 : 0 ≤ (a % 18446744073709551616 + b % 18446744073709551616 + 0) / 18446744073709551616 ∧ (a % 18446744073709551616 + b % 18446744073709551616 + 0) / 18446744073709551616 ≤ 1 := by omega
  rw [h1]
  generalize (a % 18446744073709551616 + b % 18446744073709551616 + 0) / 18446744073709551616 = c at *
  generalize a / 18446744073709551616 = x
  generalize b / 18446744073709551616 = y
  omega
theorem not_i64 (a : Int) (h1 : -9223372036854775808 ≤ a) (h2 : a ≤ 9223372036854775807) : IntKind.i64.wrap (BitVec.ofInt IntKind.i64.bits (if IntKind.i64.signed then -1 else IntKind.i64.max) ^^^ BitVec.ofInt IntKind.i64.bits a).toNat = -1 - a := by
  have e : BitVec.ofInt IntKind.i64.bits (if IntKind.i64.signed then -1 else IntKind.i64.max) = BitVec.allOnes 64 := by rfl
  have k : IntKind.i64.bits = 64 := rfl
  rw [e]
  show IntKind.i64.wrap ((BitVec.allOnes 64 ^^^ BitVec.ofInt 64 a).toNat : Nat) = _
  rw [BitVec.allOnes_xor, BitVec.toNat_not, BitVec.toNat_ofInt, w_i64]
  have hr : 0 ≤ a % (2 ^ 64 : Nat) ∧ a % (2 ^ 64 : Nat) < 18446744073709551616 := by omega
  have : ((2 ^ 64 - 1 - (a % (2 ^ 64 : Nat)).toNat : Nat) : Int) = 18446744073709551615 - a % 18446744073709551616 := by omega
  rw [this]; omega
theorem not_u64 (a : Int) (h1 : 0 ≤ a) (h2 : a ≤ 18446744073709551615) : IntKind.u64.wrap (BitVec.ofInt IntKind.u64.bits (if IntKind.u64.signed then -1 else IntKind.u64.max) ^^^ BitVec.ofInt IntKind.u64.bits a).toNat = 18446744073709551615 - a := by
  have e : BitVec.ofInt IntKind.u64.bits (if IntKind.u64.signed then -1 else IntKind.u64.max) = BitVec.allOnes 64 := by rfl
  rw [e]
  show IntKind.u64.wrap ((BitVec.allOnes 64 ^^^ BitVec.ofInt 64 a).toNat : Nat) = _
  rw [BitVec.allOnes_xor, BitVec.toNat_not, BitVec.toNat_ofInt, w_u64]
  have hr : 0 ≤ a % (2 ^ 64 : Nat) ∧ a % (2 ^ 64 : Nat) < 18446744073709551616 := by omega
  have : ((2 ^ 64 - 1 - (a % (2 ^ 64 : Nat)).toNat : Nat) : Int) = 18446744073709551615 - a % 18446744073709551616 := by omega
  rw [this]; omega
theorem and32 (z : Int) (h0 : 0 ≤ z) (h1 : z < 18446744073709551616) : IntKind.u64.wrap (BitVec.ofInt IntKind.u64.bits z &&& BitVec.ofInt IntKind.u64.bits 4294967295).toNat = z % 4294967296 := by
  have := and_low32 z h0 h1
  exact this
theorem u64_nonneg (z : Int) : 0 ≤ IntKind.u64.wrap z := by rw [w_u64]; omega
theorem u64_lt (z : Int) : IntKind.u64.wrap z < 18446744073709551616 := by rw [w_u64]; omega
theorem shr32 (z : Int) : z.fdiv (2 ^ (min 32 IntKind.u64.bits)) = z / 4294967296 := by
  have : (2 : Int) ^ (min 32 IntKind.u64.bits) = 4294967296 := by decide
  rw [this, Int.fdiv_eq_ediv_of_nonneg _ (by omega)]
theorem minus_hi (a : Int) : -1 - hiW a = hiW (-1 - a) := by unfold hiW; omega
theorem minus_lo (a : Int) : 18446744073709551615 - loW a = loW (-1 - a) := by unfold loW; omega
theorem one_hi : (0 : Int) = hiW 1 := by decide
theorem one_lo : (1 : Int) = loW 1 := by decide
theorem narrow_iff {W : Int} (h1 : -170141183460469231731687303715884105728 ≤ W) (h2 : W ≤ 170141183460469231731687303715884105727) :
    (hiW (IntKind.i64.wrap (loW W)) = hiW W ∧ loW (IntKind.i64.wrap (loW W)) = loW W) ↔ fitsI W := by
  rw [w_i64]; unfold fitsI hiW loW
  constructor
  · rintro ⟨h3, h4⟩; constructor <;> omega
  · rintro ⟨h3, h4⟩; constructor <;> omega
theorem narrow_val {W : Int} (h : fitsI W) : IntKind.i64.wrap (loW W) = W := by
  obtain ⟨h1, h2⟩ := h
  rw [w_i64]; unfold loW; omega
theorem size_neg {n : Int} (h : n < 0) (h1 : -9223372036854775808 ≤ n) : IntKind.u64.wrap (0 - IntKind.u64.wrap n) = n.natAbs := by rw [w_u64, w_u64]; omega
theorem size_pos {n : Int} (h : ¬ n < 0) (h1 : n ≤ 9223372036854775807) : IntKind.u64.wrap n = n.natAbs := by rw [w_u64]; omega
theorem signed_hi (h l : Int) (hl : 0 ≤ l) (hl2 : l ≤ 18446744073709551615) : IntKind.i64.wrap h = hiW (h * 18446744073709551616 + l) := by rw [w_i64]; unfold hiW; omega
theorem signed_lo (h l : Int) (hl : 0 ≤ l) (hl2 : l ≤ 18446744073709551615) : l = loW (h * 18446744073709551616 + l) := by unfold loW; omega
theorem abs_mul_bound {a b : Int} (h1 : -9223372036854775808 ≤ a) (h2 : a ≤ 9223372036854775807) (h3 : -9223372036854775808 ≤ b) (h4 : b ≤ 9223372036854775807) : a.natAbs * b.natAbs ≤ 85070591730234615865843651857942052864 := by
  have := Nat.mul_le_mul (show a.natAbs ≤ 9223372036854775808 by omega) (show b.natAbs ≤ 9223372036854775808 by omega)
  omega
theorem mul_sign (a b : Int) : (if (!(decide (a < 0) == decide (b < 0))) = true then -((a.natAbs * b.natAbs : Nat) : Int) else ((a.natAbs * b.natAbs : Nat) : Int)) = a * b := by
  have ha : ((a.natAbs : Nat) : Int) = if a < 0 then -a else a := by split <;> omega
  have hb : ((b.natAbs : Nat) : Int) = if b < 0 then -b else b := by split <;> omega
  rw [Int.natCast_mul, ha, hb]
  by_cases h1 : a < 0 <;> by_cases h2 : b < 0 <;> simp [h1, h2, Int.neg_mul, Int.mul_neg]
theorem hilo (W : Nat) : ((W : Int) / 18446744073709551616) * 18446744073709551616 + (W : Int) % 18446744073709551616 = W := by omega
theorem mul_bounds {a b : Int} (h1 : -9223372036854775808 ≤ a) (h2 : a ≤ 9223372036854775807) (h3 : -9223372036854775808 ≤ b) (h4 : b ≤ 9223372036854775807) : -170141183460469231731687303715884105728 ≤ a * b ∧ a * b ≤ 170141183460469231731687303715884105727 := by
  have h := abs_mul_bound h1 h2 h3 h4
  have e : (a * b).natAbs = a.natAbs * b.natAbs := Int.natAbs_mul a b
  omega
end Go.Proofs.Ytlkopcgoaldpeaa.HL
