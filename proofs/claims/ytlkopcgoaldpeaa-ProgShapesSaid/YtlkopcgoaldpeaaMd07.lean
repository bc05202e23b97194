/- Plain laws of dividing: a number of 128 bits by one of 64, half by half; division toward nought. -/
import Derived.Test.YtlkopcgoaldpeaaMd06
import Derived.Laws.MathBits
namespace Go.Proofs.Ytlkopcgoaldpeaa.HL
open Go

/-! ### half a step: two halves by a number whose highest bit is set -/
def KN (Y y1 y0 : Int) : Prop := Y = y1 * 4294967296 + y0 ∧ 2147483648 ≤ y1 ∧ y1 < 4294967296 ∧ 0 ≤ y0 ∧ y0 < 4294967296
def KI (Y y1 u d q r : Int) : Prop := q * y1 + r = u ∧ 0 ≤ r ∧ (u * 4294967296 + d) / Y ≤ q ∧ q ≤ 4294967297 ∧ 0 ≤ q
theorem kn_prod {Y y1 y0 : Int} (h : KN Y y1 y0) (q : Int) : q * Y = q * y1 * 4294967296 + q * y0 := by
  rw [h.1, Int.mul_add, Int.mul_assoc]
theorem kn_pos {Y y1 y0 : Int} (h : KN Y y1 y0) : 0 < Y := by obtain ⟨h1, h2, h3, h4, h5⟩ := h; omega
theorem kn_q {Y y1 y0 u d : Int} (h : KN Y y1 y0) (hu : 0 ≤ u) (hl : u < Y) (hd : 0 ≤ d) (hd2 : d < 4294967296) : 0 ≤ (u * 4294967296 + d) / Y ∧ (u * 4294967296 + d) / Y < 4294967296 := by
  have hp := kn_pos h
  constructor
  · exact Int.ediv_nonneg (by omega) (by omega)
  · rw [Int.ediv_lt_iff_lt_mul hp]; omega
theorem kn_start {Y y1 y0 u d : Int} (h : KN Y y1 y0) (hu : 0 ≤ u) (hl : u < Y) (hd : 0 ≤ d) (hd2 : d < 4294967296) : KI Y y1 u d (u / y1) (u - u / y1 * y1) ∧ u - u / y1 * y1 < 4294967296 := by
  have hp := kn_pos h
  have hq := kn_q h hu hl hd hd2
  obtain ⟨h1, h2, h3, h4, h5⟩ := id h
  have hm := Int.emod_nonneg u (show y1 ≠ 0 by omega)
  have hm2 := Int.emod_lt_of_pos u (show 0 < y1 by omega)
  have he := Int.mul_ediv_add_emod u y1
  rw [Int.mul_comm] at he
  refine ⟨⟨by omega, by omega, ?_, ?_, Int.ediv_nonneg hu (by omega)⟩, by omega⟩
  · rw [Int.le_ediv_iff_mul_le (by omega)]
    have hk := Int.mul_ediv_add_emod (u * 4294967296 + d) Y
    have hk2 := Int.emod_nonneg (u * 4294967296 + d) (show Y ≠ 0 by omega)
    rw [Int.mul_comm] at hk
    generalize (u * 4294967296 + d) / Y = k at *
    have hkp := kn_prod h k
    have : 0 ≤ k * y0 := Int.mul_nonneg hq.1 h4
    omega
  · have : u / y1 < 4294967298 := by
      rw [Int.ediv_lt_iff_lt_mul (by omega)]
      omega
    omega
theorem kn_more {Y y1 y0 u d q r : Int} (h : KN Y y1 y0) (hu : 0 ≤ u) (hl : u < Y) (hd : 0 ≤ d) (hd2 : d < 4294967296) (hi : KI Y y1 u d q r) (ht : 4294967296 ≤ q ∨ 4294967296 * r + d < q * y0) : KI Y y1 u d (q - 1) (r + y1) ∧ q - 1 ≤ 4294967296 ∧ 1 ≤ q := by
  have hp := kn_pos h
  have hq := kn_q h hu hl hd hd2
  obtain ⟨i1, i2, i3, i4, i5⟩ := hi
  have hlt : (u * 4294967296 + d) / Y < q := by
    rcases ht with ht | ht
    · omega
    · rw [Int.ediv_lt_iff_lt_mul hp, kn_prod h q]; omega
  obtain ⟨h1, h2, h3, h4, h5⟩ := h
  refine ⟨⟨?_, by omega, by omega, by omega, by omega⟩, by omega, by omega⟩
  rw [Int.sub_mul]; omega
theorem kn_out {Y y1 y0 u d q r : Int} (h : KN Y y1 y0) (hi : KI Y y1 u d q r) (ht : q * y0 ≤ 4294967296 * r + d) : q = (u * 4294967296 + d) / Y := by
  have hp := kn_pos h
  obtain ⟨i1, i2, i3, i4, i5⟩ := hi
  have : q ≤ (u * 4294967296 + d) / Y := by rw [Int.le_ediv_iff_mul_le hp, kn_prod h q]; omega
  omega
theorem kn_out2 {Y y1 y0 u d q r : Int} (h : KN Y y1 y0) (hd : 0 ≤ d) (hi : KI Y y1 u d q r) (hq : q ≤ 4294967296) (ht : 4294967296 ≤ r) : q = (u * 4294967296 + d) / Y := by
  refine kn_out h hi ?_
  obtain ⟨h1, h2, h3, h4, h5⟩ := h
  have := Int.mul_le_mul hq (show y0 ≤ 4294967295 by omega) h4 (by omega)
  omega
/-- what is left, modulo 2^64 -/
theorem kn_rest {Y y1 y0 u d : Int} (h : KN Y y1 y0) : 0 ≤ u * 4294967296 + d - (u * 4294967296 + d) / Y * Y ∧ u * 4294967296 + d - (u * 4294967296 + d) / Y * Y < Y := by
  have hp := kn_pos h
  have hm := Int.emod_nonneg (u * 4294967296 + d) (show Y ≠ 0 by omega)
  have hm2 := Int.emod_lt_of_pos (u * 4294967296 + d) hp
  have he := Int.mul_ediv_add_emod (u * 4294967296 + d) Y
  rw [Int.mul_comm] at he
  omega
theorem wrap_rest {x z : Int} (h1 : 0 ≤ x - z) (h2 : x - z < 18446744073709551616) (a d : Int) (e : x = a * 4294967296 + d) :
    IntKind.u64.wrap (IntKind.u64.wrap (IntKind.u64.wrap (a * 4294967296) + d) - IntKind.u64.wrap z) = x - z := by
  simp only [w_u64]; omega
theorem kn_two {Y a b c : Int} (hY : 0 < Y) (hc : 0 ≤ c) : (a * 4294967296 + b) / Y * 4294967296 + ((a * 4294967296 + b - (a * 4294967296 + b) / Y * Y) * 4294967296 + c) / Y = ((a * 4294967296 + b) * 4294967296 + c) / Y := by
  generalize a * 4294967296 + b = x
  have e : x * 4294967296 + c = ((x - x / Y * Y) * 4294967296 + c) + (x / Y * 4294967296) * Y := by
    rw [Int.sub_mul, Int.mul_assoc (x / Y) 4294967296 Y, Int.mul_comm 4294967296 Y, ← Int.mul_assoc]; omega
  rw [e, Int.add_mul_ediv_right _ _ (by omega)]; omega

/-! ### shifting -/
theorem or_add {x y : Int} {s : Nat} (hs : s ≤ 64) (hx : 0 ≤ x) (hx2 : x * 2 ^ s < 18446744073709551616) (hy : 0 ≤ y) (hy2 : y < 2 ^ s) : IntKind.u64.wrap (BitVec.ofInt IntKind.u64.bits (x * 2 ^ s) ||| BitVec.ofInt IntKind.u64.bits y).toNat = x * 2 ^ s + y := by
  have hp : (2 : Int) ^ s = ((2 ^ s : Nat) : Int) := by simp
  obtain ⟨x, rfl⟩ := Int.eq_ofNat_of_zero_le hx
  obtain ⟨y, rfl⟩ := Int.eq_ofNat_of_zero_le hy
  rw [hp] at *
  have e1 : ((x : Int) * ((2 ^ s : Nat) : Int)) = ((x * 2 ^ s : Nat) : Int) := by simp
  rw [e1] at *
  have hp64 : 2 ^ s ≤ 2 ^ 64 := Nat.pow_le_pow_right (by omega) hs
  have h1 : x * 2 ^ s < 2 ^ 64 := by omega
  have h2 : y < 2 ^ 64 := by omega
  show IntKind.u64.wrap ((BitVec.ofInt 64 ((x * 2 ^ s : Nat) : Int) ||| BitVec.ofInt 64 (y : Int)).toNat : Nat) = _
  rw [BitVec.toNat_or, BitVec.toNat_ofInt, BitVec.toNat_ofInt]
  have e2 : (((x * 2 ^ s : Nat) : Int) % ((2 ^ 64 : Nat) : Int)).toNat = x * 2 ^ s := by omega
  have e3 : ((y : Int) % ((2 ^ 64 : Nat) : Int)).toNat = y := by omega
  rw [e2, e3, Nat.mul_comm x, ← Nat.two_pow_add_eq_or_of_lt (by omega), w_u64]
  rw [Nat.mul_comm x] at h1
  have : 2 ^ s * x + y < 2 ^ 64 := by
    have hk : y < 2 ^ s := by omega
    have h3 : 2 ^ s * x + 2 ^ s ≤ 2 ^ 64 := by
      have hd : 2 ^ s * (2 ^ (64 - s)) = 2 ^ 64 := by rw [← Nat.pow_add]; congr 1; omega
      have : x < 2 ^ (64 - s) := by
        apply Classical.byContradiction; intro hc
        have := Nat.mul_le_mul_left (2 ^ s) (show 2 ^ (64 - s) ≤ x by omega)
        omega
      have := Nat.mul_le_mul_left (2 ^ s) (show x + 1 ≤ 2 ^ (64 - s) by omega)
      rw [Nat.mul_add, Nat.mul_one] at this
      omega
    omega
  omega
theorem shl_fits {x : Int} {s : Nat} (hx : 0 ≤ x) (h : x * 2 ^ s < 18446744073709551616) : IntKind.u64.wrap (x * 2 ^ s) = x * 2 ^ s := by
  have := Int.mul_nonneg hx (show (0 : Int) ≤ 2 ^ s from Int.le_of_lt (Int.pow_pos (by omega)))
  rw [w_u64]; omega
theorem split_shift {x : Int} {s : Nat} (hs : s ≤ 64) : x * 2 ^ s = x / 2 ^ (64 - s) * 18446744073709551616 + x * 2 ^ s % 18446744073709551616 := by
  have e : (18446744073709551616 : Int) = 2 ^ (64 - s) * 2 ^ s := by rw [← Int.pow_add, show 64 - s + s = 64 by omega]; rfl
  have hp : (0 : Int) < 2 ^ s := Int.pow_pos (by omega)
  have : x * 2 ^ s / 18446744073709551616 = x / 2 ^ (64 - s) := by
    rw [e]; exact Int.mul_ediv_mul_of_pos_left _ _ hp
  omega
theorem shift_low {x : Int} {s : Nat} (hs : s ≤ 64) (h0 : 0 ≤ x) (h1 : x < 18446744073709551616) : 0 ≤ x / 2 ^ (64 - s) ∧ x / 2 ^ (64 - s) < 2 ^ s := by
  have hp : (0 : Int) < 2 ^ (64 - s) := Int.pow_pos (by omega)
  have e : (18446744073709551616 : Int) = 2 ^ s * 2 ^ (64 - s) := by rw [← Int.pow_add, show s + (64 - s) = 64 by omega]; rfl
  refine ⟨Int.ediv_nonneg h0 (by omega), ?_⟩
  rw [Int.ediv_lt_iff_lt_mul hp, ← e]; exact h1
theorem norm_shift {y : Int} (h0 : 0 < y) (h1 : y < 18446744073709551616) : bitLen y.toNat ≤ 64 ∧ 1 ≤ bitLen y.toNat ∧ 9223372036854775808 ≤ y * 2 ^ (64 - bitLen y.toNat) ∧ y * 2 ^ (64 - bitLen y.toNat) < 18446744073709551616 := by
  obtain ⟨n, rfl⟩ := Int.eq_ofNat_of_zero_le (Int.le_of_lt h0)
  have hn : n ≠ 0 := by omega
  simp only [Int.toNat_natCast]
  obtain ⟨s1, s2⟩ := bitLen_spec n
  have s2 := s2 hn
  have hl : bitLen n ≤ 64 := by
    unfold bitLen; rw [if_neg hn]
    have := (Nat.log2_lt hn).2 (show n < 2 ^ 64 by omega)
    omega
  have hl1 : 1 ≤ bitLen n := by unfold bitLen; rw [if_neg hn]; omega
  generalize bitLen n = k at *
  have e : (n : Int) * 2 ^ (64 - k) = ((n * 2 ^ (64 - k) : Nat) : Int) := by simp
  rw [e]
  have u : n * 2 ^ (64 - k) < 2 ^ 64 := by
    have := Nat.mul_lt_mul_of_pos_right s1 (show 0 < 2 ^ (64 - k) from Nat.two_pow_pos _)
    rwa [← Nat.pow_add, show k + (64 - k) = 64 by omega] at this
  have l : 2 ^ 63 ≤ n * 2 ^ (64 - k) := by
    have := Nat.mul_le_mul_right (2 ^ (64 - k)) s2
    rwa [← Nat.pow_add, show k - 1 + (64 - k) = 63 by omega] at this
  omega
theorem kn_of {Y : Int} (h0 : 9223372036854775808 ≤ Y) (h1 : Y < 18446744073709551616) : KN Y (Y / 4294967296) (Y % 4294967296) := ⟨by omega, by omega, by omega, by omega, by omega⟩
theorem shl_lt {hi y : Int} {s : Nat} (h : hi < y) : hi * 2 ^ s + 2 ^ s ≤ y * 2 ^ s := by
  have hp : (0 : Int) < 2 ^ s := Int.pow_pos (by omega)
  have := Int.mul_le_mul_of_nonneg_right (show hi + 1 ≤ y by omega) (Int.le_of_lt hp)
  rwa [Int.add_mul, Int.one_mul] at this
/-- the quotient of the shifted numbers is that of the numbers -/
theorem kn_shift {hi lo y : Int} {s : Nat} (hs : s ≤ 64) (u1 u0 : Int) (e : lo * 2 ^ s % 18446744073709551616 = u1 * 4294967296 + u0) :
    (((hi * 2 ^ s + lo / 2 ^ (64 - s)) * 4294967296 + u1) * 4294967296 + u0) / (y * 2 ^ s) = (hi * 18446744073709551616 + lo) / y := by
  have hp : (0 : Int) < 2 ^ s := Int.pow_pos (by omega)
  have h := split_shift (x := lo) hs
  rw [← Int.mul_ediv_mul_of_pos_left (hi * 18446744073709551616 + lo) y hp]
  congr 1
  have e3 : (hi * 18446744073709551616 + lo) * 2 ^ s = hi * 2 ^ s * 18446744073709551616 + lo * 2 ^ s := by
    rw [Int.add_mul, Int.mul_assoc hi, Int.mul_comm 18446744073709551616, ← Int.mul_assoc]
  rw [e3]
  generalize hi * 2 ^ s = A at *
  generalize lo / 2 ^ (64 - s) = C at *
  omega

/-! ### dividing toward nought -/
theorem tdiv_abs (a b : Int) : (a.tdiv b).natAbs = a.natAbs / b.natAbs := Int.natAbs_tdiv ..
theorem tdiv_bound (a b : Int) : (a.tdiv b).natAbs ≤ a.natAbs := by rw [tdiv_abs]; exact Nat.div_le_self _ _
theorem tdiv_fits {a b : Int} (a1 : -9223372036854775808 ≤ a) (a2 : a ≤ 9223372036854775807) (h : ¬ (a = -9223372036854775808 ∧ b = -1)) : fitsI (a.tdiv b) := by
  unfold fitsI
  have h1 := tdiv_abs a b
  by_cases ha : a = -9223372036854775808
  · by_cases hb : b.natAbs = 1
    · have : b = 1 := by omega
      subst this; simp; omega
    · have : a.natAbs / b.natAbs ≤ 4611686018427387904 := by
        rcases Nat.lt_or_ge b.natAbs 2 with h2 | h2
        · have : b.natAbs = 0 := by omega
          rw [this]; simp
        · exact Nat.le_trans (Nat.div_le_div_left h2 (by omega)) (by omega)
      omega
  · have := tdiv_bound a b
    omega
theorem tdiv_bad {a b : Int} (h : a = -9223372036854775808 ∧ b = -1) : ¬ fitsI (a.tdiv b) := by
  obtain ⟨rfl, rfl⟩ := h; decide
theorem tmod_fits {a b : Int} (a1 : -9223372036854775808 ≤ a) (a2 : a ≤ 9223372036854775807) : fitsI (a.tmod b) := by
  unfold fitsI
  have : (a.tmod b).natAbs ≤ a.natAbs := by rw [Int.natAbs_tmod]; exact Nat.mod_le _ _
  have h0 : a = -9223372036854775808 → -9223372036854775808 ≤ a.tmod b ∧ a.tmod b ≤ 9223372036854775807 := by
    intro h
    have : a.tmod b ≤ 0 := by
      have := Int.tmod_nonneg (a := -a) b (by omega)
      rw [Int.neg_tmod] at this; omega
    omega
  omega
theorem tmod_neg1 (a : Int) : a.tmod (-1) = 0 := by rw [Int.tmod_neg]; exact Int.tmod_one a
theorem tmod_sign (a b : Int) : a.tmod b = 0 ∨ (a.tmod b < 0 ↔ a < 0) := by
  by_cases h : a.tmod b = 0
  · exact .inl h
  · right
    by_cases ha : 0 ≤ a
    · have := Int.tmod_nonneg b ha; omega
    · have := Int.tmod_nonneg (a := -a) b (by omega)
      rw [Int.neg_tmod] at this; omega
theorem div_mul (a b : Int) : a.tdiv b * b + a.tmod b = a := by have := Int.mul_tdiv_add_tmod a b; rw [Int.mul_comm] at this; exact this
theorem div_mul_fits {a b : Int} (a1 : -9223372036854775808 ≤ a) (a2 : a ≤ 9223372036854775807) : fitsI (a.tdiv b * b) := by
  have h := div_mul a b
  have hs := tmod_sign a b
  have hm : (a.tmod b).natAbs ≤ a.natAbs := by rw [Int.natAbs_tmod]; exact Nat.mod_le _ _
  unfold fitsI
  omega
theorem mul_back {a b : Int} (hb : b ≠ 0) : (a * b).tdiv b = a := Int.mul_tdiv_cancel _ hb
/-- a quotient of sizes, with its sign -/
theorem scale_sign (a b c : Int) : (if (!((!(decide (a < 0) == decide (b < 0))) == decide (c < 0))) = true then -(((a.natAbs * b.natAbs : Nat) : Int) / (c.natAbs : Int)) else ((a.natAbs * b.natAbs : Nat) : Int) / (c.natAbs : Int)) = (a * b).tdiv c := by
  have key : (((a.natAbs * b.natAbs : Nat) : Int) / (c.natAbs : Int)) = ((a * b).tdiv c).natAbs := by
    rw [Int.natAbs_tdiv, Int.natAbs_mul]; exact (Int.natCast_ediv _ _).symm
  rw [key]
  have hs : (a * b).tdiv c = if (decide (a < 0) != decide (b < 0)) != decide (c < 0) then -(((a * b).tdiv c).natAbs : Int) else (((a * b).tdiv c).natAbs : Int) := by
    have hm : ∀ x y : Int, 0 ≤ x → 0 ≤ y → 0 ≤ x * y := fun x y => Int.mul_nonneg
    have habs : ∀ P : Int, 0 ≤ (P).tdiv c ↔ (P).tdiv c = ((P).tdiv c).natAbs := fun P => by omega
    by_cases h1 : a < 0 <;> by_cases h2 : b < 0 <;> by_cases h3 : c < 0 <;> simp only [h1, h2, h3, decide_true, decide_false, bne_self_eq_false, Bool.true_bne, Bool.false_bne, Bool.not_true, Bool.not_false, if_true, if_false, Bool.false_eq_true]
    · have p : 0 ≤ a * b := by have := hm (-a) (-b) (by omega) (by omega); rwa [Int.neg_mul_neg] at this
      have := Int.tdiv_nonneg p (show 0 ≤ -c by omega)
      rw [Int.tdiv_neg] at this; omega
    · have p : 0 ≤ a * b := by have := hm (-a) (-b) (by omega) (by omega); rwa [Int.neg_mul_neg] at this
      have := Int.tdiv_nonneg p (show 0 ≤ c by omega); omega
    · have p : 0 ≤ -(a * b) := by have := hm (-a) b (by omega) (by omega); rwa [Int.neg_mul] at this
      have := Int.tdiv_nonneg p (show 0 ≤ -c by omega)
      rw [Int.tdiv_neg, Int.neg_tdiv] at this; omega
    · have p : 0 ≤ -(a * b) := by have := hm (-a) b (by omega) (by omega); rwa [Int.neg_mul] at this
      have := Int.tdiv_nonneg p (show 0 ≤ c by omega)
      rw [Int.neg_tdiv] at this; omega
    · have p : 0 ≤ -(a * b) := by have := hm a (-b) (by omega) (by omega); rwa [Int.mul_neg] at this
      have := Int.tdiv_nonneg p (show 0 ≤ -c by omega)
      rw [Int.tdiv_neg, Int.neg_tdiv] at this; omega
    · have p : 0 ≤ -(a * b) := by have := hm a (-b) (by omega) (by omega); rwa [Int.mul_neg] at this
      have := Int.tdiv_nonneg p (show 0 ≤ c by omega)
      rw [Int.neg_tdiv] at this; omega
    · have p : 0 ≤ a * b := hm a b (by omega) (by omega)
      have := Int.tdiv_nonneg p (show 0 ≤ -c by omega)
      rw [Int.tdiv_neg] at this; omega
    · have p : 0 ≤ a * b := hm a b (by omega) (by omega)
      have := Int.tdiv_nonneg p (show 0 ≤ c by omega); omega
  exact hs.symm
end Go.Proofs.Ytlkopcgoaldpeaa.HL
namespace Go.Proofs.Ytlkopcgoaldpeaa.HL
open Go
theorem shr16 (z : Int) : z.fdiv (2 ^ (min 16 IntKind.u64.bits)) = z / 65536 := by
  have : (2 : Int) ^ (min 16 IntKind.u64.bits) = 65536 := by decide
  rw [this, Int.fdiv_eq_ediv_of_nonneg _ (by omega)]
theorem shr8 (z : Int) : z.fdiv (2 ^ (min 8 IntKind.u64.bits)) = z / 256 := by
  have : (2 : Int) ^ (min 8 IntKind.u64.bits) = 256 := by decide
  rw [this, Int.fdiv_eq_ediv_of_nonneg _ (by omega)]
theorem bitLen_by {x : Int} (b : Nat) (m : Int) (hm : m = 2 ^ b) (h : m ≤ x) : (bitLen x.toNat : Int) = b + bitLen (x / m).toNat := by
  subst hm
  have hp : (0 : Int) < 2 ^ b := Int.pow_pos (by omega)
  obtain ⟨n, rfl⟩ := Int.eq_ofNat_of_zero_le (show 0 ≤ x by omega)
  have e : ((n : Int) / 2 ^ b).toNat = n / 2 ^ b := by
    have : (n : Int) / 2 ^ b = ((n / 2 ^ b : Nat) : Int) := by simp
    rw [this]; rfl
  have e2 : ((2 : Int) ^ b) = ((2 ^ b : Nat) : Int) := by simp
  have hn : 2 ^ b ≤ n := by omega
  rw [e, Int.toNat_natCast, bitLen_shift n b (by have := Nat.div_pos hn (Nat.two_pow_pos b); omega)]
  omega
end Go.Proofs.Ytlkopcgoaldpeaa.HL
namespace Go.Proofs.Ytlkopcgoaldpeaa.HL
open Go
theorem shlS {x : Int} {s : Nat} (hs : s ≤ 64) (hx : 0 ≤ x) (h : x * 2 ^ s < 18446744073709551616) : IntKind.u64.wrap (x * 2 ^ (min ((s : Int).toNat) IntKind.u64.bits)) = x * 2 ^ s := by
  rw [Int.toNat_natCast, show min s IntKind.u64.bits = s from Nat.min_eq_left hs]; exact shl_fits hx h
theorem shlW {x : Int} {s : Nat} (hs : s ≤ 64) : IntKind.u64.wrap (x * 2 ^ (min ((s : Int).toNat) IntKind.u64.bits)) = x * 2 ^ s % 18446744073709551616 := by
  rw [Int.toNat_natCast, show min s IntKind.u64.bits = s from Nat.min_eq_left hs, w_u64]
theorem shrS {x : Int} {s : Nat} (hs : s ≤ 64) : x.fdiv (2 ^ (min ((64 - (s : Int)).toNat) IntKind.u64.bits)) = x / 2 ^ (64 - s) := by
  have e : (64 - (s : Int)).toNat = 64 - s := by omega
  rw [e, show min (64 - s) IntKind.u64.bits = 64 - s from Nat.min_eq_left (by show 64 - s ≤ 64; omega)]
  exact Int.fdiv_eq_ediv_of_nonneg _ (Int.le_of_lt (Int.pow_pos (by omega)))
theorem quo_u64 {x y : Int} (h0 : 0 ≤ x) (h1 : x < 18446744073709551616) (hy : 0 < y) : IntKind.u64.wrap (x.tdiv y) = x / y := by
  rw [Int.tdiv_eq_ediv_of_nonneg h0, w_u64]
  have := Int.ediv_le_self y h0
  have := Int.ediv_nonneg h0 (Int.le_of_lt hy)
  omega
theorem wrapU {x : Int} (h0 : 0 ≤ x) (h1 : x < 18446744073709551616) : IntKind.u64.wrap x = x := by rw [w_u64]; omega
end Go.Proofs.Ytlkopcgoaldpeaa.HL
namespace Go.Proofs.Ytlkopcgoaldpeaa.HL
open Go
theorem scale_big {a b c : Int} (hc : c ≠ 0) (h : (c.natAbs : Int) ≤ ((a.natAbs * b.natAbs : Nat) : Int) / 18446744073709551616) : ¬ fitsI ((a * b).tdiv c) := by
  intro hf
  have h1 : ((a * b).tdiv c).natAbs = a.natAbs * b.natAbs / c.natAbs := by rw [Int.natAbs_tdiv, Int.natAbs_mul]; rfl
  unfold fitsI at hf
  generalize a.natAbs * b.natAbs = P at *
  have h2 : c.natAbs * 18446744073709551616 ≤ P := by omega
  have h3 : 18446744073709551616 ≤ P / c.natAbs := by
    rw [Nat.le_div_iff_mul_le (by omega), Nat.mul_comm]; exact h2
  omega
theorem scale_small {P c : Nat} (hc : c ≠ 0) (h : (P : Int) / 18446744073709551616 < c) : 0 ≤ (P : Int) / c ∧ (P : Int) / c < 18446744073709551616 := by
  have : P / c < 18446744073709551616 := by
    rw [Nat.div_lt_iff_lt_mul (by omega), Nat.mul_comm]; omega
  have e : (P : Int) / c = ((P / c : Nat) : Int) := by simp
  obtain ⟨Q, hQ⟩ : ∃ Q, Q = P / c := ⟨_, rfl⟩
  rw [e, ← hQ]; rw [← hQ] at this; omega
/-- is an answer that number, or the fault, if it is none? -/
def isB (n : Int) (e : Option Int) (W : Int) : Bool := if fitsI W then decide (e = none) && decide (n = W) else decide (e.getD 0 = 7) && decide (n = 0)
theorem isB_ok (W : Int) : isB (okI W) (okE W) W = true := by
  unfold isB okI okE; by_cases h : fitsI W <;> simp [h]
theorem isB_fits {n W : Int} (h : fitsI W) (hn : n = W) : isB n none W = true := by subst hn; unfold isB; simp [h]
end Go.Proofs.Ytlkopcgoaldpeaa.HL
namespace Go.Proofs.Ytlkopcgoaldpeaa.HL
open Go
theorem div_digit {s B T : Int} {n : Int} (hs : 0 ≤ s) (hB : 0 ≤ B) (h : s + n * B = T) (hT : T < 10 * B) : n ≤ 9 := by
  apply Classical.byContradiction; intro hc
  have := Int.mul_le_mul_of_nonneg_right (show (10 : Int) ≤ n by omega) hB
  omega
theorem div_lt {x r B : Int} (hx : x ≤ 9) (hr : r < B) : x + 10 * r < 10 * B := by omega
theorem div_step {x q r s n B : Int} (h : s + n * B = x + 10 * r) : x + 10 * (q * B + r) = (n + 10 * q) * B + s := by
  rw [Int.add_mul, Int.mul_assoc]; omega
theorem div_sign {A B Q R : Int} (h : A = Q * B + R) (h0 : 0 ≤ R) (h1 : R < B) (hA : 0 ≤ A) (ba bb : Bool) :
    (if (!(ba == bb)) = true then -Q else Q) = (if ba = true then -A else A).tdiv (if bb = true then -B else B) ∧ (if ba = true then -R else R) = (if ba = true then -A else A).tmod (if bb = true then -B else B) := by
  have hq : A.tdiv B = Q := by
    rw [Int.tdiv_eq_ediv_of_nonneg hA, h, Int.add_comm, Int.add_mul_ediv_right _ _ (by omega), Int.ediv_eq_zero_of_lt h0 h1]; omega
  have hr : A.tmod B = R := by
    have := div_mul A B
    rw [hq] at this; omega
  cases ba <;> cases bb <;> simp [Int.tdiv_neg, Int.neg_tdiv, Int.tmod_neg, Int.neg_tmod, hq, hr]
end Go.Proofs.Ytlkopcgoaldpeaa.HL
