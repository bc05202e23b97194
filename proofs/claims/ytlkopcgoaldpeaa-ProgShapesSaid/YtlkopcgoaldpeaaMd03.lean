/- Plain laws of numbers in few bytes: seven bits a byte, the lowest first. -/
import Derived.Test.YtlkopcgoaldpeaaMd07
namespace Go.Proofs.Ytlkopcgoaldpeaa.HL
open Go

/-- A count's bytes. -/
def cnt (n : Nat) : List Int := if n < 128 then [(n : Int)] else ((n % 128 + 128 : Nat) : Int) :: cnt (n / 128)
termination_by n
decreasing_by omega
theorem cnt_lt {n : Nat} (h : n < 128) : cnt n = [(n : Int)] := by rw [cnt, if_pos h]
theorem cnt_ge {n : Nat} (h : ¬ n < 128) : cnt n = ((n % 128 + 128 : Nat) : Int) :: cnt (n / 128) := by rw [cnt, if_neg h]
theorem cnt_ne (n : Nat) : cnt n ≠ [] := by
  by_cases h : n < 128
  · rw [cnt_lt h]; simp
  · rw [cnt_ge h]; simp
theorem cnt_bytes (n : Nat) : ByteL (cnt n) := by
  induction n using Nat.strongRecOn with
  | ind n ih =>
    by_cases h : n < 128
    · rw [cnt_lt h]; intro x hx; simp at hx; omega
    · rw [cnt_ge h]; intro x hx
      rcases List.mem_cons.1 hx with rfl | hx
      · omega
      · exact ih _ (by omega) x hx
/-- The number of a row of such bytes. -/
def valL : List Int → Nat
  | [] => 0
  | b :: t => b.toNat % 128 + 128 * valL t
theorem valL_cnt (n : Nat) : valL (cnt n) = n := by
  induction n using Nat.strongRecOn with
  | ind n ih =>
    by_cases h : n < 128
    · rw [cnt_lt h]; simp [valL]; omega
    · rw [cnt_ge h, valL, ih _ (by omega)]; omega
theorem cnt_pref {a b : Nat} : ∀ {x y : List Int}, cnt a ++ x = cnt b ++ y → a = b ∧ x = y := by
  induction a using Nat.strongRecOn generalizing b with
  | ind a ih =>
    intro x y h
    by_cases ha : a < 128 <;> by_cases hb : b < 128
    · rw [cnt_lt ha, cnt_lt hb] at h
      simp only [List.singleton_append, List.cons.injEq] at h
      exact ⟨by omega, h.2⟩
    · rw [cnt_lt ha, cnt_ge hb] at h
      simp only [List.singleton_append, List.cons_append, List.cons.injEq] at h
      omega
    · rw [cnt_ge ha, cnt_lt hb] at h
      simp only [List.singleton_append, List.cons_append, List.cons.injEq] at h
      omega
    · rw [cnt_ge ha, cnt_ge hb] at h
      simp only [List.cons_append, List.cons.injEq] at h
      have := ih (a / 128) (by omega) h.2
      exact ⟨by omega, this.2⟩
theorem cnt_inj {a b : Nat} (h : cnt a = cnt b) : a = b := by rw [← valL_cnt a, ← valL_cnt b, h]
theorem cnt_mono {a b : Nat} (h : a ≤ b) : (cnt a).length ≤ (cnt b).length := by
  induction b using Nat.strongRecOn generalizing a with
  | ind b ih =>
    by_cases ha : a < 128
    · rw [cnt_lt ha]
      have := cnt_ne b
      cases hc : cnt b with
      | nil => exact absurd hc this
      | cons x t => simp
    · rw [cnt_ge ha, cnt_ge (show ¬ b < 128 by omega)]
      have := ih (b / 128) (by omega) (a := a / 128) (by omega)
      simp only [List.length_cons]; omega
theorem cnt_len (n : Nat) : (cnt n).length = max 1 ((bitLen n + 6) / 7) := by
  induction n using Nat.strongRecOn with
  | ind n ih =>
    by_cases h : n < 128
    · rw [cnt_lt h]
      have : bitLen n ≤ 7 := by
        unfold bitLen; split
        · omega
        · rename_i h0
          have := (Nat.log2_lt h0).2 (show n < 2 ^ 7 from h)
          omega
      simp only [List.length_singleton]; omega
    · rw [cnt_ge h, List.length_cons, ih _ (by omega), bitLen_shift n 7 (show n / 2 ^ 7 ≠ 0 by omega)]
      have : 1 ≤ bitLen (n / 128) := by unfold bitLen; rw [if_neg (by omega)]; omega
      show max 1 ((bitLen (n / 128) + 6) / 7) + 1 = max 1 ((7 + bitLen (n / 128) + 6) / 7)
      omega
theorem cnt_len10 {n : Nat} (h : n < 18446744073709551616) : (cnt n).length ≤ 10 := by
  have : bitLen n ≤ 64 := by
    unfold bitLen; split
    · omega
    · rename_i h0
      have := (Nat.log2_lt h0).2 (show n < 2 ^ 64 from h)
      omega
  rw [cnt_len]; omega

/-! ### what a row of bytes begins with -/
def Big1 (p : List Int) : Prop := ∀ x ∈ p, 128 ≤ x ∧ x ≤ 255
theorem Big1.nil : Big1 [] := fun x h => by cases h
theorem Big1.snoc {p : List Int} {c : Int} (h : Big1 p) (h1 : 128 ≤ c) (h2 : c ≤ 255) : Big1 (p ++ [c]) := fun x hx => by
  rcases List.mem_append.1 hx with hx | hx
  · exact h x hx
  · simp at hx; omega
theorem valL_append (p q : List Int) : valL (p ++ q) = valL p + 128 ^ p.length * valL q := by
  induction p with
  | nil => simp [valL]
  | cons b t ih =>
    simp only [List.cons_append, valL, ih, List.length_cons, Nat.pow_succ]
    rw [Nat.mul_add, Nat.mul_comm (128 ^ t.length) 128, Nat.mul_assoc]; omega
theorem valL_lt (p : List Int) : valL p < 128 ^ p.length := by
  induction p with
  | nil => simp [valL]
  | cons b t ih => simp only [valL, List.length_cons, Nat.pow_succ]; omega
theorem cnt_of {p : List Int} : ∀ (_ : Big1 p) {c : Int} (_ : 0 ≤ c) (_ : c < 128) (_ : p = [] ∨ c ≠ 0), cnt (valL (p ++ [c])) = p ++ [c] := by
  induction p with
  | nil =>
    intro _ c h0 h1 _
    have : valL ([] ++ [c]) = c.toNat := by simp [valL]; omega
    rw [this, cnt_lt (by omega)]; simp; omega
  | cons b t ih =>
    intro hp c h0 h1 hc
    have hb := hp b (by simp)
    have h := ih (fun x hx => hp x (by simp [hx])) h0 h1 (by rcases hc with hc | hc; cases hc; exact .inr hc)
    have hc0 : c ≠ 0 := by rcases hc with hc | hc; cases hc; exact hc
    have hpos : 1 ≤ valL (t ++ [c]) := by
      rw [valL_append]
      have : 1 ≤ valL [c] := by simp [valL]; omega
      have := Nat.mul_le_mul (Nat.one_le_pow t.length 128 (by omega)) this
      omega
    simp only [List.cons_append, valL]
    rw [cnt_ge (by omega)]
    have e1 : (b.toNat % 128 + 128 * valL (t ++ [c])) / 128 = valL (t ++ [c]) := by omega
    rw [e1, h]
    congr 1; omega
theorem cnt_shape (n : Nat) : ∃ q d, cnt n = q ++ [d] ∧ Big1 q ∧ 0 ≤ d ∧ d < 128 ∧ (q = [] ∨ d ≠ 0) := by
  induction n using Nat.strongRecOn with
  | ind n ih =>
    by_cases h : n < 128
    · exact ⟨[], n, by rw [cnt_lt h]; rfl, Big1.nil, by omega, by omega, .inl rfl⟩
    · obtain ⟨q, d, h1, h2, h3, h4, h5⟩ := ih (n / 128) (by omega)
      refine ⟨((n % 128 + 128 : Nat) : Int) :: q, d, by rw [cnt_ge h, h1]; rfl, fun x hx => ?_, h3, h4, ?_⟩
      · rcases List.mem_cons.1 hx with rfl | hx
        · omega
        · exact h2 x hx
      · right
        rcases h5 with rfl | h5
        · intro h0
          subst h0
          have := valL_cnt (n / 128)
          rw [h1] at this; simp [valL] at this; omega
        · exact h5
/-- what stands at the head, if all that is there is great -/
theorem no_cnt {p : List Int} (hp : Big1 p) {u : Nat} {x : List Int} : p ≠ cnt u ++ x := by
  intro h
  obtain ⟨q, d, h1, h2, h3, h4, _⟩ := cnt_shape u
  have : d ∈ p := by rw [h, h1]; simp
  have := hp d this
  omega
theorem split_at {p q : List Int} (hp : Big1 p) (hq : Big1 q) : ∀ {c d : Int} {x y : List Int} (_ : c < 128) (_ : d < 128), p ++ c :: x = q ++ d :: y → p = q ∧ c = d ∧ x = y := by
  induction p generalizing q with
  | nil =>
    intro c d x y hc hd h
    cases q with
    | nil => simp at h; exact ⟨rfl, h.1, h.2⟩
    | cons b t => simp at h; have := hq b (by simp); omega
  | cons b t ih =>
    intro c d x y hc hd h
    cases q with
    | nil => simp at h; have := hp b (by simp); omega
    | cons b' t' =>
      simp only [List.cons_append, List.cons.injEq] at h
      obtain ⟨h1, h2⟩ := h
      obtain ⟨h3, h4, h5⟩ := ih (fun z hz => hp z (by simp [hz])) (q := t') (fun z hz => hq z (by simp [hz])) hc hd h2
      exact ⟨by rw [h1, h3], h4, h5⟩
/-- What a reading of a count comes to: a count and what is behind it; none. -/
def RC (l : List Int) : Option (Nat × List Int) → Prop
  | some (u, r) => l = cnt u ++ r ∧ u < 18446744073709551616
  | none => ∀ u r, u < 18446744073709551616 → l ≠ cnt u ++ r
theorem RC.uniq {l : List Int} : ∀ {a b : Option (Nat × List Int)}, RC l a → RC l b → a = b
  | none, none, _, _ => rfl
  | none, some (u, r), h1, h2 => absurd h2.1 (h1 u r h2.2)
  | some (u, r), none, h1, h2 => absurd h1.1 (h2 u r h1.2)
  | some (u, r), some (v, s), h1, h2 => by
    have := cnt_pref (h1.1.symm.trans h2.1)
    rw [this.1, this.2]
theorem RC.cnt {u : Nat} (r : List Int) (h : u < 18446744073709551616) : RC (cnt u ++ r) (some (u, r)) := ⟨rfl, h⟩
theorem RC_end {p : List Int} (hp : Big1 p) : RC p none := fun u r _ h => no_cnt hp h
theorem RC_good {p r : List Int} {c : Int} (hp : Big1 p) (h0 : 0 ≤ c) (h1 : c < 128) (hc : p = [] ∨ c ≠ 0) (h : valL (p ++ [c]) < 18446744073709551616) : RC (p ++ c :: r) (some (valL (p ++ [c]), r)) := by
  refine ⟨?_, h⟩
  rw [cnt_of hp h0 h1 hc]; simp
theorem RC_zero {p r : List Int} (hp : Big1 p) (hne : p ≠ []) : RC (p ++ (0 : Int) :: r) none := by
  intro u x hu h
  obtain ⟨q, d, h1, h2, h3, h4, h5⟩ := cnt_shape u
  rw [h1, List.append_assoc, List.singleton_append] at h
  obtain ⟨e1, e2, _⟩ := split_at hp h2 (by omega) h4 h
  rcases h5 with h5 | h5
  · exact hne (e1.trans h5)
  · exact h5 e2.symm
theorem valL_snoc (p : List Int) {c : Int} (h0 : 0 ≤ c) (h1 : c < 128) : valL (p ++ [c]) = valL p + 128 ^ p.length * c.toNat := by
  rw [valL_append]; simp only [valL]; congr 2; omega
theorem RC_over {p r : List Int} {c : Int} (hp : Big1 p) (hl : p.length = 9) (h1 : 1 < c) (h2 : c ≤ 255) : RC (p ++ c :: r) none := by
  intro u x hu h
  obtain ⟨q, d, k1, k2, k3, k4, k5⟩ := cnt_shape u
  by_cases hc : c < 128
  · rw [k1, List.append_assoc, List.singleton_append] at h
    obtain ⟨rfl, rfl, _⟩ := split_at hp k2 hc k4 h
    have := valL_cnt u
    rw [k1, valL_snoc _ k3 k4, hl] at this
    have h9 : (128 : Nat) ^ 9 = 9223372036854775808 := by decide
    rw [h9] at this
    omega
  · have hb : Big1 (p ++ [c]) := hp.snoc (by omega) h2
    have e : p ++ c :: r = (p ++ [c]) ++ r := by simp
    have hlen := cnt_len10 hu
    rw [e] at h
    -- the first ten bytes are great: the count is longer than ten
    have : (cnt u).length ≤ (p ++ [c]).length := by simp; omega
    have h3 := congrArg (List.take (cnt u).length) h
    rw [List.take_append_of_le_length this, List.take_left] at h3
    exact no_cnt (fun z hz => hb z (List.mem_of_mem_take hz)) (x := []) (h3.trans (List.append_nil _).symm)
theorem RC_nil : RC [] none := RC_end Big1.nil
/-- the number so far -/
theorem valL_step {p : List Int} {c : Int} (h0 : 0 ≤ c) : valL (p ++ [c]) = valL p + c.toNat % 128 * 128 ^ p.length := by
  rw [valL_append]; simp only [valL, Nat.mul_zero, Nat.add_zero]; rw [Nat.mul_comm]
end Go.Proofs.Ytlkopcgoaldpeaa.HL
namespace Go.Proofs.Ytlkopcgoaldpeaa.HL
open Go
/-! ### the machine's words -/
theorem shr7 (z : Int) : z.fdiv (2 ^ (min 7 IntKind.u64.bits)) = z / 128 := by
  have : (2 : Int) ^ (min 7 IntKind.u64.bits) = 128 := by decide
  rw [this, Int.fdiv_eq_ediv_of_nonneg _ (by omega)]
theorem shr1 (z : Int) : z.fdiv (2 ^ (min 1 IntKind.u64.bits)) = z / 2 := by
  have : (2 : Int) ^ (min 1 IntKind.u64.bits) = 2 := by decide
  rw [this, Int.fdiv_eq_ediv_of_nonneg _ (by omega)]
theorem w_u8 (x : Int) : IntKind.u8.wrap x = x % 256 := by simp [IntKind.wrap, IntKind.bits, IntKind.signed]
theorem or128_all : ∀ x : Fin 256, (BitVec.ofInt 8 ((x.val : Nat) : Int) ||| BitVec.ofInt 8 128).toNat = x.val % 128 + 128 := by decide +kernel
theorem or128 (n : Int) : IntKind.u8.wrap (BitVec.ofInt IntKind.u8.bits (IntKind.u8.wrap n) ||| BitVec.ofInt IntKind.u8.bits 128).toNat = n % 128 + 128 := by
  have h := or128_all ⟨(n % 256).toNat, by omega⟩
  have e : (((n % 256).toNat : Nat) : Int) = n % 256 := by omega
  simp only [e] at h
  rw [w_u8 n, w_u8]
  show (((BitVec.ofInt 8 (n % 256) ||| BitVec.ofInt 8 128).toNat : Nat) : Int) % 256 = _
  rw [h]; omega
theorem and127_all : ∀ x : Fin 256, (BitVec.ofInt 8 ((x.val : Nat) : Int) &&& BitVec.ofInt 8 127).toNat = x.val % 128 := by decide +kernel
theorem and127 {c : Int} (h0 : 0 ≤ c) (h1 : c ≤ 255) : IntKind.u8.wrap (BitVec.ofInt IntKind.u8.bits c &&& BitVec.ofInt IntKind.u8.bits 127).toNat = c % 128 := by
  have h := and127_all ⟨c.toNat, by omega⟩
  have e : ((c.toNat : Nat) : Int) = c := by omega
  simp only [e] at h
  rw [w_u8]
  show (((BitVec.ofInt 8 c &&& BitVec.ofInt 8 127).toNat : Nat) : Int) % 256 = _
  rw [h]; omega
/-- a number's count -/
def zig (n : Int) : Nat := if n < 0 then 2 * (-(n + 1)).toNat + 1 else 2 * n.toNat
def unzig (u : Nat) : Int := if u % 2 = 1 then -((u / 2 : Nat) : Int) - 1 else ((u / 2 : Nat) : Int)
theorem unzig_zig (n : Int) : unzig (zig n) = n := by unfold zig unzig; split <;> (split <;> omega)
theorem zig_lt {n : Int} (h1 : -9223372036854775808 ≤ n) (h2 : n ≤ 9223372036854775807) : zig n < 18446744073709551616 := by unfold zig; split <;> omega
theorem zig_inj {a b : Int} (h : zig a = zig b) : a = b := by rw [← unzig_zig a, ← unzig_zig b, h]
theorem xor_zero64 (x : Int) : (BitVec.ofInt 64 x ^^^ BitVec.ofInt 64 0).toNat = (x % 18446744073709551616).toNat := by
  rw [show BitVec.ofInt 64 0 = 0#64 from rfl, BitVec.xor_zero, BitVec.toNat_ofInt]; rfl
theorem xor_ones64 (x : Int) : (BitVec.ofInt 64 x ^^^ BitVec.ofInt 64 (-1)).toNat = 18446744073709551615 - (x % 18446744073709551616).toNat := by
  rw [show BitVec.ofInt 64 (-1) = BitVec.allOnes 64 from rfl, BitVec.xor_allOnes, BitVec.toNat_not, BitVec.toNat_ofInt]; rfl
theorem ofInt_mod64 (x : Int) : BitVec.ofInt 64 (x % 18446744073709551616) = BitVec.ofInt 64 x := by
  apply BitVec.eq_of_toNat_eq
  rw [BitVec.toNat_ofInt, BitVec.toNat_ofInt]
  show ((x % 18446744073709551616) % 18446744073709551616).toNat = (x % 18446744073709551616).toNat
  omega
theorem zig_bits {n : Int} (h1 : -9223372036854775808 ≤ n) (h2 : n ≤ 9223372036854775807) :
    IntKind.u64.wrap (BitVec.ofInt IntKind.u64.bits (IntKind.u64.wrap (IntKind.u64.wrap n * 2 ^ (min (1 : Int).toNat IntKind.u64.bits))) ^^^ BitVec.ofInt IntKind.u64.bits (IntKind.u64.wrap (n.fdiv (2 ^ (min (63 : Int).toNat IntKind.i64.bits))))).toNat = zig n := by
  have e : (2 : Int) ^ (min (63 : Int).toNat IntKind.i64.bits) = 9223372036854775808 := by decide
  have e1 : (2 : Int) ^ (min (1 : Int).toNat IntKind.u64.bits) = 2 := by decide
  rw [e, e1, Int.fdiv_eq_ediv_of_nonneg _ (by omega), w_u64, w_u64 n, w_u64 (n % 18446744073709551616 * 2), w_u64 (n / 9223372036854775808)]
  show (((BitVec.ofInt 64 (n % 18446744073709551616 * 2 % 18446744073709551616) ^^^ BitVec.ofInt 64 (n / 9223372036854775808 % 18446744073709551616)).toNat : Nat) : Int) % 18446744073709551616 = _
  rw [ofInt_mod64, ofInt_mod64]
  by_cases hn : n < 0
  · have e2 : n / 9223372036854775808 = -1 := by omega
    rw [e2, xor_ones64]; unfold zig; rw [if_pos hn]; omega
  · have e2 : n / 9223372036854775808 = 0 := by omega
    rw [e2, xor_zero64]; unfold zig; rw [if_neg hn]; omega
theorem and1_all (u : Int) (h0 : 0 ≤ u) (h1 : u < 18446744073709551616) : IntKind.u64.wrap (BitVec.ofInt IntKind.u64.bits u &&& BitVec.ofInt IntKind.u64.bits 1).toNat = u % 2 := by
  show IntKind.u64.wrap (((BitVec.ofInt 64 u &&& BitVec.ofInt 64 1).toNat : Nat) : Int) = _
  rw [BitVec.toNat_and, BitVec.toNat_ofInt, BitVec.toNat_ofInt, w_u64]
  have e1 : ((1 : Int) % ((2 ^ 64 : Nat) : Int)).toNat = 1 := by decide
  rw [e1, Nat.and_one_is_mod]
  have e2 : (u % ((2 ^ 64 : Nat) : Int)).toNat = u.toNat := by omega
  rw [e2]; omega
theorem unzig_bits {u : Nat} (h : u < 18446744073709551616) : IntKind.i64.wrap (BitVec.ofInt IntKind.i64.bits ((u : Int) / 2) ^^^ BitVec.ofInt IntKind.i64.bits (-((u : Int) % 2))).toNat = unzig u := by
  show IntKind.i64.wrap (((BitVec.ofInt 64 ((u : Int) / 2) ^^^ BitVec.ofInt 64 (-((u : Int) % 2))).toNat : Nat) : Int) = _
  rw [w_i64]
  by_cases hu : u % 2 = 1
  · have e : -((u : Int) % 2) = -1 := by omega
    rw [e, xor_ones64]; unfold unzig; rw [if_pos hu]; omega
  · have e : -((u : Int) % 2) = 0 := by omega
    rw [e, xor_zero64]; unfold unzig; rw [if_neg hu]; omega
end Go.Proofs.Ytlkopcgoaldpeaa.HL
namespace Go.Proofs.Ytlkopcgoaldpeaa.HL
open Go
theorem RC_ten {l : List Int} (h : 10 ≤ l.length) (hb : Big1 (l.take 10)) : RC l none := by
  intro u r hu e
  have hlen := cnt_len10 hu
  have h3 := congrArg (List.take (cnt u).length) e
  rw [List.take_left] at h3
  refine no_cnt (p := l.take (cnt u).length) (u := u) (x := []) (fun z hz => hb z ?_) (by rw [h3, List.append_nil])
  have : l.take (cnt u).length = (l.take 10).take (cnt u).length := by rw [List.take_take, Nat.min_eq_left hlen]
  rw [this] at hz; exact List.mem_of_mem_take hz
theorem take_snoc {l : List Int} {n : Nat} (h : n < l.length) : l.take (n + 1) = l.take n ++ [l.getD n 0] := by
  rw [List.take_succ_eq_append_getElem h, List.getD_eq_getElem?_getD, List.getElem?_eq_getElem h]; rfl
theorem RC_same {l : List Int} {n u : Nat} (hn : n < l.length) (hu : u < 18446744073709551616) (h : cnt u = l.take (n + 1)) : RC l (some (u, l.drop (n + 1))) := ⟨by rw [h, List.take_append_drop], hu⟩
theorem RC_unlike {l : List Int} {n : Nat} (hn : n < l.length) (hb : Big1 (l.take n)) (hc : l.getD n 0 < 128) (h : cnt (valL (l.take (n + 1)) % 18446744073709551616) ≠ l.take (n + 1)) : RC l none := by
  intro u r hu e
  obtain ⟨q, d, k1, k2, k3, k4, k5⟩ := cnt_shape u
  have e2 : l = l.take n ++ l.getD n 0 :: l.drop (n + 1) := by
    have := (List.take_append_drop (n + 1) l).symm
    rw [take_snoc hn, List.append_assoc, List.singleton_append] at this
    exact this
  rw [k1, List.append_assoc, List.singleton_append] at e
  obtain ⟨e3, e4, _⟩ := split_at hb k2 hc k4 (e2.symm.trans e)
  apply h
  have e5 : l.take (n + 1) = cnt u := by rw [take_snoc hn, k1, e3, e4]
  rw [e5, valL_cnt, Nat.mod_eq_of_lt hu]
theorem valL_drop {l : List Int} {i : Nat} (h : i < l.length) : valL (l.drop i) = (l.getD i 0).toNat % 128 + 128 * valL (l.drop (i + 1)) := by
  rw [List.drop_eq_getElem_cons h, valL, List.getD_eq_getElem?_getD, List.getElem?_eq_getElem h]; rfl
theorem big_step {l : List Int} {n : Nat} (hn : n < l.length) (hB : ByteL l) (hb : Big1 (l.take n)) (h : 128 ≤ l.getD n 0) : Big1 (l.take (n + 1)) := by
  rw [take_snoc hn]
  refine hb.snoc h ?_
  have : l.getD n 0 ∈ l := by rw [List.getD_eq_getElem?_getD, List.getElem?_eq_getElem hn]; exact List.getElem_mem hn
  have := hB _ this
  omega
theorem ByteL.at {l : List Int} (h : ByteL l) (n : Nat) : 0 ≤ l.getD n 0 ∧ l.getD n 0 ≤ 255 := by
  by_cases hn : n < l.length
  · have : l.getD n 0 ∈ l := by rw [List.getD_eq_getElem?_getD, List.getElem?_eq_getElem hn]; exact List.getElem_mem hn
    have := h _ this
    omega
  · rw [getD_out (by omega)]; omega
theorem ByteL.drop {l : List Int} (h : ByteL l) (n : Nat) : ByteL (l.drop n) := fun x hx => h x (List.mem_of_mem_drop hx)
theorem ByteL.take {l : List Int} (h : ByteL l) (n : Nat) : ByteL (l.take n) := fun x hx => h x (List.mem_of_mem_take hx)
theorem acc_wrap (a : Nat) (c : Int) (h0 : 0 ≤ c) : IntKind.u64.wrap (IntKind.u64.wrap (128 * ((a % 18446744073709551616 : Nat) : Int)) + c % 128) = ((c.toNat % 128 + 128 * a) % 18446744073709551616 : Nat) := by
  rw [w_u64, w_u64]; omega
end Go.Proofs.Ytlkopcgoaldpeaa.HL
