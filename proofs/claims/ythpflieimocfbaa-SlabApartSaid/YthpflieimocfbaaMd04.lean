/- Slabs: which sector a slab has, which slab a sector has. -/
import Derived.Test.YthpflieimocfbaaHLMore
namespace Go.Proofs.Ythpflieimocfbaa.HL
open Go
set_option linter.unusedSimpArgs false
set_option linter.unusedVariables false

/-- A number of bytes, the smallest first. -/
def leI : List Int → Int
  | [] => 0
  | x :: r => x + 256 * leI r
/-- The bytes of a number. -/
def leR : Nat → Int → List Int
  | 0, _ => []
  | k + 1, n => (n % 256) :: leR k (n / 256)
theorem leR_len : ∀ (k : Nat) (n : Int), (leR k n).length = k
  | 0, _ => rfl
  | k + 1, n => by simp [leR, leR_len k]
theorem leR_byte : ∀ (k : Nat) (n : Int), ByteL (leR k n)
  | 0, _ => by intro x hx; cases hx
  | k + 1, n => by
    intro x hx
    rcases List.mem_cons.1 hx with rfl | hx
    · omega
    · exact leR_byte k _ x hx
theorem leI_leR : ∀ (k : Nat) (n : Int), leI (leR k n) = n % 256 ^ k
  | 0, n => by simp [leI, leR]
  | k + 1, n => by
    have hp : (0 : Int) < 256 ^ k := Int.pow_pos (by decide)
    rw [leR, leI, leI_leR k, Int.pow_succ, Int.mul_comm (256 ^ k) 256]
    have h1 := Int.emod_nonneg (n / 256) (Int.ne_of_gt hp)
    have h2 := Int.emod_lt_of_pos (n / 256) hp
    have h3 := Int.mul_ediv_add_emod (n / 256) (256 ^ k)
    have h4 := ((Int.ediv_emod_unique (a := n) (b := 256 * 256 ^ k) (r := n % 256 + 256 * (n / 256 % 256 ^ k)) (q := n / 256 / 256 ^ k) (by omega)).2 ⟨?_, by omega, by omega⟩).2
    · exact h4.symm
    · rw [Int.mul_assoc]; omega
theorem leR_leI : ∀ (l : List Int), ByteL l → leR l.length (leI l) = l
  | [], _ => rfl
  | x :: r, h => by
    have hx := h x (by simp)
    have h1 : (x + 256 * leI r) % 256 = x := by omega
    have h2 : (x + 256 * leI r) / 256 = leI r := by omega
    simp only [List.length_cons, leI, leR, h1, h2]
    rw [leR_leI r (fun y hy => h y (by simp [hy]))]
theorem leI_range : ∀ (l : List Int), ByteL l → 0 ≤ leI l ∧ leI l < 256 ^ l.length
  | [], _ => by simp [leI]
  | x :: r, h => by
    have hx := h x (by simp)
    have := leI_range r (fun y hy => h y (by simp [hy]))
    simp only [List.length_cons, leI, Int.pow_succ]
    omega
theorem leI_snoc : ∀ (l : List Int) (x : Int), leI (l ++ [x]) = leI l + x * 256 ^ l.length
  | [], x => by simp [leI]
  | y :: r, x => by
    have h1 := leI_snoc r x
    simp only [List.cons_append, List.length_cons, leI, h1, Int.pow_succ]
    rw [Int.mul_add, Int.add_assoc, ← Int.mul_assoc x, Int.mul_comm (x * 256 ^ r.length) 256]

def stampI (n : Int) : List Int := [0, 1, 2, 3, 4, 5].map fun k => IntKind.u8.wrap (n.fdiv (2 ^ (8 * k)))
abbrev stampL (n : Int) : List Value := u8s (stampI n)
theorem stampL_step (n : Int) (k : Nat) (h : k < 6) : (stampL n).take (k + 1) = (stampL n).take k ++ [.int .u8 (IntKind.u8.wrap (n.fdiv (2 ^ (min (8 * (k : Int)).toNat IntKind.i64.bits))))] := by
  rcases k with _ | _ | _ | _ | _ | _ | k <;> first | rfl | omega
theorem stampI_len (n : Int) : (stampI n).length = 6 := rfl
theorem stampI_eq (n : Int) : stampI n = leR 6 n := by
  have e : ∀ b : Int, 0 ≤ b → n.fdiv b = n / b := fun b h => Int.fdiv_eq_ediv_of_nonneg n h
  simp only [stampI, leR, List.map_cons, List.map_nil, u8_def, Nat.mul_zero, Nat.reduceMul, Int.reducePow, List.cons.injEq, and_true, e 1 (by decide), e 256 (by decide), e 65536 (by decide), e 16777216 (by decide), e 4294967296 (by decide), e 1099511627776 (by decide)]
  refine ⟨?_, ?_, ?_, ?_, ?_, ?_⟩ <;> first | omega | trivial
theorem leI_stamp (n : Int) (h0 : 0 ≤ n) (h1 : n ≤ 281474976710655) : leI (stampI n) = n := by
  rw [stampI_eq, leI_leR]; simp only [Int.reducePow]; omega
theorem stamp_byte (n : Int) : ByteL (stampI n) := by rw [stampI_eq]; exact leR_byte 6 n

theorem le_step (D : List Int) (k : Nat) (hk : k < 6) (hl : k < D.length) (hB : ByteL D) :
    IntKind.i64.wrap (BitVec.ofInt IntKind.i64.bits (leI (D.take k)) ||| BitVec.ofInt IntKind.i64.bits (IntKind.i64.wrap (IntKind.i64.wrap (D.getD k 0) * 2 ^ min (8 * (k : Int)).toNat IntKind.i64.bits))).toNat = leI (D.take (k + 1)) := by
  have hx : 0 ≤ D.getD k 0 ∧ D.getD k 0 ≤ 255 := by
    rw [List.getD_eq_getElem?_getD, List.getElem?_eq_getElem hl]; exact hB _ (List.getElem_mem hl)
  have hr := leI_range (D.take k) (fun x h => hB x (List.mem_of_mem_take h))
  have hlen : (D.take k).length = k := by simp; omega
  rw [hlen] at hr
  have e1 : min (8 * (k : Int)).toNat IntKind.i64.bits = 8 * k := by
    have : IntKind.i64.bits = 64 := rfl
    omega
  have e2 : (2 : Int) ^ (8 * k) = 256 ^ k := by rw [Int.pow_mul]; rfl
  have e3 : (256 : Int) ^ k ≤ 1099511627776 := (show ∀ j, j < 6 → (256 : Int) ^ j ≤ 1099511627776 by decide) k hk
  have hp : (0 : Int) < 256 ^ k := Int.pow_pos (by decide)
  have e4 : D.getD k 0 * 256 ^ k ≤ 255 * 1099511627776 := Int.mul_le_mul hx.2 e3 (by omega) (by decide)
  have e5 : 0 ≤ D.getD k 0 * 256 ^ k := Int.mul_nonneg hx.1 (by omega)
  have e6 : D.take (k + 1) = D.take k ++ [D.getD k 0] := by
    rw [List.take_add_one, List.getD_eq_getElem?_getD, List.getElem?_eq_getElem hl]; rfl
  rw [wrap_i64 (D.getD k 0) (by omega) (by omega), e1, e2, wrap_i64 (D.getD k 0 * 256 ^ k) (by omega) (by omega), ← e2, or_i64 _ _ _ hr.1 (by rw [e2]; exact hr.2) hx.1 (by rw [e2]; omega), e6, leI_snoc, hlen, e2]

/-- A sealed sector's bytes. -/
def sealL (st kd : Int) (l : List Int) : List Int := stampI st ++ [kd, (l.length : Int)] ++ l ++ List.replicate (50 - l.length) 0 ++ stampI st
def badI (st kd : Int) (l : List Int) : Option Int := if st < 1 ∨ st > 281474976710655 ∨ kd < 1 ∨ kd > 255 then some 1 else if l.length > 50 then some 2 else none
def zeroS : List Int := List.replicate 64 0
/-- The sector that is told, and the error. -/
def sealI (st kd : Int) (l : List Int) : List Int := match badI st kd l with | some _ => zeroS | none => sealL st kd l
theorem badI_none {st kd : Int} {l : List Int} (h : badI st kd l = none) : 1 ≤ st ∧ st ≤ 281474976710655 ∧ 1 ≤ kd ∧ kd ≤ 255 ∧ l.length ≤ 50 := by
  unfold badI at h; split at h <;> try cases h
  split at h <;> try cases h
  omega
theorem sealL_len {st kd : Int} {l : List Int} (h : l.length ≤ 50) : (sealL st kd l).length = 64 := by
  simp [sealL, stampI_len]; omega
theorem sealL_byte {st kd : Int} {l : List Int} (hb : ByteL l) (h : badI st kd l = none) : ByteL (sealL st kd l) := by
  have := badI_none h
  intro x hx
  simp only [sealL, List.mem_append, List.mem_cons, List.mem_replicate, List.not_mem_nil, or_false] at hx
  rcases hx with (((hx | hx) | hx) | hx) | hx
  · exact stamp_byte _ x hx
  · omega
  · exact hb x hx
  · omega
  · exact stamp_byte _ x hx
/-- The parts of a sector. -/
def stOf (L : List Int) : Int := leI (L.take 6)
def tailOf (L : List Int) : Int := leI ((L.drop 58).take 6)
def kdOf (L : List Int) : Int := L.getD 6 0
def szS (L : List Int) : Int := L.getD 7 0
def dtOf (L : List Int) : List Int := (L.drop 8).take (szS L).toNat
theorem sealI_len (st kd : Int) (l : List Int) : (sealI st kd l).length = 64 := by
  unfold sealI; split
  · rfl
  · rename_i h; exact sealL_len (badI_none h).2.2.2.2
theorem dtOf_len {L : List Int} (hc : L.length = 64) (h : szS L ≤ 50) : (dtOf L).length = (szS L).toNat := by simp [dtOf]; omega
def goodI (L : List Int) : Bool := decide (stOf L = tailOf L ∧ szS L ≤ 50 ∧ badI (stOf L) (kdOf L) (dtOf L) = none ∧ sealL (stOf L) (kdOf L) (dtOf L) = L)
def openI (L : List Int) : Option (Int × Int × List Int) := if goodI L = true then some (stOf L, kdOf L, dtOf L) else none
theorem open_none_bad {L : List Int} (h : (badI (stOf L) (kdOf L) (dtOf L)).isSome = true) : openI L = none := by
  rw [openI, if_neg]; rw [goodI]; intro hh; simp only [decide_eq_true_eq] at hh; rw [hh.2.2.1] at h; cases h
theorem open_none_ne {L : List Int} (h : ¬ sealI (stOf L) (kdOf L) (dtOf L) = L) : openI L = none := by
  rw [openI, if_neg]; rw [goodI]; intro hh; simp only [decide_eq_true_eq] at hh
  apply h; rw [sealI, hh.2.2.1]; exact hh.2.2.2
theorem open_none_cut {L : List Int} (h : leI (L.take 6) ≠ leI ((L.drop 58).take 6) ∨ 50 < L.getD 7 0) : openI L = none := by
  rw [openI, if_neg]; rw [goodI]; intro hh; simp only [decide_eq_true_eq] at hh
  simp only [stOf, tailOf, szS] at hh
  rcases h with h | h
  · exact h hh.1
  · omega
theorem open_some {L : List Int} (h1 : leI (L.take 6) = leI ((L.drop 58).take 6)) (h2 : L.getD 7 0 ≤ 50) (h3 : (badI (stOf L) (kdOf L) (dtOf L)).isSome = false) (h4 : sealI (stOf L) (kdOf L) (dtOf L) = L) : openI L = some (stOf L, kdOf L, dtOf L) := by
  have h5 : badI (stOf L) (kdOf L) (dtOf L) = none := by cases h : badI (stOf L) (kdOf L) (dtOf L) <;> simp_all
  rw [openI, if_pos]
  rw [goodI, decide_eq_true_eq]
  refine ⟨h1, h2, h5, ?_⟩
  rw [sealI, h5] at h4; exact h4
def opS (L : List Int) : Int := match openI L with | some (s, _, _) => s | none => 0
def opK (L : List Int) : Int := match openI L with | some (_, k, _) => k | none => 0
def opD (L : List Int) : List Int := match openI L with | some (_, _, d) => d | none => []
def opE (L : List Int) : Option Int := match openI L with | some _ => none | none => some 9
def isB (L : List Int) (st kd : Int) : Bool := (opE L).isNone && decide (opS L = st) && decide (opK L = kd)
def isD (L : List Int) (st kd : Int) : List Int := if isB L st kd = true then opD L else []
theorem opD_len (L : List Int) : (opD L).length ≤ 50 := by
  unfold opD openI
  split
  · rename_i s k d h
    split at h
    · rename_i hg
      simp only [goodI, decide_eq_true_eq] at hg
      have h1 := (badI_none hg.2.2.1).2.2.2.2
      cases h; exact h1
    · cases h
  · exact Nat.zero_le _
theorem opD_byte {L : List Int} (hB : ByteL L) : ByteL (opD L) := by
  unfold opD openI
  split
  · rename_i s k d h
    split at h
    · cases h; exact fun x hx => hB x (List.mem_of_mem_drop (List.mem_of_mem_take hx))
    · cases h
  · intro x hx; cases hx
/-- What is left of a number. -/
def dvK : Nat → Int → Int
  | 0, n => n
  | k + 1, n => dvK k (n / 256)
theorem dvK_succ : ∀ (k : Nat) (n : Int), dvK (k + 1) n = dvK k n / 256
  | 0, _ => rfl
  | k + 1, n => by rw [dvK, dvK_succ k]; rfl
theorem dvK_range : ∀ (k : Nat) (n : Int), 0 ≤ n → n ≤ 281474976710655 → 0 ≤ dvK k n ∧ dvK k n ≤ 281474976710655
  | 0, _, h, h2 => ⟨h, h2⟩
  | k + 1, n, h, h2 => by rw [dvK]; exact dvK_range k _ (by omega) (by omega)
theorem leR_snoc : ∀ (k : Nat) (n : Int), leR (k + 1) n = leR k n ++ [dvK k n % 256]
  | 0, _ => rfl
  | k + 1, n => by rw [leR, leR_snoc k]; rfl
/-- The document's sector, half written. -/
def refS (st : Int) (k : Nat) : List Int := leR k st ++ List.replicate (58 - k) 0 ++ (leR k st ++ List.replicate (6 - k) 0)
def refD (st kd : Int) (l : List Int) (k : Nat) : List Int := leR 6 st ++ [kd, (l.length : Int)] ++ (l.take k ++ List.replicate (50 - k) 0) ++ leR 6 st
theorem u8s_set (l : List Int) (i : Nat) (x : Int) : (u8s l).toArray.setIfInBounds i (.int .u8 x) = (u8s (l.set i x)).toArray := by simp [List.map_set]
theorem set_mid (A : List Int) (n : Nat) (B : List Int) (i : Nat) (x : Int) (h : A.length = i) (hn : 0 < n) : (A ++ List.replicate n 0 ++ B).set i x = A ++ [x] ++ List.replicate (n - 1) 0 ++ B := by
  obtain ⟨m, rfl⟩ : ∃ m, n = m + 1 := ⟨n - 1, by omega⟩
  subst h
  rw [List.append_assoc, List.set_append_right _ _ (Nat.le_refl _), Nat.sub_self]
  simp [List.replicate_succ]
theorem refS_step (st : Int) (k : Nat) (hk : k < 6) : ((refS st k).set k (dvK k st % 256)).set (58 + k) (dvK k st % 256) = refS st (k + 1) := by
  have h1 : (refS st k).set k (dvK k st % 256) = leR (k + 1) st ++ List.replicate (58 - (k + 1)) 0 ++ (leR k st ++ List.replicate (6 - k) 0) := by
    rw [refS, set_mid _ _ _ _ _ (leR_len k st) (by omega), leR_snoc]; rfl
  rw [h1]
  have h2 := set_mid (leR (k + 1) st ++ List.replicate (58 - (k + 1)) 0 ++ leR k st) (6 - k) [] (58 + k) (dvK k st % 256) (by simp [leR_len]; omega) (by omega)
  simp only [List.append_nil, List.append_assoc] at h2 ⊢
  rw [h2, refS, leR_snoc]
  simp only [List.append_assoc]
  rfl
theorem refS_size (st : Int) (k : Nat) (hk : k ≤ 6) : (refS st k).length = 64 := by simp [refS, leR_len]; omega
theorem refD_size (st kd : Int) (l : List Int) (k : Nat) (hk : k ≤ 50) (hl : k ≤ l.length) : (refD st kd l k).length = 64 := by simp [refD, leR_len]; omega
theorem refD_zero (st kd : Int) (l : List Int) : ((refS st 6).set 6 kd).set 7 l.length = refD st kd l 0 := rfl
theorem refD_step (st kd : Int) (l : List Int) (k : Nat) (hk : k < l.length) (h5 : l.length ≤ 50) : (refD st kd l k).set (8 + k) (l.getD k 0) = refD st kd l (k + 1) := by
  have h2 := set_mid (leR 6 st ++ [kd, (l.length : Int)] ++ l.take k) (50 - k) (leR 6 st) (8 + k) (l.getD k 0) (by simp [leR_len]; omega) (by omega)
  have e6 : l.take (k + 1) = l.take k ++ [l.getD k 0] := by
    rw [List.take_add_one, List.getD_eq_getElem?_getD, List.getElem?_eq_getElem hk]; rfl
  have e7 : 50 - k - 1 = 50 - (k + 1) := by omega
  rw [refD, refD, e6]
  simp only [List.append_assoc, e7] at h2 ⊢
  exact h2
theorem refD_full (st kd : Int) (l : List Int) (h : badI st kd l = none) : refD st kd l l.length = sealI st kd l := by
  rw [sealI, h, refD, sealL, stampI_eq, List.take_length]; simp
theorem parts_seal {st kd : Int} {l : List Int} (h : badI st kd l = none) : stOf (sealL st kd l) = st ∧ tailOf (sealL st kd l) = st ∧ kdOf (sealL st kd l) = kd ∧ szS (sealL st kd l) = l.length ∧ dtOf (sealL st kd l) = l := by
  obtain ⟨h1, h2, h3, h4, h5⟩ := badI_none h
  have e1 : stOf (sealL st kd l) = st := by
    rw [stOf, sealL, List.append_assoc, List.append_assoc, List.append_assoc, List.take_left' (stampI_len st)]; exact leI_stamp st (by omega) h2
  have e5 : (sealL st kd l).drop 58 = stampI st := by
    rw [sealL, List.drop_left' (by simp [stampI_len]; omega)]
  have e2 : tailOf (sealL st kd l) = st := by
    rw [tailOf, e5, List.take_of_length_le (by simp [stampI_len])]; exact leI_stamp st (by omega) h2
  have e6 : (sealL st kd l).drop 6 = [kd, (l.length : Int)] ++ l ++ List.replicate (50 - l.length) 0 ++ stampI st := by
    rw [sealL, List.append_assoc, List.append_assoc, List.append_assoc, List.drop_left' (stampI_len st)]; simp
  have e3 : kdOf (sealL st kd l) = kd := by
    have : (sealL st kd l)[6]? = some kd := by
      have := congrArg (·[0]?) e6; simpa [List.getElem?_drop] using this
    rw [kdOf, List.getD_eq_getElem?_getD, this]; rfl
  have e4 : szS (sealL st kd l) = l.length := by
    have : (sealL st kd l)[7]? = some (l.length : Int) := by
      have := congrArg (·[1]?) e6; simpa [List.getElem?_drop] using this
    rw [szS, List.getD_eq_getElem?_getD, this]; rfl
  have e8 : (sealL st kd l).drop 8 = l ++ (List.replicate (50 - l.length) 0 ++ stampI st) := by
    have : (sealL st kd l).drop 8 = ((sealL st kd l).drop 6).drop 2 := by rw [List.drop_drop]
    rw [this, e6]; simp
  refine ⟨e1, e2, e3, e4, ?_⟩
  rw [dtOf, e4, e8]; simp
theorem good_seal {st kd : Int} {l : List Int} (h : badI st kd l = none) : goodI (sealL st kd l) = true := by
  obtain ⟨h1, h2, h3, h4, h5⟩ := parts_seal h
  have h6 := badI_none h
  simp only [goodI, h1, h2, h3, h4, h5, h, and_true, true_and, decide_eq_true_eq]; omega
theorem open_seal {st kd : Int} {l : List Int} (h : badI st kd l = none) : openI (sealL st kd l) = some (st, kd, l) := by
  obtain ⟨h1, h2, h3, h4, h5⟩ := parts_seal h
  rw [openI, if_pos (good_seal h), h1, h3, h5]
theorem good_iff {L : List Int} : goodI L = true ↔ (stOf L = tailOf L ∧ szS L ≤ 50 ∧ badI (stOf L) (kdOf L) (dtOf L) = none ∧ sealL (stOf L) (kdOf L) (dtOf L) = L) := by simp [goodI]
theorem sealL_inj {st kd st' kd' : Int} {l l' : List Int} (h : badI st kd l = none) (h' : badI st' kd' l' = none) (e : sealL st kd l = sealL st' kd' l') : st = st' ∧ kd = kd' ∧ l = l' := by
  have := open_seal h; rw [e, open_seal h'] at this
  simp only [Option.some.injEq, Prod.mk.injEq] at this; exact ⟨this.1.symm, this.2.1.symm, this.2.2.symm⟩

theorem leI_drop {L : List Int} (hc : L.length = 64) (i : Nat) (hi : i < 6) : leI ((L.take 6).drop i) = L.getD i 0 + 256 * leI ((L.take 6).drop (i + 1)) := by
  have hl : i < (L.take 6).length := by simp; omega
  rw [List.drop_eq_getElem_cons hl, leI]
  congr 1
  rw [List.getD_eq_getElem?_getD, List.getElem?_eq_getElem (by omega)]; simp
theorem leI_small {L : List Int} (hc : L.length = 64) (hB : ByteL L) (k : Nat) (hk : k ≤ 5) : 0 ≤ leI ((L.take 6).drop (6 - k)) ∧ leI ((L.take 6).drop (6 - k)) ≤ 1099511627775 := by
  have h := leI_range ((L.take 6).drop (6 - k)) (fun x hx => hB x (List.mem_of_mem_take (List.mem_of_mem_drop hx)))
  have hl : ((L.take 6).drop (6 - k)).length = k := by simp; omega
  rw [hl] at h
  have e3 : (256 : Int) ^ k ≤ 1099511627776 := (show ∀ j, j < 6 → (256 : Int) ^ j ≤ 1099511627776 by decide) k (by omega)
  omega
/-- The data that the document reads. -/
def rdOf (L : List Int) : List Int := (L.drop 8).take (min (szS L).toNat 50)
theorem rdOf_len {L : List Int} (hc : L.length = 64) : (rdOf L).length = min (szS L).toNat 50 := by simp [rdOf]; omega
theorem rdOf_step {L : List Int} (hc : L.length = 64) (k : Nat) (hk : k < 50) : (L.drop 8).take (k + 1) = (L.drop 8).take k ++ [L.getD (8 + k) 0] := by
  rw [List.take_add_one, List.getElem?_drop, getD_of_lt L (8 + k) (by omega)]; rfl
theorem ref_some {L : List Int} (hB : ByteL L) (h1 : badI (stOf L) (kdOf L) (rdOf L) = none) (h2 : sealI (stOf L) (kdOf L) (rdOf L) = L) : openI L = some (stOf L, kdOf L, rdOf L) := by
  rw [sealI, h1] at h2
  have h2 : sealL (stOf L) (kdOf L) (rdOf L) = L := h2
  have := open_seal h1
  rw [h2] at this; exact this
theorem ref_none {L : List Int} (hc : L.length = 64) (hB : ByteL L) (h : ¬ (badI (stOf L) (kdOf L) (rdOf L) = none ∧ sealI (stOf L) (kdOf L) (rdOf L) = L)) : openI L = none := by
  rw [openI, if_neg]
  intro hg
  have hz := getD_byte hB 7
  simp only [goodI, decide_eq_true_eq] at hg
  have e : rdOf L = dtOf L := by
    have : szS L ≤ 50 := hg.2.1
    rw [rdOf, dtOf, Nat.min_eq_left (by omega)]
  rw [e] at h
  exact h ⟨hg.2.2.1, by rw [sealI, hg.2.2.1]; exact hg.2.2.2⟩
theorem badI_zero {st kd : Int} {l : List Int} (h : (badI st kd l).getD 0 = 0) : badI st kd l = none := by
  unfold badI at *; split <;> rename_i h1
  · rw [if_pos h1] at h; simp at h
  · rw [if_neg h1] at h; split at h
    · simp at h
    · rename_i h2; rw [if_neg h2]
theorem open_vals {L : List Int} {s k : Int} {d : List Int} (h : openI L = some (s, k, d)) : opS L = s ∧ opK L = k ∧ opD L = d ∧ opE L = none := by simp [opS, opK, opD, opE, h]
theorem open_nones {L : List Int} (h : openI L = none) : opS L = 0 ∧ opK L = 0 ∧ opD L = [] ∧ opE L = some 9 := by simp [opS, opK, opD, opE, h]

theorem torn_step {A B : List Int} (k : Nat) (ha : k < A.length) (hb : k < B.length) : (B.take k ++ A.drop k).set k (B.getD k 0) = B.take (k + 1) ++ A.drop (k + 1) := by
  have hl : (B.take k).length = k := by simp; omega
  rw [List.set_append_right _ _ (by omega), hl, Nat.sub_self, List.drop_eq_getElem_cons ha, List.set_cons_zero, List.take_add_one, getD_of_lt B k hb]
  simp
theorem torn_end {A B : List Int} {t : Int} (k : Nat) (ha : A.length = 64) (hb : B.length = 64) (h : k = t.toNat ∨ (64 ≤ t ∧ k = 64)) : B.take k ++ A.drop k = B.take t.toNat ++ A.drop t.toNat := by
  rcases h with rfl | ⟨h1, rfl⟩
  · rfl
  · rw [List.take_of_length_le (by omega), List.take_of_length_le (by omega), List.drop_eq_nil_of_le (by omega), List.drop_eq_nil_of_le (by omega)]

theorem opE_ok (L : List Int) : ∀ k, opE L = some k → k ≠ 0 ∧ -9223372036854775808 ≤ k ∧ k ≤ 9223372036854775807 := by
  intro k h; unfold opE at h; split at h
  · cases h
  · cases h; omega

theorem open_again {L : List Int} (h : (opE L).isNone = true) : badI (opS L) (opK L) (opD L) = none ∧ sealI (opS L) (opK L) (opD L) = L := by
  cases ho : openI L with
  | none => simp [opE, ho] at h
  | some x =>
    obtain ⟨s, k, d⟩ := x
    obtain ⟨o1, o2, o3, o4⟩ := open_vals ho
    rw [o1, o2, o3]
    unfold openI at ho
    split at ho
    · rename_i hg
      simp only [goodI, decide_eq_true_eq] at hg
      cases ho
      exact ⟨hg.2.2.1, by rw [sealI, hg.2.2.1]; exact hg.2.2.2⟩
    · cases ho

theorem opE_nine (L : List Int) (h : (opE L).isSome = true) : (opE L).getD 0 = 9 := by
  unfold opE at *; split <;> rename_i h1
  · rw [h1] at h; cases h
  · rfl
end Go.Proofs.Ythpflieimocfbaa.HL
