/- Plain laws of torn and of unlike slabs. -/
import Derived.Test.YthpflieimocfbaaMd04
namespace Go.Proofs.Ythpflieimocfbaa.HL
open Go

theorem leI_inj {a b : List Int} (ha : ByteL a) (hb : ByteL b) (hl : a.length = b.length) (h : leI a = leI b) : a = b := by
  rw [← leR_leI a ha, ← leR_leI b hb, hl, h]
theorem ByteL.take {l : List Int} (h : ByteL l) (n : Nat) : ByteL (l.take n) := fun x hx => h x (List.mem_of_mem_take hx)
theorem ByteL.drop {l : List Int} (h : ByteL l) (n : Nat) : ByteL (l.drop n) := fun x hx => h x (List.mem_of_mem_drop hx)
theorem ByteL.append {a b : List Int} (h : ByteL a) (k : ByteL b) : ByteL (a ++ b) := fun x hx => by
  rcases List.mem_append.1 hx with hx | hx
  · exact h x hx
  · exact k x hx
theorem torn_byte {A B : List Int} (bA : ByteL A) (bB : ByteL B) (t : Nat) : ByteL (B.take t ++ A.drop t) := (bB.take t).append (bA.drop t)
theorem torn_len {A B : List Int} (ha : A.length = 64) (hb : B.length = 64) (t : Nat) : (B.take t ++ A.drop t).length = 64 := by simp; omega

theorem torn_law {A B : List Int} (ha : A.length = 64) (hb : B.length = 64) (bA : ByteL A) (bB : ByteL B) (pA : A.take 6 = A.drop 58) (pB : B.take 6 = B.drop 58) (ne : B.take 6 ≠ A.take 6) (t : Nat)
    (h : stOf (B.take t ++ A.drop t) = tailOf (B.take t ++ A.drop t)) : B.take t ++ A.drop t = A ∨ B.take t ++ A.drop t = B := by
  have hX := torn_len ha hb t
  have bX := torn_byte bA bB t
  have e : (B.take t ++ A.drop t).take 6 = (B.take t ++ A.drop t).drop 58 := by
    have h1 := leI_inj (bX.take 6) ((bX.drop 58).take 6) (by simp; omega) h
    rw [h1, List.take_of_length_le (by rw [List.length_drop, hX]; omega)]
  by_cases h6 : t ≤ 6
  · left
    have e2 : (B.take t ++ A.drop t).drop 58 = A.take 6 := by
      rw [pA, List.drop_append, List.length_take, hb, List.drop_drop, List.drop_eq_nil_of_le (by simp; omega)]
      simp; congr 1; omega
    rw [e2] at e
    have e3 : B.take t = A.take t := by
      have := congrArg (List.take t) e
      rw [List.take_take, List.take_take, List.take_append, List.length_take, hb, List.take_take] at this
      simpa [show min t 6 = t by omega, show min t 64 = t by omega] using this
    rw [e3]; exact List.take_append_drop t A
  · by_cases h58 : 58 ≤ t
    · right
      have e1 : (B.take t ++ A.drop t).take 6 = B.drop 58 := by
        rw [← pB, List.take_append, List.length_take, hb, List.take_take]
        simp [show min 6 t = 6 by omega, show 6 - min t 64 = 0 by omega]
      rw [e1] at e
      by_cases h64 : t < 64
      · have e4 : B.drop t = A.drop t := by
          have := congrArg (List.drop (t - 58)) e
          rw [List.drop_drop, List.drop_drop, show 58 + (t - 58) = t by omega, List.drop_left' (by simp; omega)] at this
          exact this
        rw [← e4]; exact List.take_append_drop t B
      · rw [List.take_of_length_le (by omega), List.drop_eq_nil_of_le (by omega), List.append_nil]
    · exfalso
      apply ne
      have e1 : (B.take t ++ A.drop t).take 6 = B.take 6 := by
        rw [List.take_append, List.length_take, hb, List.take_take]
        simp [show min 6 t = 6 by omega, show 6 - min t 64 = 0 by omega]
      have e2 : (B.take t ++ A.drop t).drop 58 = A.take 6 := by
        rw [pA, List.drop_append, List.length_take, hb, List.drop_drop, List.drop_eq_nil_of_le (by simp; omega)]
        simp; congr 1; omega
      rw [← e1, e, e2]
theorem sealI_eq {st kd : Int} {l : List Int} (h : badI st kd l = none) : sealI st kd l = sealL st kd l := by simp [sealI, h]
theorem sealI_ends (st kd : Int) (l : List Int) : (sealI st kd l).take 6 = (sealI st kd l).drop 58 := by
  cases h : badI st kd l with
  | none =>
    rw [sealI_eq h]
    have hl := (badI_none h).2.2.2.2
    unfold sealL
    rw [List.append_assoc, List.append_assoc, List.append_assoc, List.take_append_of_le_length (by rw [stampI_len]; omega), List.take_of_length_le (by rw [stampI_len]; omega)]
    rw [← List.append_assoc, ← List.append_assoc, ← List.append_assoc, List.drop_append, List.drop_eq_nil_of_le (by simp [stampI_len]; omega)]
    simp [stampI_len]
    rw [show 58 - (6 + (l.length + (50 - l.length) + 1 + 1)) = 0 by omega]; rfl
  | some o => simp [sealI, h, zeroS]
theorem sealI_byte {st kd : Int} {l : List Int} (hb : ByteL l) : ByteL (sealI st kd l) := by
  cases h : badI st kd l with
  | none => rw [sealI_eq h]; exact sealL_byte hb h
  | some o => simp only [sealI, h]; intro x hx; simp [zeroS] at hx; omega
theorem sealI_head {st kd : Int} {l : List Int} (h : badI st kd l = none) : leI ((sealI st kd l).take 6) = st := by
  have := (parts_seal h).1
  rw [sealI_eq h]; exact this
theorem torn_seal {sa ka sb kb : Int} {A B : List Int} (hA : ByteL A) (hB : ByteL B) (hb : badI sb kb B = none) (ne : sa ≠ sb) (t : Nat)
    (h : (opE ((sealI sb kb B).take t ++ (sealI sa ka A).drop t)).isSome = false) :
    (sealI sb kb B).take t ++ (sealI sa ka A).drop t = sealI sa ka A ∨ (sealI sb kb B).take t ++ (sealI sa ka A).drop t = sealI sb kb B := by
  refine torn_law (sealI_len _ _ _) (sealI_len _ _ _) (sealI_byte hA) (sealI_byte hB) (sealI_ends _ _ _) (sealI_ends _ _ _) ?_ t ?_
  · intro e
    have h1 := congrArg leI e
    rw [sealI_head hb] at h1
    cases ha : badI sa ka A with
    | none => rw [sealI_head ha] at h1; exact ne h1.symm
    | some o =>
      have : leI ((sealI sa ka A).take 6) = 0 := by simp only [sealI, ha]; rfl
      rw [this] at h1
      have := (badI_none hb).1; omega
  · generalize (sealI sb kb B).take t ++ (sealI sa ka A).drop t = X at h
    unfold opE openI at h
    by_cases hg : goodI X = true
    · exact (good_iff.1 hg).1
    · simp [hg] at h
theorem apart_seal {sa ka sb kb : Int} {A B : List Int} (ha : badI sa ka A = none) (hb : badI sb kb B = none) : sealI sa ka A = sealI sb kb B ↔ sa = sb ∧ ka = kb ∧ A = B := by
  rw [sealI_eq ha, sealI_eq hb]
  constructor
  · exact sealL_inj ha hb
  · rintro ⟨rfl, rfl, rfl⟩; rfl
theorem rep_zero : (Array.replicate 64 (Value.int .u8 0)) = (u8s zeroS).toArray := by
  unfold zeroS; rw [u8s, List.map_replicate, List.toArray_replicate]
theorem seal_bad {st kd : Int} {l : List Int} (h : (badI st kd l).isSome = true) : sealI st kd l = zeroS := by
  cases hb : badI st kd l with
  | none => rw [hb] at h; cases h
  | some o => simp [sealI, hb]
end Go.Proofs.Ythpflieimocfbaa.HL
