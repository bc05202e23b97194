/- Bytes: slices of them, texts. -/
import Derived.Test.YtlkopcgoaldpeaaHLSlice
import Derived.Lib.Strings
namespace Go.Proofs.Ytlkopcgoaldpeaa.HL
open Go
set_option linter.unusedSimpArgs false
set_option linter.unusedVariables false
abbrev u8s (l : List Int) : List Value := l.map (.int .u8 ·)
def ByteL (l : List Int) : Prop := ∀ x ∈ l, 0 ≤ x ∧ x ≤ 255
def strOf (l : List Int) : ByteArray := ⟨(l.map fun x => UInt8.ofNat x.toNat).toArray⟩
theorem strOf_size (l : List Int) : (strOf l).size = l.length := by simp [strOf, ByteArray.size]
theorem strOf_toList (l : List Int) : (strOf l).toList = l.map fun x => UInt8.ofNat x.toNat := by rw [ByteArray.toList_eq]; simp [strOf]
theorem bytesOf_u8s (l : List Int) : bytesOf (u8s l) = some (l.map fun x => UInt8.ofNat x.toNat) := by
  induction l with
  | nil => rfl
  | cons x l ih => simp only [u8s, List.map_cons, bytesOf, byteOfV] at *; rw [ih]
theorem map_u8_inj {a b : List Int} (ha : ByteL a) (hb : ByteL b) (h : (a.map fun x => UInt8.ofNat x.toNat) = b.map fun x => UInt8.ofNat x.toNat) : a = b := by
  induction a generalizing b with
  | nil => cases b with
    | nil => rfl
    | cons y b => simp at h
  | cons x a ih =>
    cases b with
    | nil => simp at h
    | cons y b =>
      simp only [List.map_cons, List.cons.injEq] at h
      have h1 := ha x (by simp); have h2 := hb y (by simp)
      have h3 : (UInt8.ofNat x.toNat).toNat = (UInt8.ofNat y.toNat).toNat := by rw [h.1]
      simp only [UInt8.toNat_ofNat'] at h3
      have : x = y := by omega
      subst this
      rw [ih (fun z hz => ha z (by simp [hz])) (fun z hz => hb z (by simp [hz])) h.2]
theorem strOf_beq {a b : List Int} (ha : ByteL a) (hb : ByteL b) : ((strOf a).toList == (strOf b).toList) = decide (a = b) := by
  rw [strOf_toList, strOf_toList]
  by_cases h : a = b
  · subst h; simp
  · rw [decide_eq_false h]
    simp only [beq_eq_false_iff_ne, ne_eq]
    exact fun e => h (map_u8_inj ha hb e)
section
variable {P : Program} {H : Hp}
theorem Lt_convBS {s t e : TypeId} (hs : P.underlying s = some (.slice e)) (he : P.underlying e = some (.int .u8)) (ht : P.underlying t = some .string) {v : Value} {n : Nat} {l : List Int} (hv : Holds H 1 v n (u8s l)) {K : Value → Hp → Prop}
    (h : K (.string (strOf l)) H) : Lt P (Go.convert s t v) H K := by
  obtain ⟨h1, ⟨a, cap, rfl, rfl⟩ | ⟨b, o, cap, c, T, f, rfl, hb, hn, hc⟩⟩ := hv
  · have : l = [] := by simpa using h1.symm
    subst this
    cases a with
    | none => rw [c_nilStr s t e hs he ht]; exact h
    | some a =>
      simp only [Go.convert, l_bind, l_und, hs, ht, he, orF_some, Conv.bytesToString]
      exact h
  · rw [Nat.mul_one] at hn hc
    rw [c_bytesStr s t e hs he ht b o n cap c T f hb hn _ (by rw [hc]; exact bytesOf_u8s l)]
    exact h
end
theorem Holds.length {H : Hp} {v : Value} {n : Nat} {cs : List Value} (h : Holds H 1 v n cs) : n = cs.length := by have := h.1; omega
end Go.Proofs.Ytlkopcgoaldpeaa.HL
