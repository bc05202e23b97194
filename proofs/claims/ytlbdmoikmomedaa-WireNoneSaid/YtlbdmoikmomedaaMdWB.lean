/- Plain laws of reading what was written, and of beginnings of it. -/
import Derived.Test.YtlbdmoikmomedaaW57
namespace Go.Proofs.Ytlbdmoikmomedaa.HL
open Go
theorem spec_cnt {u : Nat} {rest : List Int} (h : u < 18446744073709551616) {res : Option (Nat × List Int)} (k : RCb false (cnt u ++ rest) res) : res = some (u, rest) := (k.2 rfl).uniq (RC.cnt rest h)
theorem bs_some {b rest : List Int} : bsV (some (b.length, b ++ rest)) = b ∧ bsL (some (b.length, b ++ rest)) = rest ∧ bsB (some (b.length, b ++ rest)) = false := by
  have h : b.length ≤ (b ++ rest).length := by simp
  refine ⟨?_, ?_, ?_⟩
  · simp only [bsV]; rw [if_pos h, List.take_left]
  · simp only [bsL]; rw [if_pos h, List.drop_left]
  · simp only [bsB]; rw [decide_eq_true h]; rfl
theorem fl_some {f : Int} {rest : List Int} (h : f = 0 ∨ f = 1) : flV (f :: rest) = decide (f = 1) ∧ flL (f :: rest) = rest ∧ flB (f :: rest) = false := by
  have h1 : ¬ f > 1 := by omega
  refine ⟨rfl, ?_, ?_⟩
  · unfold flL; rw [if_neg (by simpa using h1)]; rfl
  · unfold flB; simp; omega
/-- what a reading of a kind leaves -/
def NX (k : Int) (bad : Bool) (l l' : List Int) (b' : Bool) : Prop :=
  (k = 2 ∧ l' = flL l ∧ b' = flB l) ∨ (k = 5 ∧ l' = byL l ∧ b' = byB l) ∨ ((k = 3 ∨ k = 4) ∧ ∃ res, RCb bad l res ∧ l' = bsL res ∧ b' = bsB res) ∨
  (k ≠ 2 ∧ k ≠ 3 ∧ k ≠ 4 ∧ k ≠ 5 ∧ ∃ res, RCb bad l res ∧ l' = rcL res ∧ b' = res.isNone)
theorem NX.bad {k : Int} {l' : List Int} {b' : Bool} (h : NX k true [] l' b') : b' = true := by
  rcases h with ⟨_, _, rfl⟩ | ⟨_, _, rfl⟩ | ⟨_, res, h1, _, rfl⟩ | ⟨_, _, _, _, res, h1, _, rfl⟩
  · rfl
  · rfl
  · rw [h1.1 rfl]; rfl
  · rw [h1.1 rfl]; rfl
theorem cnt_take_big {n m : Nat} (h : m < (cnt n).length) : Big1 ((cnt n).take m) := by
  obtain ⟨q, d, h1, h2, _⟩ := cnt_shape n
  rw [h1, List.length_append, List.length_singleton] at h
  rw [h1, List.take_append_of_le_length (by omega)]
  exact fun x hx => h2 x (List.mem_of_mem_take hx)
/-- a count at a beginning's head -/
theorem cnt_begin {u m : Nat} {r : List Int} (hu : u < 18446744073709551616) {res : Option (Nat × List Int)} (h : RCb false ((cnt u ++ r).take m) res) : (m < (cnt u).length ∧ res = none) ∨ ((cnt u).length ≤ m ∧ res = some (u, r.take (m - (cnt u).length))) := by
  rcases Nat.lt_or_ge m (cnt u).length with hm | hm
  · left
    rw [List.take_append_of_le_length (by omega)] at h
    exact ⟨hm, (h.2 rfl).uniq (RC_end (cnt_take_big hm))⟩
  · right
    rw [List.take_append, List.take_of_length_le hm] at h
    exact ⟨hm, spec_cnt hu h⟩
theorem pre_step {k n : Int} {u : Nat} {b rest l' : List Int} {b' : Bool} {m : Nat} (n1 : -9223372036854775808 ≤ n) (n2 : n ≤ 9223372036854775807) (hu : u < 18446744073709551616) (hb : b.length ≤ 1000000)
    (hm : m < (encV k n u b ++ rest).length) (h : NX k false ((encV k n u b ++ rest).take m) l' b') : b' = true ∨ (b' = false ∧ ∃ m', m' < rest.length ∧ l' = rest.take m') := by
  have hone : ∀ (f : Int), m < ([f] ++ rest).length → (m = 0 ∧ ([f] ++ rest).take m = []) ∨ (0 < m ∧ ([f] ++ rest).take m = f :: rest.take (m - 1) ∧ m - 1 < rest.length) := by
    intro f hm
    cases m with
    | zero => exact .inl ⟨rfl, rfl⟩
    | succ m => right; simp at hm ⊢; omega
  rcases h with ⟨rfl, rfl, rfl⟩ | ⟨rfl, rfl, rfl⟩ | ⟨hk, res, h1, rfl, rfl⟩ | ⟨k2, k3, k4, k5, res, h1, rfl, rfl⟩
  · have e : encV 2 n u b = [if n = 1 then 1 else 0] := by rw [encV, if_neg (by omega), if_pos rfl]
    rw [e] at hm ⊢
    rcases hone _ hm with ⟨_, h2⟩ | ⟨h0, h2, h3⟩
    · left; rw [h2]; rfl
    · right
      have hf := fl_some (f := if n = 1 then 1 else 0) (rest := rest.take (m - 1)) (by split <;> simp)
      rw [h2]
      exact ⟨hf.2.2, m - 1, h3, hf.2.1⟩
  · have e : encV 5 n u b = [n % 256] := by rw [encV, if_neg (by omega), if_neg (by omega), if_neg (by omega), if_neg (by omega), if_pos rfl]
    rw [e] at hm ⊢
    rcases hone _ hm with ⟨_, h2⟩ | ⟨h0, h2, h3⟩
    · left; rw [h2]; rfl
    · right
      rw [h2]
      exact ⟨by simp [byB], m - 1, h3, rfl⟩
  · have e : encV k n u b = cnt b.length ++ b := by
      rcases hk with rfl | rfl
      · rw [encV, if_neg (by omega), if_neg (by omega), if_pos rfl]
      · rw [encV, if_neg (by omega), if_neg (by omega), if_neg (by omega), if_pos rfl]
    rw [e, List.append_assoc] at hm h1
    simp only [List.length_append] at hm
    rcases cnt_begin (by omega) h1 with ⟨_, rfl⟩ | ⟨hc, rfl⟩
    · left; rfl
    · by_cases hn : b.length ≤ m - (cnt b.length).length
      · right
        have e2 : (b ++ rest).take (m - (cnt b.length).length) = b ++ rest.take (m - (cnt b.length).length - b.length) := by
          rw [List.take_append, List.take_of_length_le hn]
        rw [e2]
        have hs := bs_some (b := b) (rest := rest.take (m - (cnt b.length).length - b.length))
        exact ⟨hs.2.2, _, by omega, hs.2.1⟩
      · left
        have : ¬ b.length ≤ ((b ++ rest).take (m - (cnt b.length).length)).length := by simp; omega
        simp only [bsB]; rw [decide_eq_false this]; rfl
  · have e : ∃ w, w < 18446744073709551616 ∧ encV k n u b = cnt w := by
      by_cases h1 : k = 1
      · exact ⟨zig n, zig_lt n1 n2, by rw [encV, if_pos h1]⟩
      · exact ⟨u, hu, by rw [encV, if_neg h1, if_neg k2, if_neg k3, if_neg k4, if_neg k5]⟩
    obtain ⟨w, hw, e⟩ := e
    rw [e] at hm h1
    simp only [List.length_append] at hm
    rcases cnt_begin hw h1 with ⟨_, rfl⟩ | ⟨hc, rfl⟩
    · left; rfl
    · right; exact ⟨rfl, _, by omega, rfl⟩
/-- the bytes of the last values -/
def encR (l : List VL) (k : Nat) : List Int := (l.drop k).flatMap VL.enc
theorem encR_step {l : List VL} {k : Nat} (h : k < l.length) : encR l k = (l.getD k default).enc ++ encR l (k + 1) := by
  unfold encR
  rw [List.drop_eq_getElem_cons h, List.flatMap_cons]
  simp [List.getD_eq_getElem?_getD, h]
theorem encR_end (l : List VL) : encR l l.length = [] := by unfold encR; rw [List.drop_length]; rfl
theorem encR_zero (l : List VL) : encR l 0 = encs l l.length := by unfold encR encs; rw [List.take_length]; rfl
theorem enc_ne (x : VL) : x.enc ≠ [] := by
  unfold VL.enc encV
  split
  · exact cnt_ne _
  · split
    · simp
    · split
      · intro h; exact cnt_ne _ (List.append_eq_nil_iff.1 h).1
      · split
        · intro h; exact cnt_ne _ (List.append_eq_nil_iff.1 h).1
        · split
          · simp
          · exact cnt_ne _
theorem encR_none {l : List VL} (h : encR l 0 = []) : l.length = 0 := by
  apply Classical.byContradiction; intro hc
  rw [encR_step (by omega)] at h
  exact enc_ne _ (List.append_eq_nil_iff.1 h).1
end Go.Proofs.Ytlbdmoikmomedaa.HL
