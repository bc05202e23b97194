/- Plain laws of places. -/
import Derived.Test.YtfpicoflpddieaaMd12
import Derived.Test.YtfpicoflpddieaaHLApi
namespace Go.Proofs.Ytfpicoflpddieaa.HL
open Go

def IsBest (l : List Int) (b : Nat) : Prop := b < l.length ∧ (∀ k, k < l.length → l.getD k 0 ≤ l.getD b 0) ∧ ∀ j, j < b → ∃ k, k < l.length ∧ l.getD j 0 < l.getD k 0
def roomI (l : List Int) : Nat := ((List.range l.length).find? fun i => (List.range l.length).all fun k => decide (l.getD k 0 ≤ l.getD i 0)).getD 0
theorem roomI_eq {l : List Int} {b : Nat} (h : IsBest l b) : roomI l = b := by
  obtain ⟨h1, h2, h3⟩ := h
  unfold roomI
  have : (List.range l.length).find? (fun i => (List.range l.length).all fun k => decide (l.getD k 0 ≤ l.getD i 0)) = some b := by
    rw [List.find?_eq_some_iff_append]
    refine ⟨by simp only [List.all_eq_true, List.mem_range, decide_eq_true_eq]; exact h2, List.range b, (List.range' (b + 1) (l.length - (b + 1))), ?_, ?_⟩
    · rw [List.range_eq_range', List.range_eq_range', show l.length = b + (1 + (l.length - (b + 1))) by omega, ← List.range'_append_1, ← List.range'_append_1]
      simp
      congr 2; omega
    · intro j hj
      rw [List.mem_range] at hj
      obtain ⟨k, hk, hlt⟩ := h3 j hj
      simp only [Bool.not_eq_true', List.all_eq_false, List.mem_range, decide_eq_true_eq]
      exact ⟨k, hk, by omega⟩
  rw [this]; rfl
theorem roomI_lt {l : List Int} (h : 0 < l.length) : roomI l < l.length := by
  unfold roomI
  cases hf : (List.range l.length).find? (fun i => (List.range l.length).all fun k => decide (l.getD k 0 ≤ l.getD i 0)) with
  | none => simpa using h
  | some b => have := List.mem_of_find?_eq_some hf; rw [List.mem_range] at this; simpa using this

def placeBad (pp seq n : Int) : Prop := pp < 0 ∨ 2 < pp ∨ seq < 1 ∨ n < 1 ∨ 4 < n
instance (pp seq n : Int) : Decidable (placeBad pp seq n) := inferInstanceAs (Decidable (_ ∨ _))
def keyI (ws : List Wr) (n : Int) : Int := match ws with
  | [] => 0
  | w :: _ => (w.t + w.k) % 18446744073709551616 % n
def plI (pp seq : Int) (ws : List Wr) (rm : List Int) : Int :=
  if placeBad pp seq rm.length then 0 else if pp = 1 then keyI ws rm.length else if pp = 2 then roomI rm else (seq - 1) % rm.length
def plE (pp seq : Int) (rm : List Int) : Option Int := if placeBad pp seq rm.length then some 1 else none
theorem plE_ok (pp seq : Int) (rm : List Int) : ∀ k, plE pp seq rm = some k → k ≠ 0 ∧ -9223372036854775808 ≤ k ∧ k ≤ 9223372036854775807 := by
  intro k h; unfold plE at h; split at h
  · cases h; omega
  · cases h
theorem plE_none {pp seq : Int} {rm : List Int} : (plE pp seq rm).isSome = false ↔ ¬ placeBad pp seq rm.length := by unfold plE; split <;> simp [*]
theorem plE_some {pp seq : Int} {rm : List Int} : (plE pp seq rm).isSome = true ↔ placeBad pp seq rm.length := by unfold plE; split <;> simp [*]
theorem pl_bad {pp seq : Int} {ws : List Wr} {rm : List Int} (h : placeBad pp seq rm.length) : plI pp seq ws rm = 0 ∧ plE pp seq rm = some 1 := by simp [plI, plE, h]
theorem pl_key {seq : Int} {ws : List Wr} {rm : List Int} (h : ¬ placeBad 1 seq rm.length) : plI 1 seq ws rm = keyI ws rm.length ∧ plE 1 seq rm = none := by simp [plI, plE, h]
theorem pl_room {seq : Int} {ws : List Wr} {rm : List Int} (h : ¬ placeBad 2 seq rm.length) : plI 2 seq ws rm = roomI rm ∧ plE 2 seq rm = none := by simp [plI, plE, h]
theorem pl_turn {pp seq : Int} {ws : List Wr} {rm : List Int} (h : ¬ placeBad pp seq rm.length) (h1 : pp ≠ 1) (h2 : pp ≠ 2) : plI pp seq ws rm = (seq - 1) % rm.length ∧ plE pp seq rm = none := by simp [plI, plE, h, h1, h2]
theorem pl_range {pp seq : Int} {ws : List Wr} {rm : List Int} (h : ¬ placeBad pp seq rm.length) : 0 ≤ plI pp seq ws rm ∧ plI pp seq ws rm < rm.length := by
  have hn : 1 ≤ (rm.length : Int) ∧ (rm.length : Int) ≤ 4 := by unfold placeBad at h; omega
  simp only [plI, h, if_false]
  split
  · unfold keyI
    cases ws with
    | nil => simp; omega
    | cons w r => exact ⟨Int.emod_nonneg _ (by omega), Int.emod_lt_of_pos _ (by omega)⟩
  · split
    · have := roomI_lt (l := rm) (by omega); omega
    · exact ⟨Int.emod_nonneg _ (by omega), Int.emod_lt_of_pos _ (by omega)⟩
theorem key_conv (t k n : Int) (hn : 1 ≤ n) (hm : n ≤ 4) : (IntKind.u64.wrap (IntKind.i64.wrap (t + k))).tmod n = (t + k) % 18446744073709551616 % n := by
  rw [w_u64, w_i64]
  have e : ((t + k + 9223372036854775808) % 18446744073709551616 - 9223372036854775808) % 18446744073709551616 = (t + k) % 18446744073709551616 := by omega
  rw [e, Int.tmod_eq_emod_of_nonneg (by omega)]
theorem key_conv2 (t k n : Int) (hn : 1 ≤ n) (hm : n ≤ 4) : (IntKind.u64.wrap (IntKind.u64.wrap t + IntKind.u64.wrap k)).tmod n = (t + k) % 18446744073709551616 % n := by
  rw [w_u64, w_u64, w_u64]
  have e : (t % 18446744073709551616 + k % 18446744073709551616) % 18446744073709551616 = (t + k) % 18446744073709551616 := by omega
  rw [e, Int.tmod_eq_emod_of_nonneg (by omega)]
theorem key_range (x n : Int) (hn : 1 ≤ n) (hm : n ≤ 4) : 0 ≤ x % 18446744073709551616 % n ∧ x % 18446744073709551616 % n ≤ 4 := ⟨Int.emod_nonneg _ (by omega), by have := Int.emod_lt_of_pos (x % 18446744073709551616) (show 0 < n by omega); omega⟩
theorem turn_next {seq n : Int} (h1 : 1 ≤ seq) (hn : 1 ≤ n) : (seq + 1 - 1) % n = ((seq - 1) % n + 1).tmod n := by
  have h0 : 0 ≤ (seq - 1) % n := Int.emod_nonneg _ (by omega)
  rw [Int.tmod_eq_emod_of_nonneg (by omega), Int.emod_add_emod]
  congr 1; omega
theorem turn_mod {seq n : Int} (h1 : 1 ≤ seq) : (seq - 1).tmod n = (seq - 1) % n := Int.tmod_eq_emod_of_nonneg (by omega)
theorem best_step {l : List Int} {k b : Nat} (hk : k < l.length) (h1 : ∀ j, j < k → l.getD j 0 ≤ l.getD b 0) (h2 : ∀ j, j < b → l.getD j 0 < l.getD b 0) :
    (l.getD b 0 < l.getD k 0 → b ≤ k → (∀ j, j < k + 1 → l.getD j 0 ≤ l.getD k 0) ∧ ∀ j, j < k → l.getD j 0 < l.getD k 0) ∧
    (¬ l.getD b 0 < l.getD k 0 → ∀ j, j < k + 1 → l.getD j 0 ≤ l.getD b 0) := by
  refine ⟨fun h hb => ⟨fun j hj => ?_, fun j hj => ?_⟩, fun h j hj => ?_⟩
  · rcases Nat.lt_succ_iff_lt_or_eq.1 hj with hj | rfl
    · have := h1 j hj; omega
    · omega
  · have := h1 j hj; omega
  · rcases Nat.lt_succ_iff_lt_or_eq.1 hj with hj | rfl
    · exact h1 j hj
    · omega
theorem best_done {l : List Int} {b : Nat} (hb : b < l.length) (h1 : ∀ j, j < l.length → l.getD j 0 ≤ l.getD b 0) (h2 : ∀ j, j < b → l.getD j 0 < l.getD b 0) : IsBest l b := ⟨hb, h1, fun j hj => ⟨b, hb, h2 j hj⟩⟩
theorem has_max (l : List Int) : ∀ n, 0 < n → ∃ b, b < n ∧ ∀ j, j < n → l.getD j 0 ≤ l.getD b 0
  | 0, h => by omega
  | 1, _ => ⟨0, by omega, fun j hj => by have : j = 0 := by omega
                                         subst this; omega⟩
  | n + 2, _ => by
    obtain ⟨b, hb, h⟩ := has_max l (n + 1) (by omega)
    by_cases hc : l.getD (n + 1) 0 ≤ l.getD b 0
    · exact ⟨b, by omega, fun j hj => by
        rcases Nat.lt_succ_iff_lt_or_eq.1 hj with hj | rfl
        · exact h j hj
        · exact hc⟩
    · exact ⟨n + 1, by omega, fun j hj => by
        rcases Nat.lt_succ_iff_lt_or_eq.1 hj with hj | rfl
        · have := h j hj; omega
        · omega⟩
theorem no_max {l : List Int} (h0 : 0 < l.length) (h : ∀ j, j < l.length → ∃ k, k < l.length ∧ l.getD j 0 < l.getD k 0) : False := by
  obtain ⟨b, hb, h1⟩ := has_max l l.length h0
  obtain ⟨k, hk, hlt⟩ := h b hb
  have := h1 k hk; omega
theorem all_yes {p : Nat → Prop} [DecidablePred p] {k : Nat} (h : ∀ j, j < k → p j) (d1 : Decidable (p k)) (d2 : Decidable (∀ j, j < k + 1 → p j)) : @decide (p k) d1 = @decide (∀ j, j < k + 1 → p j) d2 := by
  rw [Bool.eq_iff_iff, decide_eq_true_iff, decide_eq_true_iff]
  refine ⟨fun hk j hj => ?_, fun ha => ha k (by omega)⟩
  rcases Nat.lt_succ_iff_lt_or_eq.1 hj with hj | rfl
  · exact h j hj
  · exact hk
theorem all_no {p : Nat → Prop} {k : Nat} (h : ¬ ∀ j, j < k → p j) (d2 : Decidable (∀ j, j < k + 1 → p j)) : false = @decide (∀ j, j < k + 1 → p j) d2 := by
  rw [eq_comm, decide_eq_false_iff_not]
  exact fun ha => h fun j hj => ha j (by omega)
theorem not_all_ex {p : Nat → Prop} {k : Nat} (h : ¬ ∀ j, j < k → p j) : ∃ j, j < k ∧ ¬ p j := by
  apply Classical.byContradiction
  intro hc
  exact h fun j hj => Classical.byContradiction fun hp => hc ⟨j, hj, hp⟩
end Go.Proofs.Ytfpicoflpddieaa.HL
