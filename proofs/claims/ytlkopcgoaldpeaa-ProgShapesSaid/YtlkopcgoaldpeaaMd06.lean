/- Plain laws of figures: rows of figures, the lowest first. -/
import Derived.Test.YtlkopcgoaldpeaaMd05
namespace Go.Proofs.Ytlkopcgoaldpeaa.HL
open Go

/-- The first n figures' number. -/
def D (l : List Int) : Nat → Int
  | 0 => 0
  | n + 1 => D l n + l.getD n 0 * 10 ^ n
def dec (l : List Int) : Int := D l l.length
def Dig (l : List Int) : Prop := ∀ d ∈ l, 0 ≤ d ∧ d ≤ 9
def Norm (l : List Int) : Prop := l.getLast? ≠ some 0
def bval (b : Bool) (l : List Int) : Int := if b = true then -dec l else dec l
def NB (b : Bool) (l : List Int) : Prop := Norm l ∧ (l = [] → b = false)

theorem Dig.at {l : List Int} (h : Dig l) (i : Nat) : 0 ≤ l.getD i 0 ∧ l.getD i 0 ≤ 9 := by
  by_cases hi : i < l.length
  · rw [List.getD_eq_getElem?_getD, List.getElem?_eq_getElem hi]; exact h _ (List.getElem_mem hi)
  · rw [List.getD_eq_getElem?_getD, List.getElem?_eq_none (by omega)]; simp
theorem getD_out {l : List Int} {i : Nat} (h : l.length ≤ i) : l.getD i 0 = 0 := by rw [List.getD_eq_getElem?_getD, List.getElem?_eq_none h]; rfl
theorem D_ge {l : List Int} : ∀ {n : Nat}, l.length ≤ n → D l n = dec l
  | 0, h => by
    have : l = [] := List.eq_nil_of_length_eq_zero (by omega)
    subst this; rfl
  | n + 1, h => by
    rcases Nat.lt_or_ge l.length (n + 1) with h1 | h1
    · rw [D, D_ge (by omega), getD_out (by omega)]; simp
    · have : l.length = n + 1 := by omega
      unfold dec; rw [this]
theorem pow_pos10 (n : Nat) : (0 : Int) < 10 ^ n := Int.pow_pos (by omega)
theorem D_range {l : List Int} (h : Dig l) : ∀ n, 0 ≤ D l n ∧ D l n < 10 ^ n
  | 0 => by simp [D]
  | n + 1 => by
    have h1 := D_range h n
    have h2 := h.at n
    have hp := pow_pos10 n
    have h3 : 0 ≤ l.getD n 0 * 10 ^ n := Int.mul_nonneg h2.1 (by omega)
    have h4 : l.getD n 0 * 10 ^ n ≤ 9 * 10 ^ n := Int.mul_le_mul_of_nonneg_right h2.2 (by omega)
    rw [D, Int.pow_succ]
    omega
theorem dec_nonneg {l : List Int} (h : Dig l) : 0 ≤ dec l := (D_range h _).1
theorem D_append {l : List Int} {x : Int} : ∀ {n : Nat}, n ≤ l.length → D (l ++ [x]) n = D l n
  | 0, _ => rfl
  | n + 1, h => by
    rw [D, D, D_append (by omega), List.getD_eq_getElem?_getD, List.getD_eq_getElem?_getD, List.getElem?_append_left (by omega)]
theorem dec_append (l : List Int) (x : Int) : dec (l ++ [x]) = dec l + x * 10 ^ l.length := by
  unfold dec
  rw [List.length_append, List.length_singleton, D, D_append (Nat.le_refl _), List.getD_eq_getElem?_getD, List.getElem?_append_right (Nat.le_refl _)]
  simp
theorem Dig.append {l : List Int} {x : Int} (h : Dig l) (h0 : 0 ≤ x) (h9 : x ≤ 9) : Dig (l ++ [x]) := fun d hd => by
  rcases List.mem_append.1 hd with hd | hd
  · exact h d hd
  · simp at hd; subst hd; exact ⟨h0, h9⟩
theorem dec_cons (x : Int) : ∀ (l : List Int), dec (x :: l) = x + 10 * dec l := by
  intro l
  have key : ∀ n, D (x :: l) (n + 1) = x + 10 * D l n := by
    intro n
    induction n with
    | zero => simp [D]
    | succ n ih =>
      rw [D, ih, D, Int.pow_succ]
      have : (x :: l).getD (n + 1) 0 = l.getD n 0 := rfl
      rw [this, Int.mul_add]
      have : l.getD n 0 * (10 ^ n * 10) = 10 * (l.getD n 0 * 10 ^ n) := by rw [← Int.mul_assoc, Int.mul_comm _ 10]
      omega
  exact key l.length
theorem Dig.tail {x : Int} {l : List Int} (h : Dig (x :: l)) : Dig l := fun d hd => h d (by simp [hd])
theorem Dig.nil : Dig [] := fun d hd => by cases hd
theorem Dig.take {l : List Int} (h : Dig l) (n : Nat) : Dig (l.take n) := fun d hd => h d (List.mem_of_mem_take hd)
theorem Dig.drop {l : List Int} (h : Dig l) (n : Nat) : Dig (l.drop n) := fun d hd => h d (List.mem_of_mem_drop hd)

/-! ### comparing -/
theorem D_top {a b : List Int} {i : Nat} : ∀ n, (∀ j, i ≤ j → j < i + n → a.getD j 0 = b.getD j 0) → D a (i + n) - D b (i + n) = D a i - D b i
  | 0, _ => rfl
  | n + 1, h => by
    rw [← Nat.add_assoc, D, D, h (i + n) (by omega) (by omega)]
    have := D_top n (fun j h1 h2 => h j h1 (by omega))
    omega
theorem dec_both {a b : List Int} : dec a = D a (a.length + b.length + 1) ∧ dec b = D b (a.length + b.length + 1) := ⟨(D_ge (by omega)).symm, (D_ge (by omega)).symm⟩
theorem less_at {a b : List Int} (ha : Dig a) (hb : Dig b) {i : Nat} (hi : i ≤ a.length + b.length) (h : ∀ j, i < j → a.getD j 0 = b.getD j 0) (hne : a.getD i 0 ≠ b.getD i 0) : a.getD i 0 < b.getD i 0 ↔ dec a < dec b := by
  have e := dec_both (a := a) (b := b)
  have t := D_top (a := a) (b := b) (i := i + 1) (a.length + b.length - i) (fun j h1 _ => h j (by omega))
  have e2 : i + 1 + (a.length + b.length - i) = a.length + b.length + 1 := by omega
  rw [e2, ← e.1, ← e.2, D, D] at t
  have ra := D_range ha i
  have rb := D_range hb i
  have hp := pow_pos10 i
  constructor
  · intro hlt
    have := Int.mul_le_mul_of_nonneg_right (show a.getD i 0 + 1 ≤ b.getD i 0 by omega) (Int.le_of_lt hp)
    rw [Int.add_mul, Int.one_mul] at this
    omega
  · intro hlt
    apply Classical.byContradiction
    intro hc
    have := Int.mul_le_mul_of_nonneg_right (show b.getD i 0 + 1 ≤ a.getD i 0 by omega) (Int.le_of_lt hp)
    rw [Int.add_mul, Int.one_mul] at this
    omega
theorem less_none {a b : List Int} (h : ∀ j, a.getD j 0 = b.getD j 0) : ¬ dec a < dec b := by
  have e := dec_both (a := a) (b := b)
  have t := D_top (a := a) (b := b) (i := 0) (a.length + b.length + 1) (fun j _ _ => h j)
  rw [Nat.zero_add, ← e.1, ← e.2] at t
  simp [D] at t
  omega

/-! ### normal rows -/
theorem len_pos {l : List Int} (h : l ≠ []) : 0 < l.length := by cases l with
  | nil => exact absurd rfl h
  | cons x r => simp
theorem pow_mono10 {m : Nat} : ∀ {n : Nat}, m ≤ n → (10 : Int) ^ m ≤ 10 ^ n
  | 0, h => by have : m = 0 := by omega
               subst this; omega
  | n + 1, h => by
    rcases Nat.lt_or_ge m (n + 1) with h1 | h1
    · have := pow_mono10 (m := m) (n := n) (by omega)
      have := pow_pos10 n
      rw [Int.pow_succ]; omega
    · have : m = n + 1 := by omega
      subst this; omega
theorem norm_low {l : List Int} (h : Dig l) (hn : Norm l) (hne : l ≠ []) : 10 ^ (l.length - 1) ≤ dec l := by
  have hlen : 0 < l.length := len_pos hne
  have e : l.length = l.length - 1 + 1 := by omega
  unfold dec
  rw [e, D]
  have r := D_range h (l.length - 1)
  have hlast : l.getD (l.length - 1) 0 ≠ 0 := by
    intro h0
    apply hn
    rw [List.getLast?_eq_getElem?]
    rw [List.getD_eq_getElem?_getD, List.getElem?_eq_getElem (by omega)] at h0
    rw [List.getElem?_eq_getElem (by omega)]
    simpa using h0
  have h1 := h.at (l.length - 1)
  have hp := pow_pos10 (l.length - 1)
  have := Int.mul_le_mul_of_nonneg_right (show (1 : Int) ≤ l.getD (l.length - 1) 0 by omega) (Int.le_of_lt hp)
  rw [Int.one_mul] at this
  simp only [Nat.add_sub_cancel] at *
  omega
theorem norm_zero {l : List Int} (h : Dig l) (hn : Norm l) : dec l = 0 ↔ l = [] := by
  constructor
  · intro h0
    apply Classical.byContradiction
    intro hne
    have := norm_low h hn hne
    have := pow_pos10 (l.length - 1)
    omega
  · rintro rfl; rfl
theorem len_le {a b : List Int} (ha : Dig a) (hb : Dig b) (hn : Norm b) (h : dec b ≤ dec a) : b.length ≤ a.length := by
  by_cases hne : b = []
  · subst hne; simp
  · have h1 := norm_low hb hn hne
    have h2 := (D_range ha a.length).2
    have h4 := len_pos hne
    apply Classical.byContradiction
    intro hc
    have h5 := pow_mono10 (m := a.length) (n := b.length - 1) (by omega)
    have e : dec a = D a a.length := rfl
    rw [← e] at h2
    omega
theorem bval_inj {b b' : Bool} {l l' : List Int} (h : Dig l) (h' : Dig l') (n : NB b l) (n' : NB b' l') : bval b l = bval b' l' ↔ b = b' ∧ dec l = dec l' := by
  have p := dec_nonneg h
  have p' := dec_nonneg h'
  constructor
  · intro e
    unfold bval at e
    cases b <;> cases b' <;> simp at e ⊢
    · exact e
    · have h0 : dec l' = 0 := by omega
      have := (norm_zero h' n'.1).1 h0
      have := n'.2 this; cases this
    · have h0 : dec l = 0 := by omega
      have := (norm_zero h n.1).1 h0
      have := n.2 this; cases this
    · omega
  · rintro ⟨rfl, e⟩; unfold bval; rw [e]
theorem NB.nil : NB false [] := ⟨by simp [Norm], fun _ => rfl⟩

/-! ### a step of each -/
theorem sum_step {a b out : List Int} {i : Nat} {carry : Int} (ho : out.length = i) (h : dec out + carry * 10 ^ i = D a i + D b i) : 
    dec (out ++ [(a.getD i 0 + b.getD i 0 + carry) % 10]) + (a.getD i 0 + b.getD i 0 + carry) / 10 * 10 ^ (i + 1) = D a (i + 1) + D b (i + 1) := by
  rw [dec_append, ho, D, D, Int.pow_succ]
  have e : (a.getD i 0 + b.getD i 0 + carry) / 10 * (10 ^ i * 10) = 10 * ((a.getD i 0 + b.getD i 0 + carry) / 10) * 10 ^ i := by
    rw [Int.mul_comm (10 ^ i) 10, ← Int.mul_assoc, Int.mul_comm _ 10]
  rw [e]
  have e2 : (a.getD i 0 + b.getD i 0 + carry) % 10 * 10 ^ i + 10 * ((a.getD i 0 + b.getD i 0 + carry) / 10) * 10 ^ i = (a.getD i 0 + b.getD i 0 + carry) * 10 ^ i := by
    rw [← Int.add_mul, Int.emod_add_mul_ediv]
  rw [Int.add_mul, Int.add_mul] at e2
  omega
theorem sum_done {a b out : List Int} {i : Nat} (ha : a.length ≤ i) (hb : b.length ≤ i) (h : dec out + 0 * 10 ^ i = D a i + D b i) : dec out = dec a + dec b := by
  rw [D_ge ha, D_ge hb] at h; omega
theorem rest_step {a b out : List Int} {i : Nat} {bor c nb : Int} (ho : out.length = i) (h : dec out = D a i - D b i + bor * 10 ^ i) (hc : c = a.getD i 0 - b.getD i 0 - bor + nb * 10) :
    dec (out ++ [c]) = D a (i + 1) - D b (i + 1) + nb * 10 ^ (i + 1) := by
  rw [dec_append, ho, D, D, Int.pow_succ, h, hc]
  have e : nb * (10 ^ i * 10) = nb * 10 * 10 ^ i := by rw [Int.mul_comm (10 ^ i) 10, Int.mul_assoc]
  rw [e, Int.add_mul, Int.sub_mul, Int.sub_mul]
  omega
theorem rest_done {a b out : List Int} {bor : Int} (ha : Dig a) (hb : Dig b) (hd : Dig out) (hl : out.length = a.length) (hba : b.length ≤ a.length) (hle : dec b ≤ dec a) (h0 : 0 ≤ bor) (h : dec out = D a a.length - D b a.length + bor * 10 ^ a.length) : dec out = dec a - dec b := by
  have r := (D_range hd out.length).2
  rw [hl] at r
  have e : D b a.length = dec b := D_ge hba
  have e2 : D out a.length = dec out := by rw [← hl]; rfl
  have e3 : D a a.length = dec a := rfl
  rw [e, e3] at h
  have hb0 : bor = 0 := by
    apply Classical.byContradiction
    intro hne
    have := Int.mul_le_mul_of_nonneg_right (show (1 : Int) ≤ bor by omega) (Int.le_of_lt (pow_pos10 a.length))
    omega
  rw [hb0] at h; omega
theorem trim_step {l : List Int} (hne : 0 < l.length) (h0 : l.getD (l.length - 1) 0 = 0) : dec (l.take (l.length - 1)) = dec l := by
  have e : l = l.take (l.length - 1) ++ [l.getD (l.length - 1) 0] := by
    conv => lhs; rw [← List.take_append_drop (l.length - 1) l]
    congr 1
    rw [List.drop_eq_getElem_cons (by omega), List.drop_eq_nil_of_le (by omega), List.getD_eq_getElem?_getD, List.getElem?_eq_getElem (by omega)]
    rfl
  conv => rhs; rw [e]
  rw [dec_append, h0]; simp
theorem trim_done {l : List Int} (h : l.length = 0 ∨ l.getD (l.length - 1) 0 ≠ 0) : Norm l := by
  intro hl
  rw [List.getLast?_eq_getElem?] at hl
  rcases h with h | h
  · rw [List.getElem?_eq_none (by omega)] at hl; cases hl
  · rw [List.getD_eq_getElem?_getD, hl] at h; simp at h
theorem abs_tdiv (c : Int) : (c.tdiv 10).natAbs = c.natAbs / 10 := by rw [Int.natAbs_tdiv]; rfl
theorem abs_tmod (c : Int) : (c.tmod 10).natAbs = c.natAbs % 10 := by rw [Int.natAbs_tmod]; rfl
theorem tmod_range (c : Int) : -9 ≤ c.tmod 10 ∧ c.tmod 10 ≤ 9 := by have := abs_tmod c; omega
theorem fig_yes {c : Int} (h : c.tmod 10 < 0) : 0 - c.tmod 10 = ((c.natAbs % 10 : Nat) : Int) := by have := abs_tmod c; omega
theorem fig_no {c : Int} (h : ¬ c.tmod 10 < 0) : c.tmod 10 = ((c.natAbs % 10 : Nat) : Int) := by have := abs_tmod c; omega
theorem of_step {c : Int} {out : List Int} {N : Int} (h : dec out + (c.natAbs : Int) * 10 ^ out.length = N) : dec (out ++ [((c.natAbs % 10 : Nat) : Int)]) + ((c.tdiv 10).natAbs : Int) * 10 ^ (out ++ [((c.natAbs % 10 : Nat) : Int)]).length = N := by
  rw [dec_append, abs_tdiv, List.length_append, List.length_singleton, Int.pow_succ, ← h]
  have e : (((c.natAbs / 10 : Nat) : Int)) * (10 ^ out.length * 10) = 10 * ((c.natAbs / 10 : Nat) : Int) * 10 ^ out.length := by
    rw [Int.mul_comm (10 ^ out.length) 10, ← Int.mul_assoc, Int.mul_comm _ 10]
  rw [e, Int.add_assoc, ← Int.add_mul]
  congr 2; omega
theorem of_norm {c : Int} {out : List Int} (hc : c ≠ 0) (h : c.tdiv 10 = 0) : Norm (out ++ [((c.natAbs % 10 : Nat) : Int)]) := by
  have h1 := abs_tdiv c
  rw [h] at h1
  intro hl
  rw [List.getLast?_append] at hl
  simp at hl
  omega
theorem of_len {c N : Int} {out : List Int} (hd : Dig out) (hc : c ≠ 0) (h : dec out + (c.natAbs : Int) * 10 ^ out.length = N) (hN : N ≤ 9223372036854775808) : out.length ≤ 18 := by
  apply Classical.byContradiction
  intro hl
  have h1 := pow_mono10 (m := 19) (n := out.length) (by omega)
  have h2 := dec_nonneg hd
  have h3 := Int.mul_le_mul_of_nonneg_right (show (1 : Int) ≤ (c.natAbs : Int) by omega) (Int.le_of_lt (pow_pos10 out.length))
  have h4 : (10 : Int) ^ 19 = 10000000000000000000 := by decide
  omega
def CapOk (v : Value) (n : Nat) : Prop := ∃ a cap, v = .slice a n cap ∧ n ≤ cap
theorem OwnS.capOk {H : Hp} {E : TypeId} {w : Nat} {v : Value} {n : Nat} {cs : List Value} {rs : Option Nat} (h : OwnS H E w v n cs rs) : CapOk v n := by
  obtain ⟨_, ⟨rfl, rfl, _⟩ | ⟨r, cap, c, rfl, _, h5, _⟩⟩ := h
  · exact ⟨none, 0, rfl, Nat.le_refl _⟩
  · exact ⟨_, cap, rfl, h5⟩
/-- A value of the figures' struct. -/
def BigV (H : Hp) (val : Value) (b : Bool) (l : List Int) (n : Nat) : Prop := ∃ v, val = .agg #[.bool b, v] ∧ Holds H 1 v l.length (i64s l) ∧ CapOk v l.length ∧ Dig l ∧ NB b l ∧ l.length ≤ n
theorem BigV.le {H H' : Hp} {val : Value} {b : Bool} {l : List Int} {n : Nat} (h : BigV H val b l n) (k : Le H H') : BigV H' val b l n := by
  obtain ⟨v, h1, h2, h3⟩ := h
  exact ⟨v, h1, h2.le k, h3⟩
theorem take_last {l : List Int} {n : Nat} (hn : 0 < n) (hl : n ≤ l.length) : (l.take n).getD (n - 1) 0 = l.getD (n - 1) 0 := by
  rw [List.getD_eq_getElem?_getD, List.getD_eq_getElem?_getD, List.getElem?_take_of_lt (by omega)]
theorem trim_take {l : List Int} {n : Nat} (hn : 0 < n) (hl : n ≤ l.length) (h : dec (l.take n) = dec l) (h0 : l.getD (n - 1) 0 = 0) : dec (l.take (n - 1)) = dec l := by
  have h1 := trim_step (l := l.take n) (by simp; omega) (by rw [List.length_take, Nat.min_eq_left hl, take_last hn hl]; exact h0)
  rw [List.length_take, Nat.min_eq_left hl, List.take_take, Nat.min_eq_left (by omega)] at h1
  rw [h1, h]
theorem trim_norm {l : List Int} {n : Nat} (hl : n ≤ l.length) (h : n = 0 ∨ l.getD (n - 1) 0 ≠ 0) : Norm (l.take n) := by
  apply trim_done
  rw [List.length_take, Nat.min_eq_left hl]
  rcases h with h | h
  · exact .inl h
  · by_cases hn : 0 < n
    · right; rw [take_last hn hl]; exact h
    · left; omega
theorem len_of_val {b : Bool} {l : List Int} (hd : Dig l) (hn : NB b l) {k : Nat} (h : dec l < 10 ^ k) : l.length ≤ k := by
  by_cases hne : l = []
  · subst hne; simp
  · have h1 := norm_low hd hn.1 hne
    have h2 := len_pos hne
    apply Classical.byContradiction
    intro hc
    have := pow_mono10 (m := k) (n := l.length - 1) (by omega)
    omega
theorem dec_abs {b : Bool} {l : List Int} (hd : Dig l) : dec l = ((bval b l).natAbs : Int) := by
  have := dec_nonneg hd
  unfold bval; split <;> omega
/-- A slice of numbers while the struct of figures in another block is written. -/
theorem Holds.upd_big {H : Hp} {v : Value} {n : Nat} {l : List Int} (h : Holds H 1 v n (i64s l)) {b : Nat} {x y x' y' : Value} {T : TypeId} (hb : H b = some (.cells #[x, y] T)) (hx : ∀ k, x ≠ .int .i64 k) (hy : ∀ k, y ≠ .int .i64 k) :
    Holds (H.upd b (.cells #[x', y'] T)) 1 v n (i64s l) := by
  obtain ⟨h1, h2 | ⟨r, o, cap, c, E, f, rfl, h3, h4, h5⟩⟩ := h
  · exact ⟨h1, .inl h2⟩
  · by_cases hn : n = 0
    · subst hn; exact ⟨h1, .inl ⟨_, _, rfl, rfl⟩⟩
    · refine ⟨h1, .inr ⟨r, o, cap, c, E, f, rfl, ?_, h4, h5⟩⟩
      rw [upd_ne]; · exact h3
      intro e
      subst e
      rw [hb] at h3; cases h3
      have hlen : l.length = n := by simpa using h1.symm
      have h6 : (i64s l)[0]? = some (.int .i64 (l[0]'(by omega))) := by simp [show 0 < l.length by omega]
      rw [← h5, Array.toList_extract, List.extract_eq_take_drop, List.getElem?_take_of_lt (by omega), List.getElem?_drop] at h6
      have ho : o = 0 ∨ o = 1 := by simp at h4; omega
      rcases ho with rfl | rfl
      · simp at h6; exact hx _ h6
      · simp at h6; exact hy _ h6
theorem drop_dec {l : List Int} {i : Nat} (h : i < l.length) : dec (l.drop i) = l.getD i 0 + 10 * dec (l.drop (i + 1)) := by
  rw [List.drop_eq_getElem_cons h, dec_cons, List.getD_eq_getElem?_getD, List.getElem?_eq_getElem h]; rfl
theorem num_step (x d : Int) : IntKind.i64.wrap (IntKind.i64.wrap (10 * IntKind.i64.wrap (-x)) - d) = IntKind.i64.wrap (-(d + 10 * x)) := by
  rw [w_i64, w_i64, w_i64, w_i64]; omega
theorem num_neg (x : Int) : IntKind.i64.wrap (0 - IntKind.i64.wrap (-x)) = IntKind.i64.wrap x := by rw [w_i64, w_i64, w_i64]; omega
theorem wrap_fits {V : Int} : IntKind.i64.wrap V = V ↔ fitsI V := by rw [w_i64]; unfold fitsI; omega
theorem wrap_range (V : Int) : -9223372036854775808 ≤ IntKind.i64.wrap V ∧ IntKind.i64.wrap V ≤ 9223372036854775807 := by rw [w_i64]; omega
theorem bval_neg (b : Bool) (l : List Int) : bval (!b) l = -bval b l := by unfold bval; cases b <;> simp
theorem add_same {b : Bool} {x y z : List Int} (h : dec z = dec x + dec y) : bval b z = bval b x + bval b y := by unfold bval; rw [h]; cases b <;> simp <;> omega
theorem add_less {a b : Bool} {x y z : List Int} (hne : ¬ a = b) (h : dec z = dec y - dec x) : bval b z = bval a x + bval b y := by
  unfold bval; rw [h]; cases a <;> cases b <;> simp at hne ⊢ <;> omega
theorem add_more {a b : Bool} {x y z : List Int} (hne : ¬ a = b) (h : dec z = dec x - dec y) : bval a z = bval a x + bval b y := by
  unfold bval; rw [h]; cases a <;> cases b <;> simp at hne ⊢ <;> omega
theorem same_iff {a b : Bool} {x y : List Int} (dx : Dig x) (dy : Dig y) (nx : NB a x) (ny : NB b y) : bval a x = bval b y ↔ a = b ∧ ¬ dec x < dec y ∧ ¬ dec y < dec x := by
  rw [bval_inj dx dy nx ny]
  refine and_congr_right fun _ => ?_
  omega
theorem of_bval {n : Int} {l : List Int} (h : dec l = (n.natAbs : Int)) : bval (decide (n < 0)) l = n := by
  unfold bval; rw [h]
  by_cases hn : n < 0
  · simp [hn]; omega
  · simp [hn]; omega
theorem mul_step {x o d r : Int} (h : o = x * r) : 10 * o + d * x = x * (d + 10 * r) := by
  have : x * (10 * r) = 10 * (x * r) := by rw [← Int.mul_assoc, Int.mul_comm x 10, Int.mul_assoc]
  rw [h, Int.mul_add, this, Int.mul_comm x d]; omega
end Go.Proofs.Ytlkopcgoaldpeaa.HL
