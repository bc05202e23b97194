/- Lists of structs: what their cells are. -/
import Derived.Test.YtlkopcgoaldpeaaHLFlat
namespace Go.Proofs.Ytlkopcgoaldpeaa.HL
open Go

theorem flat_at {α : Type} {f : α → List Value} {wd : Nat} (hw : ∀ a, (f a).length = wd) (L : List α) (i : Nat) (hi : i < L.length) (j : Nat) (hj : j < wd) : (L.flatMap f)[i * wd + j]? = (f L[i])[j]? := by
  induction L generalizing i with
  | nil => simp at hi
  | cons x r ih =>
    cases i with
    | zero => rw [List.flatMap_cons, Nat.zero_mul, Nat.zero_add, List.getElem?_append_left (by rw [hw]; exact hj)]; rfl
    | succ i =>
      rw [List.flatMap_cons, List.getElem?_append_right (by rw [hw, Nat.succ_mul]; omega), hw]
      have e : (i + 1) * wd + j - wd = i * wd + j := by rw [Nat.succ_mul]; omega
      rw [e, ih i (by simpa using hi)]; rfl
theorem flat_size {α : Type} {f : α → List Value} {wd : Nat} (hw : ∀ a, (f a).length = wd) : ∀ (L : List α), (L.flatMap f).length = L.length * wd
  | [] => by simp
  | x :: r => by rw [List.flatMap_cons, List.length_append, hw, flat_size hw r, List.length_cons, Nat.succ_mul]; omega
/-- An element's cells, one by one, and all. -/
theorem cell_at {α : Type} [Inhabited α] {f : α → List Value} {wd : Nat} (hw : ∀ a, (f a).length = wd) {L : List α} {c : Array Value} {o n : Nat} (h : ∀ j, j < n * wd → c[o + j]? = (L.flatMap f)[j]?) (hn : n = L.length) (i : Nat) (hi : i < L.length) (j : Nat) (hj : j < wd) :
    c[o + i * wd + j]? = (f (L.getD i default))[j]? := by
  have e : i * wd + j < n * wd := by
    have := Nat.mul_le_mul_right wd (show i + 1 ≤ n by omega)
    rw [Nat.succ_mul] at this; omega
  rw [Nat.add_assoc, h _ e, flat_at hw L i hi j hj, List.getD_eq_getElem?_getD, List.getElem?_eq_getElem hi]; rfl
theorem ext_at {α : Type} [Inhabited α] {f : α → List Value} {wd : Nat} (hw : ∀ a, (f a).length = wd) {L : List α} {c : Array Value} {o n : Nat} (h : ∀ j, j < n * wd → c[o + j]? = (L.flatMap f)[j]?) (hn : n = L.length) (i : Nat) (hi : i < L.length) (hs : o + n * wd ≤ c.size) :
    c.extract (o + i * wd) (o + i * wd + wd) = (f (L.getD i default)).toArray := by
  apply Array.ext'
  apply List.ext_getElem?
  intro j
  have h1 := Nat.mul_le_mul_right wd (show i + 1 ≤ n by omega)
  rw [Nat.succ_mul] at h1
  rw [Array.toList_extract, List.extract_eq_take_drop]
  by_cases hj : j < wd
  · rw [List.getElem?_take_of_lt (by omega), List.getElem?_drop, Array.getElem?_toList, cell_at hw h hn i hi j hj]
  · rw [List.getElem?_eq_none (by simp; omega), List.getElem?_eq_none (by simp [hw]; omega)]
theorem take_eq_step {α : Type} [Inhabited α] {L M : List α} {k : Nat} (h : L.take k = M.take k) (hl : k < L.length) (hm : k < M.length) (e : L.getD k default = M.getD k default) : L.take (k + 1) = M.take (k + 1) := by
  rw [List.take_succ_eq_append_getElem hl, List.take_succ_eq_append_getElem hm, h]
  simp only [List.getD_eq_getElem?_getD, List.getElem?_eq_getElem hl, List.getElem?_eq_getElem hm, Option.getD_some] at e
  rw [e]
theorem ne_of_getD {α : Type} {L M : List α} {k : Nat} {d : α} (e : L.getD k d ≠ M.getD k d) : L ≠ M := fun h => e (by rw [h])

/-- api.Write -/
structure Wr where
  t : Int
  k : Int
  v : Int
  dead : Bool
deriving DecidableEq, Inhabited
abbrev Wr.c (w : Wr) : List Value := [.int .i64 w.t, .int .i64 w.k, .int .i64 w.v, .bool w.dead]
def wrK : List CK := [some .i64, some .i64, some .i64, none]
theorem Wr.fit (w : Wr) : Fit wrK w.c := by
  refine ⟨rfl, fun i k v hk hv => ?_⟩
  match i with
  | 0 => cases hk; cases hv; exact ⟨_, rfl⟩
  | 1 => cases hk; cases hv; exact ⟨_, rfl⟩
  | 2 => cases hk; cases hv; exact ⟨_, rfl⟩
  | 3 => cases hk; cases hv; exact ⟨_, rfl⟩
  | i + 4 => simp [wrK] at hk
theorem Wr.inj {a b : Wr} : a.c = b.c ↔ a = b := by
  obtain ⟨t, k, v, d⟩ := a
  obtain ⟨t', k', v', d'⟩ := b
  simp [Wr.c]
theorem Wr.len (w : Wr) : w.c.length = 4 := rfl
def Wr.ok (w : Wr) : Prop := (-9223372036854775808 ≤ w.t ∧ w.t ≤ 9223372036854775807) ∧ (-9223372036854775808 ≤ w.k ∧ w.k ≤ 9223372036854775807) ∧ (-9223372036854775808 ≤ w.v ∧ w.v ≤ 9223372036854775807)
theorem Wr.eqV {a b : Wr} : Go.Proofs.Ytlkopcgoaldpeaa.HL.eqV a.c b.c = decide (a = b) := eqV_of Wr.inj
abbrev wrs (L : List Wr) : List Value := L.flatMap Wr.c
theorem wrs_len (L : List Wr) : (wrs L).length = L.length * 4 := flat_size Wr.len L
theorem wr_head {w : Wr} {r : List Wr} {c : Array Value} {o n : Nat} (h : ∀ j, j < n * 4 → c[o + j]? = (wrs (w :: r))[j]?) (hn : n = r.length + 1) (j : Nat) (hj : j < 4) : c[o + j]? = w.c[j]? := by
  rw [h j (by omega), wrs, List.flatMap_cons, List.getElem?_append_left (by rw [Wr.len]; exact hj)]
theorem key_ext {w : Wr} {r : List Wr} {c : Array Value} {o n : Nat} (h : ∀ j, j < n * 4 → c[o + j]? = (wrs (w :: r))[j]?) (hn : n = r.length + 1) (hs : o + n * 4 ≤ c.size) : c.extract o (o + 2) = #[.int .i64 w.t, .int .i64 w.k] := by
  apply Array.ext'
  apply List.ext_getElem?
  intro j
  rw [Array.toList_extract, List.extract_eq_take_drop]
  match j with
  | 0 => rw [List.getElem?_take_of_lt (by omega), List.getElem?_drop, Array.getElem?_toList, wr_head h hn 0 (by omega)]; rfl
  | 1 => rw [List.getElem?_take_of_lt (by omega), List.getElem?_drop, Array.getElem?_toList, wr_head h hn 1 (by omega)]; rfl
  | j + 2 => rw [List.getElem?_eq_none (by simp; omega), List.getElem?_eq_none (by simp)]
theorem wrs_plain (L : List Wr) : PlainL (wrs L) := fun v hv => by
  obtain ⟨w, _, hw⟩ := List.mem_flatMap.1 hv
  simp [Wr.c] at hw
  rcases hw with rfl | rfl | rfl | rfl <;> rfl
/-- 'append' of a known slice to an empty one of the call's own. -/
theorem Lt_appendNew {P : Program} {H : Hp} {t1 E : TypeId} {w by_ : Nat} {z : Value} (hu : P.underlying t1 = some (.slice E)) (hw : szOf P E = some w) (hby : byOf P E = some by_) (hby0 : 0 < by_)
    (hz : zrOf P E = some (some z)) (hzw : z.cells.size = w) (ty : TypeId) {b : Nat} {x : Value} {m : Nat} {ds : List Value} (hb : H b = some (.cells #[] E)) (hx : Holds H w x m ds) (hp : PlainL ds)
    (hroom : (4 * m + 2000) * by_ ≤ 281474976710656) {K : Value → Hp → Prop}
    (h : ∀ v' H' rs', Grow H (some b) H' → OwnS H' E w v' m ds rs' → (∀ r, rs' = some r → r = b ∨ H r = none) → K v' H') : Lt P (Builtin.append_ #[t1, t1] ty #[.slice (some ⟨b, 0, none⟩) 0 0, x]) H K := by
  refine Lt_append hu hu (by simp) hw hby hby0 hz hzw ty (n := 0) (m := m) (cs := []) (ds := ds) (rs := some b) ⟨by simp, .inr ⟨b, 0, #[], rfl, hb, Nat.le_refl _, by simp, by simp, rfl⟩⟩ (fun K => len_holds hx K) (fun K => first_slice hx K) hx.1 hp (by simpa using hroom) ?_
  intro v' H' rs' hg ho hr
  refine h v' H' rs' hg (by simpa using ho) fun r e => ?_
  rcases hr r e with h1 | h1
  · cases h1; exact .inl rfl
  · exact .inr h1
/-- 'append' of one number that stands in a block of one cell. -/
theorem Lt_append1 {P : Program} {H : Hp} {t1 E : TypeId} {by_ : Nat} {z : Value} (hu : P.underlying t1 = some (.slice E)) (hw : szOf P E = some 1) (hby : byOf P E = some by_) (hby0 : 0 < by_)
    (hz : zrOf P E = some (some z)) (hzw : z.cells.size = 1) (ty : TypeId) {v : Value} {n : Nat} {cs : List Value} {rs : Option Nat} (hv : OwnS H E 1 v n cs rs) {b : Nat} {x : Value} (hb : H b = some (.cells #[x] E)) (hp : plainCell x = true)
    (hroom : (4 * (n + 1) + 2000) * by_ ≤ 281474976710656) {K : Value → Hp → Prop}
    (h : ∀ v' H' rs', Grow H rs H' → OwnS H' E 1 v' (n + 1) (cs ++ [x]) rs' → (∀ r, rs' = some r → rs = some r ∨ H r = none) → K v' H') : Lt P (Builtin.append_ #[t1, t1] ty #[v, .slice (some ⟨b, 0, none⟩) 1 1]) H K := by
  have hx : Holds H 1 (.slice (some ⟨b, 0, none⟩) 1 1) 1 [x] := ⟨rfl, .inr ⟨b, 0, 1, _, _, _, rfl, hb, by simp, by simp⟩⟩
  exact Lt_append hu hu (by simp) hw hby hby0 hz hzw ty (n := n) (m := 1) (cs := cs) (ds := [x]) (rs := rs) hv (fun K => len_holds hx K) (fun K => first_slice hx K) rfl (PlainL.cons hp PlainL.nil) hroom h
end Go.Proofs.Ytlkopcgoaldpeaa.HL
