/- Parts of the proof, one behind the other: HLApi, HLFrame, HLFrame2, HLShort, S29Ty, HLOwn, HLIf, HLIter, HLMap, HLPtr, HLClone, HLIns, Md05, U12, Md29, HLMapU, Md29b, Md29c, Md29h, HLRowW, MdAp, HLStX, HLInv, U23, U24, U13. -/
import Derived.Carry
import Derived.ChangeOld
import Derived.OpenShut
import Derived.ChangeSlices
import Derived.Test.YtjhohnbdhopllaaProg
import Derived.KernelRfl
import GoSem.Extern.SlicesOverlaps
import Derived.Test.YtjhohnbdhopllaaX1
set_option linter.unusedSimpArgs false
set_option linter.unusedVariables false
section
namespace Go.Proofs.Ytjhohnbdhopllaa.HL
open Go
theorem flat_at {α : Type} {f : α → List Value} {wd : Nat} (hw : ∀ a, (f a).length = wd) (L : List α) (i : Nat) (hi : i < L.length) (j : Nat) (hj : j < wd) : (L.flatMap f)[i * wd + j]? = (f L[i])[j]? := by
  induction L generalizing i with
  | nil => simp at hi
  | cons x r ih =>
    cases i with
    | zero => rw [List.flatMap_cons, Nat.zero_mul, Nat.zero_add, List.getElem?_append_left (by rw [hw]; exact hj)]; rfl
    | succ i =>
      rw [List.flatMap_cons, List.getElem?_append_right (by rw [hw, Nat.succ_mul]; omega), hw]
      have e : (i + 1) * wd + j - wd = i * wd + j := by rw [Nat.succ_mul]; omega
      rw [e, ih i (by simpa using hi)]; rfl
theorem flat_size {α : Type} {f : α → List Value} {wd : Nat} (hw : ∀ a, (f a).length = wd) : ∀ (L : List α), (L.flatMap f).length = L.length * wd
  | [] => by simp
  | x :: r => by rw [List.flatMap_cons, List.length_append, hw, flat_size hw r, List.length_cons, Nat.succ_mul]; omega
theorem cell_at {α : Type} [Inhabited α] {f : α → List Value} {wd : Nat} (hw : ∀ a, (f a).length = wd) {L : List α} {c : Array Value} {o n : Nat} (h : ∀ j, j < n * wd → c[o + j]? = (L.flatMap f)[j]?) (hn : n = L.length) (i : Nat) (hi : i < L.length) (j : Nat) (hj : j < wd) :
    c[o + i * wd + j]? = (f (L.getD i default))[j]? := by
  have e : i * wd + j < n * wd := by
    have := Nat.mul_le_mul_right wd (show i + 1 ≤ n by omega)
    rw [Nat.succ_mul] at this; omega
  rw [Nat.add_assoc, h _ e, flat_at hw L i hi j hj, List.getD_eq_getElem?_getD, List.getElem?_eq_getElem hi]; rfl
theorem ext_at {α : Type} [Inhabited α] {f : α → List Value} {wd : Nat} (hw : ∀ a, (f a).length = wd) {L : List α} {c : Array Value} {o n : Nat} (h : ∀ j, j < n * wd → c[o + j]? = (L.flatMap f)[j]?) (hn : n = L.length) (i : Nat) (hi : i < L.length) (hs : o + n * wd ≤ c.size) :
    c.extract (o + i * wd) (o + i * wd + wd) = (f (L.getD i default)).toArray := by
  apply Array.ext'
  apply List.ext_getElem?
  intro j
  have h1 := Nat.mul_le_mul_right wd (show i + 1 ≤ n by omega)
  rw [Nat.succ_mul] at h1
  rw [Array.toList_extract, List.extract_eq_take_drop]
  by_cases hj : j < wd
  · rw [List.getElem?_take_of_lt (by omega), List.getElem?_drop, Array.getElem?_toList, cell_at hw h hn i hi j hj]
  · rw [List.getElem?_eq_none (by simp; omega), List.getElem?_eq_none (by simp [hw]; omega)]
theorem take_eq_step {α : Type} [Inhabited α] {L M : List α} {k : Nat} (h : L.take k = M.take k) (hl : k < L.length) (hm : k < M.length) (e : L.getD k default = M.getD k default) : L.take (k + 1) = M.take (k + 1) := by
  rw [List.take_succ_eq_append_getElem hl, List.take_succ_eq_append_getElem hm, h]
  simp only [List.getD_eq_getElem?_getD, List.getElem?_eq_getElem hl, List.getElem?_eq_getElem hm, Option.getD_some] at e
  rw [e]
structure Wr where
  t : Int
  k : Int
  v : Int
  dead : Bool
deriving DecidableEq, Inhabited
abbrev Wr.c (w : Wr) : List Value := [.int .i64 w.t, .int .i64 w.k, .int .i64 w.v, .bool w.dead]
def wrK : List CK := [some .i64, some .i64, some .i64, none]
theorem Wr.fit (w : Wr) : Fit wrK w.c := by
  refine ⟨rfl, fun i k v hk hv => ?_⟩
  match i with
  | 0 => cases hk; cases hv; exact ⟨_, rfl⟩
  | 1 => cases hk; cases hv; exact ⟨_, rfl⟩
  | 2 => cases hk; cases hv; exact ⟨_, rfl⟩
  | 3 => cases hk; cases hv; exact ⟨_, rfl⟩
  | i + 4 => simp [wrK] at hk
theorem Wr.inj {a b : Wr} : a.c = b.c ↔ a = b := by
  obtain ⟨t, k, v, d⟩ := a
  obtain ⟨t', k', v', d'⟩ := b
  simp [Wr.c]
theorem Wr.len (w : Wr) : w.c.length = 4 := rfl
def Wr.ok (w : Wr) : Prop := (-9223372036854775808 ≤ w.t ∧ w.t ≤ 9223372036854775807) ∧ (-9223372036854775808 ≤ w.k ∧ w.k ≤ 9223372036854775807) ∧ (-9223372036854775808 ≤ w.v ∧ w.v ≤ 9223372036854775807)
theorem Wr.eqV {a b : Wr} : Go.Proofs.Ytjhohnbdhopllaa.HL.eqV a.c b.c = decide (a = b) := eqV_of Wr.inj
abbrev wrs (L : List Wr) : List Value := L.flatMap Wr.c
theorem wrs_len (L : List Wr) : (wrs L).length = L.length * 4 := flat_size Wr.len L
theorem wrs_plain (L : List Wr) : PlainL (wrs L) := fun v hv => by
  obtain ⟨w, _, hw⟩ := List.mem_flatMap.1 hv
  simp [Wr.c] at hw
  rcases hw with rfl | rfl | rfl | rfl <;> rfl
theorem Lt_appendNew {P : Program} {H : Hp} {t1 E : TypeId} {w by_ : Nat} {z : Value} (hu : P.underlying t1 = some (.slice E)) (hw : szOf P E = some w) (hby : byOf P E = some by_) (hby0 : 0 < by_)
    (hz : zrOf P E = some (some z)) (hzw : z.cells.size = w) (ty : TypeId) {b : Nat} {x : Value} {m : Nat} {ds : List Value} (hb : H b = some (.cells #[] E)) (hx : Holds H w x m ds) (hp : PlainL ds)
    (hroom : (4 * m + 2000) * by_ ≤ 281474976710656) {K : Value → Hp → Prop}
    (h : ∀ v' H' rs', Grow H (some b) H' → OwnS H' E w v' m ds rs' → (∀ r, rs' = some r → r = b ∨ H r = none) → K v' H') : Lt P (Builtin.append_ #[t1, t1] ty #[.slice (some ⟨b, 0, none⟩) 0 0, x]) H K := by
  refine Lt_append hu hu (by simp) hw hby hby0 hz hzw ty (n := 0) (m := m) (cs := []) (ds := ds) (rs := some b) ⟨by simp, .inr ⟨b, 0, #[], rfl, hb, Nat.le_refl _, by simp, by simp, rfl⟩⟩ (fun K => len_holds hx K) (fun K => first_slice hx K) hx.1 hp (by simpa using hroom) ?_
  intro v' H' rs' hg ho hr
  refine h v' H' rs' hg (by simpa using ho) fun r e => ?_
  rcases hr r e with h1 | h1
  · cases h1; exact .inl rfl
  · exact .inr h1
end Go.Proofs.Ytjhohnbdhopllaa.HL
end
section
namespace Go.Proofs.Ytjhohnbdhopllaa.HL
open Go Go.RowKit Go.ChangeShapes Go.WideShapes
def oldH (w : World) : Hp := fun b => w.heap[b]?
theorem oldH_sub (w : World) : Sub (oldH w) w := fun _ _ h => h
theorem calls_of_old {P : Program} {f : FuncId} {args : Array Value} {w : World}
    (h : CallH P f args (oldH w) (fun v H' => v = .bool true ∧ Le (oldH w) H')) : Calls P f args w fun e w' => e = .returned (.bool true) ∧ Below w.heap.size w w' := by
  refine (h w (oldH_sub w)).mono fun e w' ⟨v, he, H', ⟨hv, hl⟩, hx⟩ => ⟨by rw [he, hv], hx.os, hx.tape, hx.output, hx.size, fun k hk => ?_⟩
  have h1 : w.heap[k]? = some w.heap[k] := by simp [hk]
  rw [h1]; exact hx.sub _ _ (hl _ _ h1)
theorem i64_of_wf {n : Int} (h : (Lit.int .i64 n).wf = true) : -9223372036854775808 ≤ n ∧ n ≤ 9223372036854775807 := by
  simp [Lit.wf, IntKind.min, IntKind.max, IntKind.signed, IntKind.bits] at h
  omega
section
variable {H : Type} {enc : TypeId × Value → H} {P : Program} {w : World} {base : Nat} {spare : Nat → Bool} {held : Bool} {fuel : Nat} {t : TypeId} {cs : List Value} {x : DataW H × List MemPlace}
theorem val_of_agg {r : Reach} {b0 : Nat} {v : Value} (ht : (∃ fs, P.underlying t = some (.struct fs)) ∨ ∃ n e, P.underlying t = some (.array n e)) (h : Value.okWide P w r b0 t v) : v = .agg v.cells := by
  unfold Value.okWide at h
  rcases ht with ⟨fs, ht⟩ | ⟨n, e, ht⟩ <;> rw [ht] at h <;> obtain ⟨c, rfl, _⟩ := h <;> rfl
theorem open_field {fs : Array Field} (ht : P.underlying t = some (.struct fs)) (h : DataW.trod enc P w base spare held fuel t cs = some x) (i : Nat) {f : Field} (hf : fs[i]? = some f) :
    ∃ y n, DataW.trod enc P w base spare held n f.type ((cs.drop f.offset).take (P.cellsOf f.type)) = some y := by
  obtain ⟨xs, n, _, _, hl, hx, hi⟩ := DataW.trod_struct ht h
  have h1 := hi i f hf
  have hlt : i < fs.size := (Array.getElem?_eq_some_iff.1 hf).1
  rw [List.getElem?_eq_getElem (by omega)] at h1
  exact ⟨_, n, h1⟩
theorem struct_len {fs : Array Field} (ht : P.underlying t = some (.struct fs)) (h : DataW.trod enc P w base spare held fuel t cs = some x) : cs.length = P.cellsOf t := by
  obtain ⟨xs, n, _, _, hl, _⟩ := DataW.trod_struct ht h
  exact hl
theorem cells_of_list {v : Value} {l : List Value} (h : v.cells.toList = l) : v.cells = l.toArray := by rw [← h]
/-! ### arguments of a kind -/
variable {r : Reach} {b0 : Nat} {v : Value} {d : DataW H} {ps : List MemPlace}
theorem field_cells {fs : Array Field} (ht : P.underlying t = some (.struct fs)) (h : DataW.trod enc P w base spare held fuel t cs = some x) (i : Nat) {f : Field} (hf : fs[i]? = some f) {o n : Nat} (ho : f.offset = o) (hn : P.cellsOf f.type = n) :
    ∃ y m, DataW.trod enc P w base spare held m f.type ((cs.drop o).take n) = some y := by
  have := open_field ht h i hf
  rw [ho, hn] at this; exact this
theorem int_cell {k : IntKind} {i : Nat} (ht : P.underlying t = some (.int k)) (h : DataW.trod enc P w base spare held fuel t ((cs.drop i).take 1) = some x) : ∃ z, cs[i]? = some (.int k z) ∧ (Lit.int k z).wf = true := by
  obtain ⟨z, h1, _, h2⟩ := DataW.trod_int ht h
  refine ⟨z, ?_, h2⟩
  have h5 : ((cs.drop i).take 1)[0]? = some (.int k z) := by rw [h1]; rfl
  rw [List.getElem?_take_of_lt (by omega), List.getElem?_drop] at h5
  simpa using h5
theorem bool_cell {i : Nat} (ht : P.underlying t = some .bool) (h : DataW.trod enc P w base spare held fuel t ((cs.drop i).take 1) = some x) : ∃ z, cs[i]? = some (.bool z) := by
  obtain ⟨z, h1, _⟩ := DataW.trod_bool ht h
  refine ⟨z, ?_⟩
  have h5 : ((cs.drop i).take 1)[0]? = some (.bool z) := by rw [h1]; rfl
  rw [List.getElem?_take_of_lt (by omega), List.getElem?_drop] at h5
  simpa using h5
theorem drop_take_drop {l : List Value} {a b i n : Nat} (h : i + n ≤ b) : (((l.drop a).take b).drop i).take n = (l.drop (a + i)).take n := by
  rw [List.drop_take, List.take_take, List.drop_drop]
  congr 1; omega
theorem exists_list {α : Type} (Q : Nat → α → Prop) : ∀ n, (∀ i, i < n → ∃ a, Q i a) → ∃ L : List α, L.length = n ∧ ∀ i a, L[i]? = some a → Q i a
  | 0, _ => ⟨[], rfl, fun i a h => by simp at h⟩
  | n + 1, h => by
    obtain ⟨L, hl, hL⟩ := exists_list Q n (fun i hi => h i (by omega))
    obtain ⟨a, ha⟩ := h n (by omega)
    refine ⟨L ++ [a], by simp [hl], fun i b hb => ?_⟩
    by_cases hi : i < n
    · rw [List.getElem?_append_left (by omega)] at hb; exact hL i b hb
    · rw [List.getElem?_append_right (by omega)] at hb
      have h0 : i - L.length = 0 := by
        rcases Nat.eq_zero_or_pos (i - L.length) with h0 | h0
        · exact h0
        · rw [List.getElem?_eq_none (by simp; omega)] at hb; cases hb
      rw [h0] at hb
      have : i = n := by omega
      subst this
      simp at hb; subst hb; exact ha
theorem flat_get {α : Type} {f : α → List Value} {wd : Nat} (hw : ∀ a, (f a).length = wd) : ∀ (L : List α) (i : Nat) (a : α) (j : Nat), L[i]? = some a → j < wd → (L.flatMap f)[i * wd + j]? = (f a)[j]?
  | [], i, a, j, h, _ => by simp at h
  | x :: r, 0, a, j, h, hj => by
    simp at h; subst h
    rw [List.flatMap_cons, Nat.zero_mul, Nat.zero_add, List.getElem?_append_left (by rw [hw]; exact hj)]
  | x :: r, i + 1, a, j, h, hj => by
    rw [List.flatMap_cons, List.getElem?_append_right (by rw [hw, Nat.succ_mul]; omega), hw]
    have e : (i + 1) * wd + j - wd = i * wd + j := by rw [Nat.succ_mul]; omega
    rw [e]; exact flat_get hw r i a j (by simpa using h) hj
theorem flat_len {α : Type} {f : α → List Value} {wd : Nat} (hw : ∀ a, (f a).length = wd) : ∀ (L : List α), (L.flatMap f).length = L.length * wd
  | [] => by simp
  | x :: r => by rw [List.flatMap_cons, List.length_append, hw, flat_len hw r, List.length_cons, Nat.succ_mul]; omega
theorem open_slice_of {α : Type} (f : α → List Value) (ok : α → Prop) {e : TypeId} {wd : Nat} (ht : P.underlying t = some (.slice e)) (hc : P.cellsOf e = wd) (hwd : 0 < wd) (hw : ∀ a, (f a).length = wd)
    (he : ∀ n cs x, DataW.trod enc P w base spare held n e cs = some x → ∃ a, cs = f a ∧ ok a) (h : DataW.trod enc P w base spare held fuel t cs = some x) :
    ∃ (a : Option Addr) (len cap : Nat) (L : List α), cs = [.slice a len cap] ∧ L.length = len ∧ Holds (oldH w) wd (.slice a len cap) len (L.flatMap f) ∧ (∀ x ∈ L, ok x) ∧ len ≤ maxLen := by
  rcases DataW.trod_slice ht h with ⟨rfl, _⟩ | ⟨a, len, cap, elems, rest, n, _, rfl, _, hb, hl, hm, hlen, hel, _, _⟩
  · exact ⟨none, 0, 0, [], rfl, rfl, ⟨by simp, .inl ⟨none, 0, rfl, rfl⟩⟩, by simp, by decide⟩
  · obtain ⟨L, hL, hQ⟩ := exists_list (fun i x => ok x ∧ ∀ j, j < wd → w.cell? (a.add (i * wd + j)) = (f x)[j]?) len (by
      intro i hi
      have h1 := hel i hi
      rw [List.getElem?_eq_getElem (by omega), hc, Option.bind_eq_some_iff] at h1
      obtain ⟨cs', hcs, hy⟩ := h1
      obtain ⟨x, rfl, hx⟩ := he _ _ _ hy
      refine ⟨x, hx, fun j hj => ?_⟩
      have h2 := World.cells?_some hcs
      have h3 := h2.2.2 j hj
      have h4 : (a.add (i * wd)).add j = a.add (i * wd + j) := by
        obtain ⟨b, o, sp⟩ := a
        simp only [Addr.add]
        split <;> split <;> simp_all
        all_goals omega
      rw [h4] at h3
      exact h3)
    refine ⟨some a, len, cap, L, rfl, hL, ⟨by rw [flat_len hw, hL], ?_⟩, fun x hx => ?_, by omega⟩
    rotate_left
    · obtain ⟨i, hi, rfl⟩ := List.mem_iff_getElem.1 hx
      exact (hQ i _ (List.getElem?_eq_getElem hi)).1
    by_cases h0 : len = 0
    · subst h0; exact .inl ⟨some a, cap, rfl, rfl⟩
    right
    obtain ⟨b, o, sp⟩ := a
    have hcell : ∀ i, i < len → ∀ j, j < wd → ∃ v, w.cell? ((⟨b, o, sp⟩ : Addr).add (i * wd + j)) = some v ∧ (L.flatMap f)[i * wd + j]? = some v := by
      intro i hi j hj
      have hx : L[i]? = some L[i] := List.getElem?_eq_getElem (by omega)
      have h1 := (hQ i _ hx).2 j hj
      have h2 := flat_get hw L i _ j hx hj
      have h3 : (f L[i])[j]? = some ((f L[i])[j]'(by rw [hw]; exact hj)) := List.getElem?_eq_getElem _
      exact ⟨_, h1.trans h3, h2.trans h3⟩
    obtain ⟨v0, hv0, _⟩ := hcell 0 (by omega) 0 hwd
    cases hbk : w.heap[b]? with
    | none => simp [World.cell?, Addr.add, hbk] at hv0
    | some ob =>
      cases ob with
      | cells c T fz =>
        have hsp : sp = none := by
          cases sp with
          | none => rfl
          | some q => simp [World.cell?, Addr.add, hbk] at hv0
        subst hsp
        have hcell' : ∀ m, m < len * wd → c[o + m]? = (L.flatMap f)[m]? := by
          intro m hm
          have hi : m / wd < len := by rw [Nat.div_lt_iff_lt_mul hwd]; exact hm
          obtain ⟨v, h1, h2⟩ := hcell (m / wd) hi (m % wd) (Nat.mod_lt _ hwd)
          have e : m / wd * wd + m % wd = m := Nat.div_add_mod' m wd
          rw [e] at h1 h2
          rw [h2, ← h1]
          rcases Nat.eq_zero_or_pos m with h0' | h0'
          · subst h0'; simp [World.cell?, Addr.add, hbk]
          · have hne : m ≠ 0 := by omega
            simp [World.cell?, Addr.add, hbk, hne]
        have hfl : (L.flatMap f).length = len * wd := by rw [flat_len hw, hL]
        have hpos : 0 < len * wd := Nat.mul_pos (by omega) hwd
        have hsz : o + len * wd ≤ c.size := by
          have h1 := hcell' (len * wd - 1) (by omega)
          rw [List.getElem?_eq_getElem (by omega)] at h1
          have := (Array.getElem?_eq_some_iff.1 h1).1
          omega
        refine ⟨b, o, cap, c, T, fz, rfl, hbk, hsz, ?_⟩
        apply List.ext_getElem?
        intro m
        rw [Array.toList_extract, List.extract_eq_take_drop]
        by_cases hm : m < len * wd
        · rw [List.getElem?_take_of_lt (by omega), List.getElem?_drop, Array.getElem?_toList]
          exact hcell' m hm
        · rw [List.getElem?_eq_none (by simp; omega), List.getElem?_eq_none (by omega)]
      | _ => simp [World.cell?, Addr.add, hbk] at hv0
end
end Go.Proofs.Ytjhohnbdhopllaa.HL
end
section
namespace Go.Proofs.Ytjhohnbdhopllaa.HL
open Go Go.ChangeShapes Go.WideShapes
variable {P : Program} {H : Type} {enc : TypeId × Value → H} {w : World} {base : Nat} {spare : Nat → Bool} {held : Bool} {r : Reach} {b0 : Nat} {t : TypeId} {v : Value} {d : DataW H} {ps : List MemPlace}
end Go.Proofs.Ytjhohnbdhopllaa.HL
end
section
namespace Go.Proofs.Ytjhohnbdhopllaa.HL
open Go
theorem eX :
    (∀ (e : Env) (r : Nat → Value) (t : Nat), ev e r (.tmp t) = (e.get t).getD (r t)) ∧ (∀ (e : Env) (r : Nat → Value) (v : Value), ev e r (.const v) = v) ∧
    (∀ (e : Env) (r : Nat → Value) (k : Nat), ev e r (.global k) = .pointer (some ⟨k, 0, none⟩)) ∧ (∀ (e : Env) (r : Nat → Value) (k : Nat), ev e r (.func k) = .func (.func k) #[] #[]) ∧
    (∀ t : Nat, Env.get [] t = none) ∧ (∀ (e : Env) (k t : Nat) (v : Value), Env.get ((k, v) :: e) t = if t = k then some v else Env.get e t) ∧ (∀ v u : Value, (some v).getD u = v) ∧
    (∀ (P : Program) (v : Value) (H : Hp) (R : Value → Hp → Prop), NextH P (.value v) H R = R v H) ∧ (∀ (e : Env) (t : Nat) (v : Value), Env.putO e (some t) v = e.put t v) ∧ (∀ (e : Env) (v : Value), Env.putO e none v = e) ∧
    (∀ (t : Nat) (v : Value), Env.put [] t v = [(t, v)]) ∧ (∀ (e : Env) (k t : Nat) (u v : Value), Env.put ((k, u) :: e) t v = if t = k then (k, v) :: e else (k, u) :: Env.put e t v) ∧
    (∀ (H : Hp) (b : Nat) (o o' : Obj), (H.upd b o).upd b o' = H.upd b o') ∧ (∀ (P : Program) (f : FuncId) (args : Array Value) (H : Hp) (R : Value → Hp → Prop), NextH P (.enter f args) H R = CallH P f args H R) :=
  ⟨fun _ _ _ => rfl, fun _ _ _ => rfl, fun _ _ _ => rfl, fun _ _ _ => rfl, fun _ => rfl, fun _ _ _ _ => rfl, fun _ _ => rfl, fun _ _ _ _ => rfl, fun _ _ _ => rfl, fun _ _ => rfl, fun _ _ => rfl, fun _ _ _ _ _ => rfl, fun _ _ _ _ => upd_upd _ _ _ _, fun _ _ _ _ _ => rfl⟩
section
variable {P : Program} {n : Nat} {ops : Array Oper} {Q : Env → Hp → Prop} {d : Nat} {op : Op} {ty : TypeId} {p : String} {af : Array Edge} {rest : List Oper} {e : Env} {H : Hp}
theorem zac (h : ∀ K : Env → Hp → Prop, (∀ e H, OW P n ops Q rest e H → K e H) → ∀ r, Lt P (execOp (ev e r) ⟨some d, op, ty, p, af, none⟩) H (fun nx H' => NextH P nx H' (fun v H'' => K (e.putO (some d) v) H''))) (hd : noDefer ⟨some d, op, ty, p, af, none⟩ = true := by rfl) (ht : d < n := by decide) :
    OW P n ops Q (⟨some d, op, ty, p, af, none⟩ :: rest) e H := OW_op hd (zaa ht) h
def evO (e : Env) : Operand → Option Value
  | .tmp t => e.get t
  | .const v => some v
  | _ => none
theorem evO_ev {e : Env} {x : Operand} {v : Value} (h : evO e x = some v) (r : Nat → Value) : ev e r x = v := by
  cases x with
  | tmp t => simp only [evO] at h; simp only [ev, h, Option.getD_some]
  | const c => simp only [evO, Option.some.injEq] at h; subst h; rfl
  | _ => simp [evO] at h
theorem zag {x : Operand} {v : Value} (hv : evO e x = some v) (h : OW P n ops Q rest (e.put d v) H) (hd : noDefer ⟨some d, .move x, ty, p, af, none⟩ = true := by rfl) (ht : d < n := by decide) : OW P n ops Q (⟨some d, .move x, ty, p, af, none⟩ :: rest) e H :=
  OW_op hd (zaa ht) fun K hK r => by
    rw [zaq, evO_ev hv r]
    exact hK _ _ h
theorem zao {x : Operand} {v : Value} (hv : evO e x = some v) (h : OW P n ops Q rest (e.put d v) H) (hd : noDefer ⟨some d, .assign x, ty, p, af, none⟩ = true := by rfl) (ht : d < n := by decide) : OW P n ops Q (⟨some d, .assign x, ty, p, af, none⟩ :: rest) e H :=
  OW_op hd (zaa ht) fun K hK r => by
    rw [x_assign, evO_ev hv r]
    exact hK _ _ h
end
end Go.Proofs.Ytjhohnbdhopllaa.HL
end
section
namespace Go.Proofs.Ytjhohnbdhopllaa.HL
open Go Go.Proofs Go.Proofs.Ytjhohnbdhopllaa.HL
set_option linter.unusedSimpArgs false
set_option linter.unusedVariables false
theorem sz3 : szOf Try.prog 3 = some 1 := by kernel_rfl
theorem sz4 : szOf Try.prog 4 = some 1 := by kernel_rfl
theorem sz29 : szOf Try.prog 29 = some 1 := by kernel_rfl
theorem sz31 : szOf Try.prog 31 = some 1 := by kernel_rfl
theorem sz33 : szOf Try.prog 33 = some 1 := by kernel_rfl
theorem sz38 : szOf Try.prog 38 = some 2 := by kernel_rfl
theorem sz44 : szOf Try.prog 44 = some 2 := by kernel_rfl
theorem sz46 : szOf Try.prog 46 = some 4 := by kernel_rfl
theorem sz55 : szOf Try.prog 55 = some 1 := by kernel_rfl
theorem sz56 : szOf Try.prog 56 = some 2 := by kernel_rfl
theorem sz69 : szOf Try.prog 69 = some 1 := by kernel_rfl
theorem sz71 : szOf Try.prog 71 = some 2 := by kernel_rfl
theorem sz72 : szOf Try.prog 72 = some 8 := by kernel_rfl
theorem sz82 : szOf Try.prog 82 = some 1 := by kernel_rfl
theorem by3 : byOf Try.prog 3 = some 8 := by kernel_rfl
theorem by38 : byOf Try.prog 38 = some 16 := by kernel_rfl
theorem by46 : byOf Try.prog 46 = some 32 := by kernel_rfl
theorem by56 : byOf Try.prog 56 = some 16 := by kernel_rfl
theorem eqg38 : Program.eqGuardType Try.prog Try.prog.depth 38 = false := by kernel_rfl
theorem eqg44 : Program.eqGuardType Try.prog Try.prog.depth 44 = false := by kernel_rfl
theorem eqg46 : Program.eqGuardType Try.prog Try.prog.depth 46 = false := by kernel_rfl
theorem eqg56 : Program.eqGuardType Try.prog Try.prog.depth 56 = false := by kernel_rfl
theorem zr3 : zrOf Try.prog 3 = some (some (.int .i64 0)) := by kernel_rfl
theorem zr33 : zrOf Try.prog 33 = some (some (.slice none 0 0)) := by kernel_rfl
theorem zr38 : zrOf Try.prog 38 = some (some (.agg #[.int .i64 0, .int .i64 0])) := by kernel_rfl
theorem zr44 : zrOf Try.prog 44 = some (some (.agg #[.int .i64 0, .int .i64 0])) := by kernel_rfl
theorem zr46 : zrOf Try.prog 46 = some (some (.agg #[.int .i64 0, .int .i64 0, .int .i64 0, .bool false])) := by kernel_rfl
theorem zr55 : zrOf Try.prog 55 = some (some (.slice none 0 0)) := by kernel_rfl
theorem zr56 : zrOf Try.prog 56 = some (some (.agg #[.int .i64 0, .int .i64 0])) := by kernel_rfl
theorem zr61 : zrOf Try.prog 61 = some (some (.int .i64 0)) := by kernel_rfl
theorem zr71 : zrOf Try.prog 71 = some (some (.agg #[.slice none 0 0, .map none])) := by kernel_rfl
theorem zr74 : zrOf Try.prog 74 = some (some (.agg #[.slice none 0 0, .map none, .slice none 0 0, .map none, .slice none 0 0, .map none, .slice none 0 0, .map none])) := by kernel_rfl
theorem zr82 : zrOf Try.prog 82 = some (some (.slice none 0 0)) := by kernel_rfl
theorem zr90 : zrOf Try.prog 90 = some (some (.pointer none)) := by kernel_rfl
theorem fa24_0 (a : Addr) (H : Hp) (K : Value → Hp → Prop) : Lt Try.prog (Instr.fieldAt 24 (.pointer (some a)) 0) H K = K (.pointer (some (a.add 0))) H := by
  have h := @fieldAt_one Try.prog 24 _ 0 _ 1 Try.underlying24 rfl sz3 (by decide) a H K
  exact h
theorem fa24_1 (a : Addr) (H : Hp) (K : Value → Hp → Prop) : Lt Try.prog (Instr.fieldAt 24 (.pointer (some a)) 1) H K = K (.pointer (some (a.add 1))) H := by
  have h := @fieldAt_one Try.prog 24 _ 1 _ 1 Try.underlying24 rfl sz3 (by decide) a H K
  exact h
theorem fa24_2 (a : Addr) (H : Hp) (K : Value → Hp → Prop) : Lt Try.prog (Instr.fieldAt 24 (.pointer (some a)) 2) H K = K (.pointer (some (a.add 2))) H := by
  have h := @fieldAt_one Try.prog 24 _ 2 _ 1 Try.underlying24 rfl sz3 (by decide) a H K
  exact h
theorem fa24_3 (a : Addr) (H : Hp) (K : Value → Hp → Prop) : Lt Try.prog (Instr.fieldAt 24 (.pointer (some a)) 3) H K = K (.pointer (some (a.add 3))) H := by
  have h := @fieldAt_one Try.prog 24 _ 3 _ 1 Try.underlying24 rfl sz3 (by decide) a H K
  exact h
theorem fa38_0 (a : Addr) (H : Hp) (K : Value → Hp → Prop) : Lt Try.prog (Instr.fieldAt 38 (.pointer (some a)) 0) H K = K (.pointer (some (a.add 0))) H := by
  have h := @fieldAt_one Try.prog 38 _ 0 _ 1 Try.underlying38 rfl sz3 (by decide) a H K
  exact h
theorem fa38_1 (a : Addr) (H : Hp) (K : Value → Hp → Prop) : Lt Try.prog (Instr.fieldAt 38 (.pointer (some a)) 1) H K = K (.pointer (some (a.add 1))) H := by
  have h := @fieldAt_one Try.prog 38 _ 1 _ 1 Try.underlying38 rfl sz3 (by decide) a H K
  exact h
theorem fa44_0 (a : Addr) (H : Hp) (K : Value → Hp → Prop) : Lt Try.prog (Instr.fieldAt 44 (.pointer (some a)) 0) H K = K (.pointer (some (a.add 0))) H := by
  have h := @fieldAt_one Try.prog 44 _ 0 _ 1 Try.underlying44 rfl sz3 (by decide) a H K
  exact h
theorem fa44_1 (a : Addr) (H : Hp) (K : Value → Hp → Prop) : Lt Try.prog (Instr.fieldAt 44 (.pointer (some a)) 1) H K = K (.pointer (some (a.add 1))) H := by
  have h := @fieldAt_one Try.prog 44 _ 1 _ 1 Try.underlying44 rfl sz3 (by decide) a H K
  exact h
theorem fa46_0 (a : Addr) (H : Hp) (K : Value → Hp → Prop) : Lt Try.prog (Instr.fieldAt 46 (.pointer (some a)) 0) H K = K (.pointer (some (a.add 0))) H := by
  have h := @fieldAt_one Try.prog 46 _ 0 _ 2 Try.underlying46 rfl sz44 (by decide) a H K
  exact h
theorem fa46_1 (a : Addr) (H : Hp) (K : Value → Hp → Prop) : Lt Try.prog (Instr.fieldAt 46 (.pointer (some a)) 1) H K = K (.pointer (some (a.add 2))) H := by
  have h := @fieldAt_one Try.prog 46 _ 1 _ 1 Try.underlying46 rfl sz3 (by decide) a H K
  exact h
theorem fa46_2 (a : Addr) (H : Hp) (K : Value → Hp → Prop) : Lt Try.prog (Instr.fieldAt 46 (.pointer (some a)) 2) H K = K (.pointer (some (a.add 3))) H := by
  have h := @fieldAt_one Try.prog 46 _ 2 _ 1 Try.underlying46 rfl sz4 (by decide) a H K
  exact h
theorem fa56_0 (a : Addr) (H : Hp) (K : Value → Hp → Prop) : Lt Try.prog (Instr.fieldAt 56 (.pointer (some a)) 0) H K = K (.pointer (some (a.add 0))) H := by
  have h := @fieldAt_one Try.prog 56 _ 0 _ 1 Try.underlying56 rfl sz3 (by decide) a H K
  exact h
theorem fa56_1 (a : Addr) (H : Hp) (K : Value → Hp → Prop) : Lt Try.prog (Instr.fieldAt 56 (.pointer (some a)) 1) H K = K (.pointer (some (a.add 1))) H := by
  have h := @fieldAt_one Try.prog 56 _ 1 _ 1 Try.underlying56 rfl sz3 (by decide) a H K
  exact h
theorem fa71_0 (a : Addr) (H : Hp) (K : Value → Hp → Prop) : Lt Try.prog (Instr.fieldAt 71 (.pointer (some a)) 0) H K = K (.pointer (some (a.add 0))) H := by
  have h := @fieldAt_one Try.prog 71 _ 0 _ 1 Try.underlying71 rfl sz33 (by decide) a H K
  exact h
theorem fa71_1 (a : Addr) (H : Hp) (K : Value → Hp → Prop) : Lt Try.prog (Instr.fieldAt 71 (.pointer (some a)) 1) H K = K (.pointer (some (a.add 1))) H := by
  have h := @fieldAt_one Try.prog 71 _ 1 _ 1 Try.underlying71 rfl sz69 (by decide) a H K
  exact h
theorem fa74_0 (a : Addr) (H : Hp) (K : Value → Hp → Prop) : Lt Try.prog (Instr.fieldAt 74 (.pointer (some a)) 0) H K = K (.pointer (some (a.add 0))) H := by
  have h := @fieldAt_one Try.prog 74 _ 0 _ 8 Try.underlying74 rfl sz72 (by decide) a H K
  exact h
theorem fa93_1 (a : Addr) (H : Hp) (K : Value → Hp → Prop) : Lt Try.prog (Instr.fieldAt 93 (.pointer (some a)) 1) H K = K (.pointer (some (a.add 1))) H := by
  have h := @fieldAt_one Try.prog 93 _ 1 _ 1 Try.underlying93 rfl sz31 (by decide) a H K
  exact h
theorem bp38 (ps : Array (Nat × Value)) (H : Hp) (K : Value → Hp → Prop) : Lt Try.prog (Instr.build 38 ps) H K = orF (Instr.fill (#[(0, 1), (1, 1)][·]?) #[.int .i64 0, .int .i64 0] ps.toList) (fun c => K (.agg c) H) := by
  simp only [Instr.build, zaD, l_zero, zr38, zai, l_und, Try.underlying38]
  simp [zaD, zaO, l_size, sz3, zai, l_map, Value.cells]
  cases Instr.fill _ _ _ <;> rfl
theorem bp44 (ps : Array (Nat × Value)) (H : Hp) (K : Value → Hp → Prop) : Lt Try.prog (Instr.build 44 ps) H K = orF (Instr.fill (#[(0, 1), (1, 1)][·]?) #[.int .i64 0, .int .i64 0] ps.toList) (fun c => K (.agg c) H) := by
  simp only [Instr.build, zaD, l_zero, zr44, zai, l_und, Try.underlying44]
  simp [zaD, zaO, l_size, sz3, zai, l_map, Value.cells]
  cases Instr.fill _ _ _ <;> rfl
theorem bp46 (ps : Array (Nat × Value)) (H : Hp) (K : Value → Hp → Prop) : Lt Try.prog (Instr.build 46 ps) H K = orF (Instr.fill (#[(0, 2), (2, 1), (3, 1)][·]?) #[.int .i64 0, .int .i64 0, .int .i64 0, .bool false] ps.toList) (fun c => K (.agg c) H) := by
  simp only [Instr.build, zaD, l_zero, zr46, zai, l_und, Try.underlying46]
  simp [zaD, zaO, l_size, sz3, sz4, sz44, zai, l_map, Value.cells]
  cases Instr.fill _ _ _ <;> rfl
theorem bp56 (ps : Array (Nat × Value)) (H : Hp) (K : Value → Hp → Prop) : Lt Try.prog (Instr.build 56 ps) H K = orF (Instr.fill (#[(0, 1), (1, 1)][·]?) #[.int .i64 0, .int .i64 0] ps.toList) (fun c => K (.agg c) H) := by
  simp only [Instr.build, zaD, l_zero, zr56, zai, l_und, Try.underlying56]
  simp [zaD, zaO, l_size, sz3, zai, l_map, Value.cells]
  cases Instr.fill _ _ _ <;> rfl
theorem bp71 (ps : Array (Nat × Value)) (H : Hp) (K : Value → Hp → Prop) : Lt Try.prog (Instr.build 71 ps) H K = orF (Instr.fill (#[(0, 1), (1, 1)][·]?) #[.slice none 0 0, .map none] ps.toList) (fun c => K (.agg c) H) := by
  simp only [Instr.build, zaD, l_zero, zr71, zai, l_und, Try.underlying71]
  simp [zaD, zaO, l_size, sz33, sz69, zai, l_map, Value.cells]
  cases Instr.fill _ _ _ <;> rfl
theorem bp74 (ps : Array (Nat × Value)) (H : Hp) (K : Value → Hp → Prop) : Lt Try.prog (Instr.build 74 ps) H K = orF (Instr.fill (#[(0, 8)][·]?) #[.slice none 0 0, .map none, .slice none 0 0, .map none, .slice none 0 0, .map none, .slice none 0 0, .map none] ps.toList) (fun c => K (.agg c) H) := by
  simp only [Instr.build, zaD, l_zero, zr74, zai, l_und, Try.underlying74]
  simp [zaD, zaO, l_size, sz72, zai, l_map, Value.cells]
  cases Instr.fill _ _ _ <;> rfl
theorem qs38 (a0 a1 b0 b1 : Int) (H : Hp) (K : Bool → Hp → Prop) : Lt Try.prog (Op.equalIn (9999 + 1) 38 (.agg #[.int .i64 a0, .int .i64 a1]) (.agg #[.int .i64 b0, .int .i64 b1])) H K = K (decide (a0 = b0) && decide (a1 = b1)) H := q_struct2 9998 38 Try.underlying38 (by kernel_rfl) ⟨by decide, rfl⟩ ⟨by decide, rfl⟩ Try.underlying3 Try.underlying3 a0 a1 b0 b1 K
theorem qs44 (a0 a1 b0 b1 : Int) (H : Hp) (K : Bool → Hp → Prop) : Lt Try.prog (Op.equalIn (9999 + 1) 44 (.agg #[.int .i64 a0, .int .i64 a1]) (.agg #[.int .i64 b0, .int .i64 b1])) H K = K (decide (a0 = b0) && decide (a1 = b1)) H := q_struct2 9998 44 Try.underlying44 (by kernel_rfl) ⟨by decide, rfl⟩ ⟨by decide, rfl⟩ Try.underlying3 Try.underlying3 a0 a1 b0 b1 K
theorem qs56 (a0 a1 b0 b1 : Int) (H : Hp) (K : Bool → Hp → Prop) : Lt Try.prog (Op.equalIn (9999 + 1) 56 (.agg #[.int .i64 a0, .int .i64 a1]) (.agg #[.int .i64 b0, .int .i64 b1])) H K = K (decide (a0 = b0) && decide (a1 = b1)) H := q_struct2 9998 56 Try.underlying56 (by kernel_rfl) ⟨by decide, rfl⟩ ⟨by decide, rfl⟩ Try.underlying3 Try.underlying3 a0 a1 b0 b1 K
theorem flk46 : flatK Try.prog 8 46 = some [some .i64, some .i64, some .i64, none] := by kernel_rfl
theorem qfl46 (xs ys : List Value) (fx : Fit [some .i64, some .i64, some .i64, none] xs) (fy : Fit [some .i64, some .i64, some .i64, none] ys) {H : Hp} {K : Bool → Hp → Prop} : Lt Try.prog (Op.equalIn (9999 + 1) 46 (.agg xs.toArray) (.agg ys.toArray)) H K = K (eqV xs ys) H := by
  have h := q_flat 8 46 _ flk46 (9999 + 1) (by omega) xs ys fx fy H K
  have e : ∀ zs, wrapT Try.prog 46 zs = .agg zs.toArray := fun zs => by unfold wrapT; rw [Try.underlying46]; rfl
  rw [e, e] at h; exact h
theorem xc62 {H : Hp} {e : Env} {r : Nat → Value} {d : Option Nat} {ty : TypeId} {p : String} {af : Array Edge} {g : Option (Nat × Bool)} (args : Array Operand) (ts : Array TypeId) (K : Next → Hp → Prop) : Lt Try.prog (execOp (ev e r) ⟨d, .call ⟨.value (.func 62), args, ts⟩, ty, p, af, g⟩) H K = Lt Try.prog (Extern.SlicesOverlaps.overlaps #[33, 33] #[4] (args.map (ev e r))) H (fun v H' => K (.value v) H') := x_callE Try.func62 (by kernel_rfl) (by kernel_rfl) (by kernel_rfl) (by kernel_rfl) args ts K
theorem bd7 : bodied Try.prog 7 = true := by kernel_rfl
theorem bd8 : bodied Try.prog 8 = true := by kernel_rfl
theorem bd9 : bodied Try.prog 9 = true := by kernel_rfl
theorem bd10 : bodied Try.prog 10 = true := by kernel_rfl
theorem bd11 : bodied Try.prog 11 = true := by kernel_rfl
theorem bd12 : bodied Try.prog 12 = true := by kernel_rfl
theorem bd13 : bodied Try.prog 13 = true := by kernel_rfl
theorem bd14 : bodied Try.prog 14 = true := by kernel_rfl
theorem bd15 : bodied Try.prog 15 = true := by kernel_rfl
theorem bd16 : bodied Try.prog 16 = true := by kernel_rfl
theorem bd17 : bodied Try.prog 17 = true := by kernel_rfl
theorem bd18 : bodied Try.prog 18 = true := by kernel_rfl
theorem bd19 : bodied Try.prog 19 = true := by kernel_rfl
theorem bd20 : bodied Try.prog 20 = true := by kernel_rfl
theorem bd21 : bodied Try.prog 21 = true := by kernel_rfl
theorem bd22 : bodied Try.prog 22 = true := by kernel_rfl
theorem bd29 : bodied Try.prog 29 = true := by kernel_rfl
theorem bd30 : bodied Try.prog 30 = true := by kernel_rfl
theorem bd31 : bodied Try.prog 31 = true := by kernel_rfl
theorem bd32 : bodied Try.prog 32 = true := by kernel_rfl
theorem bd33 : bodied Try.prog 33 = true := by kernel_rfl
theorem bd34 : bodied Try.prog 34 = true := by kernel_rfl
theorem bd35 : bodied Try.prog 35 = true := by kernel_rfl
theorem bd36 : bodied Try.prog 36 = true := by kernel_rfl
theorem bd37 : bodied Try.prog 37 = true := by kernel_rfl
theorem bd38 : bodied Try.prog 38 = true := by kernel_rfl
theorem bd39 : bodied Try.prog 39 = true := by kernel_rfl
theorem bd40 : bodied Try.prog 40 = true := by kernel_rfl
theorem bd47 : bodied Try.prog 47 = true := by kernel_rfl
theorem bd48 : bodied Try.prog 48 = true := by kernel_rfl
theorem bd49 : bodied Try.prog 49 = true := by kernel_rfl
theorem bd50 : bodied Try.prog 50 = true := by kernel_rfl
theorem bd51 : bodied Try.prog 51 = true := by kernel_rfl
theorem bd52 : bodied Try.prog 52 = true := by kernel_rfl
theorem bd53 : bodied Try.prog 53 = true := by kernel_rfl
theorem bd60 : bodied Try.prog 60 = true := by kernel_rfl
theorem bd61 : bodied Try.prog 61 = true := by kernel_rfl
theorem bd69 : bodied Try.prog 69 = true := by kernel_rfl
theorem bd108 : bodied Try.prog 108 = true := by kernel_rfl
theorem bd109 : bodied Try.prog 109 = true := by kernel_rfl
theorem bd110 : bodied Try.prog 110 = true := by kernel_rfl
theorem bd111 : bodied Try.prog 111 = true := by kernel_rfl
end Go.Proofs.Ytjhohnbdhopllaa.HL
end
section
namespace Go.Proofs.Ytjhohnbdhopllaa.HL
open Go
def Frm (H : Hp) (S : Nat → Prop) (H' : Hp) (S' : Nat → Prop) : Prop := (∀ b o, H b = some o → ¬ S b → H' b = some o) ∧ ∀ b, S' b → S b ∨ H b = none
theorem Frm.refl (H : Hp) (S : Nat → Prop) : Frm H S H S := ⟨fun _ _ h _ => h, fun _ h => .inl h⟩
theorem Frm.trans {H H1 H2 : Hp} {S S1 S2 : Nat → Prop} (h1 : Frm H S H1 S1) (h2 : Frm H1 S1 H2 S2) : Frm H S H2 S2 := by
  refine ⟨fun b o hb hn => ?_, fun b hb => ?_⟩
  · refine h2.1 b o (h1.1 b o hb hn) fun hs => ?_
    rcases h1.2 b hs with h | h
    · exact hn h
    · rw [h] at hb; cases hb
  · rcases h2.2 b hb with h | h
    · exact h1.2 b h
    · by_cases hs : S b
      · exact .inl hs
      · right
        cases ho : H b with
        | none => rfl
        | some o => rw [h1.1 b o ho hs] at h; cases h
theorem Frm.new {H H1 : Hp} {S S1 : Nat → Prop} (h : Frm H S H1 S1) {b : Nat} {o : Obj} (hb : H1 b = none) : Frm H S (H1.upd b o) S1 := by
  refine ⟨fun x o' hx hn => ?_, h.2⟩
  have := h.1 x o' hx hn
  rw [zaE _ _ (by intro e; subst e; rw [this] at hb; cases hb)]; exact this
theorem Frm.le {H0 H H' : Hp} {S S' : Nat → Prop} (h : Frm H S H' S') (hl : Le H0 H) (hs : ∀ b, S b → H0 b = none) : Le H0 H' := fun b o hb =>
  h.1 b o (hl b o hb) fun hS => by rw [hs b hS] at hb; cases hb
theorem Frm.stay {H H' : Hp} {S S' T : Nat → Prop} (h : Frm H S H' S') (hd : ∀ b, T b → ¬ S b) : ∀ b o, T b → H b = some o → H' b = some o := fun b o hb ho => h.1 b o ho (hd b hb)
theorem Frm.of_le {H H' : Hp} (S : Nat → Prop) (h : Le H H') : Frm H S H' S := ⟨fun b o hb _ => h b o hb, fun _ hb => .inl hb⟩
theorem OwnS.stay {H H' : Hp} {E : TypeId} {w : Nat} {v : Value} {n : Nat} {cs : List Value} {rs : Option Nat} (h : OwnS H E w v n cs rs) (k : ∀ b o, rs = some b → H b = some o → H' b = some o) : OwnS H' E w v n cs rs := by
  obtain ⟨h1, h2⟩ := h
  refine ⟨h1, h2.imp id ?_⟩
  rintro ⟨r, cap, c, h3, h4, h5, h6, h7, h8⟩
  exact ⟨r, cap, c, h3, k r _ h8 h4, h5, h6, h7, h8⟩
theorem OwnS.known {H : Hp} {E : TypeId} {w : Nat} {v : Value} {n : Nat} {cs : List Value} {rs : Option Nat} (h : OwnS H E w v n cs rs) : ∀ b, rs = some b → H b ≠ none := by
  obtain ⟨_, ⟨_, _, h3⟩ | ⟨r, cap, c, _, h4, _, _, _, h8⟩⟩ := h
  · intro b hb; rw [h3] at hb; cases hb
  · intro b hb; rw [h8] at hb; cases hb; rw [h4]; simp
theorem Grow.known {H H' : Hp} {rs : Option Nat} (h : Grow H rs H') : ∀ b o, H b = some o → rs ≠ some b → H' b = some o := by
  intro b o hb hn
  rcases h with rfl | ⟨r, o', hr, rfl⟩
  · exact hb
  · rw [zaE]
    · exact hb
    · intro e; subst e
      rcases hr with hr | hr
      · exact hn hr
      · rw [hr] at hb; cases hb
end Go.Proofs.Ytjhohnbdhopllaa.HL
namespace Go.Proofs.Ytjhohnbdhopllaa.HL
open Go
theorem OwnS.set {H : Hp} {E : TypeId} {k : IntKind} {r n cap : Nat} {l : List Int} {c : Array Value} (h : OwnS H E 1 (.slice (some ⟨r, 0, none⟩) n cap) n (l.map (Value.int k ·)) (some r)) (hc : H r = some (.cells c E)) (i : Nat) (hi : i < n) (y : Int) : OwnS (H.upd r (.cells (c.setIfInBounds i (.int k y)) E)) E 1 (.slice (some ⟨r, 0, none⟩) n cap) n ((l.set i y).map (Value.int k ·)) (some r) := by
  obtain ⟨h1, ⟨h2, _, _⟩ | ⟨r', cap', c', h3, h4, h5, h6, h7, h8⟩⟩ := h
  · cases h2
  · cases h3
    rw [hc] at h4; cases h4
    refine ⟨by simpa using h1, .inr ⟨r, cap, _, rfl, zap _ _ _, h5, by simpa using h6, ?_, rfl⟩⟩
    have e : (l.set i y).map (Value.int k ·) = (l.map (Value.int k ·)).set i (.int k y) := by rw [List.map_set]
    rw [e, ← h7]
    simp only [Array.toList_extract, List.extract_eq_take_drop, Array.toList_setIfInBounds, List.drop_zero, Nat.sub_zero, List.take_set]
end Go.Proofs.Ytjhohnbdhopllaa.HL
end
section
namespace Go.Proofs.Ytjhohnbdhopllaa.HL
open Go
set_option linter.unusedSimpArgs false
def ifV (T : TypeId) : Option Value → Value
  | none => .nilIface
  | some v => .iface T v
end Go.Proofs.Ytjhohnbdhopllaa.HL
end
section
namespace Go.Proofs.Ytjhohnbdhopllaa.HL
open Go
/-! ### two heaps side by side -/
def Hp.join (H F : Hp) : Hp := fun b => match H b with | some o => some o | none => F b
def Hp.apart (H F : Hp) : Prop := ∀ b, F b ≠ none → H b = none
theorem join_l {H F : Hp} {b : Nat} {o : Obj} (h : H b = some o) : H.join F b = some o := by simp [Hp.join, h]
theorem join_r {H F : Hp} {b : Nat} (h : H b = none) : H.join F b = F b := by simp [Hp.join, h]
theorem le_join (H F : Hp) : Le H (H.join F) := fun _ _ h => join_l h
theorem le_join_r {H F : Hp} (h : H.apart F) : Le F (H.join F) := fun b o hb => by
  rw [join_r (h b (by rw [hb]; simp))]; exact hb
theorem upd_join (H F : Hp) (b : Nat) (o : Obj) : (H.join F).upd b o = (H.upd b o).join F := by
  funext x
  by_cases e : x = b
  · subst e; simp [Hp.upd, Hp.join]
  · simp [Hp.upd, Hp.join, e]
theorem join_none {H F : Hp} {b : Nat} (h : H.join F b = none) : H b = none ∧ F b = none := by
  unfold Hp.join at h
  cases hh : H b with
  | some o => rw [hh] at h; cases h
  | none => rw [hh] at h; exact ⟨rfl, h⟩
theorem apart_known {H F : Hp} (h : H.apart F) {b : Nat} {o : Obj} (hb : H b = some o) : F b = none := by
  cases hf : F b with
  | none => rfl
  | some x => rw [h b (by rw [hf]; simp)] at hb; cases hb
theorem apart_upd {H F : Hp} (h : H.apart F) {b : Nat} (hb : F b = none) (o : Obj) : (H.upd b o).apart F := fun x hx => by
  rw [zaE _ _ (by intro e; subst e; exact hx hb)]; exact h x hx
theorem cell_join {H F : Hp} {a : Addr} {v : Value} (h : H.cell a = some v) : (H.join F).cell a = some v := by
  unfold Hp.cell at *
  cases hh : H a.block with
  | none => rw [hh] at h; cases h
  | some o => rw [hh] at h; rw [join_l hh]; exact h
theorem Ext.join {H H' F : Hp} {w w' : World} (hs : Sub (H.join F) w) (hd : H.apart F) (hx : Ext H w H' w') : H'.apart F ∧ Ext (H.join F) w (H'.join F) w' := by
  have hlt : ∀ b, F b ≠ none → b < w.heap.size := fun b hb => by
    cases hf : F b with
    | none => exact absurd hf hb
    | some o => exact hs.lt (le_join_r hd b o hf)
  have hd' : H'.apart F := fun b hb => by
    cases hc : H' b with
    | none => rfl
    | some x =>
      rcases hx.dom b (by rw [hc]; simp) with h | h
      · exact absurd (hd b hb) h
      · have := hlt b hb; omega
  refine ⟨hd', ⟨fun b o hb => ?_, hx.size, fun b hb hbn => hx.same b hb (join_none hbn).1, fun b hb => ?_, hx.os, hx.output, hx.tape⟩⟩
  · cases hc : H' b with
    | some x => rw [join_l hc] at hb; cases hb; exact hx.sub b _ hc
    | none =>
      rw [join_r hc] at hb
      have hn : F b ≠ none := by rw [hb]; simp
      rw [hx.same b (hlt b hn) (hd b hn)]
      exact hs b o (by rw [join_r (hd b hn)]; exact hb)
  · cases hc : H' b with
    | some x =>
      rcases hx.dom b (by rw [hc]; simp) with h | h
      · left
        cases hh : H b with
        | none => exact absurd hh h
        | some o => rw [join_l hh]; simp
      · exact .inr h
    | none =>
      rw [join_r hc] at hb
      left; rw [join_r (hd b hb)]; exact hb
theorem Lt_join {P : Program} {α : Type} (s : Sem α) {F : Hp} : ∀ {H : Hp} {K : α → Hp → Prop}, Lt P s H K → H.apart F → Lt P s (H.join F) (fun x H1 => ∃ H', H1 = H'.join F ∧ H'.apart F ∧ K x H') := by
  induction s with
  | pure a => exact fun h hr => ⟨_, rfl, hr, h⟩
  | load m a k ih => intro H K ⟨v, h1, h2⟩ hr; exact ⟨v, cell_join h1, ih _ h2 hr⟩
  | store m a v k ih =>
    intro H K ⟨o', h1, h2, h3, h4, h5⟩ hr
    refine ⟨o', join_l h1, h2, ?_, h4, ?_⟩
    · cases hc : H.cell a with
      | none => exact absurd hc h3
      | some u => rw [cell_join hc]; simp
    · rw [upd_join]; exact ih h5 (apart_upd hr (apart_known hr h1) _)
  | new o' k ih =>
    intro H K h hr r' hr'
    obtain ⟨h1, h2⟩ := join_none hr'
    rw [upd_join]; exact ih _ (h r' h1) (apart_upd hr h2 _)
  | shape r' k ih => intro H K ⟨o', h1, h2⟩ hr; exact ⟨o', join_l h1, ih _ h2 hr⟩
  | freeze a n k ih =>
    intro H K h hr
    rcases h with ⟨h1, h2⟩ | ⟨h1, o', h2, h3⟩
    · exact .inl ⟨h1, ih h2 hr⟩
    · refine .inr ⟨h1, o', join_l h2, ?_⟩
      rw [upd_join]; exact ih h3 (apart_upd hr (apart_known hr h2) _)
  | frozen a k ih => intro H K ⟨o', h1, h2⟩ hr; exact ⟨o', join_l h1, ih _ h2 hr⟩
  | getObj r' k ih => intro H K ⟨o', h1, h2, h3⟩ hr; exact ⟨o', join_l h1, h2, ih _ h3 hr⟩
  | setObj r' o' k ih =>
    intro H K ⟨o0, h1, h2, h3⟩ hr
    refine ⟨o0, join_l h1, h2, ?_⟩
    rw [upd_join]; exact ih h3 (apart_upd hr (apart_known hr h1) _)
  | choose q k ih => exact fun h hr => ⟨fun hf => ih _ (h.1 hf) hr, fun hf t => ih _ (h.2 hf t) hr⟩
  | sys c k ih => exact fun h _ => h.elim
  | program k ih => exact fun h hr => ih _ h hr
  | mark m k ih => exact fun h hr => ih h hr
  | halt h' => exact fun h _ => h.elim
theorem NextH_join {P : Program} {nx : Next} {H F : Hp} {R : Value → Hp → Prop} (h : NextH P nx H R) (hd : H.apart F) : NextH P nx (H.join F) (fun v H1 => ∃ H', H1 = H'.join F ∧ H'.apart F ∧ R v H') := by
  cases nx <;> simp only [NextH] at * <;> first
    | exact ⟨_, rfl, hd, h⟩
    | exact fun w hs => (h w (hs.le (le_join H F))).mono fun _ _ ⟨v, he, H', hR, hx⟩ => ⟨v, he, H'.join F, ⟨H', rfl, (hx.join hs hd).1, hR⟩, (hx.join hs hd).2⟩
    | exact fun w hs => (h w (hs.le (le_join H F))).mono fun v w' ⟨H', hR, hx⟩ => ⟨H'.join F, ⟨H', rfl, (hx.join hs hd).1, hR⟩, (hx.join hs hd).2⟩
    | exact h.elim
theorem ValH_join {P : Program} {g : Value} {args : Array Value} {H F : Hp} {R : Value → Hp → Prop} (h : ValH P g args H R) (hd : H.apart F) : ValH P g args (H.join F) (fun v H1 => ∃ H', H1 = H'.join F ∧ H'.apart F ∧ R v H') := by
  unfold ValH at *
  refine Lt_mono _ _ (Lt_join _ h hd) ?_
  rintro nx H1 ⟨H', rfl, hd', hn⟩
  exact NextH_join hn hd'
theorem ValH.mono {P : Program} {g : Value} {args : Array Value} {H : Hp} {R R' : Value → Hp → Prop} (h : ValH P g args H R) (hr : ∀ v H', R v H' → R' v H') : ValH P g args H R' :=
  Lt_mono _ _ h fun _ _ hn => hn.mono hr
def Hp.less (K H : Hp) : Hp := fun b => match H b with | some _ => none | none => K b
theorem less_apart (K H : Hp) : H.apart (K.less H) := fun b hb => by
  unfold Hp.less at hb
  cases h : H b with
  | none => rfl
  | some o => rw [h] at hb; exact absurd rfl hb
theorem less_none {K H : Hp} {b : Nat} (h : H b = none) : K.less H b = K b := by simp [Hp.less, h]
theorem join_less {K H : Hp} (h : Le H K) : H.join (K.less H) = K := by
  funext b
  cases hb : H b with
  | some o => rw [join_l hb, h b o hb]
  | none => rw [join_r hb, less_none hb]
theorem ValH.use {P : Program} {g : Value} {args : Array Value} {H K : Hp} {R : Value → Hp → Prop} (h : ValH P g args H R) (hl : Le H K) :
    ValH P g args K (fun v K' => ∃ H', R v H' ∧ Le H' K' ∧ ∀ b o, K b = some o → H b = none → K' b = some o ∧ H' b = none) := by
  have := ValH_join h (less_apart K H)
  rw [join_less hl] at this
  refine this.mono ?_
  rintro v K' ⟨H', rfl, hd, hR⟩
  refine ⟨H', hR, le_join _ _, fun b o hb hn => ?_⟩
  have h1 : K.less H b = some o := by rw [less_none hn]; exact hb
  have h2 : H' b = none := hd b (by rw [h1]; simp)
  exact ⟨by rw [join_r h2]; exact h1, h2⟩
theorem CallH.use {P : Program} {f : FuncId} {args : Array Value} {H K : Hp} {R : Value → Hp → Prop} (h : CallH P f args H R) (hl : Le H K) :
    CallH P f args K (fun v K' => ∃ H', R v H' ∧ Le H' K' ∧ ∀ b o, K b = some o → H b = none → K' b = some o ∧ H' b = none) := by
  have := NextH_join (nx := .enter f args) h (less_apart K H)
  rw [join_less hl] at this
  refine CallH.mono this ?_
  rintro v K' ⟨H', rfl, hd, hR⟩
  refine ⟨H', hR, le_join _ _, fun b o hb hn => ?_⟩
  have h1 : K.less H b = some o := by rw [less_none hn]; exact hb
  have h2 : H' b = none := hd b (by rw [h1]; simp)
  exact ⟨by rw [join_r h2]; exact h1, h2⟩
def Iter (P : Program) (g : Value) (H0 : Hp) (n : Nat) (T : Nat → List Value → Hp → Prop) : Prop :=
  ∀ (yf : Fn) (ya yb : Array Value) (J : Nat → Hp → Prop) (S : Hp → Prop) (H : Hp), (∀ i H, J i H → Le H0 H) →
    (∀ i, i < n → ∀ H, J i H → ∀ args F, T i args F → H.apart F → ValH P (.func yf ya yb) args.toArray (H.join F) (fun v H2 => ∃ H3, Le H3 H2 ∧ ((v = .bool true ∧ J (i + 1) H3) ∨ (v = .bool false ∧ S H3)))) →
    J 0 H → ValH P g #[.func yf ya yb] H (fun _ H2 => ∃ H3, Le H3 H2 ∧ (J n H3 ∨ S H3))
def Tpure (xs : Nat → List Value) : Nat → List Value → Hp → Prop := fun i args F => args = xs i ∧ F = emptyHp
theorem join_empty (H : Hp) : H.join emptyHp = H := by
  funext b; unfold Hp.join; cases H b <;> rfl
theorem apart_empty (H : Hp) : H.apart emptyHp := fun _ h => absurd rfl h
def putAll (e : Env) : List (Nat × Value) → Env
  | [] => e
  | (t, v) :: r => putAll (e.put t v) r
theorem Lt_yield {P : Program} {l : Nat} {lp : Loop} {args : Array Value} {H : Hp} {K : Next → Hp → Prop} (h : H l = some (.loop lp)) (hn : args.size = lp.params.size)
    (hK : K (.round l lp.fn ((lp.params.zip args).foldl (fun tmps (t, a) => tmps.setIfInBounds t a) lp.tmps) lp.assign lp.body) H) : Lt P (Instr.yield l args) H K := by
  simp only [Instr.yield, Instr.getLoop, zaD]
  refine ⟨_, h, rfl, ?_⟩
  simp only [l_pure', zaO, hn, ne_eq, not_true, if_false]
  exact hK
theorem Rel.putAll {n B : Nat} {w : World} {H : Hp} {d : List Deferred} : ∀ {l : List (Nat × Value)} {e : Env} {tmps : Array Value}, Rel n B e { tmps, defers := d } w H → (∀ p ∈ l, p.1 < n) → Rel n B (HL.putAll e l) { tmps := l.foldl (fun tmps (t, a) => tmps.setIfInBounds t a) tmps, defers := d } w H
  | [], _, _, h, _ => h
  | (t, v) :: r, e, tmps, h, hl => by
    have h1 := h.put (d := some t) (fun u hu => by cases hu; exact hl (t, v) (by simp)) v
    exact Rel.putAll (l := r) h1 (fun p hp => hl p (by simp [hp]))
theorem CW_rangeFunc {P : Program} {n : Nat} {Q : Ex → Env → Hp → Prop} {e : Env} {H : Hp} {g : Operand} {params : Array Tmp} {assign body : Code} {gv : Value} (hg : ∀ r, ev e r g = gv)
    {H0 : Hp} {N : Nat} {T : Nat → List Value → Hp → Prop} (hit : Iter P gv H0 N T) (J : Nat → Hp → Prop) (hle : ∀ i H', J i H' → Le H0 H') (h0 : J 0 H) (hp : ∀ p ∈ params.toList, p < n)
    (round : ∀ l i, i < N → ∀ H', J i H' → ∀ args F, T i args F → H'.apart F → args.length = params.size ∧
      CW P n (some l) assign (fun x e1 H1 => x = .normal ∧ CW P n (some l) body (fun x e2 H2 => match x with | .normal => J (i + 1) H2 | x => Q x e H2) e1 H1) (putAll e (params.toList.zip args)) (H'.join F))
    (hend : ∀ H', J N H' → Q .normal e H') : CW P n none (.rangeFunc g params assign body) Q e H := by
  intro B a w hr hs
  refine CR_rangeFunc (fun fn => ?_)
  obtain ⟨l, hl⟩ : ∃ l, l = w.heap.size + 1 := ⟨_, rfl⟩
  obtain ⟨lp, hlp⟩ : ∃ lp, lp = loopObj fn a.tmps params assign body w.heap.size := ⟨_, rfl⟩
  obtain ⟨w2, hw2⟩ : ∃ w2, w2 = pushLoop w fn a params assign body := ⟨_, rfl⟩
  have hsz : w2.heap.size = w.heap.size + 2 := by rw [hw2]; simp [pushLoop]
  have hwl : w2.heap[l]? = some (.loop lp) := by
    rw [hw2, hl, hlp]
    simp only [pushLoop]
    have : w.heap.size + 1 = (w.heap.push (.deferred (some []))).size := by simp
    rw [this, Array.getElem?_push_size]
  have hwr : w2.heap[w.heap.size]? = some (.deferred (some [])) := by
    rw [hw2]
    simp only [pushLoop]
    rw [Array.getElem?_push_lt (by simp), Array.getElem_push_eq]
  have hwo : ∀ b, b < w.heap.size → w2.heap[b]? = w.heap[b]? := fun b hb => by
    rw [hw2]
    simp only [pushLoop]
    rw [Array.getElem?_push_lt (by simp; omega), Array.getElem_push_lt hb, Array.getElem?_eq_getElem hb]
  have hHn : ∀ b, w.heap.size ≤ b → H b = none := fun b hb => by
    cases hc : H b with
    | none => rfl
    | some o => have := hs.lt hc; omega
  have hHl : H l = none := hHn l (by omega)
  have hHr : H w.heap.size = none := hHn _ (Nat.le_refl _)
  have hne : w.heap.size ≠ l := by omega
  have hs2 : Sub (H.upd l (.loop lp)) w2 := fun b o hb => by
    by_cases ee : b = l
    · subst ee; rw [zap] at hb; cases hb; exact hwl
    · rw [zaE _ _ ee] at hb; rw [hwo b (hs.lt hb)]; exact hs b o hb
  have hx2 : w2.os = w.os ∧ w2.output = w.output ∧ w2.tape = w.tape := by rw [hw2]; exact ⟨rfl, rfl, rfl⟩
  have key := hit (.yield l) #[] #[] (fun i HH => ∃ HJ, HH = HJ.upd l (.loop lp) ∧ HJ l = none ∧ J i HJ)
    (fun HH => ∃ HJ x, HH = HJ.upd l (.loop { lp with state := .done, pending := Ex.jump x }) ∧ x ≠ .normal ∧ HJ l = none ∧ Q x e HJ)
    (H.upd l (.loop lp)) (by
      rintro i _ ⟨HJ, rfl, hn, hj⟩
      exact zal (hle i HJ hj) (zaj (hle i HJ hj) hn))
    (by
      rintro i hi _ ⟨HJ, rfl, hn, hj⟩ args F hT hd
      have hFl : F l = none := apart_known hd (zap _ _ _)
      have hdJ : HJ.apart F := fun b hb => by
        have := hd b hb
        by_cases ee : b = l
        · subst ee; exact hn
        · rwa [zaE _ _ ee] at this
      obtain ⟨hlen, hcw⟩ := round l i hi HJ hj args F hT hdJ
      rw [← upd_join]
      have hjn : (HJ.join F) l = none := by rw [join_r hn]; exact hFl
      show Lt P (Instr.yield l (#[] ++ args.toArray)) _ _
      refine Lt_yield (zap _ _ _) (by simp [hlen, hlp, loopObj]) ?_
      simp only [NextH]
      intro w5 hs5
      have hs5' : Sub (HJ.join F) w5 := fun b o hb => hs5 b o (by rw [zaE _ _ (by intro ee; subst ee; rw [hjn] at hb; cases hb)]; exact hb)
      have hl5 : w5.heap[l]? = some (.loop lp) := hs5 l _ (zap _ _ _)
      have hlt5 : l < w5.heap.size := hs5.lt (zap _ _ _)
      refine round_of_CR ?_
      rw [show lp.assign = assign from by rw [hlp]; rfl, show lp.body = body from by rw [hlp]; rfl]
      have hrel : Rel n 0 (putAll e (params.toList.zip args)) { tmps := (lp.params.zip (#[] ++ args.toArray)).foldl (fun tmps (t, a) => tmps.setIfInBounds t a) lp.tmps, defers := [] } w5 (HJ.join F) := by
        have h1 : Rel n 0 e { tmps := lp.tmps, defers := [] } w5 (HJ.join F) := ⟨Nat.zero_le _, by rw [hlp]; exact hr.size, by rw [hlp]; exact hr.tmps, [], rfl, .nil, fun _ h => by cases h⟩
        have h2 := Rel.putAll (l := params.toList.zip args) h1 (fun p hpp => hp p.1 (List.of_mem_zip hpp).1)
        have h3 : (lp.params.zip (#[] ++ args.toArray)).foldl (fun tmps (t, a) => tmps.setIfInBounds t a) lp.tmps = (params.toList.zip args).foldl (fun tmps (t, a) => tmps.setIfInBounds t a) lp.tmps := by
          rw [← Array.foldl_toList]; simp [hlp, loopObj]
        rw [h3]; exact h2
      refine (hcw 0 _ w5 hrel hs5').mono ?_
      rintro x a1 w6 ⟨e1, H6, ⟨rfl, hbody⟩, hr6, hx6⟩
      have hH6 : H6 l = none := by
        cases hc : H6 l with
        | none => rfl
        | some o =>
          rcases hx6.dom l (by rw [hc]; simp) with h | h
          · exact absurd hjn h
          · omega
      have hl6 : w6.heap[l]? = some (.loop lp) := by rw [hx6.same l hlt5 hjn]; exact hl5
      refine ⟨lp, hl6, by rw [hlp]; rfl, ?_⟩
      have hset : ∀ (w : World) (HH : Hp) (q : Loop), HH l = none → Sub HH w → Sub HH (setLoop w l q) := fun w HH q hq hsw b o hb => by
        have : b ≠ l := fun ee => by subst ee; rw [hq] at hb; cases hb
        simp only [setLoop]
        rw [Array.getElem?_setIfInBounds_ne (Ne.symm this)]; exact hsw b o hb
      have hr7 : Rel n 0 e1 a1 (setLoop w6 l { lp with state := .busy }) H6 := by
        refine ⟨Nat.zero_le _, hr6.size, hr6.tmps, ?_⟩
        obtain ⟨rs, m1, m2, m3⟩ := hr6.marks
        refine ⟨rs, m1, m2, fun r hrr => ⟨?_, (m3 r hrr).2⟩⟩
        have : r ≠ l := fun ee => by subst ee; rw [(m3 r hrr).1] at hl6; cases hl6
        simp only [setLoop]
        rw [Array.getElem?_setIfInBounds_ne (Ne.symm this)]; exact (m3 r hrr).1
      refine (hbody 0 a1 _ hr7 (hset w6 H6 _ hH6 hx6.sub)).mono ?_
      rintro x a2 w8 ⟨e2, H8, hq8, hr8, hx8⟩
      have hlt6 : l < (setLoop w6 l { lp with state := .busy }).heap.size := by
        simp only [setLoop, Array.size_setIfInBounds]; exact Nat.lt_of_lt_of_le hlt5 hx6.size
      have hl8 : w8.heap[l]? = some (.loop { lp with state := .busy }) := by
        rw [hx8.same l hlt6 hH6]
        simp only [setLoop]
        rw [Array.getElem?_setIfInBounds_self_of_lt (by simpa [setLoop] using hlt6)]
      have hH8 : H8 l = none := by
        cases hc : H8 l with
        | none => rfl
        | some o =>
          rcases hx8.dom l (by rw [hc]; simp) with h | h
          · exact absurd hH6 h
          · omega
      refine ⟨{ lp with state := .busy }, hl8, ?_⟩
      have hextw : Ext ((HJ.join F).upd l (.loop lp)) w5 (H8.upd l (.loop (afterRound { lp with state := .busy } x))) (setLoop w8 l (afterRound { lp with state := .busy } x)) := by
        refine ⟨fun b o hb => ?_, ?_, fun b hb hbn => ?_, fun b hb => ?_, ?_, ?_, ?_⟩
        · by_cases ee : b = l
          · subst ee
            rw [zap] at hb; cases hb
            simp only [setLoop]
            rw [Array.getElem?_setIfInBounds_self_of_lt (Nat.lt_of_lt_of_le hlt6 hx8.size)]
          · rw [zaE _ _ ee] at hb
            simp only [setLoop]
            rw [Array.getElem?_setIfInBounds_ne (Ne.symm ee)]; exact hx8.sub b o hb
        · have h1 := hx6.size
          have h2 := hx8.size
          simp only [setLoop, Array.size_setIfInBounds] at h2 ⊢; omega
        · have ee : b ≠ l := fun ee => by subst ee; rw [zap] at hbn; cases hbn
          rw [zaE _ _ ee] at hbn
          have h6n : H6 b = none := by
            cases hc : H6 b with
            | none => rfl
            | some o =>
              rcases hx6.dom b (by rw [hc]; simp) with h | h
              · exact absurd hbn h
              · omega
          have hb6 : b < (setLoop w6 l { lp with state := .busy }).heap.size := by
            simp only [setLoop, Array.size_setIfInBounds]; exact Nat.lt_of_lt_of_le hb hx6.size
          have h1 := hx8.same b hb6 h6n
          simp only [setLoop] at h1 ⊢
          rw [Array.getElem?_setIfInBounds_ne (Ne.symm ee)] at h1 ⊢
          rw [h1, hx6.same b hb hbn]
        · by_cases ee : b = l
          · subst ee; left; rw [zap]; simp
          · rw [zaE _ _ ee] at hb ⊢
            rcases hx8.dom b hb with h | h
            · exact hx6.dom b h
            · right
              have := hx6.size
              simp only [setLoop, Array.size_setIfInBounds] at h; omega
        · exact hx8.os.trans hx6.os
        · exact hx8.output.trans hx6.output
        · exact hx8.tape.trans hx6.tape
      refine ⟨H8.upd l (.loop (afterRound { lp with state := .busy } x)), ⟨_, Le.refl _, ?_⟩, hextw⟩
      cases x with
      | normal =>
        refine .inl ⟨rfl, H8, ?_, hH8, hq8⟩
        rw [hlp]; rfl
      | exit id => exact .inr ⟨rfl, H8, .exit id, by rw [hlp]; rfl, by simp, hH8, hq8⟩
      | ret => exact .inr ⟨rfl, H8, .ret, by rw [hlp]; rfl, by simp, hH8, hq8⟩)
    ⟨H, rfl, hHl, h0⟩
  obtain ⟨nx, w3, H3, hrun, hn, hx⟩ := Lt_sound _ _ _ w2 key hs2
  have hev : a.eval g = gv := by rw [hr.ev]; exact hg _
  refine ⟨nx, w3, by rw [hev, ← hl, ← hw2]; exact hrun, (hn.sound hx.sub).mono ?_⟩
  rintro v w4 ⟨H4, ⟨H5, hle5, hJS⟩, hx4⟩
  rw [← hl]
  have hx24 := (hx.trans hx4).forget hle5
  -- behind the loop
  have fin : ∀ (HJ : Hp) (q : Loop), H5 = HJ.upd l (.loop q) → HJ l = none → Rel n B e { a with defers := markOf w.heap.size :: a.defers } (setLoop w4 l { q with state := .exhausted }) HJ ∧ Ext H w HJ (setLoop w4 l { q with state := .exhausted }) := by
    rintro HJ q rfl hJl
    have hJr : HJ w.heap.size = none := by
      cases hc : HJ w.heap.size with
      | none => rfl
      | some o =>
        have h1 := hx24.dom w.heap.size (by rw [zaE _ _ hne, hc]; simp)
        rcases h1 with h | h
        · rw [zaE _ _ hne, hHr] at h; exact absurd rfl h
        · omega
    have hmk : w4.heap[w.heap.size]? = some (.deferred (some [])) := by
      rw [hx24.same _ (by omega) (by rw [zaE _ _ hne]; exact hHr)]; exact hwr
    have hext : Ext H w HJ (setLoop w4 l { q with state := .exhausted }) := by
      refine ⟨fun b o hb => ?_, ?_, fun b hb hbn => ?_, fun b hb => ?_, ?_, ?_, ?_⟩
      · have ee : b ≠ l := fun ee => by subst ee; rw [hJl] at hb; cases hb
        simp only [setLoop]
        rw [Array.getElem?_setIfInBounds_ne (Ne.symm ee)]
        exact hx24.sub b o (by rw [zaE _ _ ee]; exact hb)
      · have := hx24.size
        simp only [setLoop, Array.size_setIfInBounds]; omega
      · have ee : b ≠ l := by omega
        simp only [setLoop]
        rw [Array.getElem?_setIfInBounds_ne (Ne.symm ee), hx24.same b (by omega) (by rw [zaE _ _ ee]; exact hbn), hwo b hb]
      · have ee : b ≠ l := fun ee => by subst ee; exact hb hJl
        have h1 := hx24.dom b (by rw [zaE _ _ ee]; exact hb)
        rcases h1 with h | h
        · rw [zaE _ _ ee] at h; exact .inl h
        · right; omega
      · exact hx24.os.trans hx2.1
      · exact hx24.output.trans hx2.2.1
      · exact hx24.tape.trans hx2.2.2
    refine ⟨⟨?_, hr.size, hr.tmps, ?_⟩, hext⟩
    · exact Nat.le_trans hr.bound hext.size
    · obtain ⟨rs, m1, m2, m3⟩ := hr.marks
      have hlt : ∀ r ∈ rs, r < w.heap.size := fun r hrr => by
        rcases Nat.lt_or_ge r w.heap.size with h | h
        · exact h
        · have := (m3 r hrr).1; rw [Array.getElem?_eq_none h] at this; cases this
      refine ⟨w.heap.size :: rs, by simp [m1], List.nodup_cons.2 ⟨fun hm => Nat.lt_irrefl _ (hlt _ hm), m2⟩, fun r hrr => ?_⟩
      rcases List.mem_cons.1 hrr with rfl | hrr
      · refine ⟨?_, hJr, hr.bound⟩
        simp only [setLoop]
        rw [Array.getElem?_setIfInBounds_ne (Ne.symm hne)]; exact hmk
      · have hrl := hlt r hrr
        refine ⟨?_, ?_, (m3 r hrr).2.2⟩
        · have ee : r ≠ l := by omega
          simp only [setLoop]
          rw [Array.getElem?_setIfInBounds_ne (Ne.symm ee), hx24.same r (by omega) (by rw [zaE _ _ ee]; exact (m3 r hrr).2.1), hwo r hrl]
          exact (m3 r hrr).1
        · cases hc : HJ r with
          | none => rfl
          | some o =>
            have ee : r ≠ l := by omega
            rcases hx24.dom r (by rw [zaE _ _ ee, hc]; simp) with h | h
            · rw [zaE _ _ ee, (m3 r hrr).2.1] at h; exact absurd rfl h
            · omega
  have hl4 : ∀ (HJ : Hp) (q : Loop), H5 = HJ.upd l (.loop q) → w4.heap[l]? = some (.loop q) := fun HJ q hh => by
    subst hh; exact hx24.sub l _ (zap _ _ _)
  rcases hJS with ⟨HJ, hH5, hJl, hJ⟩ | ⟨HJ, x, hH5, hxn, hJl, hQ⟩
  · obtain ⟨h1, h2⟩ := fin HJ lp hH5 hJl
    refine ⟨lp, hl4 HJ lp hH5, by rw [hlp]; simp [loopObj], ?_⟩
    have : lp.pending = none := by rw [hlp]; rfl
    rw [this] at h1 h2 ⊢
    exact ⟨e, HJ, hend HJ hJ, h1, h2⟩
  · obtain ⟨h1, h2⟩ := fin HJ _ hH5 hJl
    refine ⟨_, hl4 HJ _ hH5, by simp, ?_⟩
    cases x with
    | normal => exact absurd rfl hxn
    | exit id => exact CR_exit ⟨e, HJ, hQ, h1, h2⟩
    | ret => exact CR_ret ⟨e, HJ, hQ, h1, h2⟩
theorem ValH_func {P : Program} {f : FuncId} {caps args : Array Value} {H : Hp} {R : Value → Hp → Prop} (hb : bodied P f = true) (h : CallH P f (args ++ caps) H R) : ValH P (.func (.func f) #[] caps) args H R := by
  unfold ValH
  rw [l_callV, l_callFunc f _ hb]
  simpa [NextH] using h
theorem yes_no {v : Value} {A B : Prop} (h : (v = .bool true ∧ A) ∨ (v = .bool false ∧ B)) : ∃ t, v = .bool t ∧ (t = true → A) ∧ (t = false → B) := by
  rcases h with ⟨rfl, h⟩ | ⟨rfl, h⟩
  · exact ⟨true, rfl, fun _ => h, fun h => by cases h⟩
  · exact ⟨false, rfl, (fun h => by cases h), fun _ => h⟩
theorem Iter.yield {P : Program} {y : Value} {args : List Value} {H F K : Hp} {A B : Hp → Prop} (h : ValH P y args.toArray (H.join F) (fun v H2 => ∃ H3, Le H3 H2 ∧ ((v = .bool true ∧ A H3) ∨ (v = .bool false ∧ B H3)))) (hl : Le (H.join F) K) :
    ValH P y args.toArray K (fun v K' => ∃ t H3, v = .bool t ∧ Le H3 K' ∧ (t = true → A H3) ∧ (t = false → B H3) ∧ ∀ b o, K b = some o → H b = none → F b = none → K' b = some o ∧ H3 b = none) := by
  refine (h.use hl).mono ?_
  rintro v K' ⟨H', ⟨H3, hl3, hc⟩, hl', hk⟩
  obtain ⟨t, rfl, h1, h2⟩ := yes_no hc
  refine ⟨t, H3, rfl, Le.trans hl3 hl', h1, h2, fun b o hb hn hf => ?_⟩
  have h4 := hk b o hb (by rw [join_r hn]; exact hf)
  exact ⟨h4.1, zaj hl3 h4.2⟩
theorem Iter.yield0 {P : Program} {y : Value} {args : List Value} {H K : Hp} {A B : Hp → Prop} (h : ValH P y args.toArray (H.join emptyHp) (fun v H2 => ∃ H3, Le H3 H2 ∧ ((v = .bool true ∧ A H3) ∨ (v = .bool false ∧ B H3)))) (hl : Le H K) :
    ValH P y args.toArray K (fun v K' => ∃ t H3, v = .bool t ∧ Le H3 K' ∧ (t = true → A H3) ∧ (t = false → B H3) ∧ ∀ b o, K b = some o → H b = none → K' b = some o ∧ H3 b = none) := by
  refine (Iter.yield h (by rw [join_empty]; exact hl)).mono ?_
  rintro v K' ⟨t, H3, h1, h2, h3, h4, h5⟩
  exact ⟨t, H3, h1, h2, h3, h4, fun b o hb hn => h5 b o hb hn rfl⟩
theorem OwnS.frag {H : Hp} {E : TypeId} {w : Nat} {v : Value} {n : Nat} {cs : List Value} {rs : Option Nat} (h : OwnS H E w v n cs rs) (hn : 0 < n) : ∃ r o, rs = some r ∧ H r = some o ∧ OwnS (emptyHp.upd r o) E w v n cs (some r) := by
  obtain ⟨h1, ⟨_, h2, _⟩ | ⟨r, cap, c, h3, h4, h5, h6, h7, h8⟩⟩ := h
  · omega
  · exact ⟨r, _, h8, h4, h1, .inr ⟨r, cap, c, h3, zap _ _ _, h5, h6, h7, rfl⟩⟩
end Go.Proofs.Ytjhohnbdhopllaa.HL
end
section
namespace Go.Proofs.Ytjhohnbdhopllaa.HL
open Go
set_option linter.unusedSimpArgs false
def getE : List MapEntry → Int → Option Value
  | [], _ => none
  | e :: es, k => match e.key with | .int _ a => if a = k then some e.val else getE es k | _ => none
def IntKeys (es : List MapEntry) : Prop := ∀ e ∈ es, ∃ k, e.key = .int .i64 k
theorem findNow_int : ∀ (es : List MapEntry) (k : Int) (i : Nat), IntKeys es → ∃ r, Instr.findNow (.int .i64) (.int .i64 k) es i = some r ∧
    ((r = none ∧ getE es k = none) ∨ ∃ j v, r = some (i + j, v) ∧ getE es k = some v ∧ j < es.length ∧ (∃ e, es[j]? = some e ∧ e.key = .int .i64 k ∧ e.val = v) ∧ ∀ j', j' < j → ∀ e, es[j']? = some e → e.key ≠ .int .i64 k)
  | [], k, i, _ => ⟨none, rfl, .inl ⟨rfl, rfl⟩⟩
  | e :: es, k, i, h => by
    obtain ⟨a, ha⟩ := h e (by simp)
    have h' : IntKeys es := fun x hx => h x (by simp [hx])
    simp only [Instr.findNow, Instr.sameNow, ha, getE, if_true]
    by_cases hk : k = a
    · subst hk
      simp only [beq_self_eq_true, if_true]
      exact ⟨_, rfl, .inr ⟨0, e.val, rfl, rfl, by simp, ⟨e, rfl, ha, rfl⟩, fun j' hj => by omega⟩⟩
    · have hne : (k == a) = false := by simpa using hk
      have hne' : ¬ a = k := fun h => hk h.symm
      simp only [hne, hne', if_false]
      obtain ⟨r, h1, h2⟩ := findNow_int es k (i + 1) h'
      refine ⟨r, h1, ?_⟩
      rcases h2 with ⟨rfl, h3⟩ | ⟨j, v, rfl, h3, h4, ⟨e', h5, h6, h7⟩, h8⟩
      · exact .inl ⟨rfl, h3⟩
      · refine .inr ⟨j + 1, v, by rw [show i + 1 + j = i + (j + 1) by omega], h3, by simp; omega, ⟨e', by simpa using h5, h6, h7⟩, fun j' hj e'' he => ?_⟩
        match j', he with
        | 0, he => simp at he; subst he; rw [ha]; intro hc; injection hc with _ hc; exact hk hc.symm
        | j' + 1, he => exact h8 j' (by omega) e'' (by simpa using he)
section
variable {P : Program} {H : Hp}
theorem l_checkInt (t : TypeId) (hu : P.underlying t = some (.int .i64)) (b : Bool) (n : Nat) (k : Int) (K : Unit → Hp → Prop) : Lt P (Instr.checkKey b (n + 1) t (.int .i64 k)) H K = K () H := by
  simp only [Instr.checkKey, zaD, l_und, hu, zai]; rfl
theorem getE_push : ∀ (es : List MapEntry) (k : Int) (v : Value) (b : Nat) (x : Int), IntKeys es → getE es k = none → getE (es ++ [{ key := .int .i64 k, val := v, born := b }]) x = if x = k then some v else getE es x
  | [], k, v, b, x, _, _ => by
    simp only [List.nil_append, getE]
    by_cases e : x = k
    · subst e; simp
    · have e' : ¬ k = x := fun h => e h.symm
      simp [e, e']
  | e :: es, k, v, b, x, h, hn => by
    obtain ⟨a, ha⟩ := h e (by simp)
    have h' : IntKeys es := fun y hy => h y (by simp [hy])
    simp only [getE, ha] at hn
    simp only [List.cons_append, getE, ha]
    by_cases hk : a = k
    · rw [if_pos hk] at hn; cases hn
    · rw [if_neg hk] at hn
      rw [getE_push es k v b x h' hn]
      by_cases hx : a = x
      · subst hx; simp [hk]
      · simp [hx]
theorem getE_modify : ∀ (es : List MapEntry) (k : Int) (v : Value) (j : Nat) (x : Int), IntKeys es → (∃ e, es[j]? = some e ∧ e.key = .int .i64 k) → (∀ j', j' < j → ∀ e, es[j']? = some e → e.key ≠ .int .i64 k) →
    getE (es.modify j (fun e => { e with key := .int .i64 k, val := v })) x = if x = k then some v else getE es x
  | [], k, v, j, x, _, h, _ => by obtain ⟨e, h, _⟩ := h; simp at h
  | e :: es, k, v, 0, x, h, ⟨e', h1, h2⟩, _ => by
    simp at h1; subst h1
    simp only [List.modify_zero_cons, getE, h2]
    by_cases hx : x = k
    · subst hx; simp
    · have e' : ¬ k = x := fun h => hx h.symm
      simp [hx, e']
  | e :: es, k, v, j + 1, x, h, ⟨e', h1, h2⟩, h3 => by
    obtain ⟨a, ha⟩ := h e (by simp)
    have h' : IntKeys es := fun y hy => h y (by simp [hy])
    have hak : a ≠ k := fun hh => h3 0 (by omega) e rfl (by rw [ha, hh])
    simp only [List.modify_succ_cons, getE, ha]
    rw [getE_modify es k v j x h' ⟨e', by simpa using h1, h2⟩ (fun j' hj e'' he => h3 (j' + 1) (by omega) e'' (by simpa using he))]
    by_cases hx : a = x
    · subst hx; simp [hak]
    · simp [hx]
theorem keys_modify {es : List MapEntry} (h : IntKeys es) (k : Int) (v : Value) (j : Nat) : IntKeys (es.modify j (fun e => { e with key := .int .i64 k, val := v })) := by
  intro e he
  obtain ⟨i, hi⟩ := List.getElem?_of_mem he
  rw [List.getElem?_modify] at hi
  cases hh : es[i]? with
  | none => rw [hh] at hi; simp at hi
  | some y =>
    rw [hh] at hi
    by_cases e2 : j = i
    · simp [e2] at hi; exact ⟨k, by rw [← hi]⟩
    · simp [e2] at hi; exact h e (by rw [← hi]; exact List.mem_of_getElem? hh)
theorem Lt_makeMap {t : TypeId} {K : Value → Hp → Prop} (h : ∀ r, H r = none → K (.map (some r)) (H.upd r (.map #[] 0))) : Lt P (Instr.makeMap t none) H K := by
  simp only [Instr.makeMap, zaD, l_new, zaO]
  exact h
end
end Go.Proofs.Ytjhohnbdhopllaa.HL
end
section
namespace Go.Proofs.Ytjhohnbdhopllaa.HL
open Go
set_option linter.unusedSimpArgs false
end Go.Proofs.Ytjhohnbdhopllaa.HL
end
section
namespace Go.Proofs.Ytjhohnbdhopllaa.HL
open Go
end Go.Proofs.Ytjhohnbdhopllaa.HL
end
section
namespace Go.Proofs.Ytjhohnbdhopllaa.HL
open Go
set_option linter.unusedSimpArgs false
set_option linter.unusedVariables false
section
variable {P : Program} {H : Hp}
theorem Lt_overlaps {tS tR E : TypeId} {w : Nat} (hu : P.underlying tS = some (.slice E)) (hw : szOf P E = some w) {a b : Addr} {la ca lb cb : Nat} {c1 c2 : Array Value} {T1 T2 : TypeId} (hne : a.block ≠ b.block) (h1 : H a.block = some (.cells c1 T1)) (h2 : H b.block = some (.cells c2 T2)) (hc : c2.size ≠ 0) {K : Value → Hp → Prop} (h : K (.bool false) H) :
    Lt P (Extern.SlicesOverlaps.overlaps #[tS, tS] #[tR] #[.slice (some a) la ca, .slice (some b) lb cb]) H K := by
  have hnb : (a.block != b.block) = true := by simpa using hne
  have hnb' : (a.block == b.block) = false := by simpa using hne
  obtain ⟨k, hk⟩ : ∃ k, c2.size = k + 1 := ⟨c2.size - 1, by omega⟩
  show Lt P (underlying tS >>= _) H K
  rw [zaD, l_und, hu, zai]
  show Lt P (sizeOf E >>= _) H K
  rw [zaD, l_size, hw, zai]
  dsimp only
  by_cases h0 : la = 0 ∨ lb = 0 ∨ w = 0
  · rw [if_pos h0]; exact h
  · rw [if_neg h0]
    simp [Lt, Lt_bind, Bind.bind, Pure.pure, hnb, hnb', frozen, h1, h2, noView, viewAt, shape, mayBeOne, stringish, Go.Proofs.Ytjhohnbdhopllaa.HL.shapeOf, frozenIn, hk]
    exact h
theorem OwnS.capn {H : Hp} {E : TypeId} {w n m c : Nat} {a : Option Addr} {cs : List Value} {rs : Option Nat} (h : OwnS H E w (.slice a m c) n cs rs) : n ≤ c := by
  obtain ⟨_, ⟨h1, h2, _⟩ | ⟨r, cap, d, h1, _, h3, _⟩⟩ := h
  · omega
  · injection h1 with _ _ e; omega
theorem OwnS.blk {H : Hp} {E : TypeId} {w n c : Nat} {a : Option Addr} {cs : List Value} {rs : Option Nat} (h : OwnS H E w (.slice a n c) n cs rs) (hn : 0 < n) : ∃ r d, a = some ⟨r, 0, none⟩ ∧ H r = some (.cells d E) ∧ d.size = c * w ∧ (d.extract 0 (n * w)).toList = cs ∧ rs = some r := by
  obtain ⟨_, ⟨h1, h2, _⟩ | ⟨r, cap, d, h1, hb, h3, h4, h5, h6⟩⟩ := h
  · omega
  · injection h1 with e1 _ e; exact ⟨r, d, e1, hb, by rw [e]; exact h4, h5, h6⟩
theorem put_two (c : Array Value) (A xs B : List Value) (hA : (c.extract 0 A.length).toList = A) (hs : A.length + xs.length + B.length ≤ c.size) : ((putCells (putCells c A.length xs) (A.length + xs.length) B).extract 0 (A.length + xs.length + B.length)).toList = A ++ xs ++ B := by
  have hz : (putCells c A.length xs).size = c.size := putCells_size _ _ _
  rw [putCells_extract _ _ _ (by rw [hz]; omega), putCells_extract _ _ _ (by omega), hA]
theorem put_back (c : Array Value) (A xs B : List Value) (hA : (c.extract 0 A.length).toList = A) (hs : A.length + xs.length + B.length ≤ c.size) : ((putCells (putCells c (A.length + xs.length) B) A.length xs).extract 0 (A.length + xs.length + B.length)).toList = A ++ xs ++ B := by
  have hz : (putCells c (A.length + xs.length) B).size = c.size := putCells_size _ _ _
  have hA' : c.toList.take A.length = A := by
    have := hA
    rw [Array.toList_extract, List.extract_eq_take_drop] at this
    simpa using this
  rw [Array.toList_extract, List.extract_eq_take_drop, List.drop_zero, Nat.sub_zero, putCells_toList _ _ _ (by rw [hz]; omega), putCells_toList _ _ _ (by omega)]
  have hl : c.toList.length = c.size := by simp
  have e1 : (c.toList.take (A.length + xs.length) ++ B ++ c.toList.drop (A.length + xs.length + B.length)).take A.length = A := by
    rw [List.append_assoc, List.take_append_of_le_length (by rw [List.length_take]; omega), List.take_take, Nat.min_eq_left (by omega), hA']
  have e2 : (c.toList.take (A.length + xs.length) ++ B ++ c.toList.drop (A.length + xs.length + B.length)).drop (A.length + xs.length) = B ++ c.toList.drop (A.length + xs.length + B.length) := by
    rw [List.append_assoc]
    exact List.drop_left' (by rw [List.length_take]; omega)
  rw [e1, e2, ← List.append_assoc, List.take_append_of_le_length (by simp; omega), List.take_of_length_le (by simp; omega)]
theorem put_out (c : Array Value) (A B Z : List Value) (hA : (c.extract 0 A.length).toList = A) (hs : A.length + B.length + Z.length ≤ c.size) : ((putCells (putCells c A.length B) (A.length + B.length) Z).extract 0 (A.length + B.length)).toList = A ++ B := by
  have hz : (putCells c A.length B).size = c.size := putCells_size _ _ _
  rw [Array.toList_extract, List.extract_eq_take_drop, List.drop_zero, Nat.sub_zero, putCells_toList _ _ _ (by rw [hz]; omega), List.append_assoc, List.take_append_of_le_length (by rw [List.length_take]; simp [hz]; omega), List.take_take, Nat.min_self]
  have h := putCells_extract c A.length B (by omega)
  rw [hA, Array.toList_extract, List.extract_eq_take_drop, List.drop_zero, Nat.sub_zero] at h
  exact h
def rowAt (cs : List Value) (w i : Nat) : Array Value := ((cs.drop (i * w)).take w).toArray
theorem ext_row {c : Array Value} {cs : List Value} {o n w i : Nat} (h : ∀ j, j < n * w → c[o + j]? = cs[j]?) (hs : o + n * w ≤ c.size) (hl : n * w = cs.length) (hi : i < n) : c.extract (o + i * w) (o + i * w + w) = rowAt cs w i := by
  have hm : i * w + w ≤ n * w := by have := Nat.mul_le_mul_right w (show i + 1 ≤ n by omega); rw [Nat.add_mul, Nat.one_mul] at this; exact this
  apply Array.ext'
  apply List.ext_getElem?
  intro j
  simp only [rowAt, Array.toList_extract, List.extract_eq_take_drop]
  rw [show o + i * w + w - (o + i * w) = w from by omega]
  by_cases hj : j < w
  · rw [List.getElem?_take_of_lt hj, List.getElem?_take_of_lt hj, List.getElem?_drop, List.getElem?_drop, ← h _ (by omega), Array.getElem?_toList, Nat.add_assoc]
  · rw [List.getElem?_eq_none (by simp; omega), List.getElem?_eq_none (by simp; omega)]
theorem zeroCells_plain {z : Array Value} (hz : PlainL z.toList) (n : Nat) : PlainL (Builtin.zeroCells z n).toList := by
  intro v hv
  simp only [Builtin.zeroCells, Array.toList_map, List.mem_map] at hv
  obtain ⟨i, hi, rfl⟩ := hv
  by_cases h0 : z.size = 0
  · simp [h0] at hi
  · have hlt : i % z.size < z.size := Nat.mod_lt _ (by omega)
    rw [getElem!_pos z (i % z.size) hlt]
    exact hz _ (Array.getElem_mem_toList hlt)
theorem l_clear {ty : TypeId} {K : Next → Hp → Prop} (ts : Array TypeId) (c : Array Bool) (args : Array Value) : Lt P (Go.builtin .clear ts ty c args) H K = Lt P (Builtin.clear_ ts ty args) H (fun v H' => K (.value v) H') := Lt_bind _ _ _ _
theorem Lt_clear {t E : TypeId} {z : Value} (hu : P.underlying t = some (.slice E)) (hz : zrOf P E = some (some z)) (hzp : PlainL z.cells.toList) (ty : TypeId) {b o n cap : Nat} {c : Array Value} {T : TypeId} (hb : H b = some (.cells c T)) (hn : n ≠ 0) (hc : o + n * z.cells.size ≤ c.size) {K : Value → Hp → Prop}
    (h : K (.tuple #[]) (H.upd b (.cells (putCells c o (Builtin.zeroCells z.cells n).toList) T))) : Lt P (Builtin.clear_ #[t] ty #[.slice (some ⟨b, o, none⟩) n cap]) H K := by
  obtain ⟨n, rfl⟩ : ∃ m, n = m + 1 := ⟨n - 1, by omega⟩
  show Lt P (underlying t >>= _) H K
  rw [zaD, l_und, hu, zai]
  show Lt P (zeroValue E >>= _) H K
  rw [zaD, l_zero, hz]
  simp only [zai, zaD]
  have key := storeCells_lt (P := P) (b := b) (t := T) (f := (0, 0)) (o := o) (Builtin.zeroCells z.cells (n + 1)).toList 0 H c (fun _ H' => Lt P (pure (Value.tuple #[])) H' K) hb (zeroCells_plain hzp _) (by simp only [Array.length_toList, zeroCells_size]; omega) (fun j _ _ => by omega)
  rw [key]
  exact h
theorem Lt_appendZ {t1 t2 E : TypeId} {w by_ : Nat} {z : Value} {k : IntKind} (hu : P.underlying t1 = some (.slice E)) (hu2 : P.underlying t2 = some (.int k)) (hw : szOf P E = some w) (hby : byOf P E = some by_) (hby0 : 0 < by_)
    (hz : zrOf P E = some (some z)) (hzw : z.cells.size = w) (ty : TypeId) {base : Option Addr} {sLen sCap : Nat} {m : Nat} {cs : List Value} (hv : Holds H w (.slice base sLen sCap) sLen cs)
    (hfull : ¬ sLen + m ≤ sCap) (hm0 : m * w ≠ 0) (hroom : (4 * (sLen + m) + 2000) * by_ ≤ 281474976710656) {K : Value → Hp → Prop}
    (h : ∀ r cap c, H r = none → sLen + m ≤ cap → c.size = cap * w → (c.extract 0 ((sLen + m) * w)).toList = cs ++ (Builtin.zeroCells z.cells m).toList → K (.slice (some ⟨r, 0, none⟩) (sLen + m) cap) (H.upd r (.cells c E))) :
    Lt P (Builtin.append_ #[t1, t2] ty #[.slice base sLen sCap, .int .i64 m]) H K := by
  obtain ⟨inf, hinf, hib⟩ : ∃ i, P.info? E = some i ∧ i.bytes = by_ := by
    unfold byOf at hby
    cases hi : P.info? E with
    | none => rw [hi] at hby; cases hby
    | some i => rw [hi] at hby; exact ⟨i, rfl, by simpa using hby⟩
  have h2m : 4 * (sLen + m) + 2000 ≤ (4 * (sLen + m) + 2000) * by_ := Nat.le_mul_of_pos_right _ hby0
  have hwm : IntKind.i64.wrap (m : Int) = m := zaG _ (by omega) (by omega)
  have hmb : ¬ ((m : Int) * (by_ : Int) > 2 ^ 48) := by
    have h1 : m * by_ ≤ (4 * (sLen + m) + 2000) * by_ := Nat.mul_le_mul_right _ (by omega)
    have h3 : ((m * by_ : Nat) : Int) = (m : Int) * by_ := by simp
    omega
  have hbytes : ¬ (((sLen + m : Nat) : Int) > IntKind.i64.max) := by
    have h1 : IntKind.i64.max = 9223372036854775807 := by decide
    rw [h1]
    omega
  have hcapb : ¬ (Builtin.nextslicecap (sLen + m) sCap * by_ > 2 ^ 48) := by
    have h1 := nextcap_le (sLen + m) sCap (by omega)
    have h2 := Nat.mul_le_mul_right by_ h1
    omega
  have hfirst : ∀ (K : Array Value → Hp → Prop), Lt P (Builtin.firstCells w sLen (.slice base sLen sCap)) H K = K cs.toArray H := fun K => first_slice (n := sLen) hv K
  have hint : ∀ K : Int → Hp → Prop, Lt P (asInt (.int .i64 (m : Int))) H K = K m H := fun K => rfl
  simp only [Builtin.append_, List.getElem?_toArray, List.getElem?_cons_zero, List.getElem?_cons_succ, zaD, l_und, hu, hu2, zai, l_size, hw, zaO, if_true, hint, hwm, if_neg (show ¬ ((m : Int) < 0) by omega), l_info, hinf, hib, hmb, if_false, Int.toNat_natCast, if_neg hfull, Bool.not_true, Bool.false_eq_true]
  simp only [zaD, l_info, hinf, zai, hib, hbytes, false_and, if_false, if_neg hcapb]
  refine ⟨fun hf => by simp [Question.forced] at hf, fun _ t => ?_⟩
  generalize hnc : (Question.appendCap (sLen + m) sCap E).cut t = nc
  have hncge : sLen + m ≤ nc := by subst hnc; simp only [Question.cut]; omega
  have hask : ∀ (H : Hp) (K : Unit → Hp → Prop), Lt P (askRoom (nc * by_)) H K = K () H := by
    intro H K; unfold askRoom; split <;> rfl
  simp only [Sem.pure, l_pure', zaD, l_info, hinf, zai, hib, hask, hfirst, hm0, if_false, l_zero, hz, l_newRow, zaO]
  intro r hr
  have hn := hv.1
  have hsz : (cs.toArray ++ Builtin.zeroCells z.cells m ++ Builtin.zeroCells z.cells (nc - (sLen + m))).size = nc * w := by
    simp only [Array.size_append, zeroCells_size, hzw, List.size_toArray]
    rw [← hn, ← Nat.add_mul, ← Nat.add_mul]; congr 1; omega
  refine h r nc _ hr hncge hsz ?_
  rw [Array.toList_extract, List.extract_eq_take_drop]
  simp only [Array.toList_append, Nat.sub_zero, List.drop_zero]
  have hl : (sLen + m) * w = (cs ++ (Builtin.zeroCells z.cells m).toList).length := by
    have h9 : (Builtin.zeroCells z.cells m).toList.length = m * w := by rw [Array.length_toList, zeroCells_size, hzw]
    rw [Nat.add_mul, List.length_append, h9, hn]
  rw [hl, List.take_append_of_le_length (Nat.le_refl _), List.take_of_length_le (Nat.le_refl _)]
end
end Go.Proofs.Ytjhohnbdhopllaa.HL
end
section
namespace Go.Proofs.Ytjhohnbdhopllaa.HL
open Go
def loW (W : Int) : Int := W % 18446744073709551616
def hiW (W : Int) : Int := (W / 18446744073709551616 + 9223372036854775808) % 18446744073709551616 - 9223372036854775808
def fitsI (W : Int) : Prop := -9223372036854775808 ≤ W ∧ W ≤ 9223372036854775807
instance (W : Int) : Decidable (fitsI W) := inferInstanceAs (Decidable (_ ∧ _))
def okI (W : Int) : Int := if fitsI W then W else 0
def okE (W : Int) : Option Int := if fitsI W then none else some 7
end Go.Proofs.Ytjhohnbdhopllaa.HL
end
section
namespace Go.Proofs.Ytjhohnbdhopllaa.HL
open Go Go.Proofs
set_option linter.unusedSimpArgs false
set_option linter.unusedVariables false
attribute [local irreducible] Lt Lq CW OW TW CallH
theorem take_snoc1 {l : List Int} {k : Nat} (h : k < l.length) : l.take (k + 1) = l.take k ++ [l.getD k 0] := by
  rw [List.take_add_one, List.getElem?_eq_getElem h, List.getD_eq_getElem?_getD, List.getElem?_eq_getElem h]; rfl
def cmpI (a b : Int) : Int := if a < b then -1 else if b < a then 1 else 0
set_option maxRecDepth 100000 in
set_option maxHeartbeats 1000000 in
theorem isnan_ok (H : Hp) (n : Int) : CallH Try.prog 69 #[.int .i64 n] H (fun v H' => v = .bool false ∧ H' = H) := by
 refine zaB (l := [_]) (rl := [.tmp 2]) (n := 6) Try.func69 rfl rfl rfl rfl rfl ?_
 simp only [envOf, Nat.reduceAdd]
 refine zad (fun K1 hK1 => ?_)
 refine zab ?_
 refine zao rfl ?_
 refine zae ?_
 try simp only [Ex.thnH, Ex.inBlockH, ↓reduceIte, Nat.reduceEqDiff]
 refine hK1 _ _ ?_; try clear hK1 K1
 refine zad (fun K2 hK2 => ?_)
 refine zab ?_
 refine zag rfl ?_
 refine zag rfl ?_
 refine zac (fun K hK r => ?_)
 simp (disch := (first | omega | decide)) only [zaI, zaM, b_neq, zau, zaw, zat, zax, zas, zay, Bool.not_true, Bool.not_false, eX, ↓reduceIte, Nat.reduceEqDiff, Int.reduceToNat]
 refine hK _ _ ?_; clear hK K
 refine zao rfl ?_
 refine zae ?_
 try simp only [Ex.thnH, Ex.inBlockH, ↓reduceIte, Nat.reduceEqDiff]
 refine hK2 _ _ ?_; try clear hK2 K2
 refine zaV ?_
 try simp only [Ex.thnH, Ex.inBlockH, ↓reduceIte, Nat.reduceEqDiff]
 refine ⟨[_], ⟨rfl, trivial⟩, _, Le.refl _, ?_, rfl⟩
 first | rfl | (simp; done)
set_option maxRecDepth 100000 in
set_option maxHeartbeats 1000000 in
theorem compare_ok (H : Hp) (a b : Int) : CallH Try.prog 61 #[.int .i64 a, .int .i64 b] H (fun v H' => v = .int .i64 (cmpI a b) ∧ H' = H) := by
 refine zaB (l := [_, _]) (rl := [.tmp 4]) (n := 20) Try.func61 rfl rfl rfl rfl rfl ?_
 simp only [envOf, Nat.reduceAdd]
 refine zad (fun K1 hK1 => ?_)
 refine zab ?_
 refine zao rfl ?_
 refine zae ?_
 try simp only [Ex.thnH, Ex.inBlockH, ↓reduceIte, Nat.reduceEqDiff]
 refine hK1 _ _ ?_; try clear hK1 K1
 refine zad (fun K2 hK2 => ?_)
 refine zab ?_
 refine zag rfl ?_
 refine zac (fun K hK r => ?_)
 simp only [zaQ _ bd69, List.map_toArray, List.map_cons, List.map_nil, eX, ↓reduceIte, Nat.reduceEqDiff, Int.reduceToNat]
 refine (isnan_ok _ a).mono ?_
 rintro v H' ⟨rfl, rfl⟩
 try simp only [eX, ↓reduceIte, Nat.reduceEqDiff, Int.reduceToNat]
 refine hK _ _ ?_; clear hK K
 refine zao rfl ?_
 refine zae ?_
 try simp only [Ex.thnH, Ex.inBlockH, ↓reduceIte, Nat.reduceEqDiff]
 refine hK2 _ _ ?_; try clear hK2 K2
 refine zad (fun K3 hK3 => ?_)
 refine zab ?_
 refine zag rfl ?_
 refine zac (fun K hK r => ?_)
 simp only [zaQ _ bd69, List.map_toArray, List.map_cons, List.map_nil, eX, ↓reduceIte, Nat.reduceEqDiff, Int.reduceToNat]
 refine (isnan_ok _ b).mono ?_
 rintro v H' ⟨rfl, rfl⟩
 try simp only [eX, ↓reduceIte, Nat.reduceEqDiff, Int.reduceToNat]
 refine hK _ _ ?_; clear hK K
 refine zao rfl ?_
 refine zae ?_
 try simp only [Ex.thnH, Ex.inBlockH, ↓reduceIte, Nat.reduceEqDiff]
 refine hK3 _ _ ?_; try clear hK3 K3
 refine zad (fun K4 hK4 => ?_)
 refine zad (fun K5 hK5 => ?_)
 refine zab ?_
 refine zag rfl ?_
 refine zae ?_
 try simp only [Ex.thnH, Ex.inBlockH, ↓reduceIte, Nat.reduceEqDiff]
 refine hK5 _ _ ?_; try clear hK5 K5
 refine zaH (fun r => rfl) (fun c11 => ?_) (fun c11 => ?_)
 ·exfalso; exact cnA c11
 refine zaL ?_
 try simp only [Ex.thnH, Ex.inBlockH, ↓reduceIte, Nat.reduceEqDiff]
 refine hK4 _ _ ?_; try clear hK4 K4
 refine zad (fun K6 hK6 => ?_)
 refine zad (fun K7 hK7 => ?_)
 refine zab ?_
 refine zag rfl ?_
 refine zae ?_
 try simp only [Ex.thnH, Ex.inBlockH, ↓reduceIte, Nat.reduceEqDiff]
 refine hK7 _ _ ?_; try clear hK7 K7
 refine zaH (fun r => rfl) (fun c13 => ?_) (fun c13 => ?_)
 ·exfalso; exact cnA c13
 refine zaL ?_
 try simp only [Ex.thnH, Ex.inBlockH, ↓reduceIte, Nat.reduceEqDiff]
 refine hK6 _ _ ?_; try clear hK6 K6
 refine zad (fun K8 hK8 => ?_)
 refine zad (fun K9 hK9 => ?_)
 refine zab ?_
 refine zag rfl ?_
 refine zag rfl ?_
 refine zac (fun K hK r => ?_)
 simp (disch := (first | omega | decide)) only [zaI, zaM, b_lss, zau, zaw, zat, zax, zas, zay, Bool.not_true, Bool.not_false, eX, ↓reduceIte, Nat.reduceEqDiff, Int.reduceToNat]
 refine hK _ _ ?_; clear hK K
 refine zae ?_
 try simp only [Ex.thnH, Ex.inBlockH, ↓reduceIte, Nat.reduceEqDiff]
 refine hK9 _ _ ?_; try clear hK9 K9
 refine zaH (fun r => rfl) (fun c16 => ?_) (fun c16 => ?_)
 ·first
  |(exfalso; exact cnA c16; done)
  |skip
   (try simp only [decide_eq_true_eq, decide_eq_false_iff_not, Bool.not_eq_true, Bool.not_eq_false, Bool.and_eq_true, Bool.or_eq_true, Bool.or_eq_false_iff, Bool.not_eq_eq_eq_not, Bool.not_true, Bool.not_false] at c16)
   refine zad (fun K10 hK10 => ?_)
   refine zab ?_
   refine zao rfl ?_
   refine zae ?_
   try simp only [Ex.thnH, Ex.inBlockH, ↓reduceIte, Nat.reduceEqDiff]
   refine hK10 _ _ ?_; try clear hK10 K10
   refine zaV ?_
   try simp only [Ex.thnH, Ex.inBlockH, ↓reduceIte, Nat.reduceEqDiff]
   refine ⟨[_], ⟨rfl, trivial⟩, _, Le.refl _, ?_, rfl⟩
   show Value.int _ _ = Value.int _ _
   congr 1
   unfold cmpI
   rw [if_pos (by omega)]
 ·first
  |(exfalso; exact cnA c16; done)
  |skip
   (try simp only [decide_eq_true_eq, decide_eq_false_iff_not, Bool.not_eq_true, Bool.not_eq_false, Bool.and_eq_true, Bool.or_eq_true, Bool.or_eq_false_iff, Bool.not_eq_eq_eq_not, Bool.not_true, Bool.not_false] at c16)
   refine zaL ?_
   try simp only [Ex.thnH, Ex.inBlockH, ↓reduceIte, Nat.reduceEqDiff]
   refine hK8 _ _ ?_; try clear hK8 K8
   refine zad (fun K11 hK11 => ?_)
   refine zad (fun K12 hK12 => ?_)
   refine zab ?_
   refine zag rfl ?_
   refine zag rfl ?_
   refine zac (fun K hK r => ?_)
   simp (disch := (first | omega | decide)) only [zaI, zaM, b_gtr, zau, zaw, zat, zax, zas, zay, Bool.not_true, Bool.not_false, eX, ↓reduceIte, Nat.reduceEqDiff, Int.reduceToNat]
   refine hK _ _ ?_; clear hK K
   refine zae ?_
   try simp only [Ex.thnH, Ex.inBlockH, ↓reduceIte, Nat.reduceEqDiff]
   refine hK12 _ _ ?_; try clear hK12 K12
   refine zaH (fun r => rfl) (fun c19 => ?_) (fun c19 => ?_)
   ·first
    |(exfalso; exact cnA c19; done)
    |skip
     (try simp only [decide_eq_true_eq, decide_eq_false_iff_not, Bool.not_eq_true, Bool.not_eq_false, Bool.and_eq_true, Bool.or_eq_true, Bool.or_eq_false_iff, Bool.not_eq_eq_eq_not, Bool.not_true, Bool.not_false] at c19)
     refine zad (fun K13 hK13 => ?_)
     refine zab ?_
     refine zao rfl ?_
     refine zae ?_
     try simp only [Ex.thnH, Ex.inBlockH, ↓reduceIte, Nat.reduceEqDiff]
     refine hK13 _ _ ?_; try clear hK13 K13
     refine zaV ?_
     try simp only [Ex.thnH, Ex.inBlockH, ↓reduceIte, Nat.reduceEqDiff]
     refine ⟨[_], ⟨rfl, trivial⟩, _, Le.refl _, ?_, rfl⟩
     show Value.int _ _ = Value.int _ _
     congr 1
     unfold cmpI
     rw [if_neg (by omega), if_pos (by omega)]
   ·first
    |(exfalso; exact cnA c19; done)
    |skip
     (try simp only [decide_eq_true_eq, decide_eq_false_iff_not, Bool.not_eq_true, Bool.not_eq_false, Bool.and_eq_true, Bool.or_eq_true, Bool.or_eq_false_iff, Bool.not_eq_eq_eq_not, Bool.not_true, Bool.not_false] at c19)
     refine zaL ?_
     try simp only [Ex.thnH, Ex.inBlockH, ↓reduceIte, Nat.reduceEqDiff]
     refine hK11 _ _ ?_; try clear hK11 K11
     refine zad (fun K14 hK14 => ?_)
     refine zab ?_
     refine zao rfl ?_
     refine zae ?_
     try simp only [Ex.thnH, Ex.inBlockH, ↓reduceIte, Nat.reduceEqDiff]
     refine hK14 _ _ ?_; try clear hK14 K14
     refine zaV ?_
     try simp only [Ex.thnH, Ex.inBlockH, ↓reduceIte, Nat.reduceEqDiff]
     refine ⟨[_], ⟨rfl, trivial⟩, _, Le.refl _, ?_, rfl⟩
     show Value.int _ _ = Value.int _ _
     congr 1
     unfold cmpI
     rw [if_neg (by omega), if_neg (by omega)]
def orI : List Int → Int
  | [] => 0
  | x :: r => if x = 0 then orI r else x
theorem orI_zero (l : List Int) (h : ∀ y ∈ l, y = 0) : orI l = 0 := by
  induction l with
  | nil => rfl
  | cons y l ih => rw [orI, if_pos (h y (by simp))]; exact ih (fun z hz => h z (by simp [hz]))
theorem orI_at (l : List Int) (k : Nat) (hk : k < l.length) (h : ∀ y ∈ l.take k, y = 0) (hx : l.getD k 0 ≠ 0) : orI l = l.getD k 0 := by
  induction l generalizing k with
  | nil => simp at hk
  | cons y l ih =>
    cases k with
    | zero => rw [orI, if_neg (by simpa using hx)]; rfl
    | succ k =>
      rw [orI, if_pos (h y (by simp))]
      exact ih k (by simpa using hk) (fun z hz => h z (by simp [hz])) (by simpa using hx)
set_option maxRecDepth 100000 in
set_option maxHeartbeats 1000000 in
theorem cmpor_ok (H : Hp) (a : Option Addr) (cap : Nat) (l : List Int) (hv : Holds H 1 (.slice a l.length cap) l.length (i64s l)) (hl : l.length ≤ 1000000) : CallH Try.prog 60 #[.slice a l.length cap] H (fun v H' => v = .int .i64 (orI l) ∧ H' = H) := by
 refine zaB (l := [_]) (rl := [.tmp 2]) (n := 18) Try.func60 rfl rfl rfl rfl rfl ?_
 simp only [envOf, Nat.reduceAdd]
 refine zad (fun K1 hK1 => ?_)
 refine zab ?_
 refine zao rfl ?_
 refine zae ?_
 try simp only [Ex.thnH, Ex.inBlockH, ↓reduceIte, Nat.reduceEqDiff]
 refine hK1 _ _ ?_; try clear hK1 K1
 refine zad (fun K2 hK2 => ?_)
 refine zab ?_
 refine zao rfl ?_
 refine zae ?_
 try simp only [Ex.thnH, Ex.inBlockH, ↓reduceIte, Nat.reduceEqDiff]
 refine hK2 _ _ ?_; try clear hK2 K2
 refine zad (fun K3 hK3 => ?_)
 refine zad (fun K4 hK4 => ?_)
 refine zab ?_
 refine zag rfl ?_
 refine zac (fun K hK r => ?_)
 simp only [zaC, l_len, List.map_toArray, List.map_cons, List.map_nil, zaF _ _ Try.underlying55, eX, ↓reduceIte, Nat.reduceEqDiff, Int.reduceToNat]
 refine hK _ _ ?_; clear hK K
 refine zag rfl ?_
 refine zae ?_
 try simp only [Ex.thnH, Ex.inBlockH, ↓reduceIte, Nat.reduceEqDiff]
 refine hK4 _ _ ?_; try clear hK4 K4
 refine zaP ?_
 refine CW_loop (fun m e H_ => ∃ k : Nat, k ≤ l.length ∧ m = l.length - k ∧ (∀ y ∈ l.take k, y = 0) ∧ H_ = H ∧ Env.has [(3, .int .i64 0), (6, .slice a l.length cap), (7, .int .i64 l.length), (8, .int .i64 k)] e) (l.length) ?_ ?_
 ·skip
  exact ⟨0, by omega, by omega, (fun y hy => by simp at hy), rfl, rfl, rfl, rfl, rfl, trivial⟩
 intro m_ e_ H_ hI_
 obtain ⟨k, hk, rfl, hz, hH_, he⟩ := hI_
 have hH_ := hH_.symm; subst hH_
 refine CW_env he.sub ?_; clear he e_
 refine zad (fun K5 hK5 => ?_)
 refine zab ?_
 refine zac (fun K hK r => ?_)
 simp (disch := (first | omega | decide)) only [zaI, zaM, b_lss, zau, zaw, zat, zax, zas, zay, Bool.not_true, Bool.not_false, eX, ↓reduceIte, Nat.reduceEqDiff, Int.reduceToNat]
 refine hK _ _ ?_; clear hK K
 refine zae ?_
 try simp only [Ex.thnH, Ex.inBlockH, ↓reduceIte, Nat.reduceEqDiff]
 refine hK5 _ _ ?_; try clear hK5 K5
 refine zad (fun K6 hK6 => ?_)
 refine zaH (fun r => rfl) (fun c9 => ?_) (fun c9 => ?_)
 ·first
  |(exfalso; exact cnA c9; done)
  |skip
   (try simp only [decide_eq_true_eq, decide_eq_false_iff_not, Bool.not_eq_true, Bool.not_eq_false, Bool.and_eq_true, Bool.or_eq_true, Bool.or_eq_false_iff, Bool.not_eq_eq_eq_not, Bool.not_true, Bool.not_false] at c9)
   obtain ⟨bw, ow, qw, Tw, Fw, rfl, hbw, hsw, atw⟩ := hv.at (by omega)
   refine zaL ?_
   try simp only [Ex.thnH, Ex.inBlockH, ↓reduceIte, Nat.reduceEqDiff]
   refine hK6 _ _ ?_; try clear hK6 K6
   refine zad (fun K7 hK7 => ?_)
   refine zaP ?_
   refine zad (fun K8 hK8 => ?_)
   refine zab ?_
   refine zac (fun K hK r => ?_)
   simp only [zav, eX, ↓reduceIte, Nat.reduceEqDiff, Int.reduceToNat]
   refine Lt_indexS Try.underlying55 sz3 ixA ixA ?_
   try simp only [zaA, Nat.mul_one, Nat.zero_add, Int.reduceToNat]
   try simp only [eX, ↓reduceIte, Nat.reduceEqDiff, Int.reduceToNat]
   refine hK _ _ ?_; clear hK K
   refine zac (fun K hK r => ?_)
   simp only [zar, eX, ↓reduceIte, Nat.reduceEqDiff, Int.reduceToNat]
   refine zak Try.underlying3 rfl hbA (v := .int .i64 (l.getD k 0)) (by first | exact ints_at atw rfl _ (by omega) | (simp only [Int.toNat_natCast, Nat.mul_one]; exact ints_at atw rfl _ (by omega))) ?_
   refine hK _ _ ?_; clear hK K
   refine zao rfl ?_
   refine zae ?_
   try simp only [Ex.thnH, Ex.inBlockH, ↓reduceIte, Nat.reduceEqDiff]
   refine hK8 _ _ ?_; try clear hK8 K8
   refine zad (fun K9 hK9 => ?_)
   refine zab ?_
   refine zag rfl ?_
   refine zag rfl ?_
   refine zac (fun K hK r => ?_)
   simp (disch := (first | omega | decide)) only [zaI, zaM, b_neq, zau, zaw, zat, zax, zas, zay, Bool.not_true, Bool.not_false, eX, ↓reduceIte, Nat.reduceEqDiff, Int.reduceToNat]
   refine hK _ _ ?_; clear hK K
   refine zae ?_
   try simp only [Ex.thnH, Ex.inBlockH, ↓reduceIte, Nat.reduceEqDiff]
   refine hK9 _ _ ?_; try clear hK9 K9
   refine zaH (fun r => rfl) (fun c14 => ?_) (fun c14 => ?_)
   ·first
    |(exfalso; exact cnA c14; done)
    |skip
     (try simp only [decide_eq_true_eq, decide_eq_false_iff_not, Bool.not_eq_true, Bool.not_eq_false, Bool.and_eq_true, Bool.or_eq_true, Bool.or_eq_false_iff, Bool.not_eq_eq_eq_not, Bool.not_true, Bool.not_false] at c14)
     refine zad (fun K10 hK10 => ?_)
     refine zab ?_
     refine zag rfl ?_
     refine zao rfl ?_
     refine zae ?_
     try simp only [Ex.thnH, Ex.inBlockH, ↓reduceIte, Nat.reduceEqDiff]
     refine hK10 _ _ ?_; try clear hK10 K10
     refine zaV ?_
     try simp only [Ex.thnH, Ex.inBlockH, ↓reduceIte, Nat.reduceEqDiff]
     refine ⟨[_], ⟨rfl, trivial⟩, _, Le.refl _, ?_, rfl⟩
     show Value.int _ _ = Value.int _ _
     rw [orI_at l k (by omega) hz c14]
   ·first
    |(exfalso; exact cnA c14; done)
    |skip
     (try simp only [decide_eq_true_eq, decide_eq_false_iff_not, Bool.not_eq_true, Bool.not_eq_false, Bool.and_eq_true, Bool.or_eq_true, Bool.or_eq_false_iff, Bool.not_eq_eq_eq_not, Bool.not_true, Bool.not_false] at c14)
     refine zaL ?_
     try simp only [Ex.thnH, Ex.inBlockH, ↓reduceIte, Nat.reduceEqDiff]
     refine hK7 _ _ ?_; try clear hK7 K7
     refine zab ?_
     refine zac (fun K hK r => ?_)
     simp (disch := (first | omega | decide)) only [zaI, zaM, b_add, zaG, zaK, zaJ, zaR, eX, ↓reduceIte, Nat.reduceEqDiff, Int.reduceToNat]
     refine hK _ _ ?_; clear hK K
     refine zag rfl ?_
     refine zae ?_
     try simp only [Ex.thnH, Ex.inBlockH, ↓reduceIte, Nat.reduceEqDiff]
     refine ⟨l.length - (k + 1), by omega, k + 1, by omega, rfl, ?_, rfA, rfl, rfl, rfl, rfl, trivial⟩
     intro y hy
     rw [take_snoc1 (by omega)] at hy
     rcases List.mem_append.1 hy with h | h
     ·exact hz y h
     ·simp only [List.mem_singleton] at h; rw [h]; exact c14
 ·first
  |(exfalso; exact cnA c9; done)
  |skip
   (try simp only [decide_eq_true_eq, decide_eq_false_iff_not, Bool.not_eq_true, Bool.not_eq_false, Bool.and_eq_true, Bool.or_eq_true, Bool.or_eq_false_iff, Bool.not_eq_eq_eq_not, Bool.not_true, Bool.not_false] at c9)
   obtain rfl : k = l.length := by omega
   rw [List.take_length] at hz
   refine CW_exit ?_
   try simp only [Ex.thnH, Ex.inBlockH, ↓reduceIte, Nat.reduceEqDiff]
   refine hK3 _ _ ?_; try clear hK3 K3
   refine zad (fun K11 hK11 => ?_)
   refine zab ?_
   refine zag rfl ?_
   refine zao rfl ?_
   refine zae ?_
   try simp only [Ex.thnH, Ex.inBlockH, ↓reduceIte, Nat.reduceEqDiff]
   refine hK11 _ _ ?_; try clear hK11 K11
   refine zaV ?_
   try simp only [Ex.thnH, Ex.inBlockH, ↓reduceIte, Nat.reduceEqDiff]
   refine ⟨[_], ⟨rfl, trivial⟩, _, Le.refl _, ?_, rfl⟩
   show Value.int _ _ = Value.int _ _
   rw [orI_zero l hz]
end Go.Proofs.Ytjhohnbdhopllaa.HL
end
section
namespace Go.Proofs.Ytjhohnbdhopllaa.HL
open Go
set_option linter.unusedSimpArgs false
set_option linter.unusedVariables false
structure En where
  v : Int
  k : Int
deriving DecidableEq, Inhabited
abbrev En.c (e : En) : List Value := [.int .i64 e.v, .int .i64 e.k]
abbrev ens (l : List En) : List Value := l.flatMap En.c
theorem En.len (e : En) : e.c.length = 2 := rfl
def En.lt (a b : En) : Prop := a.v < b.v ∨ (a.v = b.v ∧ a.k < b.k)
instance (a b : En) : Decidable (a.lt b) := by unfold En.lt; exact inferInstance
theorem En.lt_trans {a b c : En} (h : a.lt b) (k : b.lt c) : a.lt c := by unfold En.lt at *; omega
theorem En.lt_irrefl (a : En) : ¬ a.lt a := by unfold En.lt; omega
theorem En.tri (a b : En) : a.lt b ∨ a = b ∨ b.lt a := by
  unfold En.lt
  by_cases h1 : a.v = b.v
  · by_cases h2 : a.k = b.k
    · right; left; cases a; cases b; simp_all
    · omega
  · omega
def posE : List En → En → Nat
  | [], _ => 0
  | x :: r, e => if x.lt e then posE r e + 1 else 0
theorem posE_le : ∀ (l : List En) (e : En), posE l e ≤ l.length
  | [], _ => Nat.le_refl _
  | x :: r, e => by
    unfold posE
    split
    · have := posE_le r e; simp; omega
    · exact Nat.zero_le _
abbrev Rise (l : List En) : Prop := l.Pairwise En.lt
theorem posE_below : ∀ {l : List En} {e : En} {j : Nat}, j < posE l e → (l.getD j default).lt e
  | [], e, j, h => by simp [posE] at h
  | x :: r, e, 0, h => by
    unfold posE at h
    split at h
    · rename_i hx; exact hx
    · omega
  | x :: r, e, j + 1, h => by
    unfold posE at h
    split at h
    · exact posE_below (l := r) (by omega)
    · omega
theorem posE_above : ∀ {l : List En} {e : En} {j : Nat}, Rise l → posE l e ≤ j → j < l.length → ¬ (l.getD j default).lt e
  | [], e, j, _, _, h => by simp at h
  | x :: r, e, 0, hr, h, _ => by
    unfold posE at h
    split at h
    · omega
    · rename_i hx; exact hx
  | x :: r, e, j + 1, hr, h, hj => by
    have hr' := List.pairwise_cons.1 hr
    have hj' : j < r.length := by simpa using hj
    unfold posE at h
    split at h
    · exact posE_above (l := r) hr'.2 (by omega) hj'
    · rename_i hx
      intro hlt
      have hm : r.getD j default ∈ r := by rw [List.getD_eq_getElem?_getD, List.getElem?_eq_getElem hj']; exact List.getElem_mem hj'
      exact hx (En.lt_trans (hr'.1 _ hm) hlt)
def cmpE (a b : En) : Int := if a.v < b.v then -1 else if b.v < a.v then 1 else if a.k < b.k then -1 else if b.k < a.k then 1 else 0
theorem cmpE_neg {a b : En} : cmpE a b < 0 ↔ a.lt b := by
  unfold cmpE En.lt
  split
  · constructor <;> omega
  · split
    · constructor <;> omega
    · split
      · constructor <;> omega
      · split
        · constructor <;> omega
        · constructor <;> omega
theorem cmpE_zero {a b : En} : cmpE a b = 0 ↔ a = b := by
  constructor
  · intro h
    unfold cmpE at h
    split at h
    · omega
    · split at h
      · omega
      · split at h
        · omega
        · split at h
          · omega
          · cases a; cases b; simp at *; omega
  · rintro rfl
    unfold cmpE
    rw [if_neg (by omega), if_neg (by omega), if_neg (by omega), if_neg (by omega)]
theorem ens_row {l : List En} {i : Nat} (h : i < l.length) : rowAt (ens l) 2 i = (l.getD i default).c.toArray := by
  unfold rowAt
  congr 1
  induction l generalizing i with
  | nil => simp at h
  | cons x r ih =>
    cases i with
    | zero => rfl
    | succ i =>
      have e : (ens (x :: r)).drop ((i + 1) * 2) = (ens r).drop (i * 2) := by
        show ((x.c ++ ens r)).drop _ = _
        rw [show (i + 1) * 2 = 2 + i * 2 by omega, ← List.drop_drop]
        rfl
      rw [e, ih (by simpa using h)]
      rfl
theorem ens_len (l : List En) : (ens l).length = l.length * 2 := by
  induction l with
  | nil => rfl
  | cons x r ih => show (x.c ++ ens r).length = _; rw [List.length_append, ih, List.length_cons]; simp; omega
theorem ens_plain (l : List En) : PlainL (ens l) := fun v hv => by
  obtain ⟨x, _, hx⟩ := List.mem_flatMap.1 hv
  simp at hx
  rcases hx with rfl | rfl <;> rfl
theorem ens_take (l : List En) (i : Nat) : (ens l).take (i * 2) = ens (l.take i) := by
  induction l generalizing i with
  | nil => simp
  | cons x r ih =>
    cases i with
    | zero => simp
    | succ i =>
      show (x.c ++ ens r).take _ = x.c ++ ens (r.take i)
      rw [← ih i, List.take_append, show (i + 1) * 2 - x.c.length = i * 2 from by rw [En.len]; omega, List.take_of_length_le (by rw [En.len]; omega)]
theorem ens_drop (l : List En) (i : Nat) : (ens l).drop (i * 2) = ens (l.drop i) := by
  induction l generalizing i with
  | nil => simp
  | cons x r ih =>
    cases i with
    | zero => simp
    | succ i =>
      show (x.c ++ ens r).drop _ = ens (r.drop i)
      rw [← ih i, List.drop_append, show (i + 1) * 2 - x.c.length = i * 2 from by rw [En.len]; omega, List.drop_eq_nil_of_le (by rw [En.len]; omega), List.nil_append]
theorem ens_app (a b : List En) : ens (a ++ b) = ens a ++ ens b := by simp [ens]
def putE (l : List En) (e : En) : List En := l.take (posE l e) ++ e :: l.drop (posE l e)
def outE (l : List En) (i : Nat) : List En := l.take i ++ l.drop (i + 1)
end Go.Proofs.Ytjhohnbdhopllaa.HL
end
section
namespace Go.Proofs.Ytjhohnbdhopllaa.HL
open Go
set_option linter.unusedSimpArgs false
set_option linter.unusedVariables false
def KeysU (es : List MapEntry) : Prop := es.Pairwise fun a b => a.key ≠ b.key
theorem getE_none_iff {es : List MapEntry} (h : IntKeys es) {k : Int} : getE es k = none ↔ ∀ e ∈ es, e.key ≠ .int .i64 k := by
  induction es with
  | nil => simp [getE]
  | cons e r ih =>
    obtain ⟨a, ha⟩ := h e (by simp)
    have h' : IntKeys r := fun x hx => h x (by simp [hx])
    simp only [getE, ha]
    by_cases hk : a = k
    · subst hk
      rw [if_pos rfl]
      constructor
      · intro hc; cases hc
      · intro hc; exact absurd ha (hc e (by simp))
    · rw [if_neg hk, ih h']
      constructor
      · intro hc x hx
        rcases List.mem_cons.1 hx with rfl | hx
        · rw [ha]; intro hh; injection hh with _ hh; exact hk hh
        · exact hc x hx
      · intro hc x hx; exact hc x (by simp [hx])
theorem KeysU.push {es : List MapEntry} (h : KeysU es) (hi : IntKeys es) {k : Int} (hn : getE es k = none) (v : Value) (b : Nat) : KeysU (es ++ [{ key := .int .i64 k, val := v, born := b }]) := by
  unfold KeysU
  rw [List.pairwise_append]
  refine ⟨h, by simp, fun x hx y hy => ?_⟩
  simp only [List.mem_singleton] at hy
  subst hy
  exact (getE_none_iff hi).1 hn x hx
theorem KeysU.modify {es : List MapEntry} (h : KeysU es) {k : Int} {v : Value} {j : Nat} {e : MapEntry} (he : es[j]? = some e) (hk : e.key = .int .i64 k) : KeysU (es.modify j (fun e => { e with key := .int .i64 k, val := v })) := by
  have hm : (es.modify j (fun e => { e with key := .int .i64 k, val := v })).map (·.key) = es.map (·.key) := by
    apply List.ext_getElem?
    intro i
    simp only [List.getElem?_map, List.getElem?_modify]
    by_cases hij : j = i
    · subst hij
      rw [he]
      simp [hk]
    · simp [hij]
  unfold KeysU at *
  have h1 : (es.map (·.key)).Pairwise (· ≠ ·) := List.pairwise_map.2 h
  rw [← hm] at h1
  exact List.pairwise_map.1 h1
theorem getE_erase {es : List MapEntry} (hi : IntKeys es) (hu : KeysU es) {k : Int} {j : Nat} {e : MapEntry} (he : es[j]? = some e) (hk : e.key = .int .i64 k) (x : Int) : getE (es.eraseIdx j) x = if x = k then none else getE es x := by
  induction es generalizing j with
  | nil => simp at he
  | cons a r ih =>
    have hi' : IntKeys r := fun y hy => hi y (by simp [hy])
    have hu' := List.pairwise_cons.1 hu
    obtain ⟨n, hn⟩ := hi a (by simp)
    cases j with
    | zero =>
      simp at he
      subst he
      rw [List.eraseIdx_cons_zero]
      have hnk : n = k := by rw [hn] at hk; injection hk
      by_cases hx : x = k
      · rw [if_pos hx, hx]
        refine (getE_none_iff hi').2 (fun y hy hc => hu'.1 y hy ?_)
        rw [hk, hc]
      · rw [if_neg hx]
        simp only [getE, hn]
        rw [if_neg (by omega)]
    | succ j =>
      rw [List.eraseIdx_cons_succ]
      have he' : r[j]? = some e := by simpa using he
      have ih' := ih hi' hu'.2 he'
      simp only [getE, hn]
      by_cases hx : n = x
      · rw [if_pos hx, if_pos hx, if_neg]
        intro hxk
        have hm : e ∈ r := List.mem_of_getElem? he'
        refine hu'.1 e hm ?_
        rw [hn, hk, hx, hxk]
      · rw [if_neg hx, if_neg hx]; exact ih'
theorem KeysU.erase {es : List MapEntry} (h : KeysU es) (j : Nat) : KeysU (es.eraseIdx j) := List.Pairwise.sublist (List.eraseIdx_sublist es j) h
theorem IntKeys.erase {es : List MapEntry} (h : IntKeys es) (j : Nat) : IntKeys (es.eraseIdx j) := fun e he => h e (List.mem_of_mem_eraseIdx he)
section
variable {P : Program} {H : Hp}
theorem Lt_lookup2 {t kt et : TypeId} (hu : P.underlying t = some (.map kt et)) (hk : P.underlying kt = some (.int .i64)) {z : Value} (hz : zrOf P et = some (some z)) {m : Nat} {es : Array MapEntry} {c : Nat} (hm : H m = some (.map es c)) (hi : IntKeys es.toList) {k : Int} {K : Value → Hp → Prop}
    (h : K (.tuple #[(getE es.toList k).getD z, .bool (getE es.toList k).isSome]) H) : Lt P (Instr.lookup t (.map (some m)) (.int .i64 k) true) H K := by
  simp only [Instr.lookup, zaD, l_und, hu, zai]
  refine ⟨_, hm, rfl, ?_⟩
  simp only [l_pure', zaO, zaD]
  rw [l_checkInt kt hk]
  simp only [Instr.findKey, zaD, l_und, hk, zai]
  obtain ⟨r, h1, h2⟩ := findNow_int es.toList k 0 hi
  rw [h1]
  rcases h2 with ⟨rfl, h3⟩ | ⟨j, v, rfl, h3, _⟩
  · rw [h3] at h
    simp only [zaO, zaD, l_zero, hz, zai]
    exact h
  · rw [h3] at h
    simp only [zaO, zaD]
    exact h
theorem Lt_mapUpdateU {t kt et : TypeId} (hu : P.underlying t = some (.map kt et)) (hk : P.underlying kt = some (.int .i64)) {m : Nat} {es : Array MapEntry} {c : Nat} (hm : H m = some (.map es c)) (hi : IntKeys es.toList) (hU : KeysU es.toList) {k : Int} {v : Value} {K : Unit → Hp → Prop}
    (h : ∀ (es' : Array MapEntry) (c' : Nat), IntKeys es'.toList → KeysU es'.toList → (∀ x, getE es'.toList x = if x = k then some v else getE es.toList x) → K () (H.upd m (.map es' c'))) : Lt P (Instr.mapUpdate t (.map (some m)) (.int .i64 k) v) H K := by
  simp only [Instr.mapUpdate, zaD, l_und, hu, zai]
  refine ⟨_, hm, rfl, ?_⟩
  simp only [l_pure', zaO, zaD]
  rw [l_checkInt kt hk]
  simp only [Instr.findKey, zaD, l_und, hk, zai]
  obtain ⟨r, h1, h2⟩ := findNow_int es.toList k 0 hi
  rw [h1]
  rcases h2 with ⟨rfl, h3⟩ | ⟨j, v', rfl, h3, hjl, ⟨e, h5, h6, h7⟩, h8⟩
  · simp only [zaO]
    refine ⟨_, hm, rfl, ?_⟩
    refine h _ _ ?_ ?_ ?_
    · intro e he
      simp at he
      rcases he with he | rfl
      · exact hi e (by simpa using he)
      · exact ⟨k, rfl⟩
    · simp only [Array.toList_push]; exact hU.push hi h3 v c
    · intro x
      simp only [Array.toList_push]
      exact getE_push es.toList k v c x hi h3
  · simp only [zaO, zaD, Nat.zero_add]
    have he : es[j]? = some e := by rw [← Array.getElem?_toList]; exact h5
    have hkt : Instr.keyThatStays (((es[j]?).map (·.key)).getD (.int .i64 k)) (.int .i64 k) = pure (.int .i64 k) := by
      rw [he]
      simp only [Option.map_some, Option.getD_some, h6, Instr.keyThatStays, Instr.sameBits, beq_self_eq_true, Bool.and_self, if_true]
    rw [hkt]
    simp only [zaO]
    refine ⟨_, hm, rfl, ?_⟩
    refine h _ _ ?_ ?_ ?_
    · simp only [Array.toList_modify]; exact keys_modify hi k v j
    · simp only [Array.toList_modify]; exact hU.modify h5 h6
    · intro x
      simp only [Array.toList_modify]
      exact getE_modify es.toList k v j x hi ⟨e, h5, h6⟩ h8
theorem Lt_deleteI {t kt et : TypeId} (hu : P.underlying t = some (.map kt et)) (hk : P.underlying kt = some (.int .i64)) (ty : TypeId) (ts : Array TypeId) (ht : ts[0]? = some t) {m : Nat} {es : Array MapEntry} {c : Nat} (hm : H m = some (.map es c)) (hi : IntKeys es.toList) (hU : KeysU es.toList) {k : Int} {K : Value → Hp → Prop}
    (h : ∀ (es' : Array MapEntry), IntKeys es'.toList → KeysU es'.toList → (∀ x, getE es'.toList x = if x = k then none else getE es.toList x) → K (.tuple #[]) (H.upd m (.map es' c))) : Lt P (Builtin.delete_ ts ty #[.map (some m), .int .i64 k]) H K := by
  simp only [Builtin.delete_, ht, List.getElem?_toArray, List.getElem?_cons_zero, List.getElem?_cons_succ, zaD, l_und, hu, zai]
  refine ⟨_, hm, rfl, ?_⟩
  simp only [l_pure', zaO, zaD]
  rw [l_checkInt kt hk]
  simp only [Instr.findKey, zaD, l_und, hk, zai]
  obtain ⟨r, h1, h2⟩ := findNow_int es.toList k 0 hi
  rw [h1]
  rcases h2 with ⟨rfl, h3⟩ | ⟨j, v', rfl, h3, hjl, ⟨e, h5, h6, h7⟩, h8⟩
  · simp only [zaO]
    refine ⟨_, hm, rfl, ?_⟩
    refine h _ hi hU (fun x => ?_)
    by_cases hx : x = k
    · rw [if_pos hx, hx, h3]
    · rw [if_neg hx]
  · simp only [zaO, zaD, Nat.zero_add]
    refine ⟨_, hm, rfl, ?_⟩
    have e1 : (es.eraseIdxIfInBounds j).toList = es.toList.eraseIdx j := by simp
    refine h _ (by rw [e1]; exact hi.erase j) (by rw [e1]; exact hU.erase j) (fun x => ?_)
    rw [e1]
    exact getE_erase hi hU h5 h6 x
end
end Go.Proofs.Ytjhohnbdhopllaa.HL
end
section
namespace Go.Proofs.Ytjhohnbdhopllaa.HL
open Go
set_option linter.unusedSimpArgs false
set_option linter.unusedVariables false
def lookV (l : List En) (k : Int) : Option Int := (l.find? (fun e => decide (e.k = k))).map En.v
def lookE (l : List En) (k : Int) : Option Value := (lookV l k).map (fun v => Value.int .i64 v)
abbrev Once (l : List En) : Prop := l.Pairwise (fun a b => a.k ≠ b.k)
structure GoodE (l : List En) : Prop where
  rise : Rise l
  once : Once l
theorem GoodE.nil : GoodE [] := ⟨List.Pairwise.nil, List.Pairwise.nil⟩
theorem Once.eq {l : List En} (h : Once l) {a b : En} (ha : a ∈ l) (hb : b ∈ l) (he : a.k = b.k) : a = b := by
  induction l with
  | nil => cases ha
  | cons x r ih =>
    obtain ⟨h1, h2⟩ := List.pairwise_cons.1 h
    rcases List.mem_cons.1 ha with rfl | ha'
    · rcases List.mem_cons.1 hb with rfl | hb'
      · rfl
      · exact absurd he (h1 _ hb')
    · rcases List.mem_cons.1 hb with rfl | hb'
      · exact absurd he.symm (h1 _ ha')
      · exact ih h2 ha' hb'
theorem lookV_some {l : List En} {k v : Int} (h : lookV l k = some v) : (⟨v, k⟩ : En) ∈ l := by
  unfold lookV at h
  cases hf : l.find? (fun e => decide (e.k = k)) with
  | none => rw [hf] at h; cases h
  | some e =>
    rw [hf] at h
    have h1 := List.mem_of_find?_eq_some hf
    have h2 := List.find?_some hf
    simp at h h2
    subst h; subst h2
    exact h1
theorem lookV_none {l : List En} {k : Int} (h : lookV l k = none) : ∀ e ∈ l, e.k ≠ k := by
  unfold lookV at h
  simp only [Option.map_eq_none_iff, List.find?_eq_none, decide_eq_true_eq] at h
  exact h
theorem lookV_iff {l : List En} (h : Once l) {k v : Int} : lookV l k = some v ↔ (⟨v, k⟩ : En) ∈ l := by
  refine ⟨lookV_some, fun hm => ?_⟩
  cases hl : lookV l k with
  | none => exact absurd rfl (lookV_none hl _ hm)
  | some w =>
    have := h.eq (lookV_some hl) hm rfl
    injection this with h1 h2
    rw [h1]
def outK (l : List En) (k : Int) : List En := l.filter (fun e => !decide (e.k = k))
theorem mem_outK {l : List En} {k : Int} {x : En} : x ∈ outK l k ↔ x ∈ l ∧ x.k ≠ k := by
  unfold outK; simp
theorem outK_no {l : List En} {k : Int} (x : En) (h : x ∈ outK l k) : x.k ≠ k := (mem_outK.1 h).2
theorem outK_of_no {l : List En} {k : Int} (h : ∀ e ∈ l, e.k ≠ k) : outK l k = l := by
  unfold outK
  rw [List.filter_eq_self]
  intro a ha
  simp [h a ha]
theorem outK_none {l : List En} {k : Int} (h : lookV l k = none) : outK l k = l := outK_of_no (lookV_none h)
theorem outE_sub (l : List En) (i : Nat) : ∀ x ∈ outE l i, x ∈ l := by
  unfold outE
  intro x hx
  rcases List.mem_append.1 hx with h | h
  · exact List.mem_of_mem_take h
  · exact List.mem_of_mem_drop h
theorem posE_in {l : List En} {e : En} (hr : Rise l) (he : e ∈ l) : posE l e < l.length ∧ l.getD (posE l e) default = e := by
  induction l with
  | nil => cases he
  | cons x r ih =>
    obtain ⟨h1, h2⟩ := List.pairwise_cons.1 hr
    unfold posE
    by_cases hx : x.lt e
    · rw [if_pos hx]
      rcases List.mem_cons.1 he with rfl | he'
      · exact absurd hx (En.lt_irrefl _)
      · obtain ⟨h3, h4⟩ := ih h2 he'
        refine ⟨by simp; omega, ?_⟩
        simpa using h4
    · rw [if_neg hx]
      rcases List.mem_cons.1 he with rfl | he'
      · exact ⟨by simp, by simp⟩
      · exact absurd (h1 _ he') hx
theorem outE_eq {l : List En} {e : En} (h : GoodE l) (he : e ∈ l) : outE l (posE l e) = outK l e.k := by
  obtain ⟨hr, ho⟩ := h
  induction l with
  | nil => cases he
  | cons x r ih =>
    obtain ⟨h1, h2⟩ := List.pairwise_cons.1 hr
    obtain ⟨h3, h4⟩ := List.pairwise_cons.1 ho
    unfold posE outK
    by_cases hx : x.lt e
    · rw [if_pos hx]
      rcases List.mem_cons.1 he with rfl | he'
      · exact absurd hx (En.lt_irrefl _)
      · have h5 := ih he' h2 h4
        have h6 : x.k ≠ e.k := h3 _ he'
        rw [List.filter_cons_of_pos (by simp [h6])]
        have e1 : outE (x :: r) (posE r e + 1) = x :: outE r (posE r e) := by unfold outE; simp
        rw [e1, h5]; rfl
    · rw [if_neg hx]
      rcases List.mem_cons.1 he with rfl | he'
      · rw [List.filter_cons_of_neg (by simp)]
        have e1 : outE (e :: r) 0 = r := by unfold outE; simp
        rw [e1]
        exact (outK_of_no (fun y hy => (h3 y hy).symm)).symm
      · exact absurd (h1 _ he') hx
theorem look_outK {l : List En} (h : GoodE l) {k x : Int} : lookV (outK l k) x = if x = k then none else lookV l x := by
  have ho : Once (outK l k) := h.once.sublist List.filter_sublist
  apply Option.ext
  intro v
  rw [lookV_iff ho, mem_outK]
  by_cases hx : x = k
  · rw [if_pos hx]; simp [hx]
  · rw [if_neg hx, lookV_iff h.once]; simp [hx]
theorem GoodE.outK {l : List En} (h : GoodE l) (k : Int) : GoodE (outK l k) := ⟨h.rise.sublist List.filter_sublist, h.once.sublist List.filter_sublist⟩
theorem putE_len (l : List En) (e : En) : (putE l e).length = l.length + 1 := by
  have := posE_le l e
  unfold putE
  rw [List.length_append, List.length_cons, List.length_take, List.length_drop]; omega
theorem putE_perm (l : List En) (e : En) : (putE l e).Perm (e :: l) := by
  unfold putE
  refine List.perm_middle.trans ?_
  rw [List.take_append_drop]
theorem mem_putE {l : List En} {e x : En} : x ∈ putE l e ↔ x = e ∨ x ∈ l := by
  rw [(putE_perm l e).mem_iff, List.mem_cons]
theorem posE_part {l : List En} (hr : Rise l) (e : En) : l.filter (fun x => decide (x.lt e)) = l.take (posE l e) ∧ l.filter (fun x => !decide (x.lt e)) = l.drop (posE l e) := by
  induction l with
  | nil => exact ⟨rfl, rfl⟩
  | cons x r ih =>
    obtain ⟨h1, h2⟩ := List.pairwise_cons.1 hr
    obtain ⟨h3, h4⟩ := ih h2
    unfold posE
    by_cases hx : x.lt e
    · rw [if_pos hx]
      rw [List.filter_cons_of_pos (by simp [hx]), List.filter_cons_of_neg (by simp [hx]), h3, h4]
      exact ⟨rfl, rfl⟩
    · rw [if_neg hx]
      have hn : ∀ y ∈ r, ¬ y.lt e := fun y hy hy2 => hx (En.lt_trans (h1 y hy) hy2)
      rw [List.filter_cons_of_neg (by simp [hx]), List.filter_cons_of_pos (by simp [hx])]
      refine ⟨?_, ?_⟩
      · rw [List.take_zero, List.filter_eq_nil_iff]
        intro y hy; simp [hn y hy]
      · rw [List.drop_zero, List.filter_eq_self.2]
        intro y hy; simp [hn y hy]
theorem GoodE.putE {l : List En} (h : GoodE l) {e : En} (hne : ∀ x ∈ l, x.k ≠ e.k) : GoodE (putE l e) := by
  obtain ⟨p1, p2⟩ := posE_part h.rise e
  refine ⟨?_, ?_⟩
  · unfold Go.Proofs.Ytjhohnbdhopllaa.HL.putE
    have hA : ∀ a ∈ l.take (posE l e), a.lt e := fun a ha => by
      rw [← p1] at ha; simpa using (List.mem_filter.1 ha).2
    have hB : ∀ b ∈ l.drop (posE l e), e.lt b := fun b hb => by
      rw [← p2] at hb
      obtain ⟨h1, h2⟩ := List.mem_filter.1 hb
      rcases En.tri b e with h3 | rfl | h3
      · simp [h3] at h2
      · exact absurd rfl (hne _ h1)
      · exact h3
    refine List.pairwise_append.2 ⟨h.rise.sublist (List.take_sublist _ _), List.pairwise_cons.2 ⟨hB, h.rise.sublist (List.drop_sublist _ _)⟩, fun a ha b hb => ?_⟩
    rcases List.mem_cons.1 hb with rfl | hb'
    · exact hA a ha
    · exact En.lt_trans (hA a ha) (hB b hb')
  · refine ((putE_perm l e).pairwise_iff (fun {a b} hab => Ne.symm hab)).2 ?_
    exact List.pairwise_cons.2 ⟨fun x hx => (hne x hx).symm, h.once⟩
theorem look_putE {l : List En} (h : GoodE l) {e : En} (hne : ∀ x ∈ l, x.k ≠ e.k) {x : Int} : lookV (putE l e) x = if x = e.k then some e.v else lookV l x := by
  apply Option.ext
  intro v
  rw [lookV_iff (h.putE hne).once, mem_putE]
  by_cases hx : x = e.k
  · rw [if_pos hx]
    constructor
    · rintro (rfl | hm)
      · rfl
      · exact absurd hx (hne _ hm)
    · intro hv
      injection hv with hv
      left; cases e; simp_all
  · rw [if_neg hx, lookV_iff h.once]
    constructor
    · rintro (rfl | hm)
      · exact absurd rfl hx
      · exact hm
    · exact .inr
theorem rise_ext {a b : List En} (ha : Rise a) (hb : Rise b) (h : ∀ x, x ∈ a ↔ x ∈ b) : a = b := by
  induction a generalizing b with
  | nil =>
    cases b with
    | nil => rfl
    | cons y s => exact absurd ((h y).2 (by simp)) (by simp)
  | cons x r ih =>
    cases b with
    | nil => exact absurd ((h x).1 (by simp)) (by simp)
    | cons y s =>
      obtain ⟨a1, a2⟩ := List.pairwise_cons.1 ha
      obtain ⟨b1, b2⟩ := List.pairwise_cons.1 hb
      have hxy : x = y := by
        rcases List.mem_cons.1 ((h x).1 (by simp)) with e | e
        · exact e
        · rcases List.mem_cons.1 ((h y).2 (by simp)) with e' | e'
          · exact e'.symm
          · exact absurd (En.lt_trans (a1 _ e') (b1 _ e)) (En.lt_irrefl _)
      subst hxy
      congr 1
      refine ih a2 b2 (fun z => ⟨fun hz => ?_, fun hz => ?_⟩)
      · rcases List.mem_cons.1 ((h z).1 (List.mem_cons_of_mem _ hz)) with rfl | e
        · exact absurd (a1 _ hz) (En.lt_irrefl _)
        · exact e
      · rcases List.mem_cons.1 ((h z).2 (List.mem_cons_of_mem _ hz)) with rfl | e
        · exact absurd (b1 _ hz) (En.lt_irrefl _)
        · exact e
end Go.Proofs.Ytjhohnbdhopllaa.HL
end
section
namespace Go.Proofs.Ytjhohnbdhopllaa.HL
open Go
set_option linter.unusedSimpArgs false
set_option linter.unusedVariables false
def En.ok (e : En) : Prop := (-9223372036854775808 ≤ e.v ∧ e.v ≤ 9223372036854775807) ∧ -9223372036854775808 ≤ e.k ∧ e.k ≤ 9223372036854775807
def OkE (l : List En) : Prop := ∀ e ∈ l, e.ok
def fromN (l : List En) (v : Int) : Nat := posE l ⟨v, -9223372036854775808⟩
def behN (l : List En) (v : Int) : Nat := if v = 9223372036854775807 then l.length else fromN l (v + 1)
def betE (l : List En) (lo hi : Int) : List En := l.filter (fun e => decide (lo ≤ e.v) && decide (e.v ≤ hi))
theorem betE_len (l : List En) (lo hi : Int) : (betE l lo hi).length ≤ l.length := List.length_filter_le _ _
theorem behN_le (l : List En) (v : Int) : behN l v ≤ l.length := by
  unfold behN fromN
  split
  · exact Nat.le_refl _
  · exact posE_le _ _
theorem betE_empty {l : List En} {lo hi : Int} (h : ¬ lo ≤ hi) : betE l lo hi = [] := by
  unfold betE
  rw [List.filter_eq_nil_iff]
  intro e _
  simp; omega
theorem betE_all {l : List En} (h : OkE l) : betE l (-9223372036854775808) 9223372036854775807 = l := by
  unfold betE
  rw [List.filter_eq_self]
  intro e he
  have := (h e he).1
  simp; omega
theorem from_part {l : List En} (hr : Rise l) (ho : OkE l) (v : Int) : l.filter (fun x => decide (x.v < v)) = l.take (fromN l v) ∧ l.filter (fun x => decide (v ≤ x.v)) = l.drop (fromN l v) := by
  have hq : ∀ x ∈ l, (x.lt ⟨v, -9223372036854775808⟩ ↔ x.v < v) := fun x hx => by
    have := ho x hx
    unfold En.ok at this
    unfold En.lt
    simp only
    omega
  obtain ⟨h1, h2⟩ := posE_part hr ⟨v, -9223372036854775808⟩
  unfold fromN
  rw [← h1, ← h2]
  refine ⟨List.filter_congr (fun x hx => ?_), List.filter_congr (fun x hx => ?_)⟩
  · exact (decide_eq_decide.2 (hq x hx)).symm
  · rw [← decide_not]
    refine decide_eq_decide.2 ?_
    rw [hq x hx]; omega
theorem fromN_count {l : List En} (hr : Rise l) (ho : OkE l) (v : Int) : fromN l v = (l.filter (fun x => decide (x.v < v))).length := by
  rw [(from_part hr ho v).1, List.length_take]
  have := posE_le l ⟨v, -9223372036854775808⟩
  unfold fromN; omega
theorem beh_part {l : List En} (hr : Rise l) (ho : OkE l) (v : Int) : l.filter (fun x => decide (x.v ≤ v)) = l.take (behN l v) := by
  unfold behN
  split
  · rename_i h; subst h
    rw [List.take_length, List.filter_eq_self]
    intro x hx
    have := (ho x hx).1
    simp; omega
  · rw [← (from_part hr ho (v + 1)).1]
    refine List.filter_congr (fun x hx => decide_eq_decide.2 (by omega))
theorem behN_count {l : List En} (hr : Rise l) (ho : OkE l) (v : Int) : behN l v = (l.filter (fun x => decide (x.v ≤ v))).length := by
  rw [beh_part hr ho v, List.length_take]
  have := behN_le l v
  omega
theorem flt_flt {l : List En} {lo hi : Int} (h : lo ≤ hi) : (l.filter (fun x => decide (x.v ≤ hi))).filter (fun x => decide (x.v < lo)) = l.filter (fun x => decide (x.v < lo)) := by
  rw [List.filter_filter]
  refine List.filter_congr (fun x _ => ?_)
  rw [← Bool.decide_and]
  exact decide_eq_decide.2 (by omega)
theorem from_beh {l : List En} {lo hi : Int} (hr : Rise l) (ho : OkE l) (h : lo ≤ hi) : fromN l lo ≤ behN l hi := by
  rw [fromN_count hr ho, behN_count hr ho, ← flt_flt h]
  exact List.length_filter_le _ _
theorem betE_cut {l : List En} {lo hi : Int} (hr : Rise l) (ho : OkE l) (h : lo ≤ hi) : (l.drop (fromN l lo)).take (behN l hi - fromN l lo) = betE l lo hi := by
  rw [← List.drop_take, ← beh_part hr ho hi]
  have hr2 : Rise (l.filter (fun x => decide (x.v ≤ hi))) := hr.sublist List.filter_sublist
  have ho2 : OkE (l.filter (fun x => decide (x.v ≤ hi))) := fun e he => ho e (List.mem_filter.1 he).1
  have e1 : fromN l lo = fromN (l.filter (fun x => decide (x.v ≤ hi))) lo := by
    rw [fromN_count hr ho, fromN_count hr2 ho2, flt_flt h]
  rw [e1, ← (from_part hr2 ho2 lo).2, List.filter_filter]
  rfl
end Go.Proofs.Ytjhohnbdhopllaa.HL
end
section
namespace Go.Proofs.Ytjhohnbdhopllaa.HL
open Go
set_option linter.unusedSimpArgs false
set_option linter.unusedVariables false
def glE (a b : En) : Prop := b.v < a.v ∨ (a.v = b.v ∧ a.k < b.k)
instance (a b : En) : Decidable (glE a b) := by unfold glE; exact inferInstance
theorem glE_irrefl (a : En) : ¬ glE a a := by unfold glE; omega
theorem glE_asymm {a b : En} (h : glE a b) : ¬ glE b a := by unfold glE at *; omega
theorem glE_trans {a b c : En} (h : glE a b) (k : glE b c) : glE a c := by unfold glE at *; omega
theorem glE_neg {a b c : En} (h : ¬ glE a b) (k : ¬ glE b c) : ¬ glE a c := by unfold glE at *; omega
theorem glE_tri (a b : En) : glE a b ∨ a = b ∨ glE b a := by
  unfold glE
  by_cases h1 : a.v = b.v
  · by_cases h2 : a.k = b.k
    · right; left; cases a; cases b; simp_all
    · omega
  · omega
abbrev at_ (l : List En) (i : Nat) : En := l.getD i default
def swapE (l : List En) (i j : Nat) : List En := (l.set i (at_ l j)).set j (at_ l i)
theorem swapE_len (l : List En) (i j : Nat) : (swapE l i j).length = l.length := by unfold swapE; rw [List.length_set, List.length_set]
theorem at_get {l : List En} {i : Nat} (h : i < l.length) : at_ l i = l[i] := by
  unfold at_; rw [List.getD_eq_getElem?_getD, List.getElem?_eq_getElem h]; rfl
theorem at_mem {l : List En} {i : Nat} (h : i < l.length) : at_ l i ∈ l := by rw [at_get h]; exact List.getElem_mem h
theorem mem_at {l : List En} {e : En} (h : e ∈ l) : ∃ i, i < l.length ∧ at_ l i = e := by
  obtain ⟨i, hi, he⟩ := List.getElem_of_mem h
  exact ⟨i, hi, by rw [at_get hi]; exact he⟩
theorem swapE_at {l : List En} {i j k : Nat} (hi : i < l.length) (hj : j < l.length) : at_ (swapE l i j) k = if k = j then at_ l i else if k = i then at_ l j else at_ l k := by
  unfold swapE
  show ((l.set i (at_ l j)).set j (at_ l i)).getD k default = _
  rw [List.getD_eq_getElem?_getD, List.getElem?_set, List.getElem?_set, List.length_set]
  by_cases h1 : k = j
  · subst h1
    simp [hj]
  · rw [if_neg h1, if_neg (fun h => h1 h.symm)]
    by_cases h2 : k = i
    · subst h2
      simp [hi]
    · rw [if_neg h2, if_neg (fun h => h2 h.symm)]
      show _ = l.getD k default
      rw [List.getD_eq_getElem?_getD]
theorem swapE_perm {l : List En} {i j : Nat} (hi : i < l.length) (hj : j < l.length) : (swapE l i j).Perm l := by
  refine List.perm_iff_count.2 (fun e => ?_)
  unfold swapE
  rw [List.count_set (by rw [List.length_set]; exact hj), List.count_set hi]
  have e1 : (l.set i (at_ l j))[j]'(by rw [List.length_set]; exact hj) = if i = j then at_ l j else l[j] := by rw [List.getElem_set]
  rw [e1, at_get hi, at_get hj]
  have c1 : l[i] = e → 0 < l.count e := fun h => List.count_pos_iff.2 (by rw [← h]; exact List.getElem_mem hi)
  have c2 : l[j] = e → 0 < l.count e := fun h => List.count_pos_iff.2 (by rw [← h]; exact List.getElem_mem hj)
  by_cases h1 : l[i] = e <;> by_cases h2 : l[j] = e <;> by_cases h3 : i = j <;> simp_all <;> omega
def HpF (l : List En) (n i : Nat) : Prop := ∀ p, i ≤ p → ∀ c, (c = 2 * p + 1 ∨ c = 2 * p + 2) → c < n → ¬ glE (at_ l c) (at_ l p)
structure DI (l : List En) (n i0 i : Nat) : Prop where
  le : i0 ≤ i
  rest : ∀ p, i0 ≤ p → p ≠ i → ∀ c, (c = 2 * p + 1 ∨ c = 2 * p + 2) → c < n → ¬ glE (at_ l c) (at_ l p)
  up : ∀ p, i0 ≤ p → (i = 2 * p + 1 ∨ i = 2 * p + 2) → ∀ c, (c = 2 * i + 1 ∨ c = 2 * i + 2) → c < n → ¬ glE (at_ l c) (at_ l p)
theorem DI.start {l : List En} {n i0 : Nat} (h : HpF l n (i0 + 1)) : DI l n i0 i0 := ⟨Nat.le_refl _, fun p h1 h2 => h p (by omega), fun p h1 h2 => by omega⟩
theorem DI.stop {l : List En} {n i0 i : Nat} (h : DI l n i0 i) (k : ∀ c, (c = 2 * i + 1 ∨ c = 2 * i + 2) → c < n → ¬ glE (at_ l c) (at_ l i)) : HpF l n i0 := fun p hp c hc hn => by
  by_cases e : p = i
  · subst e; exact k c hc hn
  · exact h.rest p hp e c hc hn
theorem DI.step {l : List En} {n i0 i m : Nat} (h : DI l n i0 i) (hl : n ≤ l.length) (hm : m = 2 * i + 1 ∨ m = 2 * i + 2) (hmn : m < n) (hlt : glE (at_ l m) (at_ l i)) (ho : ∀ c, (c = 2 * i + 1 ∨ c = 2 * i + 2) → c < n → ¬ glE (at_ l c) (at_ l m)) : DI (swapE l i m) n i0 m := by
  have hA := fun k => swapE_at (l := l) (i := i) (j := m) (k := k) (by omega) (by omega)
  have hle := h.le
  refine ⟨by omega, fun p hp hpm c hc hcn => ?_, fun p hp hpm c hc hcn => ?_⟩
  · rw [hA c, hA p, if_neg hpm]
    by_cases e1 : p = i
    · subst e1
      rw [if_pos rfl]
      by_cases e2 : c = m
      · rw [if_pos e2]; exact glE_asymm hlt
      · rw [if_neg e2, if_neg (by omega)]; exact ho c hc hcn
    · rw [if_neg e1]
      by_cases e2 : c = m
      · omega
      · rw [if_neg e2]
        by_cases e3 : c = i
        · rw [if_pos e3]; subst e3; exact h.up p hp hc m hm hmn
        · rw [if_neg e3]; exact h.rest p hp e1 c hc hcn
  · obtain rfl : p = i := by omega
    rw [hA c, hA p, if_neg (by omega), if_neg (by omega), if_neg (by omega), if_pos rfl]
    exact h.rest m (by omega) (by omega) c hc hcn
theorem HpF.half (l : List En) (n : Nat) : HpF l n (n / 2) := fun p hp c hc hn => by omega
theorem HpF.pop {l : List En} (h : HpF l l.length 0) (h0 : 0 < l.length) : HpF (swapE l 0 (l.length - 1)) (l.length - 1) (0 + 1) := fun p hp c hc hn => by
  rw [swapE_at h0 (by omega), swapE_at h0 (by omega), if_neg (by omega), if_neg (by omega), if_neg (by omega), if_neg (by omega)]
  exact h p (by omega) c hc (by omega)
theorem at_take {l : List En} {n i : Nat} (h : i < n) : at_ (l.take n) i = at_ l i := by
  show (l.take n).getD i default = l.getD i default
  rw [List.getD_eq_getElem?_getD, List.getD_eq_getElem?_getD, List.getElem?_take, if_pos h]
theorem HpF.take {l : List En} {n i : Nat} (h : HpF l n i) : HpF (l.take n) n i := fun p hp c hc hn => by
  rw [at_take hn, at_take (by omega)]
  exact h p hp c hc hn
theorem HpF.root {l : List En} {n : Nat} (h : HpF l n 0) : ∀ k, k < n → ¬ glE (at_ l k) (at_ l 0) := by
  intro k
  induction k using Nat.strongRecOn with
  | _ k ih =>
    intro hk
    by_cases e : k = 0
    · subst e; exact glE_irrefl _
    · exact glE_neg (h ((k - 1) / 2) (by omega) k (by omega) hk) (ih ((k - 1) / 2) (by omega) (by omega))
theorem pop_perm {l l2 : List En} (h0 : 0 < l.length) (hp : l2.Perm (swapE l 0 (l.length - 1))) (hk : at_ l2 (l.length - 1) = at_ (swapE l 0 (l.length - 1)) (l.length - 1)) : at_ l2 (l.length - 1) = at_ l 0 ∧ (at_ l 0 :: l2.take (l.length - 1)).Perm l := by
  have hl2 : l2.length = l.length := by rw [hp.length_eq, swapE_len]
  have e1 : at_ l2 (l.length - 1) = at_ l 0 := by
    rw [hk, swapE_at h0 (by omega), if_pos rfl]
  refine ⟨e1, ?_⟩
  refine List.Perm.trans ?_ (hp.trans (swapE_perm h0 (by omega)))
  rw [← e1]
  have e2 : l2 = l2.take (l.length - 1) ++ [at_ l2 (l.length - 1)] := by
    have h3 : l2.drop (l.length - 1) = [at_ l2 (l.length - 1)] := by
      rw [at_get (by omega), List.drop_eq_getElem_cons (by omega), List.drop_eq_nil_of_le (by omega)]
    rw [← h3, List.take_append_drop]
  refine List.Perm.trans (List.perm_append_singleton _ _).symm ?_
  rw [← e2]
theorem drop_at {S : List En} {k : Nat} (h : k < S.length) : S.drop k = at_ S k :: S.drop (k + 1) := by
  rw [at_get h, List.drop_eq_getElem_cons h]
theorem top_next {S l : List En} {k : Nat} (hS : S.Pairwise glE) (hp : l.Perm (S.drop k)) (hh : HpF l l.length 0) (hk : k < S.length) : at_ l 0 = at_ S k := by
  rw [drop_at hk] at hp
  have hl : 0 < l.length := by rw [hp.length_eq]; simp
  have h1 : at_ l 0 ∈ at_ S k :: S.drop (k + 1) := hp.mem_iff.1 (at_mem hl)
  rcases List.mem_cons.1 h1 with e | e
  · exact e
  · exfalso
    have hd : (at_ S k :: S.drop (k + 1)).Pairwise glE := by rw [← drop_at hk]; exact hS.sublist (List.drop_sublist _ _)
    have h2 := (List.pairwise_cons.1 hd).1 _ e
    obtain ⟨j, hj, ej⟩ := mem_at (hp.mem_iff.2 (List.mem_cons_self))
    refine hh.root j hj ?_
    rw [ej]; exact h2
theorem top_rest {S l l' : List En} {k : Nat} (hk : k < S.length) (hp : l.Perm (S.drop k)) (he : at_ l 0 = at_ S k) (hp' : (at_ l 0 :: l').Perm l) : l'.Perm (S.drop (k + 1)) := by
  rw [drop_at hk] at hp
  have := hp'.trans hp
  rw [he] at this
  exact this.cons_inv
end Go.Proofs.Ytjhohnbdhopllaa.HL
end
section
namespace Go.Proofs.Ytjhohnbdhopllaa.HL
open Go
set_option linter.unusedSimpArgs false
set_option linter.unusedVariables false
theorem flat_setR {α : Type} {f : α → List Value} {wd : Nat} (hw : ∀ a, (f a).length = wd) : ∀ (X : List α) (i : Nat) (y : α), i < X.length → (X.set i y).flatMap f = (X.flatMap f).take (i * wd) ++ f y ++ (X.flatMap f).drop (i * wd + wd)
  | [], i, y, h => absurd h (by simp)
  | x :: r, 0, y, _ => by
    simp only [List.set_cons_zero, List.flatMap_cons, Nat.zero_mul, List.take_zero, List.nil_append, Nat.zero_add]
    rw [List.drop_append_of_le_length (by rw [hw]; exact Nat.le_refl _), List.drop_eq_nil_of_le (by rw [hw]; exact Nat.le_refl _), List.nil_append]
  | x :: r, i + 1, y, h => by
    simp only [List.set_cons_succ, List.flatMap_cons]
    rw [flat_setR hw r i y (by simpa using h)]
    have e : (i + 1) * wd = wd + i * wd := by rw [Nat.succ_mul]; omega
    have e1 : ((i + 1) * wd) - (f x).length = i * wd := by rw [hw, e]; omega
    have e2 : ((i + 1) * wd + wd) - (f x).length = i * wd + wd := by rw [hw, e]; omega
    have t1 : List.take ((i + 1) * wd) (f x) = f x := List.take_of_length_le (by rw [hw, e]; omega)
    have t2 : List.drop ((i + 1) * wd + wd) (f x) = [] := List.drop_eq_nil_of_le (by rw [hw, e]; omega)
    rw [List.take_append, List.drop_append, e1, e2, t1, t2]
    simp
theorem OwnS.rowR {α : Type} {f : α → List Value} {wd : Nat} (hw : ∀ a, (f a).length = wd) {H : Hp} {E : TypeId} {r n cap : Nat} {X : List α} {c : Array Value} (h : OwnS H E wd (.slice (some ⟨r, 0, none⟩) n cap) n (X.flatMap f) (some r)) (hc : H r = some (.cells c E)) (hn : n = X.length) {i : Nat} (hi : i < n) (y : α) : OwnS (H.upd r (.cells (putCells c (i * wd) (f y)) E)) E wd (.slice (some ⟨r, 0, none⟩) n cap) n ((X.set i y).flatMap f) (some r) := by
  obtain ⟨h1, ⟨h2, _, _⟩ | ⟨r', cap', c', h3, h4, h5, h6, h7, h8⟩⟩ := h
  · cases h2
  · cases h3
    rw [hc] at h4; cases h4
    have m1 := Nat.mul_le_mul_right wd (show i + 1 ≤ n by omega)
    have m2 := Nat.mul_le_mul_right wd h5
    rw [Nat.succ_mul] at m1
    have hsz : i * wd + (f y).length ≤ c.size := by rw [hw, h6]; omega
    have hpl := putCells_toList (f y) c (i * wd) hsz
    refine ⟨by rw [flat_size hw, List.length_set, hn], .inr ⟨r, cap, _, rfl, zap _ _ _, h5, ?_, ?_, rfl⟩⟩
    · have hl : (putCells c (i * wd) (f y)).toList.length = c.toList.length := by
        rw [hpl]; simp only [List.length_append, List.length_take, List.length_drop, Array.length_toList]; omega
      rw [Array.length_toList, Array.length_toList] at hl
      rw [hl, h6]
    · rw [flat_setR hw X i y (by omega), ← h7]
      simp only [Array.toList_extract, List.extract_eq_take_drop, List.drop_zero, Nat.sub_zero, hpl]
      apply List.ext_getElem?
      intro j
      have hfl := hw y
      simp only [List.getElem?_take, List.getElem?_append, List.getElem?_drop, List.length_take, List.length_append, Array.length_toList]
      have q1 : min (i * wd) c.size = i * wd := by omega
      have q2 : min (i * wd) (min (n * wd) c.size) = i * wd := by omega
      rw [q1, q2, hfl]
      by_cases a1 : j < i * wd
      · have a2 : j < i * wd + wd := by omega
        have a3 : j < n * wd := by omega
        simp [a1, a2, a3]
      · by_cases a2 : j < i * wd + wd
        · have a3 : j < n * wd := by omega
          simp [a1, a2, a3]
        · have e3 : i * wd + wd + (j - (i * wd + wd)) = j := by omega
          simp only [a1, a2, if_false, e3]
theorem foldl_putR : ∀ (l : List Value) (k off : Nat) (c : Array Value), (l.zipIdx k).foldl (fun cs (p : Value × Nat) => cs.setIfInBounds (off + p.2) p.1) c = putCells c (off + k) l
  | [], _, _, _ => rfl
  | v :: r, k, off, c => by
    simp only [List.zipIdx_cons, List.foldl_cons, putCells]
    rw [foldl_putR r (k + 1) off]; rfl
theorem fill_manyR {place : Nat → Option (Nat × Nat)} {c : Array Value} {i off n : Nat} {v : Value} {l : List Value} {r : List (Nat × Value)} (hp : place i = some (off, n)) (hv : v.cells = l.toArray) (hn : l.length = n) (ho : off + n ≤ c.size) : Instr.fill place c ((i, v) :: r) = Instr.fill place (putCells c off l) r := by
  simp only [Instr.fill, hp, hv]
  rw [if_neg (by simp; omega)]
  congr 1
  rw [← Array.foldl_toList, Array.toList_zipIdx]
  exact foldl_putR l 0 off c
end Go.Proofs.Ytjhohnbdhopllaa.HL
end
section
namespace Go.Proofs.Ytjhohnbdhopllaa.HL
open Go
set_option linter.unusedSimpArgs false
structure Rw where
  a : Option Addr
  n : Nat
  cap : Nat
  rs : Option Nat
deriving Inhabited
abbrev Rw.v (r : Rw) : Value := .slice r.a r.n r.cap
abbrev rvs (L : List Rw) : List Value := L.map Rw.v
def mkB (i t : Nat) : Int := IntKind.u8.wrap (31 * (i : Int) + 3 * (t : Int) + 1)
def mks (i n : Nat) : List Int := (List.range n).map (mkB i)
theorem mks_len (i n : Nat) : (mks i n).length = n := by simp [mks]
theorem mks_succ (i n : Nat) : mks i (n + 1) = mks i n ++ [mkB i n] := by simp [mks, List.range_succ]
theorem mks_get (i n t : Nat) (h : t < n) : (mks i n).getD t 0 = mkB i t := by
  simp [mks, List.getD_eq_getElem?_getD, List.getElem?_map, List.getElem?_range h]
theorem mks_take (i : Nat) {n m : Nat} (h : m ≤ n) : (mks i n).take m = mks i m := by
  simp [mks, ← List.map_take, List.take_range, Nat.min_eq_left h]
abbrev rw_ (L : List Rw) (i : Nat) : Rw := L.getD i default
def RowsC (E : TypeId) (H : Hp) (L : List Rw) (C : Nat → List Int) : Prop := ∀ i, i < L.length → OwnS H E 1 (rw_ L i).v (rw_ L i).n (u8s (C i)) (rw_ L i).rs
def RDis (L : List Rw) : Prop := ∀ i j, i < L.length → j < L.length → i ≠ j → ∀ r, (rw_ L i).rs = some r → (rw_ L j).rs ≠ some r
def rown (L : List Rw) (b : Nat) : Prop := ∃ i, i < L.length ∧ (rw_ L i).rs = some b
def MC (L : List Rw) (C : Nat → List Int) (k j : Nat) : Prop := ∀ i t, i < L.length → t < (rw_ L i).n → (i < k ∨ (i = k ∧ t < j)) → (C i).getD t 0 = mkB i t
theorem OwnS.len8 {H : Hp} {E : TypeId} {v : Value} {n : Nat} {l : List Int} {rs : Option Nat} (h : OwnS H E 1 v n (u8s l) rs) : l.length = n := by have := h.1; simp at this; omega
theorem RowsC.row {E : TypeId} {H : Hp} {L : List Rw} {C : Nat → List Int} (h : RowsC E H L C) {k : Nat} (hk : k < L.length) (hn : 0 < (rw_ L k).n) :
    ∃ r c, (rw_ L k).a = some ⟨r, 0, none⟩ ∧ (rw_ L k).rs = some r ∧ H r = some (.cells c E) ∧ (rw_ L k).n ≤ c.size ∧ (c.extract 0 (rw_ L k).n).toList = u8s (C k) := by
  obtain ⟨_, ⟨_, h0, _⟩ | ⟨r, cap, c, e1, e2, e3, e4, e5, e6⟩⟩ := h k hk
  · omega
  · injection e1 with e1 _ e7
    exact ⟨r, c, e1, e6, e2, by omega, by simpa using e5⟩
theorem RowsC.set {E : TypeId} {H : Hp} {L : List Rw} {C : Nat → List Int} (h : RowsC E H L C) (hd : RDis L) {k t : Nat} (hk : k < L.length) (ht : t < (rw_ L k).n) (x : Int) {r : Nat} {c : Array Value}
    (ha : (rw_ L k).a = some ⟨r, 0, none⟩) (hr : (rw_ L k).rs = some r) (hc : H r = some (.cells c E)) : RowsC E (H.upd r (.cells (c.setIfInBounds t (.int .u8 x)) E)) L (fun i => if i = k then (C k).set t x else C i) := by
  intro i hi
  by_cases e : i = k
  · subst e
    simp only [if_true]
    have h1 := h i hi
    rw [hr] at h1 ⊢
    have h2 : (rw_ L i).v = .slice (some ⟨r, 0, none⟩) (rw_ L i).n (rw_ L i).cap := by simp only [Rw.v, ha]
    rw [h2] at h1 ⊢
    exact h1.set hc t ht x
  · simp only [if_neg e]
    exact (h i hi).upd (hd k i hk hi (Ne.symm e) r hr)
theorem MC.set {L : List Rw} {C : Nat → List Int} {k j : Nat} (h : MC L C k j) (hj : j < (C k).length) : MC L (fun i => if i = k then (C k).set j (mkB k j) else C i) k (j + 1) := by
  intro i t hi ht hc
  by_cases e : i = k
  · subst e
    simp only [if_true]
    by_cases e2 : t = j
    · subst e2
      simp [List.getD_eq_getElem?_getD, List.getElem?_set_self hj]
    · have := h i t hi ht (by omega)
      rw [← this]
      simp [List.getD_eq_getElem?_getD, List.getElem?_set_ne (Ne.symm e2)]
  · simp only [if_neg e]
    exact h i t hi ht (by omega)
theorem MC.next {L : List Rw} {C : Nat → List Int} {k : Nat} (h : MC L C k (rw_ L k).n) : MC L C (k + 1) 0 := by
  intro i t hi ht hc
  refine h i t hi ht ?_
  rcases hc with hc | hc
  · by_cases e : i = k
    · subst e; exact .inr ⟨rfl, ht⟩
    · exact .inl (by omega)
  · omega
theorem MC.all {E : TypeId} {H : Hp} {L : List Rw} {C : Nat → List Int} (h : RowsC E H L C) (hm : MC L C L.length 0) : RowsC E H L (fun i => mks i (rw_ L i).n) := by
  intro i hi
  have h1 := h i hi
  have e : C i = mks i (rw_ L i).n := by
    apply List.ext_getElem?
    intro t
    by_cases ht : t < (rw_ L i).n
    · have h2 := hm i t hi ht (.inl hi)
      have h3 : t < (C i).length := by rw [h1.len8]; exact ht
      have h4 : t < (mks i (rw_ L i).n).length := by rw [mks_len]; exact ht
      have h5 := mks_get i (rw_ L i).n t ht
      rw [List.getElem?_eq_getElem h3, List.getElem?_eq_getElem h4]
      have g : ∀ (l : List Int) (h : t < l.length), l.getD t 0 = l[t] := fun l h => by simp [List.getD_eq_getElem?_getD, List.getElem?_eq_getElem h]
      rw [g _ h3] at h2
      rw [g _ h4] at h5
      rw [h2, h5]
    · rw [List.getElem?_eq_none (by rw [h1.len8]; omega), List.getElem?_eq_none (by rw [mks_len]; omega)]
  simp only [← e]; exact h1
abbrev mksOf (X : List Rw) : Nat → List Int := fun i => mks i (rw_ X i).n
theorem rw_set {X : List Rw} {k : Nat} {y : Rw} (hk : k < X.length) (i : Nat) : rw_ (X.set k y) i = if i = k then y else rw_ X i := by
  by_cases e : i = k
  · subst e; simp [List.getD_eq_getElem?_getD, List.getElem?_set_self hk]
  · rw [if_neg e]; simp [List.getD_eq_getElem?_getD, List.getElem?_set_ne (Ne.symm e)]
theorem Holds.le' {H H' : Hp} {w n cap : Nat} {a : Option Addr} {cs : List Value} (h : Holds H w (.slice a n cap) n cs) (k : ∀ A o, a = some A → H A.block = some o → H' A.block = some o) : Holds H' w (.slice a n cap) n cs := by
  obtain ⟨h1, h2 | ⟨b, o, cap', c, T, f, e, h4, h5⟩⟩ := h
  · exact ⟨h1, .inl h2⟩
  · cases e
    exact ⟨h1, .inr ⟨b, o, _, c, T, f, rfl, k _ _ rfl h4, h5⟩⟩
def gext (k t i : Nat) : Nat := if i < k then 10 else if i = k then t else 0
structure GI (E : TypeId) (H0 H : Hp) (L X : List Rw) (k t : Nat) : Prop where
  len : X.length = L.length
  rows : RowsC E H X (mksOf X)
  dis : RDis X
  ns : ∀ i, i < L.length → (rw_ X i).n = (rw_ L i).n + gext k t i
  old : ∀ i, i < L.length → Holds H 1 (rw_ L i).v (rw_ L i).n (u8s (mks i (rw_ L i).n))
  eq : ∀ i, i < L.length → gext k t i = 0 → rw_ X i = rw_ L i
  fresh : ∀ i, i < L.length → ∀ r, (rw_ X i).rs = some r → (rw_ L i).rs = some r ∨ H0 r = none
  frame : ∀ b o, H0 b = some o → ¬ rown L b → H b = some o
  kn : ∀ b, H b = none → H0 b = none
theorem Grow.none {H H' : Hp} {rs : Option Nat} (h : Grow H rs H') : ∀ b, H' b = none → H b = none := by
  intro b hb
  rcases h with rfl | ⟨r, o, _, rfl⟩
  · exact hb
  · by_cases e : b = r
    · subst e; rw [zap] at hb; cases hb
    · rwa [zaE _ _ e] at hb
theorem Holds.pref {H : Hp} {E : TypeId} {v : Value} {n m : Nat} {i : Nat} {r : Nat} {cap : Nat} (h : OwnS H E 1 v n (u8s (mks i n)) (some r)) (hm : m ≤ n) : Holds H 1 (.slice (some ⟨r, 0, none⟩) m cap) m (u8s (mks i m)) := by
  obtain ⟨_, ⟨_, _, h0⟩ | ⟨r', cap', c, e1, e2, e3, e4, e5, e6⟩⟩ := h
  · cases h0
  · cases e6
    refine ⟨by simp [mks_len], .inr ⟨r, 0, cap, c, E, _, rfl, e2, by omega, ?_⟩⟩
    have : (c.extract 0 m).toList = (u8s (mks i n)).take m := by
      rw [← e5]; simp [Array.toList_extract, List.extract_eq_take_drop, List.take_take, Nat.min_eq_left hm]
    simp only [Nat.zero_add, Nat.mul_one]
    rw [this, u8s, ← List.map_take, mks_take i hm]
theorem GI.grow {E : TypeId} {H0 H H' : Hp} {L X : List Rw} {k t : Nat} (g : GI E H0 H L X k t) (hk : k < L.length) (hL : ∀ i, i < L.length → (rw_ L i).n = 0 ∨ ∃ r, (rw_ L i).a = some ⟨r, 0, none⟩ ∧ (rw_ L i).rs = some r)
    (hdL : RDis L) (hkn : ∀ i, i < L.length → ∀ r, (rw_ L i).rs = some r → H0 r ≠ none) {a' : Option Addr} {cap' : Nat} {rs' : Option Nat} (hg : Grow H (rw_ X k).rs H') (ho : OwnS H' E 1 (.slice a' ((rw_ X k).n + 1) cap') ((rw_ X k).n + 1) (u8s (mks k (rw_ X k).n) ++ [.int .u8 (mkB k (rw_ X k).n)]) rs')
    (hr : ∀ r, rs' = some r → (rw_ X k).rs = some r ∨ H r = none) : GI E H0 H' L (X.set k ⟨a', (rw_ X k).n + 1, cap', rs'⟩) k (t + 1) := by
  have hkx : k < X.length := by rw [g.len]; exact hk
  have ho' : OwnS H' E 1 (.slice a' ((rw_ X k).n + 1) cap') ((rw_ X k).n + 1) (u8s (mks k ((rw_ X k).n + 1))) rs' := by
    rw [mks_succ, u8s, List.map_append]; exact ho
  -- blocks of other rows stand
  have stay : ∀ i, i < L.length → i ≠ k → ∀ b o, (rw_ X i).rs = some b → H b = some o → H' b = some o := fun i hi hik b o hb hbo =>
    hg.known b o hbo (fun e => g.dis k i hkx (by rw [g.len]; exact hi) (Ne.symm hik) b e hb)
  refine ⟨by simp [g.len], ?_, ?_, ?_, ?_, ?_, ?_, ?_, fun b hb => g.kn b (hg.none b hb)⟩
  · intro i hi
    have hi' : i < L.length := by simp [g.len] at hi; exact hi
    simp only [mksOf, rw_set hkx]
    by_cases e : i = k
    · subst e; simp only [if_true]; exact ho'
    · simp only [if_neg e]; exact (g.rows i (by rw [g.len]; exact hi')).stay (stay i hi' e)
  · intro i j hi hj hij r
    have hi' : i < L.length := by simp [g.len] at hi; exact hi
    have hj' : j < L.length := by simp [g.len] at hj; exact hj
    rw [rw_set hkx, rw_set hkx]
    by_cases e : i = k
    · subst e
      rw [if_pos rfl, if_neg (Ne.symm hij)]
      intro h1 h2
      rcases hr r h1 with h3 | h3
      · exact g.dis i j hkx (by rw [g.len]; exact hj') hij r h3 h2
      · exact (g.rows j (by rw [g.len]; exact hj')).known r h2 h3
    · rw [if_neg e]
      by_cases e2 : j = k
      · subst e2
        rw [if_pos rfl]
        intro h1 h2
        rcases hr r h2 with h3 | h3
        · exact g.dis i j (by rw [g.len]; exact hi') hkx hij r h1 h3
        · exact (g.rows i (by rw [g.len]; exact hi')).known r h1 h3
      · rw [if_neg e2]
        exact g.dis i j (by rw [g.len]; exact hi') (by rw [g.len]; exact hj') hij r
  · intro i hi
    rw [rw_set hkx]
    by_cases e : i = k
    · subst e; rw [if_pos rfl]
      have := g.ns i hi
      simp only [gext, Nat.lt_irrefl, if_false, if_true] at this ⊢; omega
    · rw [if_neg e]
      have := g.ns i hi
      simp only [gext, e, if_false] at this ⊢; exact this
  · intro i hi
    have hold := g.old i hi
    rcases hL i hi with h0 | ⟨r, ha, hrs⟩
    · have e0 : mks i (rw_ L i).n = [] := by rw [h0]; rfl
      refine ⟨by rw [e0, h0]; rfl, .inl ⟨(rw_ L i).a, (rw_ L i).cap, ?_, h0⟩⟩
      rw [Rw.v, h0]
    · by_cases e : i = k
      · subst e
        by_cases e2 : rs' = some r
        · rw [e2] at ho'
          have hle : (rw_ L i).n ≤ (rw_ X i).n + 1 := by have := g.ns i hi; omega
          have := Holds.pref (cap := (rw_ L i).cap) ho' hle
          rw [Rw.v, ha]; exact this
        · rw [Rw.v] at hold ⊢
          refine hold.le' ?_
          intro A o hA hAo
          rw [ha] at hA; cases hA
          rcases hg with rfl | ⟨r2, o2, h2, rfl⟩
          · exact hAo
          · rw [zaE _ _ ?_]; exact hAo
            intro e3
            simp only at e3
            subst e3
            -- the block that was changed is r: so it is the new slice's
            obtain ⟨_, ⟨_, h5, _⟩ | ⟨r4, _, _, _, h6, _, _, _, h7⟩⟩ := ho'
            · omega
            · rcases hr r4 h7 with h8 | h8
              · rcases h2 with h2 | h2
                · rw [h2] at h8; cases h8; exact e2 h7
                · rw [h2] at hAo; cases hAo
              · by_cases e5 : r4 = r
                · subst e5; exact e2 h7
                · rw [zaE _ _ e5, h8] at h6; cases h6
      · rw [Rw.v] at hold ⊢
        refine hold.le' ?_
        intro A o hA hAo
        rw [ha] at hA; cases hA
        refine hg.known _ _ hAo (fun e2 => ?_)
        rcases g.fresh k hk r e2 with h3 | h3
        · exact hdL k i hk hi (Ne.symm e) r h3 hrs
        · exact hkn i hi r hrs h3
  · intro i hi h0
    rw [rw_set hkx]
    by_cases e : i = k
    · subst e; simp [gext] at h0
    · rw [if_neg e]
      refine g.eq i hi ?_
      simpa [gext, e] using h0
  · intro i hi r
    rw [rw_set hkx]
    by_cases e : i = k
    · subst e; rw [if_pos rfl]
      intro h1
      rcases hr r h1 with h3 | h3
      · exact g.fresh i hi r h3
      · exact .inr (g.kn r h3)
    · rw [if_neg e]; exact g.fresh i hi r
  · intro b o hb hn
    refine hg.known b o (g.frame b o hb hn) (fun e => ?_)
    rcases g.fresh k hk b e with h3 | h3
    · exact hn ⟨k, hk, h3⟩
    · rw [hb] at h3; cases h3
theorem GI.next {E : TypeId} {H0 H : Hp} {L X : List Rw} {k : Nat} (g : GI E H0 H L X k 10) : GI E H0 H L X (k + 1) 0 := by
  have e : ∀ i, gext (k + 1) 0 i = gext k 10 i := fun i => by
    unfold gext
    by_cases h : i < k
    · rw [if_pos h, if_pos (by omega)]
    · by_cases h2 : i = k
      · rw [if_pos (by omega), if_neg h, if_pos h2]
      · rw [if_neg (by omega), if_neg h, if_neg h2]; simp
  exact ⟨g.len, g.rows, g.dis, fun i hi => by rw [e]; exact g.ns i hi, g.old, fun i hi h => g.eq i hi (by rw [← e]; exact h), g.fresh, g.frame, g.kn⟩
theorem GI.keep {E : TypeId} {H0 H H' : Hp} {L X : List Rw} {k t : Nat} (g : GI E H0 H L X k t) (hs : ∀ b o, H b = some o → (rown L b ∨ rown X b ∨ H0 b ≠ none) → H' b = some o)
    (hL : ∀ i, i < L.length → (rw_ L i).n = 0 ∨ ∃ r, (rw_ L i).a = some ⟨r, 0, none⟩ ∧ (rw_ L i).rs = some r) (hk : ∀ b, H' b = none → H b = none) : GI E H0 H' L X k t := by
  refine ⟨g.len, fun i hi => (g.rows i hi).stay (fun b o hb ho => hs b o ho (.inr (.inl ⟨i, hi, hb⟩))), g.dis, g.ns, fun i hi => ?_, g.eq, g.fresh, fun b o hb hn => hs b o (g.frame b o hb hn) (.inr (.inr (by rw [hb]; simp))), fun b hb => g.kn b (hk b hb)⟩
  rcases hL i hi with h0 | ⟨r, ha, hrs⟩
  · have e0 : mks i (rw_ L i).n = [] := by rw [h0]; rfl
    refine ⟨by rw [e0, h0]; rfl, .inl ⟨(rw_ L i).a, (rw_ L i).cap, ?_, h0⟩⟩
    rw [Rw.v, h0]
  · have hold := g.old i hi
    rw [Rw.v] at hold ⊢
    refine hold.le' ?_
    intro A o hA hAo
    rw [ha] at hA; cases hA
    exact hs _ _ hAo (.inl ⟨i, hi, hrs⟩)
theorem GI.start {E : TypeId} {H0 H : Hp} {L : List Rw} (h : RowsC E H L (mksOf L)) (hd : RDis L) (hf : ∀ b o, H0 b = some o → ¬ rown L b → H b = some o) : GI E H0 H L L 0 0 := by
  have hkn : ∀ b, H b = none → H0 b = none := fun b hb => by
    cases ho : H0 b with
    | none => rfl
    | some o =>
      by_cases e : rown L b
      · obtain ⟨i, hi, h1⟩ := e
        exact absurd hb ((h i hi).known b h1)
      · rw [hf b o ho e] at hb; cases hb
  refine ⟨rfl, h, hd, fun i _ => by simp [gext], fun i hi => (h i hi).holds, fun _ _ _ => rfl, fun i _ r hr => .inl hr, hf, hkn⟩
theorem upd_none {H : Hp} {x b : Nat} {o : Obj} (h : H.upd x o b = none) : H b = none := by
  by_cases e : b = x
  · subst e; rw [zap] at h; cases h
  · rwa [zaE _ _ e] at h
theorem GI.new {E : TypeId} {H0 H : Hp} {L X : List Rw} {k t : Nat} (g : GI E H0 H L X k t) (hL : ∀ i, i < L.length → (rw_ L i).n = 0 ∨ ∃ r, (rw_ L i).a = some ⟨r, 0, none⟩ ∧ (rw_ L i).rs = some r) {b : Nat} (hb : H b = none) (o : Obj) : GI E H0 (H.upd b o) L X k t :=
  g.keep (fun x o' hx _ => (zaE _ _ (zaz hx hb)).trans hx) hL (fun _ h => upd_none h)
theorem RowsC.form {E : TypeId} {H : Hp} {L : List Rw} {C : Nat → List Int} (h : RowsC E H L C) : ∀ i, i < L.length → (rw_ L i).n = 0 ∨ ∃ r, (rw_ L i).a = some ⟨r, 0, none⟩ ∧ (rw_ L i).rs = some r := by
  intro i hi
  by_cases e : (rw_ L i).n = 0
  · exact .inl e
  · obtain ⟨r, c, h1, h2, _⟩ := h.row hi (by omega)
    exact .inr ⟨r, h1, h2⟩
theorem zaN {P : Program} {H : Hp} {t e : TypeId} (hu : P.underlying t = some (.slice e)) {m : Nat} (hs : szOf P e = some m) {a : Option Addr} {b o n cap : Nat} (ha : a = some ⟨b, o, none⟩) {k : IntKind} {i : Int} (h0 : 0 ≤ i) (h1 : i < n) {K : Value → Hp → Prop}
    (h : K (.pointer (some ⟨b, o + i.toNat * m, none⟩)) H) : Lt P (Instr.indexAt t (.slice a n cap) (.int k i)) H K := by
  subst ha
  refine Lt_indexS hu hs h0 h1 ?_
  rw [zaA]; exact h
end Go.Proofs.Ytjhohnbdhopllaa.HL
end
section
namespace Go.Proofs.Ytjhohnbdhopllaa.HL
open Go
set_option linter.unusedSimpArgs false
set_option linter.unusedVariables false
def StX (X : Hp → Prop) (H K : Hp) : Prop := ∃ F, X F ∧ Le F K ∧ Le H K ∧ ∀ b, F b ≠ none → H b = none
section
variable {X Y : Hp → Prop} {H K : Hp}
theorem StX.of {F : Hp} (hX : X F) (hF : ∀ x o, F x = some o → K x = some o) (hl : Le H K) (ha : ∀ x, F x ≠ none → H x = none) : StX X H K := ⟨F, hX, hF, hl, ha⟩
theorem StX.old (h : StX X H K) : Le H K := by obtain ⟨_, _, _, h1, _⟩ := h; exact h1
theorem StX.imp (h : StX X H K) (k : ∀ F, X F → Y F) : StX Y H K := by
  obtain ⟨F, h1, h2⟩ := h
  exact ⟨F, k F h1, h2⟩
theorem StX.all (h : StX X H K) {R : Prop} (k : ∀ F, X F → Le F K → R) : R := by
  obtain ⟨F, h1, h2, _⟩ := h
  exact k F h1 h2
theorem StX.less (h : StX X H K) {H' : Hp} (hl : Le H' H) : StX X H' K := by
  obtain ⟨F, h1, h2, h3, h4⟩ := h
  exact ⟨F, h1, h2, Le.trans hl h3, fun b hb => zaj hl (h4 b hb)⟩
theorem StX.more (h : StX X H K) {K' : Hp} (hl : Le K K') : StX X H K' := by
  obtain ⟨F, h1, h2, h3, h4⟩ := h
  exact ⟨F, h1, Le.trans h2 hl, Le.trans h3 hl, h4⟩
theorem StX.put (h : StX X H K) {b : Nat} (hb : K b = none ∨ H b ≠ none) (o : Obj) : StX X (H.upd b o) (K.upd b o) := by
  obtain ⟨F, h1, h2, h3, h4⟩ := h
  have hF : F b = none := by
    cases hf : F b with
    | none => rfl
    | some o' =>
      rcases hb with hb | hb
      · rw [h2 _ _ hf] at hb; cases hb
      · exact absurd (h4 b (by rw [hf]; simp)) hb
  refine ⟨F, h1, fun x o' hx => ?_, fun x o' hx => ?_, fun x hx => ?_⟩
  · by_cases e : x = b
    · subst e; rw [hF] at hx; cases hx
    · rw [zaE _ _ e]; exact h2 _ _ hx
  · by_cases e : x = b
    · subst e; rw [zap] at hx ⊢; exact hx
    · rw [zaE _ _ e] at hx ⊢; exact h3 _ _ hx
  · by_cases e : x = b
    · subst e; exact absurd hF hx
    · rw [zaE _ _ e]; exact h4 _ hx
theorem StX.call (h : StX X H K) {P : Program} {f : FuncId} {args : Array Value} {W : Value → Hp → Prop} (hc : ∀ F, X F → CallH P f args F W) : CallH P f args K (fun v K' => StX (W v) H K') := by
  obtain ⟨F, h1, h2, h3, h4⟩ := h
  refine ((hc F h1).use h2).mono ?_
  rintro v K' ⟨F', hR, hl, hk⟩
  have hn : ∀ b, H b ≠ none → F b = none := fun b hb => by
    cases hf : F b with
    | none => rfl
    | some o => exact absurd (h4 b (by rw [hf]; simp)) hb
  refine ⟨F', hR, hl, fun b o hb => (hk b o (h3 _ _ hb) (hn b (by rw [hb]; simp))).1, fun b hb => ?_⟩
  cases hh : H b with
  | none => rfl
  | some o => exact absurd (hk b o (h3 _ _ hh) (hn b (by rw [hh]; simp))).2 hb
theorem StX.call1 (h : StX X H K) {P : Program} {f : FuncId} {args : Array Value} {V : Value → Prop} {Y : Hp → Prop} (hc : ∀ F, X F → CallH P f args F (fun v F' => V v ∧ Y F')) : CallH P f args K (fun v K' => V v ∧ StX Y H K') := by
  refine (h.call hc).mono ?_
  rintro v K' ⟨F', ⟨hv, hY⟩, hr⟩
  exact ⟨hv, F', hY, hr⟩
end
end Go.Proofs.Ytjhohnbdhopllaa.HL
end
section
namespace Go.Proofs.Ytjhohnbdhopllaa.HL
open Go
set_option linter.unusedSimpArgs false
set_option linter.unusedVariables false
def mtdB (P : Program) (t : TypeId) (name : String) (f : FuncId) : Bool :=
  (match P.info? t with
  | some i => (match i.methods.find? (·.name == name) with
    | some m => m.path.isEmpty && (match m.func with
      | some (g, true) => g == f
      | _ => false)
    | none => false)
  | none => false) && (match P.underlying t with
  | some (.pointer _) => true
  | _ => false)
theorem l_callMethod {P : Program} {H : Hp} {K : Next → Hp → Prop} {f : FuncId} {t : TypeId} {v : Value} {name : String} {args : Array Value} (hm : mtdB P t name f = true) (hb : bodied P f = true) : Lt P (callMethod (.iface t v) name args) H K = K (.enter f (#[v] ++ args)) H := by
  unfold mtdB at hm
  rw [Bool.and_eq_true] at hm
  obtain ⟨h1, h2⟩ := hm
  have hd : Made.depth = 0 ∨ 0 < Made.depth := Nat.eq_zero_or_pos _
  have hm : ∀ (k : Nat) (K' : FuncId × Value → Hp → Prop), Lt P (method (k + 1) t v name) H K' = K' (f, v) H := by
    intro k K'
    simp only [method, zaD, l_info]
    cases hi : P.info? t with
    | none => rw [hi] at h1; cases h1
    | some i =>
      rw [hi] at h1
      simp only [zai]
      simp only at h1
      cases hf : i.methods.find? (·.name == name) with
      | none => rw [hf] at h1; cases h1
      | some m =>
        rw [hf] at h1
        simp only [Bool.and_eq_true] at h1
        obtain ⟨h3, h4⟩ := h1
        have hp : m.path = #[] := by simpa using h3
        simp only [hp, follow, zaD, zaO]
        cases hmf : m.func with
        | none => rw [hmf] at h4; cases h4
        | some q =>
          obtain ⟨g, b⟩ := q
          rw [hmf] at h4
          cases b with
          | false => cases h4
          | true =>
            have hg : g = f := by simpa using h4
            subst hg
            simp only [receiverAt, zaD, l_und]
            cases hu : P.underlying t with
            | none => rw [hu] at h2; cases h2
            | some d =>
              rw [hu] at h2
              cases d with
              | pointer e => simp only [zai, Place.get, zaO]
              | _ => cases h2
  have hsz : ∃ k, P.types.size + Made.depth = k + 1 := by
    cases hi : P.info? t with
    | none => rw [hi] at h1; cases h1
    | some i =>
      have : P.types.size ≠ 0 ∨ 0 < Made.depth := by
        first
        | exact .inr (by decide)
      exact ⟨P.types.size + Made.depth - 1, by omega⟩
  obtain ⟨k, hk⟩ := hsz
  have e0 : Lt P (callMethod (.iface t v) name args) H K = Lt P (method (P.types.size + Made.depth) t v name) H (fun q H' => Lt P (callFunc q.1 (#[q.2] ++ args)) H' K) := by
    show Lt P (method _ t v name >>= fun q => callFunc q.1 (#[q.2] ++ args)) H K = _
    rw [zaD]
  rw [e0, hk, hm]
  exact l_callFunc f _ hb
theorem x_invoke {P : Program} {H : Hp} {K : Next → Hp → Prop} {ρ : Operand → Value} {d : Option Nat} {ty : TypeId} {p : String} {af : Array Edge} {g : Option (Nat × Bool)} (recv : Operand) (name : String) (args : Array Operand) (ts : Array TypeId) : Lt P (execOp ρ ⟨d, .call ⟨.invoke recv name, args, ts⟩, ty, p, af, g⟩) H K = Lt P (callMethod (ρ recv) name (args.map ρ)) H K := by
  have e0 : Lt P (execOp ρ ⟨d, .call ⟨.invoke recv name, args, ts⟩, ty, p, af, g⟩) H K = Lt P (invoke (.fn (.method name) #[]) (#[ρ recv] ++ args.map ρ)) H K := rfl
  rw [e0]
  have e1 : (#[ρ recv] ++ args.map ρ)[0]? = some (ρ recv) := by
    rw [Array.getElem?_append_left (Nat.lt_succ_self 0)]
    rfl
  have e2 : (#[ρ recv] ++ args.map ρ).extract 1 (#[ρ recv] ++ args.map ρ).size = args.map ρ := by
    apply Array.ext'
    simp
    rw [List.take_of_length_le (by simp)]
  simp only [invoke, e1, e2]
end Go.Proofs.Ytjhohnbdhopllaa.HL
end
section
namespace Go.Proofs.Ytjhohnbdhopllaa.HL
open Go Go.Proofs
set_option linter.unusedSimpArgs false
set_option linter.unusedVariables false
attribute [local irreducible] Lt Lq CW OW TW CallH
def GXo (g : Nat) (l : List En) (F : Hp) : Prop := ∃ s rs, F g = some (.cells #[s] 82) ∧ OwnS F 38 2 s l.length (ens l) rs ∧ rs ≠ some g
theorem gl_cmp (a b : En) : orI [cmpI b.v a.v, cmpI a.k b.k] < 0 ↔ glE a b := by
  unfold orI orI orI cmpI glE
  split <;> (try split) <;> (try split) <;> (try split) <;> (try split) <;> (try split) <;> constructor <;> omega
set_option maxRecDepth 100000 in
set_option maxHeartbeats 1000000 in
theorem glen_ok (G : Hp) (g : Nat) (l : List En) (h : GXo g l G) : CallH Try.prog 108 #[.pointer (some ⟨g, 0, none⟩)] G (fun v G' => v = .int .i64 l.length ∧ G' = G) := by
 refine zaB (l := [_]) (rl := [.tmp 2]) (n := 7) Try.func108 rfl rfl rfl rfl rfl ?_
 simp only [envOf, Nat.reduceAdd]
 obtain ⟨s, rs, hg, ho, hrg⟩ := h
 obtain ⟨sa, sc, rfl⟩ := ho.holds.form
 refine zad (fun K1 hK1 => ?_)
 refine zab ?_
 refine zao rfl ?_
 refine zae ?_
 try simp only [Ex.thnH, Ex.inBlockH, ↓reduceIte, Nat.reduceEqDiff]
 refine hK1 _ _ ?_; try clear hK1 K1
 refine zad (fun K2 hK2 => ?_)
 refine zab ?_
 refine zag rfl ?_
 refine zac (fun K hK r => ?_)
 rw [zaT _ _ rfl]
 simp only [eX, ↓reduceIte, Nat.reduceEqDiff, Int.reduceToNat]
 refine hK _ _ ?_; clear hK K
 refine zac (fun K hK r => ?_)
 simp only [zar, eX, ↓reduceIte, Nat.reduceEqDiff, Int.reduceToNat]
 refine zak Try.underlying82 rfl hbA ldA ?_
 try simp only [eX, ↓reduceIte, Nat.reduceEqDiff, Int.reduceToNat]
 refine hK _ _ ?_; clear hK K
 refine zac (fun K hK r => ?_)
 simp only [zaC, l_len, List.map_toArray, List.map_cons, List.map_nil, zaF _ _ Try.underlying82, eX, ↓reduceIte, Nat.reduceEqDiff, Int.reduceToNat]
 refine hK _ _ ?_; clear hK K
 refine zao rfl ?_
 refine zae ?_
 try simp only [Ex.thnH, Ex.inBlockH, ↓reduceIte, Nat.reduceEqDiff]
 refine hK2 _ _ ?_; try clear hK2 K2
 refine zaV ?_
 try simp only [Ex.thnH, Ex.inBlockH, ↓reduceIte, Nat.reduceEqDiff]
 refine ⟨[_], ⟨rfl, trivial⟩, G, lhA, ?_, rfl⟩
 rfl
set_option maxRecDepth 100000 in
set_option maxHeartbeats 1000000 in
theorem gless_ok (G : Hp) (g : Nat) (l : List En) (h : GXo g l G) (i j : Nat) (hi : i < l.length) (hj : j < l.length) : CallH Try.prog 109 #[.pointer (some ⟨g, 0, none⟩), .int .i64 i, .int .i64 j] G (fun v G' => v = .bool (decide (glE (at_ l i) (at_ l j))) ∧ G' = G) := by
 refine zaB (l := [_, _, _]) (rl := [.tmp 6]) (n := 34) Try.func109 rfl rfl rfl rfl rfl ?_
 simp only [envOf, Nat.reduceAdd]
 obtain ⟨s, rs, hg, ho, hrg⟩ := h
 obtain ⟨sa, sc, rfl⟩ := ho.holds.form
 obtain ⟨bw, ow, cw, Tw, Fw, ew, hbw, hsw, atw⟩ := ho.holds.at (by omega)
 refine zad (fun K1 hK1 => ?_)
 refine zab ?_
 refine zao rfl ?_
 refine zae ?_
 try simp only [Ex.thnH, Ex.inBlockH, ↓reduceIte, Nat.reduceEqDiff]
 refine hK1 _ _ ?_; try clear hK1 K1
 refine zad (fun K2 hK2 => ?_)
 refine CW_drawE [0, 0, 1, 0, 0, 1, 0, 0, 1, 0, 0, 1, 4, 4, 2, 3] [0, 1, 2, 3, 4, 5, 6, 7, 8, 9, 10, 11, 12, 13, 14, 15] (by kernel_rfl) (by kernel_rfl) (fun R1 hR1 => ?_)
 apply zaf rfl (zaa (by decide)) rfl
 ·intro r
  simp only [zaq, eX, ↓reduceIte, Nat.reduceEqDiff]
  exact ⟨rfl, Le.refl _⟩
 simp only [eX, ↓reduceIte, Nat.reduceEqDiff, Int.reduceToNat]
 apply zaf rfl (zaa (by decide)) rfl
 ·intro r
  rw [zaT _ _ rfl]
  exact ⟨rfl, Le.refl _⟩
 simp only [eX, ↓reduceIte, Nat.reduceEqDiff, Int.reduceToNat]
 apply zaW rfl (zaa (by decide)) rfl
 ·intro r
  simp only [zar, eX, ↓reduceIte, Nat.reduceEqDiff]
  refine zak Try.underlying82 rfl hbA ldA ?_
  exact ⟨rfl, Le.refl _⟩
 simp only [eX, ↓reduceIte, Nat.reduceEqDiff, Int.reduceToNat]
 apply zaf rfl (zaa (by decide)) rfl
 ·intro r
  simp only [zaq, eX, ↓reduceIte, Nat.reduceEqDiff]
  exact ⟨rfl, Le.refl _⟩
 simp only [eX, ↓reduceIte, Nat.reduceEqDiff, Int.reduceToNat]
 apply zaf rfl (zaa (by decide)) rfl
 ·intro r
  simp only [zav, eX, ↓reduceIte, Nat.reduceEqDiff]
  refine zaN Try.underlying82 sz38 ew ixA ixA ?_
  try simp only [Int.toNat_natCast]
  exact ⟨rfl, Le.refl _⟩
 simp only [eX, ↓reduceIte, Nat.reduceEqDiff, Int.reduceToNat]
 apply zaW rfl (zaa (by decide)) rfl
 ·intro r
  simp only [zar, eX, ↓reduceIte, Nat.reduceEqDiff]
  refine zaS Try.underlying38 rfl sz38 hbA (by omega) ?_
  rw [ext_at En.len atw rfl i (by omega) hsw]
  exact ⟨rfl, Le.refl _⟩
 simp only [eX, ↓reduceIte, Nat.reduceEqDiff, Int.reduceToNat]
 apply zaf rfl (zaa (by decide)) rfl
 ·intro r
  simp only [zaq, eX, ↓reduceIte, Nat.reduceEqDiff]
  exact ⟨rfl, Le.refl _⟩
 simp only [eX, ↓reduceIte, Nat.reduceEqDiff, Int.reduceToNat]
 apply zaf rfl (zaa (by decide)) rfl
 ·intro r
  rw [zaT _ _ rfl]
  exact ⟨rfl, Le.refl _⟩
 simp only [eX, ↓reduceIte, Nat.reduceEqDiff, Int.reduceToNat]
 apply zaW rfl (zaa (by decide)) rfl
 ·intro r
  simp only [zar, eX, ↓reduceIte, Nat.reduceEqDiff]
  refine zak Try.underlying82 rfl hbA ldA ?_
  exact ⟨rfl, Le.refl _⟩
 simp only [eX, ↓reduceIte, Nat.reduceEqDiff, Int.reduceToNat]
 apply zaf rfl (zaa (by decide)) rfl
 ·intro r
  simp only [zaq, eX, ↓reduceIte, Nat.reduceEqDiff]
  exact ⟨rfl, Le.refl _⟩
 simp only [eX, ↓reduceIte, Nat.reduceEqDiff, Int.reduceToNat]
 apply zaf rfl (zaa (by decide)) rfl
 ·intro r
  simp only [zav, eX, ↓reduceIte, Nat.reduceEqDiff]
  refine zaN Try.underlying82 sz38 ew ixA ixA ?_
  try simp only [Int.toNat_natCast]
  exact ⟨rfl, Le.refl _⟩
 simp only [eX, ↓reduceIte, Nat.reduceEqDiff, Int.reduceToNat]
 apply zaW rfl (zaa (by decide)) rfl
 ·intro r
  simp only [zar, eX, ↓reduceIte, Nat.reduceEqDiff]
  refine zaS Try.underlying38 rfl sz38 hbA (by omega) ?_
  rw [ext_at En.len atw rfl j (by omega) hsw]
  exact ⟨rfl, Le.refl _⟩
 simp only [eX, ↓reduceIte, Nat.reduceEqDiff, Int.reduceToNat]
 refine TW_make rfl (zaa (by decide)) rfl (fun K hK r => ?_)
 simp only [x_alloc, zr38, zai, Value.cells, eX, ↓reduceIte, Nat.reduceEqDiff, Int.reduceToNat]
 intro b7 hb7
 try have n7_g : g ≠ b7 := zaz hbA hb7
 try have n7_bw : bw ≠ b7 := zaz hbA hb7
 have f7_G : G b7 = none := zaj lhA hb7
 have f7_R1 : R1 b7 = none := zaj lhA hb7
 try simp only [eX, ↓reduceIte, Nat.reduceEqDiff, Int.reduceToNat]
 refine hK _ _ ?_; clear hK K
 refine TW_make rfl (zaa (by decide)) rfl (fun K hK r => ?_)
 simp only [x_alloc, zr38, zai, Value.cells, eX, ↓reduceIte, Nat.reduceEqDiff, Int.reduceToNat]
 intro b8 hb8
 try have n8_g : g ≠ b8 := zaz hbA hb8
 try have n8_bw : bw ≠ b8 := zaz hbA hb8
 try have n8_b7 : b7 ≠ b8 := zaz hbA hb8
 have f8_G : G b8 = none := zaj lhA hb8
 have f8_R1 : R1 b8 = none := zaj lhA hb8
 try simp only [eX, ↓reduceIte, Nat.reduceEqDiff, Int.reduceToNat]
 refine hK _ _ ?_; clear hK K
 refine TW_chain rfl (lt_none) rfl (fun K hK r => ?_)
 simp only [x_store, eX, ↓reduceIte, Nat.reduceEqDiff, Int.reduceToNat]
 first | refine Lt_storeAll sz38 bdA hbA bdA plA (by decide) ?_ | refine Lt_storeAtA sz38 bdA hbA bdA plA (by decide) ?_
 try simp only [eX, ↓reduceIte, Nat.reduceEqDiff, Int.reduceToNat]
 refine hK _ _ leA ?_; clear hK K
 refine TW_last rfl (lt_none) rfl (fun K hK r => ?_)
 simp only [x_store, eX, ↓reduceIte, Nat.reduceEqDiff, Int.reduceToNat]
 first | refine Lt_storeAll sz38 bdA hbA bdA plA (by decide) ?_ | refine Lt_storeAtA sz38 bdA hbA bdA plA (by decide) ?_
 try simp only [eX, ↓reduceIte, Nat.reduceEqDiff, Int.reduceToNat]
 refine hK _ _ ?_; clear hK K
 refine TW_nil ?_
 try simp only [Ex.thnH, Ex.inBlockH, ↓reduceIte, Nat.reduceEqDiff]
 refine hK2 _ _ ?_; try clear hK2 K2
 refine zad (fun K3 hK3 => ?_)
 refine CW_drawE [0, 1, 0, 1, 2, 0, 1, 0, 1, 2, 2, 2, 0, 0] [0, 1, 2, 3, 4, 5, 6, 7, 8, 9, 10, 11, 12, 13] (by kernel_rfl) (by kernel_rfl) (fun R2 hR2 => ?_)
 apply zaf rfl (zaa (by decide)) rfl
 ·intro r
  simp only [zah, fa38_0, zaA, Nat.reduceAdd, Nat.zero_add, eX, ↓reduceIte, Nat.reduceEqDiff]
  exact ⟨rfl, Le.refl _⟩
 simp only [eX, ↓reduceIte, Nat.reduceEqDiff, Int.reduceToNat]
 apply zaW rfl (zaa (by decide)) rfl
 ·intro r
  simp only [zar, eX, ↓reduceIte, Nat.reduceEqDiff]
  refine zak Try.underlying3 rfl hbA ldA ?_
  exact ⟨rfl, Le.refl _⟩
 simp only [eX, ↓reduceIte, Nat.reduceEqDiff, Int.reduceToNat]
 apply zaf rfl (zaa (by decide)) rfl
 ·intro r
  simp only [zah, fa38_0, zaA, Nat.reduceAdd, Nat.zero_add, eX, ↓reduceIte, Nat.reduceEqDiff]
  exact ⟨rfl, Le.refl _⟩
 simp only [eX, ↓reduceIte, Nat.reduceEqDiff, Int.reduceToNat]
 apply zaW rfl (zaa (by decide)) rfl
 ·intro r
  simp only [zar, eX, ↓reduceIte, Nat.reduceEqDiff]
  refine zak Try.underlying3 rfl hbA ldA ?_
  exact ⟨rfl, Le.refl _⟩
 simp only [eX, ↓reduceIte, Nat.reduceEqDiff, Int.reduceToNat]
 refine TW_chain rfl (zaa (by decide)) rfl (fun K hK r => ?_)
 simp only [zaQ _ bd61, List.map_toArray, List.map_cons, List.map_nil, eX, ↓reduceIte, Nat.reduceEqDiff, Int.reduceToNat]
 refine (compare_ok _ (at_ l j).v (at_ l i).v).mono ?_
 rintro v H' ⟨rfl, hq⟩
 have hq := hq.symm
 subst hq
 try simp only [eX, ↓reduceIte, Nat.reduceEqDiff, Int.reduceToNat]
 refine hK _ _ leA ?_; clear hK K
 apply zaf rfl (zaa (by decide)) rfl
 ·intro r
  simp only [zah, fa38_1, zaA, Nat.reduceAdd, Nat.zero_add, eX, ↓reduceIte, Nat.reduceEqDiff]
  exact ⟨rfl, Le.refl _⟩
 simp only [eX, ↓reduceIte, Nat.reduceEqDiff, Int.reduceToNat]
 apply zaW rfl (zaa (by decide)) rfl
 ·intro r
  simp only [zar, eX, ↓reduceIte, Nat.reduceEqDiff]
  refine zak Try.underlying3 rfl hbA ldA ?_
  exact ⟨rfl, Le.refl _⟩
 simp only [eX, ↓reduceIte, Nat.reduceEqDiff, Int.reduceToNat]
 apply zaf rfl (zaa (by decide)) rfl
 ·intro r
  simp only [zah, fa38_1, zaA, Nat.reduceAdd, Nat.zero_add, eX, ↓reduceIte, Nat.reduceEqDiff]
  exact ⟨rfl, Le.refl _⟩
 simp only [eX, ↓reduceIte, Nat.reduceEqDiff, Int.reduceToNat]
 apply zaW rfl (zaa (by decide)) rfl
 ·intro r
  simp only [zar, eX, ↓reduceIte, Nat.reduceEqDiff]
  refine zak Try.underlying3 rfl hbA ldA ?_
  exact ⟨rfl, Le.refl _⟩
 simp only [eX, ↓reduceIte, Nat.reduceEqDiff, Int.reduceToNat]
 refine TW_chain rfl (zaa (by decide)) rfl (fun K hK r => ?_)
 simp only [zaQ _ bd61, List.map_toArray, List.map_cons, List.map_nil, eX, ↓reduceIte, Nat.reduceEqDiff, Int.reduceToNat]
 refine (compare_ok _ (at_ l i).k (at_ l j).k).mono ?_
 rintro v H' ⟨rfl, hq⟩
 have hq := hq.symm
 subst hq
 try simp only [eX, ↓reduceIte, Nat.reduceEqDiff, Int.reduceToNat]
 refine hK _ _ leA ?_; clear hK K
 refine TW_chain rfl (zaa (by decide)) rfl (fun K hK r => ?_)
 simp only [x_buildSlice, List.map_toArray, List.map_cons, List.map_nil, eX, ↓reduceIte, Nat.reduceEqDiff, Int.reduceToNat]
 refine Lt_buildSlice (vs := [_, _]) Try.underlying55 sz3 zr3 rfl bsA (by first | decide | (simp; done)) ?_
 simp only [List.flatMap_cons, List.flatMap_nil, Value.cells, List.append_nil, List.cons_append, List.nil_append, List.length_cons, List.length_nil, Nat.zero_add, Nat.reduceAdd]
 intro b31 hb31
 try have n31_g : g ≠ b31 := zaz hbA hb31
 try have n31_bw : bw ≠ b31 := zaz hbA hb31
 try have n31_b7 : b7 ≠ b31 := zaz hbA hb31
 try have n31_b8 : b8 ≠ b31 := zaz hbA hb31
 have f31_G : G b31 = none := zaj lhA hb31
 have f31_R1 : R1 b31 = none := zaj lhA hb31
 have f31_R2 : R2 b31 = none := zaj lhA hb31
 try simp only [eX, ↓reduceIte, Nat.reduceEqDiff, Int.reduceToNat]
 refine hK _ _ leA ?_; clear hK K
 refine TW_chain rfl (zaa (by decide)) rfl (fun K hK r => ?_)
 simp only [zaQ _ bd60, List.map_toArray, List.map_cons, List.map_nil, eX, ↓reduceIte, Nat.reduceEqDiff, Int.reduceToNat]
 refine (cmpor_ok _ (some ⟨b31, 0, none⟩) 2 [cmpI (at_ l j).v (at_ l i).v, cmpI (at_ l i).k (at_ l j).k] ⟨rfl, .inr ⟨b31, 0, 2, _, _, _, rfl, hbA, by simp, by simp⟩⟩ (by simp)).mono ?_
 rintro v H' ⟨rfl, hq⟩
 have hq := hq.symm
 subst hq
 try simp only [eX, ↓reduceIte, Nat.reduceEqDiff, Int.reduceToNat]
 refine hK _ _ leA ?_; clear hK K
 apply zaf rfl (zaa (by decide)) rfl
 ·intro r
  simp (disch := (first | omega | decide)) only [zaI, zaM, b_lss, zau, zaw, zat, zax, zas, zay, Bool.not_true, Bool.not_false, eX, ↓reduceIte, Nat.reduceEqDiff]
  exact ⟨rfl, Le.refl _⟩
 simp only [eX, ↓reduceIte, Nat.reduceEqDiff, Int.reduceToNat]
 apply zaf rfl (zaa (by decide)) rfl
 ·intro r
  simp only [x_assign, eX, ↓reduceIte, Nat.reduceEqDiff]
  exact ⟨rfl, Le.refl _⟩
 simp only [eX, ↓reduceIte, Nat.reduceEqDiff, Int.reduceToNat]
 refine TW_nil ?_
 try simp only [Ex.thnH, Ex.inBlockH, ↓reduceIte, Nat.reduceEqDiff]
 refine hK3 _ _ ?_; try clear hK3 K3
 refine zaV ?_
 try simp only [Ex.thnH, Ex.inBlockH, ↓reduceIte, Nat.reduceEqDiff]
 refine ⟨[_], ⟨rfl, trivial⟩, G, lhA, ?_, rfl⟩
 show Value.bool _ = Value.bool _
 congr 1
 exact decide_eq_decide.2 (gl_cmp _ _)
set_option maxRecDepth 100000 in
set_option maxHeartbeats 1000000 in
theorem gswap_ok (G : Hp) (g : Nat) (l : List En) (h : GXo g l G) (i j : Nat) (hi : i < l.length) (hj : j < l.length) : CallH Try.prog 111 #[.pointer (some ⟨g, 0, none⟩), .int .i64 i, .int .i64 j] G (fun v G' => v = .tuple #[] ∧ GXo g (swapE l i j) G') := by
 refine zaB (l := [_, _, _]) (rl := []) (n := 28) Try.func111 rfl rfl rfl rfl rfl ?_
 simp only [envOf, Nat.reduceAdd]
 obtain ⟨s, rs, hg, ho, hrg⟩ := h
 obtain ⟨sa, sc, rfl⟩ := ho.holds.form
 have hnc := ho.capn
 obtain ⟨r0, c0, rfl, hr0, hc0, hx0, hrs0⟩ := ho.blk (by omega)
 have ew : (some ⟨r0, 0, none⟩ : Option Addr) = some ⟨r0, 0, none⟩ := rfl
 obtain ⟨bw, ow, cw, Tw, Fw, ew2, hbw, hsw, atw⟩ := ho.holds.at (by omega)
 injection ew2 with ew2; injection ew2 with ew2 ew3; subst ew2; subst ew3
 rw [hr0] at hbw; injection hbw with hbw; injection hbw with hbw hbT hbF; subst hbw
 have hng : g ≠ r0 := fun e => hrg (by rw [hrs0, e])
 subst hrs0
 have hrow1 := ho.rowR En.len hr0 rfl hi (at_ l j)
 have hrow2 := hrow1.rowR En.len (zap _ _ _) (by simp) hj (at_ l i)
 rw [upd_upd] at hrow2
 refine CW_drawE [0, 0, 1, 0, 0, 0, 1, 0, 0, 0, 1, 0, 0, 1, 0, 0, 1, 0, 0, 1, 0, 3, 0, 3] [0, 1, 2, 3, 4, 5, 6, 7, 8, 9, 10, 11, 12, 13, 14, 15, 16, 17, 18, 19, 20, 21, 22, 23] (by kernel_rfl) (by kernel_rfl) (fun R0 hR0 => ?_)
 apply zaf rfl (zaa (by decide)) rfl
 ·intro r
  simp only [zaq, eX, ↓reduceIte, Nat.reduceEqDiff]
  exact ⟨rfl, Le.refl _⟩
 simp only [eX, ↓reduceIte, Nat.reduceEqDiff, Int.reduceToNat]
 apply zaf rfl (zaa (by decide)) rfl
 ·intro r
  rw [zaT _ _ rfl]
  exact ⟨rfl, Le.refl _⟩
 simp only [eX, ↓reduceIte, Nat.reduceEqDiff, Int.reduceToNat]
 apply zaW rfl (zaa (by decide)) rfl
 ·intro r
  simp only [zar, eX, ↓reduceIte, Nat.reduceEqDiff]
  refine zak Try.underlying82 rfl hbA ldA ?_
  exact ⟨rfl, Le.refl _⟩
 simp only [eX, ↓reduceIte, Nat.reduceEqDiff, Int.reduceToNat]
 apply zaf rfl (zaa (by decide)) rfl
 ·intro r
  simp only [zaq, eX, ↓reduceIte, Nat.reduceEqDiff]
  exact ⟨rfl, Le.refl _⟩
 simp only [eX, ↓reduceIte, Nat.reduceEqDiff, Int.reduceToNat]
 apply zaf rfl (zaa (by decide)) rfl
 ·intro r
  simp only [zaq, eX, ↓reduceIte, Nat.reduceEqDiff]
  exact ⟨rfl, Le.refl _⟩
 simp only [eX, ↓reduceIte, Nat.reduceEqDiff, Int.reduceToNat]
 apply zaf rfl (zaa (by decide)) rfl
 ·intro r
  rw [zaT _ _ rfl]
  exact ⟨rfl, Le.refl _⟩
 simp only [eX, ↓reduceIte, Nat.reduceEqDiff, Int.reduceToNat]
 apply zaW rfl (zaa (by decide)) rfl
 ·intro r
  simp only [zar, eX, ↓reduceIte, Nat.reduceEqDiff]
  refine zak Try.underlying82 rfl hbA ldA ?_
  exact ⟨rfl, Le.refl _⟩
 simp only [eX, ↓reduceIte, Nat.reduceEqDiff, Int.reduceToNat]
 apply zaf rfl (zaa (by decide)) rfl
 ·intro r
  simp only [zaq, eX, ↓reduceIte, Nat.reduceEqDiff]
  exact ⟨rfl, Le.refl _⟩
 simp only [eX, ↓reduceIte, Nat.reduceEqDiff, Int.reduceToNat]
 apply zaf rfl (zaa (by decide)) rfl
 ·intro r
  simp only [zaq, eX, ↓reduceIte, Nat.reduceEqDiff]
  exact ⟨rfl, Le.refl _⟩
 simp only [eX, ↓reduceIte, Nat.reduceEqDiff, Int.reduceToNat]
 apply zaf rfl (zaa (by decide)) rfl
 ·intro r
  rw [zaT _ _ rfl]
  exact ⟨rfl, Le.refl _⟩
 simp only [eX, ↓reduceIte, Nat.reduceEqDiff, Int.reduceToNat]
 apply zaW rfl (zaa (by decide)) rfl
 ·intro r
  simp only [zar, eX, ↓reduceIte, Nat.reduceEqDiff]
  refine zak Try.underlying82 rfl hbA ldA ?_
  exact ⟨rfl, Le.refl _⟩
 simp only [eX, ↓reduceIte, Nat.reduceEqDiff, Int.reduceToNat]
 apply zaf rfl (zaa (by decide)) rfl
 ·intro r
  simp only [zaq, eX, ↓reduceIte, Nat.reduceEqDiff]
  exact ⟨rfl, Le.refl _⟩
 simp only [eX, ↓reduceIte, Nat.reduceEqDiff, Int.reduceToNat]
 apply zaf rfl (zaa (by decide)) rfl
 ·intro r
  simp only [zav, eX, ↓reduceIte, Nat.reduceEqDiff]
  refine zaN Try.underlying82 sz38 ew ixA ixA ?_
  try simp only [Int.toNat_natCast]
  exact ⟨rfl, Le.refl _⟩
 simp only [eX, ↓reduceIte, Nat.reduceEqDiff, Int.reduceToNat]
 apply zaW rfl (zaa (by decide)) rfl
 ·intro r
  simp only [zar, eX, ↓reduceIte, Nat.reduceEqDiff]
  refine zaS Try.underlying38 rfl sz38 hbA (by omega) ?_
  rw [ext_at En.len atw rfl j (by omega) hsw]
  exact ⟨rfl, Le.refl _⟩
 simp only [eX, ↓reduceIte, Nat.reduceEqDiff, Int.reduceToNat]
 apply zaf rfl (zaa (by decide)) rfl
 ·intro r
  simp only [zaq, eX, ↓reduceIte, Nat.reduceEqDiff]
  exact ⟨rfl, Le.refl _⟩
 simp only [eX, ↓reduceIte, Nat.reduceEqDiff, Int.reduceToNat]
 apply zaf rfl (zaa (by decide)) rfl
 ·intro r
  rw [zaT _ _ rfl]
  exact ⟨rfl, Le.refl _⟩
 simp only [eX, ↓reduceIte, Nat.reduceEqDiff, Int.reduceToNat]
 apply zaW rfl (zaa (by decide)) rfl
 ·intro r
  simp only [zar, eX, ↓reduceIte, Nat.reduceEqDiff]
  refine zak Try.underlying82 rfl hbA ldA ?_
  exact ⟨rfl, Le.refl _⟩
 simp only [eX, ↓reduceIte, Nat.reduceEqDiff, Int.reduceToNat]
 apply zaf rfl (zaa (by decide)) rfl
 ·intro r
  simp only [zaq, eX, ↓reduceIte, Nat.reduceEqDiff]
  exact ⟨rfl, Le.refl _⟩
 simp only [eX, ↓reduceIte, Nat.reduceEqDiff, Int.reduceToNat]
 apply zaf rfl (zaa (by decide)) rfl
 ·intro r
  simp only [zav, eX, ↓reduceIte, Nat.reduceEqDiff]
  refine zaN Try.underlying82 sz38 ew ixA ixA ?_
  try simp only [Int.toNat_natCast]
  exact ⟨rfl, Le.refl _⟩
 simp only [eX, ↓reduceIte, Nat.reduceEqDiff, Int.reduceToNat]
 apply zaW rfl (zaa (by decide)) rfl
 ·intro r
  simp only [zar, eX, ↓reduceIte, Nat.reduceEqDiff]
  refine zaS Try.underlying38 rfl sz38 hbA (by omega) ?_
  rw [ext_at En.len atw rfl i (by omega) hsw]
  exact ⟨rfl, Le.refl _⟩
 simp only [eX, ↓reduceIte, Nat.reduceEqDiff, Int.reduceToNat]
 apply zaf rfl (zaa (by decide)) rfl
 ·intro r
  simp only [zav, eX, ↓reduceIte, Nat.reduceEqDiff]
  refine zaN Try.underlying82 sz38 ew ixA ixA ?_
  try simp only [Int.toNat_natCast]
  exact ⟨rfl, Le.refl _⟩
 simp only [eX, ↓reduceIte, Nat.reduceEqDiff, Int.reduceToNat]
 refine TW_last rfl (lt_none) rfl (fun K hK r => ?_)
 simp only [x_store, eX, ↓reduceIte, Nat.reduceEqDiff, Int.reduceToNat]
 refine Lt_storeAtA sz38 rfl hbA (by show 0 + i * 2 + 2 ≤ _; omega) (by intro z hz; simp at hz; rcases hz with rfl | rfl <;> rfl) (by decide) ?_
 refine hK _ _ ?_; clear hK K
 apply zaf rfl (zaa (by decide)) rfl
 ·intro r
  simp only [zav, eX, ↓reduceIte, Nat.reduceEqDiff]
  refine zaN Try.underlying82 sz38 ew ixA ixA ?_
  try simp only [Int.toNat_natCast]
  exact ⟨rfl, Le.refl _⟩
 simp only [eX, ↓reduceIte, Nat.reduceEqDiff, Int.reduceToNat]
 refine TW_last rfl (lt_none) rfl (fun K hK r => ?_)
 simp only [x_store, eX, ↓reduceIte, Nat.reduceEqDiff, Int.reduceToNat]
 refine Lt_storeAtA sz38 rfl hbA (by show 0 + j * 2 + 2 ≤ _; rw [putCells_size]; omega) (by intro z hz; simp at hz; rcases hz with rfl | rfl <;> rfl) (by decide) ?_
 rw [upd_upd]
 refine hK _ _ ?_; clear hK K
 refine TW_nil ?_
 try simp only [Ex.thnH, Ex.inBlockH, ↓reduceIte, Nat.reduceEqDiff]
 refine ⟨[], trivial, _, Le.refl _, rfl, _, some r0, ?_, by rw [swapE_len]; simp only [Nat.zero_add]; exact hrow2, hrg⟩
 rw [zaE _ _ hng]; exact hg
set_option maxRecDepth 100000 in
set_option maxHeartbeats 1000000 in
theorem gpop_ok (G : Hp) (g : Nat) (l : List En) (h : GXo g l G) (hl : 0 < l.length) (hn : l.length ≤ 1000000) : CallH Try.prog 110 #[.pointer (some ⟨g, 0, none⟩)] G (fun v G' => v = .iface 38 (.agg (at_ l (l.length - 1)).c.toArray) ∧ GXo g (l.take (l.length - 1)) G') := by
 refine zaB (l := [_]) (rl := [.tmp 2]) (n := 25) Try.func110 rfl rfl rfl rfl rfl ?_
 simp only [envOf, Nat.reduceAdd]
 obtain ⟨s, rs, hg, ho, hrg⟩ := h
 obtain ⟨sa, sc, rfl⟩ := ho.holds.form
 have hnc := ho.capn
 obtain ⟨bw, ow, cw, Tw, Fw, ew, hbw, hsw, atw⟩ := ho.holds.at (by omega)
 refine zad (fun K1 hK1 => ?_)
 refine zab ?_
 refine zao rfl ?_
 refine zae ?_
 try simp only [Ex.thnH, Ex.inBlockH, ↓reduceIte, Nat.reduceEqDiff]
 refine hK1 _ _ ?_; try clear hK1 K1
 refine zad (fun K2 hK2 => ?_)
 refine zab ?_
 refine zag rfl ?_
 refine zac (fun K hK r => ?_)
 rw [zaT _ _ rfl]
 simp only [eX, ↓reduceIte, Nat.reduceEqDiff, Int.reduceToNat]
 refine hK _ _ ?_; clear hK K
 refine zac (fun K hK r => ?_)
 simp only [zar, eX, ↓reduceIte, Nat.reduceEqDiff, Int.reduceToNat]
 refine zak Try.underlying82 rfl hbA ldA ?_
 try simp only [eX, ↓reduceIte, Nat.reduceEqDiff, Int.reduceToNat]
 refine hK _ _ ?_; clear hK K
 refine zac (fun K hK r => ?_)
 simp only [zaC, l_len, List.map_toArray, List.map_cons, List.map_nil, zaF _ _ Try.underlying82, eX, ↓reduceIte, Nat.reduceEqDiff, Int.reduceToNat]
 refine hK _ _ ?_; clear hK K
 refine zac (fun K hK r => ?_)
 simp (disch := (first | omega | decide)) only [zaI, zaM, b_sub, zaG, zaK, zaJ, zaR, eX, ↓reduceIte, Nat.reduceEqDiff, Int.reduceToNat]
 rw [show (l.length : Int) - 1 = ((l.length - 1 : Nat) : Int) from by omega]
 refine hK _ _ ?_; clear hK K
 refine zao rfl ?_
 refine zae ?_
 try simp only [Ex.thnH, Ex.inBlockH, ↓reduceIte, Nat.reduceEqDiff]
 refine hK2 _ _ ?_; try clear hK2 K2
 refine zad (fun K3 hK3 => ?_)
 refine zab ?_
 refine zag rfl ?_
 refine zac (fun K hK r => ?_)
 rw [zaT _ _ rfl]
 simp only [eX, ↓reduceIte, Nat.reduceEqDiff, Int.reduceToNat]
 refine hK _ _ ?_; clear hK K
 refine zac (fun K hK r => ?_)
 simp only [zar, eX, ↓reduceIte, Nat.reduceEqDiff, Int.reduceToNat]
 refine zak Try.underlying82 rfl hbA ldA ?_
 try simp only [eX, ↓reduceIte, Nat.reduceEqDiff, Int.reduceToNat]
 refine hK _ _ ?_; clear hK K
 refine zag rfl ?_
 refine zac (fun K hK r => ?_)
 simp only [zav, eX, ↓reduceIte, Nat.reduceEqDiff, Int.reduceToNat]
 refine zaN Try.underlying82 sz38 ew ixA ixA ?_
 try simp only [Int.toNat_natCast]
 refine hK _ _ ?_; clear hK K
 refine zac (fun K hK r => ?_)
 simp only [zar, eX, ↓reduceIte, Nat.reduceEqDiff, Int.reduceToNat]
 refine zaS Try.underlying38 rfl sz38 hbA (by omega) ?_
 rw [ext_at En.len atw rfl (l.length - 1) (by omega) hsw]
 refine hK _ _ ?_; clear hK K
 refine zac (fun K hK r => ?_)
 simp only [x_alloc, zr38, zai, Value.cells, eX, ↓reduceIte, Nat.reduceEqDiff, Int.reduceToNat]
 intro b4 hb4
 try have n4_g : g ≠ b4 := zaz hbA hb4
 try have n4_bw : bw ≠ b4 := zaz hbA hb4
 have f4_G : G b4 = none := zaj lhA hb4
 try simp only [eX, ↓reduceIte, Nat.reduceEqDiff, Int.reduceToNat]
 refine hK _ _ ?_; clear hK K
 refine OW_op rfl (lt_none) (fun K hK r => ?_)
 simp only [x_store, eX, ↓reduceIte, Nat.reduceEqDiff, Int.reduceToNat]
 first | refine Lt_storeAll sz38 bdA hbA bdA plA (by decide) ?_ | refine Lt_storeAtA sz38 bdA hbA bdA plA (by decide) ?_
 try simp only [eX, ↓reduceIte, Nat.reduceEqDiff, Int.reduceToNat]
 refine hK _ _ ?_; clear hK K
 refine zae ?_
 try simp only [Ex.thnH, Ex.inBlockH, ↓reduceIte, Nat.reduceEqDiff]
 refine hK3 _ _ ?_; try clear hK3 K3
 refine zad (fun K4 hK4 => ?_)
 refine zab ?_
 refine zag rfl ?_
 refine zag rfl ?_
 refine zac (fun K hK r => ?_)
 rw [zaT _ _ rfl]
 simp only [eX, ↓reduceIte, Nat.reduceEqDiff, Int.reduceToNat]
 refine hK _ _ ?_; clear hK K
 refine zac (fun K hK r => ?_)
 simp only [zar, eX, ↓reduceIte, Nat.reduceEqDiff, Int.reduceToNat]
 refine zak Try.underlying82 rfl hbA ldA ?_
 try simp only [eX, ↓reduceIte, Nat.reduceEqDiff, Int.reduceToNat]
 refine hK _ _ ?_; clear hK K
 refine zag rfl ?_
 refine zac (fun K hK r => ?_)
 simp only [x_slice, Option.map_some, Option.map_none, eX, ↓reduceIte, Nat.reduceEqDiff, Int.reduceToNat]
 refine Lt_sliceS Try.underlying82 sz38 zaU (bound_some ixA) zaU (by omega) (by simp; omega) (Nat.le_refl _) (by simp) ?_
 simp only [Nat.zero_mul, Nat.sub_zero, Int.toNat_natCast]
 rw [if_neg (show ¬ sc = 0 by omega)]
 refine hK _ _ ?_; clear hK K
 refine zac (fun K hK r => ?_)
 rw [zaT _ _ rfl]
 simp only [eX, ↓reduceIte, Nat.reduceEqDiff, Int.reduceToNat]
 refine hK _ _ ?_; clear hK K
 refine OW_op rfl (lt_none) (fun K hK r => ?_)
 simp only [x_store, eX, ↓reduceIte, Nat.reduceEqDiff, Int.reduceToNat]
 refine Lt_storeAt1 sz82 hbA bdA plA fzA ?_
 try simp only [setL0, setL1, setL2, setL3, setL4, setL5, setL6, setL7, setL8, setL9]
 try simp only [eX, ↓reduceIte, Nat.reduceEqDiff, Int.reduceToNat]
 refine hK _ _ ?_; clear hK K
 refine zae ?_
 try simp only [Ex.thnH, Ex.inBlockH, ↓reduceIte, Nat.reduceEqDiff]
 refine hK4 _ _ ?_; try clear hK4 K4
 refine zad (fun K5 hK5 => ?_)
 refine zab ?_
 refine zac (fun K hK r => ?_)
 simp only [zar, eX, ↓reduceIte, Nat.reduceEqDiff, Int.reduceToNat]
 first | refine Lt_loadAll Try.underlying38 rfl sz38 hbA bdA ?_ | refine zaS Try.underlying38 rfl sz38 hbA bdA ?_
 try simp only [List.extract_toArray, List.extract_eq_take_drop, Nat.zero_add, Nat.reduceAdd, Nat.reduceSub, Nat.sub_zero, List.drop_succ_cons, List.drop_zero, List.take_succ_cons, List.take_zero, List.take_nil, List.drop_nil]
 try simp only [eX, ↓reduceIte, Nat.reduceEqDiff, Int.reduceToNat]
 refine hK _ _ ?_; clear hK K
 refine zac (fun K hK r => ?_)
 simp only [x_makeInterface, i_makeInterface, Try.underlying38, zai, eX, ↓reduceIte, Nat.reduceEqDiff, Int.reduceToNat]
 refine hK _ _ ?_; clear hK K
 refine zao rfl ?_
 refine zae ?_
 try simp only [Ex.thnH, Ex.inBlockH, ↓reduceIte, Nat.reduceEqDiff]
 refine hK5 _ _ ?_; try clear hK5 K5
 refine zaV ?_
 try simp only [Ex.thnH, Ex.inBlockH, ↓reduceIte, Nat.reduceEqDiff]
 obtain ⟨r0, c0, rfl, hr0, hc0, hx0, hrs0⟩ := ho.blk hl
 have hng : g ≠ r0 := fun e => hrg (by rw [hrs0, e])
 have htl : (l.take (l.length - 1)).length = l.length - 1 := by rw [List.length_take]; omega
 refine ⟨[_], ⟨rfl, trivial⟩, _, Le.refl _, rfl, _, rs, zap _ _ _, ⟨by rw [ens_len], .inr ⟨r0, sc, c0, ?_, ?_, by omega, hc0, ?_, hrs0⟩⟩, hrg⟩
 ·rw [htl]; rfl
 ·rw [zaE _ _ (Ne.symm hng)]; exact (lhA : Le G _) _ _ hr0
 ·rw [htl, ← ens_take, ← hx0]
  simp only [Array.toList_extract, List.extract_eq_take_drop, List.drop_zero, Nat.sub_zero, List.take_take]
  congr 1; omega
end Go.Proofs.Ytjhohnbdhopllaa.HL
end
section
namespace Go.Proofs.Ytjhohnbdhopllaa.HL
open Go Go.Proofs
set_option linter.unusedSimpArgs false
set_option linter.unusedVariables false
attribute [local irreducible] Lt Lq CW OW TW CallH
theorem mdLen : mtdB Try.prog 85 "Len" 108 = true := by kernel_rfl
theorem mdLess : mtdB Try.prog 85 "Less" 109 = true := by kernel_rfl
theorem mdSwap : mtdB Try.prog 85 "Swap" 111 = true := by kernel_rfl
theorem mdPop : mtdB Try.prog 85 "Pop" 110 = true := by kernel_rfl
set_option maxRecDepth 100000 in
set_option maxHeartbeats 4000000 in
theorem down_ok (G : Hp) (g : Nat) (l : List En) (h : GXo g l G) (n i0 : Nat) (hn : n ≤ l.length) (hi0 : i0 ≤ n) (hl : l.length ≤ 1000000) (hh : HpF l n (i0 + 1)) : CallH Try.prog 52 #[.iface 85 (.pointer (some ⟨g, 0, none⟩)), .int .i64 i0, .int .i64 n] G (fun _ G' => ∃ l', GXo g l' G' ∧ l'.Perm l ∧ HpF l' n i0 ∧ ∀ k, n ≤ k → at_ l' k = at_ l k) := by
 refine zaB (l := [_, _, _]) (rl := [.tmp 6]) (n := 48) Try.func52 rfl rfl rfl rfl rfl ?_
 simp only [envOf, Nat.reduceAdd]
 refine zad (fun K1 hK1 => ?_)
 refine zab ?_
 refine zao rfl ?_
 refine zae ?_
 try simp only [Ex.thnH, Ex.inBlockH, ↓reduceIte, Nat.reduceEqDiff]
 refine hK1 _ _ ?_; try clear hK1 K1
 refine zad (fun K2 hK2 => ?_)
 refine zab ?_
 refine zag rfl ?_
 refine zao rfl ?_
 refine zae ?_
 try simp only [Ex.thnH, Ex.inBlockH, ↓reduceIte, Nat.reduceEqDiff]
 refine hK2 _ _ ?_; try clear hK2 K2
 refine zad (fun K3 hK3 => ?_)
 refine zaP ?_
 refine CW_loop (fun m e H_ => ∃ (i : Nat) (l_ : List En), i ≤ n ∧ m = n - i ∧ GXo g l_ H_ ∧ l_.Perm l ∧ DI l_ n i0 i ∧ (∀ k, n ≤ k → at_ l_ k = at_ l k) ∧ Env.has [(0, .iface 85 (.pointer (some ⟨g, 0, none⟩))), (1, .int .i64 i0), (2, .int .i64 n), (7, .int .i64 i)] e) (n - i0) ?_ ?_
 ·skip
  exact ⟨i0, l, hi0, rfl, h, List.Perm.refl _, DI.start hh, fun _ _ => rfl, rfl, rfl, rfl, rfl, trivial⟩
 intro m_ e_ H_ hI_
 obtain ⟨i_, l_, hi_, rfl, hG_, hp_, hD_, hk_, he⟩ := hI_
 have hle_ : l_.length = l.length := hp_.length_eq
 refine CW_env he.sub ?_; clear he e_
 refine zaP ?_
 refine zad (fun K4 hK4 => ?_)
 refine zab ?_
 refine zag rfl ?_
 refine zac (fun K hK r => ?_)
 simp (disch := (first | omega | decide)) only [zaI, zaM, b_mul, zaG, zaK, zaJ, zaR, eX, ↓reduceIte, Nat.reduceEqDiff, Int.reduceToNat]
 refine hK _ _ ?_; clear hK K
 refine zac (fun K hK r => ?_)
 simp (disch := (first | omega | decide)) only [zaI, zaM, b_add, zaG, zaK, zaJ, zaR, eX, ↓reduceIte, Nat.reduceEqDiff, Int.reduceToNat]
 rw [show 2 * (i_ : Int) + 1 = ((2 * i_ + 1 : Nat) : Int) from by omega]
 refine hK _ _ ?_; clear hK K
 refine zao rfl ?_
 refine zae ?_
 try simp only [Ex.thnH, Ex.inBlockH, ↓reduceIte, Nat.reduceEqDiff]
 refine hK4 _ _ ?_; try clear hK4 K4
 refine zad (fun K5 hK5 => ?_)
 refine zad (fun K6 hK6 => ?_)
 refine zab ?_
 refine zag rfl ?_
 refine zag rfl ?_
 refine zac (fun K hK r => ?_)
 simp (disch := (first | omega | decide)) only [zaI, zaM, b_geq, zau, zaw, zat, zax, zas, zay, Bool.not_true, Bool.not_false, eX, ↓reduceIte, Nat.reduceEqDiff, Int.reduceToNat]
 refine hK _ _ ?_; clear hK K
 refine zag rfl ?_
 (first | refine OW_split (d := 18) rfl (fun g18 => ?_) (fun g18 => ?_) | skip)
 all_goals try (exfalso; exact cnA g18)
 all_goals (try simp only [decide_eq_true_eq, decide_eq_false_iff_not, Bool.not_eq_true, Bool.not_eq_false, Bool.and_eq_true, Bool.or_eq_true, Bool.or_eq_false_iff, Bool.not_eq_eq_eq_not, Bool.not_true, Bool.not_false] at g18)
 all_goals
  try simp only [eX, ↓reduceIte, Nat.reduceEqDiff, Int.reduceToNat]
  first
  |refine zam rfl (zaa (by decide)) rfl (fun K hK r => ?_)
   simp only [zaq, eX, ↓reduceIte, Nat.reduceEqDiff, Int.reduceToNat]
   refine hK _ _ ?_; clear hK K
  |refine zan rfl (zaa (by decide)) rfl ?_
   simp only [eX, ↓reduceIte, Nat.reduceEqDiff, Int.reduceToNat]
  first
  |refine zam rfl (zaa (by decide)) rfl (fun K hK r => ?_)
   simp (disch := (first | omega | decide)) only [zaI, zaM, b_lss, zau, zaw, zat, zax, zas, zay, Bool.not_true, Bool.not_false, eX, ↓reduceIte, Nat.reduceEqDiff, Int.reduceToNat]
   refine hK _ _ ?_; clear hK K
  |refine zan rfl (zaa (by decide)) rfl ?_
   simp only [eX, ↓reduceIte, Nat.reduceEqDiff, Int.reduceToNat]
  refine zac (fun K hK r => ?_)
  simp only [x_pick, l_asBool, HL.ite_bool, if_true, if_false, Bool.false_eq_true, eX, ↓reduceIte, Nat.reduceEqDiff, Int.reduceToNat]
  refine hK _ _ ?_; clear hK K
  refine zae ?_
  try simp only [Ex.thnH, Ex.inBlockH, ↓reduceIte, Nat.reduceEqDiff]
  refine hK6 _ _ ?_; try clear hK6 K6
  refine zaH (fun r => rfl) (fun c21 => ?_) (fun c21 => ?_)
  ·first
   |(exfalso; exact cnA c21; done)
   |skip
    have hge : n ≤ 2 * i_ + 1 := by simp at c21; omega
    have hfin : HpF l_ n i0 := hD_.stop (fun c h1 h2 => by omega)
    refine CW_exit ?_
    try simp only [Ex.thnH, Ex.inBlockH, ↓reduceIte, Nat.reduceEqDiff]
    refine hK3 _ _ ?_; try clear hK3 K3
    refine zad (fun K7 hK7 => ?_)
    refine zab ?_
    refine zag rfl ?_
    refine zag rfl ?_
    refine zac (fun K hK r => ?_)
    simp (disch := (first | omega | decide)) only [zaI, zaM, b_gtr, zau, zaw, zat, zax, zas, zay, Bool.not_true, Bool.not_false, eX, ↓reduceIte, Nat.reduceEqDiff, Int.reduceToNat]
    refine hK _ _ ?_; clear hK K
    refine zao rfl ?_
    refine zae ?_
    try simp only [Ex.thnH, Ex.inBlockH, ↓reduceIte, Nat.reduceEqDiff]
    refine hK7 _ _ ?_; try clear hK7 K7
    refine zaV ?_
    try simp only [Ex.thnH, Ex.inBlockH, ↓reduceIte, Nat.reduceEqDiff]
    exact ⟨[_], ⟨rfl, trivial⟩, _, Le.refl _, l_, hG_, hp_, hfin, hk_⟩
  ·first
   |(exfalso; exact cnA c21; done)
   |skip
    have hlt1 : 2 * i_ + 1 < n := by simp at c21; omega
    refine zaL ?_
    try simp only [Ex.thnH, Ex.inBlockH, ↓reduceIte, Nat.reduceEqDiff]
    refine hK5 _ _ ?_; try clear hK5 K5
    refine zad (fun K8 hK8 => ?_)
    refine zab ?_
    refine zag rfl ?_
    refine zao rfl ?_
    refine zae ?_
    try simp only [Ex.thnH, Ex.inBlockH, ↓reduceIte, Nat.reduceEqDiff]
    refine hK8 _ _ ?_; try clear hK8 K8
    refine zad (fun K9 hK9 => ?_)
    refine zad (fun K10 hK10 => ?_)
    refine zab ?_
    refine zag rfl ?_
    refine zac (fun K hK r => ?_)
    simp (disch := (first | omega | decide)) only [zaI, zaM, b_add, zaG, zaK, zaJ, zaR, eX, ↓reduceIte, Nat.reduceEqDiff, Int.reduceToNat]
    rw [show ((2 * i_ + 1 : Nat) : Int) + 1 = ((2 * i_ + 2 : Nat) : Int) from by omega]
    refine hK _ _ ?_; clear hK K
    refine zao rfl ?_
    refine zae ?_
    try simp only [Ex.thnH, Ex.inBlockH, ↓reduceIte, Nat.reduceEqDiff]
    refine hK10 _ _ ?_; try clear hK10 K10
    refine zad (fun K11 hK11 => ?_)
    refine zab ?_
    refine zag rfl ?_
    refine zag rfl ?_
    refine zac (fun K hK r => ?_)
    simp (disch := (first | omega | decide)) only [zaI, zaM, b_lss, zau, zaw, zat, zax, zas, zay, Bool.not_true, Bool.not_false, eX, ↓reduceIte, Nat.reduceEqDiff, Int.reduceToNat]
    refine hK _ _ ?_; clear hK K
    refine zag rfl ?_
    (first | refine OW_split (d := 28) rfl (fun g28 => ?_) (fun g28 => ?_) | skip)
    all_goals try (exfalso; exact cnA g28)
    all_goals (try simp only [decide_eq_true_eq, decide_eq_false_iff_not, Bool.not_eq_true, Bool.not_eq_false, Bool.and_eq_true, Bool.or_eq_true, Bool.or_eq_false_iff, Bool.not_eq_eq_eq_not, Bool.not_true, Bool.not_false] at g28)
    all_goals
     try simp only [eX, ↓reduceIte, Nat.reduceEqDiff, Int.reduceToNat]
     first
     |refine zam rfl (zaa (by decide)) rfl (fun K hK r => ?_)
      simp only [zaq, eX, ↓reduceIte, Nat.reduceEqDiff, Int.reduceToNat]
      refine hK _ _ ?_; clear hK K
     |refine zan rfl (zaa (by decide)) rfl ?_
      simp only [eX, ↓reduceIte, Nat.reduceEqDiff, Int.reduceToNat]
     first
     |refine zam rfl (zaa (by decide)) rfl (fun K hK r => ?_)
      simp only [zaq, eX, ↓reduceIte, Nat.reduceEqDiff, Int.reduceToNat]
      refine hK _ _ ?_; clear hK K
     |refine zan rfl (zaa (by decide)) rfl ?_
      simp only [eX, ↓reduceIte, Nat.reduceEqDiff, Int.reduceToNat]
     first
     |refine zam rfl (zaa (by decide)) rfl (fun K hK r => ?_)
      simp only [zaq, eX, ↓reduceIte, Nat.reduceEqDiff, Int.reduceToNat]
      refine hK _ _ ?_; clear hK K
     |refine zan rfl (zaa (by decide)) rfl ?_
      simp only [eX, ↓reduceIte, Nat.reduceEqDiff, Int.reduceToNat]
     first
     |refine zam rfl (zaa (by decide)) rfl (fun K hK r => ?_)
      simp only [x_invoke, List.map_toArray, List.map_cons, List.map_nil, eX, ↓reduceIte, Nat.reduceEqDiff, Int.reduceToNat]
      rw [l_callMethod (f := 109) mdLess bd109]
      simp only [List.append_toArray, List.cons_append, List.nil_append, NextH]
      refine (gless_ok _ g l_ hG_ (2 * i_ + 2) (2 * i_ + 1) (by omega) (by omega)).mono ?_
      rintro v H' ⟨rfl, hq⟩
      have hq := hq.symm
      subst hq
      try simp only [eX, ↓reduceIte, Nat.reduceEqDiff, Int.reduceToNat]
      try simp only [eX, ↓reduceIte, Nat.reduceEqDiff, Int.reduceToNat]
      refine hK _ _ ?_; clear hK K
     |refine zan rfl (zaa (by decide)) rfl ?_
      simp only [eX, ↓reduceIte, Nat.reduceEqDiff, Int.reduceToNat]
     refine zac (fun K hK r => ?_)
     simp only [x_pick, l_asBool, HL.ite_bool, if_true, if_false, Bool.false_eq_true, eX, ↓reduceIte, Nat.reduceEqDiff, Int.reduceToNat]
     refine hK _ _ ?_; clear hK K
     refine zae ?_
     try simp only [Ex.thnH, Ex.inBlockH, ↓reduceIte, Nat.reduceEqDiff]
     refine hK11 _ _ ?_; try clear hK11 K11
     refine zaH (fun r => rfl) (fun c33 => ?_) (fun c33 => ?_)
     ·first
      |(exfalso; exact cnA c33; done)
      |skip
       have hj2 : 2 * i_ + 2 < n ∧ glE (at_ l_ (2 * i_ + 2)) (at_ l_ (2 * i_ + 1)) := by
        first
        |exact ⟨by omega, by simpa using c33⟩
        |(exfalso; simp at c33; done)
       obtain ⟨mm, hmm⟩ : ∃ mm, mm = 2 * i_ + 2 := ⟨_, rfl⟩
       have hmE : ((2 * i_ + 2 : Nat) : Int) = (mm : Int) := by rw [hmm]
       have hm : mm = 2 * i_ + 1 ∨ mm = 2 * i_ + 2 := .inr hmm
       have hmn : mm < n := by omega
       have ho_ : ∀ c, (c = 2 * i_ + 1 ∨ c = 2 * i_ + 2) → c < n → ¬ glE (at_ l_ c) (at_ l_ mm) := fun c hc _ => by
        rw [hmm]
        rcases hc with rfl | rfl
        ·exact glE_asymm hj2.2
        ·exact glE_irrefl _
       refine zab ?_
       refine zag rfl ?_
       refine zao rfl ?_
       refine zae ?_
       try simp only [Ex.thnH, Ex.inBlockH, ↓reduceIte, Nat.reduceEqDiff]
       refine hK9 _ _ ?_; try clear hK9 K9
       refine zad (fun K12 hK12 => ?_)
       refine zad (fun K13 hK13 => ?_)
       refine zab ?_
       refine zag rfl ?_
       refine zag rfl ?_
       refine zag rfl ?_
       refine zac (fun K hK r => ?_)
       simp only [x_invoke, List.map_toArray, List.map_cons, List.map_nil, eX, ↓reduceIte, Nat.reduceEqDiff, Int.reduceToNat]
       rw [l_callMethod (f := 109) mdLess bd109]
       simp only [List.append_toArray, List.cons_append, List.nil_append, NextH]
       rw [hmE]
       refine (gless_ok _ g l_ hG_ mm i_ (by omega) (by omega)).mono ?_
       rintro v H' ⟨rfl, hq⟩
       have hq := hq.symm
       subst hq
       try simp only [eX, ↓reduceIte, Nat.reduceEqDiff, Int.reduceToNat]
       try simp only [eX, ↓reduceIte, Nat.reduceEqDiff, Int.reduceToNat]
       refine hK _ _ ?_; clear hK K
       refine zac (fun K hK r => ?_)
       simp only [x_un, u_not, eX, ↓reduceIte, Nat.reduceEqDiff, Int.reduceToNat]
       refine hK _ _ ?_; clear hK K
       refine zae ?_
       try simp only [Ex.thnH, Ex.inBlockH, ↓reduceIte, Nat.reduceEqDiff]
       refine hK13 _ _ ?_; try clear hK13 K13
       refine zaH (fun r => rfl) (fun c39 => ?_) (fun c39 => ?_)
       ·first
        |(exfalso; exact cnA c39; done)
        |skip
         have hnl : ¬ glE (at_ l_ mm) (at_ l_ i_) := by simpa using c39
         have hfin : HpF l_ n i0 := hD_.stop (fun c h1 h2 => glE_neg (ho_ c h1 h2) hnl)
         refine CW_exit ?_
         try simp only [Ex.thnH, Ex.inBlockH, ↓reduceIte, Nat.reduceEqDiff]
         refine hK3 _ _ ?_; try clear hK3 K3
         refine zad (fun K14 hK14 => ?_)
         refine zab ?_
         refine zag rfl ?_
         refine zag rfl ?_
         refine zac (fun K hK r => ?_)
         simp (disch := (first | omega | decide)) only [zaI, zaM, b_gtr, zau, zaw, zat, zax, zas, zay, Bool.not_true, Bool.not_false, eX, ↓reduceIte, Nat.reduceEqDiff, Int.reduceToNat]
         refine hK _ _ ?_; clear hK K
         refine zao rfl ?_
         refine zae ?_
         try simp only [Ex.thnH, Ex.inBlockH, ↓reduceIte, Nat.reduceEqDiff]
         refine hK14 _ _ ?_; try clear hK14 K14
         refine zaV ?_
         try simp only [Ex.thnH, Ex.inBlockH, ↓reduceIte, Nat.reduceEqDiff]
         exact ⟨[_], ⟨rfl, trivial⟩, _, Le.refl _, l_, hG_, hp_, hfin, hk_⟩
       ·first
        |(exfalso; exact cnA c39; done)
        |skip
         have hlt : glE (at_ l_ mm) (at_ l_ i_) := by simpa using c39
         refine zaL ?_
         try simp only [Ex.thnH, Ex.inBlockH, ↓reduceIte, Nat.reduceEqDiff]
         refine hK12 _ _ ?_; try clear hK12 K12
         refine zad (fun K15 hK15 => ?_)
         refine zab ?_
         refine zag rfl ?_
         refine zag rfl ?_
         refine zag rfl ?_
         refine zac (fun K hK r => ?_)
         simp only [x_invoke, List.map_toArray, List.map_cons, List.map_nil, eX, ↓reduceIte, Nat.reduceEqDiff, Int.reduceToNat]
         rw [l_callMethod (f := 111) mdSwap bd111]
         simp only [List.append_toArray, List.cons_append, List.nil_append, NextH]
         refine (gswap_ok _ g l_ hG_ i_ mm (by omega) (by omega)).mono ?_
         rintro v43 H43 ⟨rfl, hG43⟩
         try simp only [eX, ↓reduceIte, Nat.reduceEqDiff, Int.reduceToNat]
         try simp only [eX, ↓reduceIte, Nat.reduceEqDiff, Int.reduceToNat]
         refine hK _ _ ?_; clear hK K
         refine zae ?_
         try simp only [Ex.thnH, Ex.inBlockH, ↓reduceIte, Nat.reduceEqDiff]
         refine hK15 _ _ ?_; try clear hK15 K15
         refine zab ?_
         refine zag rfl ?_
         refine zao rfl ?_
         refine zae ?_
         try simp only [Ex.thnH, Ex.inBlockH, ↓reduceIte, Nat.reduceEqDiff]
         refine ⟨n - mm, by omega, mm, swapE l_ i_ mm, by omega, rfl, hG43, (swapE_perm (by omega) (by omega)).trans hp_, hD_.step (by omega) hm hmn hlt ho_, fun k hk => ?_, rfl, rfl, rfl, ?_, trivial⟩
         ·rw [swapE_at (by omega) (by omega), if_neg (by omega), if_neg (by omega)]; exact hk_ k hk
         ·first | rfl | rw [hmE]
     ·first
      |(exfalso; exact cnA c33; done)
      |skip
       have hj2 : 2 * i_ + 2 < n → ¬ glE (at_ l_ (2 * i_ + 2)) (at_ l_ (2 * i_ + 1)) := fun hlt2 => by
        first
        |(simpa using c33; done)
        |(exfalso; omega)
       obtain ⟨mm, hmm⟩ : ∃ mm, mm = 2 * i_ + 1 := ⟨_, rfl⟩
       have hmE : ((2 * i_ + 1 : Nat) : Int) = (mm : Int) := by rw [hmm]
       have hm : mm = 2 * i_ + 1 ∨ mm = 2 * i_ + 2 := .inl hmm
       have hmn : mm < n := by omega
       have ho_ : ∀ c, (c = 2 * i_ + 1 ∨ c = 2 * i_ + 2) → c < n → ¬ glE (at_ l_ c) (at_ l_ mm) := fun c hc hcn => by
        rw [hmm]
        rcases hc with rfl | rfl
        ·exact glE_irrefl _
        ·exact hj2 hcn
       refine zaL ?_
       try simp only [Ex.thnH, Ex.inBlockH, ↓reduceIte, Nat.reduceEqDiff]
       refine hK9 _ _ ?_; try clear hK9 K9
       refine zad (fun K16 hK16 => ?_)
       refine zad (fun K17 hK17 => ?_)
       refine zab ?_
       refine zag rfl ?_
       refine zag rfl ?_
       refine zag rfl ?_
       refine zac (fun K hK r => ?_)
       simp only [x_invoke, List.map_toArray, List.map_cons, List.map_nil, eX, ↓reduceIte, Nat.reduceEqDiff, Int.reduceToNat]
       rw [l_callMethod (f := 109) mdLess bd109]
       simp only [List.append_toArray, List.cons_append, List.nil_append, NextH]
       rw [hmE]
       refine (gless_ok _ g l_ hG_ mm i_ (by omega) (by omega)).mono ?_
       rintro v H' ⟨rfl, hq⟩
       have hq := hq.symm
       subst hq
       try simp only [eX, ↓reduceIte, Nat.reduceEqDiff, Int.reduceToNat]
       try simp only [eX, ↓reduceIte, Nat.reduceEqDiff, Int.reduceToNat]
       refine hK _ _ ?_; clear hK K
       refine zac (fun K hK r => ?_)
       simp only [x_un, u_not, eX, ↓reduceIte, Nat.reduceEqDiff, Int.reduceToNat]
       refine hK _ _ ?_; clear hK K
       refine zae ?_
       try simp only [Ex.thnH, Ex.inBlockH, ↓reduceIte, Nat.reduceEqDiff]
       refine hK17 _ _ ?_; try clear hK17 K17
       refine zaH (fun r => rfl) (fun c39 => ?_) (fun c39 => ?_)
       ·first
        |(exfalso; exact cnA c39; done)
        |skip
         have hnl : ¬ glE (at_ l_ mm) (at_ l_ i_) := by simpa using c39
         have hfin : HpF l_ n i0 := hD_.stop (fun c h1 h2 => glE_neg (ho_ c h1 h2) hnl)
         refine CW_exit ?_
         try simp only [Ex.thnH, Ex.inBlockH, ↓reduceIte, Nat.reduceEqDiff]
         refine hK3 _ _ ?_; try clear hK3 K3
         refine zad (fun K18 hK18 => ?_)
         refine zab ?_
         refine zag rfl ?_
         refine zag rfl ?_
         refine zac (fun K hK r => ?_)
         simp (disch := (first | omega | decide)) only [zaI, zaM, b_gtr, zau, zaw, zat, zax, zas, zay, Bool.not_true, Bool.not_false, eX, ↓reduceIte, Nat.reduceEqDiff, Int.reduceToNat]
         refine hK _ _ ?_; clear hK K
         refine zao rfl ?_
         refine zae ?_
         try simp only [Ex.thnH, Ex.inBlockH, ↓reduceIte, Nat.reduceEqDiff]
         refine hK18 _ _ ?_; try clear hK18 K18
         refine zaV ?_
         try simp only [Ex.thnH, Ex.inBlockH, ↓reduceIte, Nat.reduceEqDiff]
         exact ⟨[_], ⟨rfl, trivial⟩, _, Le.refl _, l_, hG_, hp_, hfin, hk_⟩
       ·first
        |(exfalso; exact cnA c39; done)
        |skip
         have hlt : glE (at_ l_ mm) (at_ l_ i_) := by simpa using c39
         refine zaL ?_
         try simp only [Ex.thnH, Ex.inBlockH, ↓reduceIte, Nat.reduceEqDiff]
         refine hK16 _ _ ?_; try clear hK16 K16
         refine zad (fun K19 hK19 => ?_)
         refine zab ?_
         refine zag rfl ?_
         refine zag rfl ?_
         refine zag rfl ?_
         refine zac (fun K hK r => ?_)
         simp only [x_invoke, List.map_toArray, List.map_cons, List.map_nil, eX, ↓reduceIte, Nat.reduceEqDiff, Int.reduceToNat]
         rw [l_callMethod (f := 111) mdSwap bd111]
         simp only [List.append_toArray, List.cons_append, List.nil_append, NextH]
         refine (gswap_ok _ g l_ hG_ i_ mm (by omega) (by omega)).mono ?_
         rintro v43 H43 ⟨rfl, hG43⟩
         try simp only [eX, ↓reduceIte, Nat.reduceEqDiff, Int.reduceToNat]
         try simp only [eX, ↓reduceIte, Nat.reduceEqDiff, Int.reduceToNat]
         refine hK _ _ ?_; clear hK K
         refine zae ?_
         try simp only [Ex.thnH, Ex.inBlockH, ↓reduceIte, Nat.reduceEqDiff]
         refine hK19 _ _ ?_; try clear hK19 K19
         refine zab ?_
         refine zag rfl ?_
         refine zao rfl ?_
         refine zae ?_
         try simp only [Ex.thnH, Ex.inBlockH, ↓reduceIte, Nat.reduceEqDiff]
         refine ⟨n - mm, by omega, mm, swapE l_ i_ mm, by omega, rfl, hG43, (swapE_perm (by omega) (by omega)).trans hp_, hD_.step (by omega) hm hmn hlt ho_, fun k hk => ?_, rfl, rfl, rfl, ?_, trivial⟩
         ·rw [swapE_at (by omega) (by omega), if_neg (by omega), if_neg (by omega)]; exact hk_ k hk
         ·first | rfl | rw [hmE]
set_option maxRecDepth 100000 in
set_option maxHeartbeats 1000000 in
theorem init_ok (G : Hp) (g : Nat) (l : List En) (h : GXo g l G) (hl : l.length ≤ 1000000) : CallH Try.prog 35 #[.iface 85 (.pointer (some ⟨g, 0, none⟩))] G (fun v G' => v = .tuple #[] ∧ ∃ l', GXo g l' G' ∧ l'.Perm l ∧ HpF l' l'.length 0) := by
 refine zaB (l := [_]) (rl := []) (n := 17) Try.func35 rfl rfl rfl rfl rfl ?_
 simp only [envOf, Nat.reduceAdd]
 refine zad (fun K1 hK1 => ?_)
 refine zab ?_
 refine zag rfl ?_
 refine zac (fun K hK r => ?_)
 simp only [x_invoke, List.map_toArray, List.map_cons, List.map_nil, eX, ↓reduceIte, Nat.reduceEqDiff, Int.reduceToNat]
 rw [l_callMethod (f := 108) mdLen bd108]
 simp only [List.append_toArray, List.cons_append, List.nil_append, NextH]
 refine (glen_ok _ g l h).mono ?_
 rintro v H' ⟨rfl, hq⟩
 have hq := hq.symm
 subst hq
 try simp only [eX, ↓reduceIte, Nat.reduceEqDiff, Int.reduceToNat]
 try simp only [eX, ↓reduceIte, Nat.reduceEqDiff, Int.reduceToNat]
 refine hK _ _ ?_; clear hK K
 refine zao rfl ?_
 refine zae ?_
 try simp only [Ex.thnH, Ex.inBlockH, ↓reduceIte, Nat.reduceEqDiff]
 refine hK1 _ _ ?_; try clear hK1 K1
 refine zad (fun K2 hK2 => ?_)
 refine zab ?_
 refine zag rfl ?_
 refine zac (fun K hK r => ?_)
 simp (disch := (first | omega | decide)) only [zaI, zaM, b_quo, zaG, zaK, zaJ, zaR, eX, ↓reduceIte, Nat.reduceEqDiff, Int.reduceToNat]
 rw [show ((l.length : Int).tdiv 2) = ((l.length / 2 : Nat) : Int) from by rw [Int.tdiv_eq_ediv_of_nonneg (by omega)]; omega, zaG _ (by omega) (by omega)]
 refine hK _ _ ?_; clear hK K
 refine zac (fun K hK r => ?_)
 simp (disch := (first | omega | decide)) only [zaI, zaM, b_sub, zaG, zaK, zaJ, zaR, eX, ↓reduceIte, Nat.reduceEqDiff, Int.reduceToNat]
 refine hK _ _ ?_; clear hK K
 refine zao rfl ?_
 refine zae ?_
 try simp only [Ex.thnH, Ex.inBlockH, ↓reduceIte, Nat.reduceEqDiff]
 refine hK2 _ _ ?_; try clear hK2 K2
 refine zaP ?_
 refine CW_loop (fun m e H_ => ∃ (k : Nat) (l_ : List En), k ≤ l.length / 2 ∧ m = k ∧ GXo g l_ H_ ∧ l_.Perm l ∧ HpF l_ l.length k ∧ Env.has [(0, .iface 85 (.pointer (some ⟨g, 0, none⟩))), (2, .int .i64 l.length), (3, .int .i64 ((k : Int) - 1))] e) (l.length / 2) ?_ ?_
 ·skip
  exact ⟨l.length / 2, l, Nat.le_refl _, rfl, h, List.Perm.refl _, HpF.half _ _, rfl, rfl, rfl, trivial⟩
 intro m_ e_ H_ hI_
 obtain ⟨k_, l_, hk_, hmk, hG_, hp_, hh_, he⟩ := hI_
 have hle_ : l_.length = l.length := hp_.length_eq
 refine CW_env he.sub ?_; clear he e_
 refine zad (fun K3 hK3 => ?_)
 refine zad (fun K4 hK4 => ?_)
 refine zab ?_
 refine zag rfl ?_
 refine zac (fun K hK r => ?_)
 simp (disch := (first | omega | decide)) only [zaI, zaM, b_geq, zau, zaw, zat, zax, zas, zay, Bool.not_true, Bool.not_false, eX, ↓reduceIte, Nat.reduceEqDiff, Int.reduceToNat]
 refine hK _ _ ?_; clear hK K
 refine zae ?_
 try simp only [Ex.thnH, Ex.inBlockH, ↓reduceIte, Nat.reduceEqDiff]
 refine hK4 _ _ ?_; try clear hK4 K4
 refine zaH (fun r => rfl) (fun c10 => ?_) (fun c10 => ?_)
 ·first
  |(exfalso; exact cnA c10; done)
  |skip
   (try simp only [decide_eq_true_eq, decide_eq_false_iff_not, Bool.not_eq_true, Bool.not_eq_false, Bool.and_eq_true, Bool.or_eq_true, Bool.or_eq_false_iff, Bool.not_eq_eq_eq_not, Bool.not_true, Bool.not_false] at c10)
   have hk0 : 0 < k_ := by omega
   refine zaL ?_
   try simp only [Ex.thnH, Ex.inBlockH, ↓reduceIte, Nat.reduceEqDiff]
   refine hK3 _ _ ?_; try clear hK3 K3
   refine zad (fun K5 hK5 => ?_)
   refine zaP ?_
   refine zab ?_
   refine zag rfl ?_
   refine zag rfl ?_
   refine zag rfl ?_
   refine zac (fun K hK r => ?_)
   simp only [zaQ _ bd52, List.map_toArray, List.map_cons, List.map_nil, eX, ↓reduceIte, Nat.reduceEqDiff, Int.reduceToNat]
   rw [show (k_ : Int) - 1 = ((k_ - 1 : Nat) : Int) from by omega]
   refine (down_ok _ g l_ hG_ l.length (k_ - 1) (by omega) (by omega) (by omega) (by rw [show k_ - 1 + 1 = k_ from by omega]; exact hh_)).mono ?_
   rintro v16 H16 ⟨l16, hG16, hp16, hh16, _⟩
   try simp only [eX, ↓reduceIte, Nat.reduceEqDiff, Int.reduceToNat]
   refine hK _ _ ?_; clear hK K
   refine zae ?_
   try simp only [Ex.thnH, Ex.inBlockH, ↓reduceIte, Nat.reduceEqDiff]
   refine hK5 _ _ ?_; try clear hK5 K5
   refine zab ?_
   refine zag rfl ?_
   refine zac (fun K hK r => ?_)
   simp (disch := (first | omega | decide)) only [zaI, zaM, b_sub, zaG, zaK, zaJ, zaR, eX, ↓reduceIte, Nat.reduceEqDiff, Int.reduceToNat]
   refine hK _ _ ?_; clear hK K
   refine zao rfl ?_
   refine zae ?_
   try simp only [Ex.thnH, Ex.inBlockH, ↓reduceIte, Nat.reduceEqDiff]
   exact ⟨k_ - 1, by omega, k_ - 1, l16, by omega, rfl, hG16, hp16.trans hp_, hh16, rfl, rfl, rfl, trivial⟩
 ·first
  |(exfalso; exact cnA c10; done)
  |skip
   (try simp only [decide_eq_true_eq, decide_eq_false_iff_not, Bool.not_eq_true, Bool.not_eq_false, Bool.and_eq_true, Bool.or_eq_true, Bool.or_eq_false_iff, Bool.not_eq_eq_eq_not, Bool.not_true, Bool.not_false] at c10)
   obtain rfl : k_ = 0 := by omega
   refine CW_exit ?_
   try simp only [Ex.thnH, Ex.inBlockH, ↓reduceIte, Nat.reduceEqDiff]
   exact ⟨[], trivial, _, Le.refl _, rfl, l_, hG_, hp_, by rw [hle_]; exact hh_⟩
set_option maxRecDepth 100000 in
set_option maxHeartbeats 1000000 in
theorem hpop_ok (G : Hp) (g : Nat) (l : List En) (h : GXo g l G) (hl : l.length ≤ 1000000) (h0 : 0 < l.length) (hh : HpF l l.length 0) : CallH Try.prog 36 #[.iface 85 (.pointer (some ⟨g, 0, none⟩))] G (fun v G' => v = .iface 38 (.agg (at_ l 0).c.toArray) ∧ ∃ l', GXo g l' G' ∧ (at_ l 0 :: l').Perm l ∧ HpF l' l'.length 0) := by
 refine zaB (l := [_]) (rl := [.tmp 2]) (n := 15) Try.func36 rfl rfl rfl rfl rfl ?_
 simp only [envOf, Nat.reduceAdd]
 refine zad (fun K1 hK1 => ?_)
 refine zab ?_
 refine zao rfl ?_
 refine zae ?_
 try simp only [Ex.thnH, Ex.inBlockH, ↓reduceIte, Nat.reduceEqDiff]
 refine hK1 _ _ ?_; try clear hK1 K1
 refine zad (fun K2 hK2 => ?_)
 refine zab ?_
 refine zag rfl ?_
 refine zac (fun K hK r => ?_)
 simp only [x_invoke, List.map_toArray, List.map_cons, List.map_nil, eX, ↓reduceIte, Nat.reduceEqDiff, Int.reduceToNat]
 rw [l_callMethod (f := 108) mdLen bd108]
 simp only [List.append_toArray, List.cons_append, List.nil_append, NextH]
 refine (glen_ok _ g l h).mono ?_
 rintro v H' ⟨rfl, hq⟩
 have hq := hq.symm
 subst hq
 try simp only [eX, ↓reduceIte, Nat.reduceEqDiff, Int.reduceToNat]
 try simp only [eX, ↓reduceIte, Nat.reduceEqDiff, Int.reduceToNat]
 refine hK _ _ ?_; clear hK K
 refine zac (fun K hK r => ?_)
 simp (disch := (first | omega | decide)) only [zaI, zaM, b_sub, zaG, zaK, zaJ, zaR, eX, ↓reduceIte, Nat.reduceEqDiff, Int.reduceToNat]
 rw [show (l.length : Int) - 1 = ((l.length - 1 : Nat) : Int) from by omega]
 refine hK _ _ ?_; clear hK K
 refine zao rfl ?_
 refine zae ?_
 try simp only [Ex.thnH, Ex.inBlockH, ↓reduceIte, Nat.reduceEqDiff]
 refine hK2 _ _ ?_; try clear hK2 K2
 refine zad (fun K3 hK3 => ?_)
 refine zab ?_
 refine zag rfl ?_
 refine zag rfl ?_
 refine zac (fun K hK r => ?_)
 simp only [x_invoke, List.map_toArray, List.map_cons, List.map_nil, eX, ↓reduceIte, Nat.reduceEqDiff, Int.reduceToNat]
 rw [l_callMethod (f := 111) mdSwap bd111]
 simp only [List.append_toArray, List.cons_append, List.nil_append, NextH]
 refine (gswap_ok _ g l h 0 (l.length - 1) h0 (by omega)).mono ?_
 rintro v9 H9 ⟨rfl, hG9⟩
 try simp only [eX, ↓reduceIte, Nat.reduceEqDiff, Int.reduceToNat]
 try simp only [eX, ↓reduceIte, Nat.reduceEqDiff, Int.reduceToNat]
 refine hK _ _ ?_; clear hK K
 refine zae ?_
 try simp only [Ex.thnH, Ex.inBlockH, ↓reduceIte, Nat.reduceEqDiff]
 refine hK3 _ _ ?_; try clear hK3 K3
 refine zad (fun K4 hK4 => ?_)
 refine zab ?_
 refine zag rfl ?_
 refine zag rfl ?_
 refine zac (fun K hK r => ?_)
 simp only [zaQ _ bd52, List.map_toArray, List.map_cons, List.map_nil, eX, ↓reduceIte, Nat.reduceEqDiff, Int.reduceToNat]
 refine (down_ok _ g (swapE l 0 (l.length - 1)) hG9 (l.length - 1) 0 (by rw [swapE_len]; omega) (by omega) (by rw [swapE_len]; omega) (hh.pop h0)).mono ?_
 rintro v12 H12 ⟨l2, hG12, hp12, hh12, hk12⟩
 have hl2 : l2.length = l.length := by rw [hp12.length_eq, swapE_len]
 try simp only [eX, ↓reduceIte, Nat.reduceEqDiff, Int.reduceToNat]
 refine hK _ _ ?_; clear hK K
 refine zae ?_
 try simp only [Ex.thnH, Ex.inBlockH, ↓reduceIte, Nat.reduceEqDiff]
 refine hK4 _ _ ?_; try clear hK4 K4
 refine zad (fun K5 hK5 => ?_)
 refine zab ?_
 refine zag rfl ?_
 refine zac (fun K hK r => ?_)
 simp only [x_invoke, List.map_toArray, List.map_cons, List.map_nil, eX, ↓reduceIte, Nat.reduceEqDiff, Int.reduceToNat]
 rw [l_callMethod (f := 110) mdPop bd110]
 simp only [List.append_toArray, List.cons_append, List.nil_append, NextH]
 refine (gpop_ok _ g l2 hG12 (by omega) (by omega)).mono ?_
 rintro v14 H14 ⟨rfl, hG14⟩
 rw [hl2] at hG14 ⊢
 try simp only [eX, ↓reduceIte, Nat.reduceEqDiff, Int.reduceToNat]
 try simp only [eX, ↓reduceIte, Nat.reduceEqDiff, Int.reduceToNat]
 refine hK _ _ ?_; clear hK K
 refine zao rfl ?_
 refine zae ?_
 try simp only [Ex.thnH, Ex.inBlockH, ↓reduceIte, Nat.reduceEqDiff]
 refine hK5 _ _ ?_; try clear hK5 K5
 refine zaV ?_
 try simp only [Ex.thnH, Ex.inBlockH, ↓reduceIte, Nat.reduceEqDiff]
 obtain ⟨hq1, hq2⟩ := pop_perm h0 hp12 (hk12 _ (Nat.le_refl _))
 refine ⟨[_], ⟨rfl, trivial⟩, _, Le.refl _, ?_, _, hG14, hq2, ?_⟩
 ·rw [← hq1]; rfl
 ·rw [List.length_take, show min (l.length - 1) l2.length = l.length - 1 from by omega]
  exact hh12.take
end Go.Proofs.Ytjhohnbdhopllaa.HL
end
section
namespace Go.Proofs.Ytjhohnbdhopllaa.HL
open Go Go.Proofs
set_option linter.unusedSimpArgs false
set_option linter.unusedVariables false
attribute [local irreducible] Lt Lq CW OW TW CallH
theorem cmpE_or (a b : En) : orI [cmpI a.v b.v, cmpI a.k b.k] = cmpE a b := by
  unfold orI orI orI cmpI cmpE
  split <;> (try split) <;> (try split) <;> (try split) <;> (try split) <;> (try split) <;> omega
set_option maxRecDepth 100000 in
set_option maxHeartbeats 1000000 in
theorem byValue_ok (H : Hp) (a b : En) : CallH Try.prog 49 #[.agg #[.int .i64 a.v, .int .i64 a.k], .agg #[.int .i64 b.v, .int .i64 b.k]] H (fun v H' => v = .int .i64 (cmpE a b) ∧ H' = H) := by
 refine zaB (l := [_, _]) (rl := [.tmp 4]) (n := 17) Try.func49 rfl rfl rfl rfl rfl ?_
 simp only [envOf, Nat.reduceAdd]
 refine zad (fun K1 hK1 => ?_)
 refine zab ?_
 refine zac (fun K hK r => ?_)
 simp only [x_box, Value.cells, eX, ↓reduceIte, Nat.reduceEqDiff, Int.reduceToNat]
 intro b2 hb2
 have f2_H : H b2 = none := zaj lhA hb2
 try simp only [eX, ↓reduceIte, Nat.reduceEqDiff, Int.reduceToNat]
 refine hK _ _ ?_; clear hK K
 refine zac (fun K hK r => ?_)
 simp only [x_box, Value.cells, eX, ↓reduceIte, Nat.reduceEqDiff, Int.reduceToNat]
 intro b3 hb3
 try have n3_b2 : b2 ≠ b3 := zaz hbA hb3
 have f3_H : H b3 = none := zaj lhA hb3
 try simp only [eX, ↓reduceIte, Nat.reduceEqDiff, Int.reduceToNat]
 refine hK _ _ ?_; clear hK K
 refine zao rfl ?_
 refine zae ?_
 try simp only [Ex.thnH, Ex.inBlockH, ↓reduceIte, Nat.reduceEqDiff]
 refine hK1 _ _ ?_; try clear hK1 K1
 refine zad (fun K2 hK2 => ?_)
 obtain ⟨R1, hR1⟩ : ∃ R : Hp, R = (emptyHp.upd b2 (.cells #[.int .i64 a.v, .int .i64 a.k] 38)).upd b3 (.cells #[.int .i64 b.v, .int .i64 b.k] 38) := ⟨_, rfl⟩
 refine CW_drawR [0, 1, 0, 1, 2, 0, 1, 0, 1, 2, 2, 2, 0] [0, 1, 2, 3, 4, 5, 6, 7, 8, 9, 10, 11, 12] R1 (by kernel_rfl) (by kernel_rfl) (by subst hR1; exact le_put (le_put (le_empty _) hbA) hbA) (fun lR1 => ?_)
 apply zaf rfl (zaa (by decide)) rfl
 ·intro r
  simp only [zah, fa38_0, zaA, Nat.reduceAdd, Nat.zero_add, eX, ↓reduceIte, Nat.reduceEqDiff]
  exact ⟨rfl, Le.refl _⟩
 simp only [eX, ↓reduceIte, Nat.reduceEqDiff, Int.reduceToNat]
 apply zaW rfl (zaa (by decide)) rfl
 ·intro r
  simp only [zar, eX, ↓reduceIte, Nat.reduceEqDiff]
  refine zak Try.underlying3 rfl hbA ldA ?_
  exact ⟨rfl, Le.refl _⟩
 simp only [eX, ↓reduceIte, Nat.reduceEqDiff, Int.reduceToNat]
 apply zaf rfl (zaa (by decide)) rfl
 ·intro r
  simp only [zah, fa38_0, zaA, Nat.reduceAdd, Nat.zero_add, eX, ↓reduceIte, Nat.reduceEqDiff]
  exact ⟨rfl, Le.refl _⟩
 simp only [eX, ↓reduceIte, Nat.reduceEqDiff, Int.reduceToNat]
 apply zaW rfl (zaa (by decide)) rfl
 ·intro r
  simp only [zar, eX, ↓reduceIte, Nat.reduceEqDiff]
  refine zak Try.underlying3 rfl hbA ldA ?_
  exact ⟨rfl, Le.refl _⟩
 simp only [eX, ↓reduceIte, Nat.reduceEqDiff, Int.reduceToNat]
 refine TW_chain rfl (zaa (by decide)) rfl (fun K hK r => ?_)
 simp only [zaQ _ bd61, List.map_toArray, List.map_cons, List.map_nil, eX, ↓reduceIte, Nat.reduceEqDiff, Int.reduceToNat]
 refine (compare_ok _ a.v b.v).mono ?_
 rintro v H' ⟨rfl, hq⟩
 have hq := hq.symm
 subst hq
 try simp only [eX, ↓reduceIte, Nat.reduceEqDiff, Int.reduceToNat]
 refine hK _ _ leA ?_; clear hK K
 apply zaf rfl (zaa (by decide)) rfl
 ·intro r
  simp only [zah, fa38_1, zaA, Nat.reduceAdd, Nat.zero_add, eX, ↓reduceIte, Nat.reduceEqDiff]
  exact ⟨rfl, Le.refl _⟩
 simp only [eX, ↓reduceIte, Nat.reduceEqDiff, Int.reduceToNat]
 apply zaW rfl (zaa (by decide)) rfl
 ·intro r
  simp only [zar, eX, ↓reduceIte, Nat.reduceEqDiff]
  refine zak Try.underlying3 rfl hbA ldA ?_
  exact ⟨rfl, Le.refl _⟩
 simp only [eX, ↓reduceIte, Nat.reduceEqDiff, Int.reduceToNat]
 apply zaf rfl (zaa (by decide)) rfl
 ·intro r
  simp only [zah, fa38_1, zaA, Nat.reduceAdd, Nat.zero_add, eX, ↓reduceIte, Nat.reduceEqDiff]
  exact ⟨rfl, Le.refl _⟩
 simp only [eX, ↓reduceIte, Nat.reduceEqDiff, Int.reduceToNat]
 apply zaW rfl (zaa (by decide)) rfl
 ·intro r
  simp only [zar, eX, ↓reduceIte, Nat.reduceEqDiff]
  refine zak Try.underlying3 rfl hbA ldA ?_
  exact ⟨rfl, Le.refl _⟩
 simp only [eX, ↓reduceIte, Nat.reduceEqDiff, Int.reduceToNat]
 refine TW_chain rfl (zaa (by decide)) rfl (fun K hK r => ?_)
 simp only [zaQ _ bd61, List.map_toArray, List.map_cons, List.map_nil, eX, ↓reduceIte, Nat.reduceEqDiff, Int.reduceToNat]
 refine (compare_ok _ a.k b.k).mono ?_
 rintro v H' ⟨rfl, hq⟩
 have hq := hq.symm
 subst hq
 try simp only [eX, ↓reduceIte, Nat.reduceEqDiff, Int.reduceToNat]
 refine hK _ _ leA ?_; clear hK K
 refine TW_chain rfl (zaa (by decide)) rfl (fun K hK r => ?_)
 simp only [x_buildSlice, List.map_toArray, List.map_cons, List.map_nil, eX, ↓reduceIte, Nat.reduceEqDiff, Int.reduceToNat]
 refine Lt_buildSlice (vs := [_, _]) Try.underlying55 sz3 zr3 rfl bsA (by first | decide | (simp; done)) ?_
 simp only [List.flatMap_cons, List.flatMap_nil, Value.cells, List.append_nil, List.cons_append, List.nil_append, List.length_cons, List.length_nil, Nat.zero_add, Nat.reduceAdd]
 intro b15 hb15
 try have n15_b2 : b2 ≠ b15 := zaz hbA hb15
 try have n15_b3 : b3 ≠ b15 := zaz hbA hb15
 have f15_H : H b15 = none := zaj lhA hb15
 have f15_R1 : R1 b15 = none := zaj lhA hb15
 try simp only [eX, ↓reduceIte, Nat.reduceEqDiff, Int.reduceToNat]
 refine hK _ _ leA ?_; clear hK K
 refine TW_chain rfl (zaa (by decide)) rfl (fun K hK r => ?_)
 simp only [zaQ _ bd60, List.map_toArray, List.map_cons, List.map_nil, eX, ↓reduceIte, Nat.reduceEqDiff, Int.reduceToNat]
 refine (cmpor_ok _ (some ⟨b15, 0, none⟩) 2 [cmpI a.v b.v, cmpI a.k b.k] ⟨rfl, .inr ⟨b15, 0, 2, _, _, _, rfl, hbA, by simp, by simp⟩⟩ (by simp)).mono ?_
 rintro v H' ⟨rfl, hq⟩
 have hq := hq.symm
 subst hq
 try simp only [eX, ↓reduceIte, Nat.reduceEqDiff, Int.reduceToNat]
 refine hK _ _ leA ?_; clear hK K
 apply zaf rfl (zaa (by decide)) rfl
 ·intro r
  simp only [x_assign, eX, ↓reduceIte, Nat.reduceEqDiff]
  exact ⟨rfl, Le.refl _⟩
 simp only [eX, ↓reduceIte, Nat.reduceEqDiff, Int.reduceToNat]
 refine TW_nil ?_
 try simp only [Ex.thnH, Ex.inBlockH, ↓reduceIte, Nat.reduceEqDiff]
 refine hK2 _ _ ?_; try clear hK2 K2
 refine zaV ?_
 try simp only [Ex.thnH, Ex.inBlockH, ↓reduceIte, Nat.reduceEqDiff]
 refine ⟨[_], ⟨rfl, trivial⟩, H, lhA, ?_, rfl⟩
 show Value.int _ _ = Value.int _ _
 rw [cmpE_or]
end Go.Proofs.Ytjhohnbdhopllaa.HL
end
