/- Parts of the proof, one behind the other: HLApi, HLFrame, HLFrame2, HLShort, S15Ty, HLOwn, HLIf, HLIter, HLMap, Md02, V10, Md04, V30, V31, Md05, Md06, Md07, Md03. -/
import Derived.Carry
import Derived.ChangeOld
import Derived.OpenShut
import Derived.ChangeSlices
import Derived.Test.YtigofhhonnbkmaaProg
import Derived.KernelRfl
import Derived.Laws.MathBits
import Derived.Test.YtigofhhonnbkmaaX1
set_option linter.unusedSimpArgs false
set_option linter.unusedVariables false
section
namespace Go.Proofs.Ytigofhhonnbkmaa.HL
open Go
theorem flat_at {α : Type} {f : α → List Value} {wd : Nat} (hw : ∀ a, (f a).length = wd) (L : List α) (i : Nat) (hi : i < L.length) (j : Nat) (hj : j < wd) : (L.flatMap f)[i * wd + j]? = (f L[i])[j]? := by
  induction L generalizing i with
  | nil => simp at hi
  | cons x r ih =>
    cases i with
    | zero => rw [List.flatMap_cons, Nat.zero_mul, Nat.zero_add, List.getElem?_append_left (by rw [hw]; exact hj)]; rfl
    | succ i =>
      rw [List.flatMap_cons, List.getElem?_append_right (by rw [hw, Nat.succ_mul]; omega), hw]
      have e : (i + 1) * wd + j - wd = i * wd + j := by rw [Nat.succ_mul]; omega
      rw [e, ih i (by simpa using hi)]; rfl
theorem flat_size {α : Type} {f : α → List Value} {wd : Nat} (hw : ∀ a, (f a).length = wd) : ∀ (L : List α), (L.flatMap f).length = L.length * wd
  | [] => by simp
  | x :: r => by rw [List.flatMap_cons, List.length_append, hw, flat_size hw r, List.length_cons, Nat.succ_mul]; omega
theorem cell_at {α : Type} [Inhabited α] {f : α → List Value} {wd : Nat} (hw : ∀ a, (f a).length = wd) {L : List α} {c : Array Value} {o n : Nat} (h : ∀ j, j < n * wd → c[o + j]? = (L.flatMap f)[j]?) (hn : n = L.length) (i : Nat) (hi : i < L.length) (j : Nat) (hj : j < wd) :
    c[o + i * wd + j]? = (f (L.getD i default))[j]? := by
  have e : i * wd + j < n * wd := by
    have := Nat.mul_le_mul_right wd (show i + 1 ≤ n by omega)
    rw [Nat.succ_mul] at this; omega
  rw [Nat.add_assoc, h _ e, flat_at hw L i hi j hj, List.getD_eq_getElem?_getD, List.getElem?_eq_getElem hi]; rfl
theorem ext_at {α : Type} [Inhabited α] {f : α → List Value} {wd : Nat} (hw : ∀ a, (f a).length = wd) {L : List α} {c : Array Value} {o n : Nat} (h : ∀ j, j < n * wd → c[o + j]? = (L.flatMap f)[j]?) (hn : n = L.length) (i : Nat) (hi : i < L.length) (hs : o + n * wd ≤ c.size) :
    c.extract (o + i * wd) (o + i * wd + wd) = (f (L.getD i default)).toArray := by
  apply Array.ext'
  apply List.ext_getElem?
  intro j
  have h1 := Nat.mul_le_mul_right wd (show i + 1 ≤ n by omega)
  rw [Nat.succ_mul] at h1
  rw [Array.toList_extract, List.extract_eq_take_drop]
  by_cases hj : j < wd
  · rw [List.getElem?_take_of_lt (by omega), List.getElem?_drop, Array.getElem?_toList, cell_at hw h hn i hi j hj]
  · rw [List.getElem?_eq_none (by simp; omega), List.getElem?_eq_none (by simp [hw]; omega)]
theorem take_eq_step {α : Type} [Inhabited α] {L M : List α} {k : Nat} (h : L.take k = M.take k) (hl : k < L.length) (hm : k < M.length) (e : L.getD k default = M.getD k default) : L.take (k + 1) = M.take (k + 1) := by
  rw [List.take_succ_eq_append_getElem hl, List.take_succ_eq_append_getElem hm, h]
  simp only [List.getD_eq_getElem?_getD, List.getElem?_eq_getElem hl, List.getElem?_eq_getElem hm, Option.getD_some] at e
  rw [e]
structure Wr where
  t : Int
  k : Int
  v : Int
  dead : Bool
deriving DecidableEq, Inhabited
abbrev Wr.c (w : Wr) : List Value := [.int .i64 w.t, .int .i64 w.k, .int .i64 w.v, .bool w.dead]
def wrK : List CK := [some .i64, some .i64, some .i64, none]
theorem Wr.inj {a b : Wr} : a.c = b.c ↔ a = b := by
  obtain ⟨t, k, v, d⟩ := a
  obtain ⟨t', k', v', d'⟩ := b
  simp [Wr.c]
theorem Wr.len (w : Wr) : w.c.length = 4 := rfl
def Wr.ok (w : Wr) : Prop := (-9223372036854775808 ≤ w.t ∧ w.t ≤ 9223372036854775807) ∧ (-9223372036854775808 ≤ w.k ∧ w.k ≤ 9223372036854775807) ∧ (-9223372036854775808 ≤ w.v ∧ w.v ≤ 9223372036854775807)
theorem Wr.eqV {a b : Wr} : Go.Proofs.Ytigofhhonnbkmaa.HL.eqV a.c b.c = decide (a = b) := eqV_of Wr.inj
abbrev wrs (L : List Wr) : List Value := L.flatMap Wr.c
theorem Lt_appendNew {P : Program} {H : Hp} {t1 E : TypeId} {w by_ : Nat} {z : Value} (hu : P.underlying t1 = some (.slice E)) (hw : szOf P E = some w) (hby : byOf P E = some by_) (hby0 : 0 < by_)
    (hz : zrOf P E = some (some z)) (hzw : z.cells.size = w) (ty : TypeId) {b : Nat} {x : Value} {m : Nat} {ds : List Value} (hb : H b = some (.cells #[] E)) (hx : Holds H w x m ds) (hp : PlainL ds)
    (hroom : (4 * m + 2000) * by_ ≤ 281474976710656) {K : Value → Hp → Prop}
    (h : ∀ v' H' rs', Grow H (some b) H' → OwnS H' E w v' m ds rs' → (∀ r, rs' = some r → r = b ∨ H r = none) → K v' H') : Lt P (Builtin.append_ #[t1, t1] ty #[.slice (some ⟨b, 0, none⟩) 0 0, x]) H K := by
  refine Lt_append hu hu (by simp) hw hby hby0 hz hzw ty (n := 0) (m := m) (cs := []) (ds := ds) (rs := some b) ⟨by simp, .inr ⟨b, 0, #[], rfl, hb, Nat.le_refl _, by simp, by simp, rfl⟩⟩ (fun K => len_holds hx K) (fun K => first_slice hx K) hx.1 hp (by simpa using hroom) ?_
  intro v' H' rs' hg ho hr
  refine h v' H' rs' hg (by simpa using ho) fun r e => ?_
  rcases hr r e with h1 | h1
  · cases h1; exact .inl rfl
  · exact .inr h1
theorem Lt_append1 {P : Program} {H : Hp} {t1 E : TypeId} {by_ : Nat} {z : Value} (hu : P.underlying t1 = some (.slice E)) (hw : szOf P E = some 1) (hby : byOf P E = some by_) (hby0 : 0 < by_)
    (hz : zrOf P E = some (some z)) (hzw : z.cells.size = 1) (ty : TypeId) {v : Value} {n : Nat} {cs : List Value} {rs : Option Nat} (hv : OwnS H E 1 v n cs rs) {b : Nat} {x : Value} (hb : H b = some (.cells #[x] E)) (hp : plainCell x = true)
    (hroom : (4 * (n + 1) + 2000) * by_ ≤ 281474976710656) {K : Value → Hp → Prop}
    (h : ∀ v' H' rs', Grow H rs H' → OwnS H' E 1 v' (n + 1) (cs ++ [x]) rs' → (∀ r, rs' = some r → rs = some r ∨ H r = none) → K v' H') : Lt P (Builtin.append_ #[t1, t1] ty #[v, .slice (some ⟨b, 0, none⟩) 1 1]) H K := by
  have hx : Holds H 1 (.slice (some ⟨b, 0, none⟩) 1 1) 1 [x] := ⟨rfl, .inr ⟨b, 0, 1, _, _, _, rfl, hb, by simp, by simp⟩⟩
  exact Lt_append hu hu (by simp) hw hby hby0 hz hzw ty (n := n) (m := 1) (cs := cs) (ds := [x]) (rs := rs) hv (fun K => len_holds hx K) (fun K => first_slice hx K) rfl (PlainL.cons hp PlainL.nil) hroom h
end Go.Proofs.Ytigofhhonnbkmaa.HL
end
section
namespace Go.Proofs.Ytigofhhonnbkmaa.HL
open Go Go.RowKit Go.ChangeShapes Go.WideShapes
def oldH (w : World) : Hp := fun b => w.heap[b]?
theorem oldH_sub (w : World) : Sub (oldH w) w := fun _ _ h => h
theorem calls_of_old {P : Program} {f : FuncId} {args : Array Value} {w : World}
    (h : CallH P f args (oldH w) (fun v H' => v = .bool true ∧ Le (oldH w) H')) : Calls P f args w fun e w' => e = .returned (.bool true) ∧ Below w.heap.size w w' := by
  refine (h w (oldH_sub w)).mono fun e w' ⟨v, he, H', ⟨hv, hl⟩, hx⟩ => ⟨by rw [he, hv], hx.os, hx.tape, hx.output, hx.size, fun k hk => ?_⟩
  have h1 : w.heap[k]? = some w.heap[k] := by simp [hk]
  rw [h1]; exact hx.sub _ _ (hl _ _ h1)
theorem byteL_of_wf {L : List Int} (h : ∀ n ∈ L, (Lit.int .u8 n).wf = true) : ByteL L := fun x hx => by
  have := h x hx
  simp [Lit.wf, IntKind.min, IntKind.max, IntKind.signed, IntKind.bits] at this
  omega
theorem i64_of_wf {n : Int} (h : (Lit.int .i64 n).wf = true) : -9223372036854775808 ≤ n ∧ n ≤ 9223372036854775807 := by
  simp [Lit.wf, IntKind.min, IntKind.max, IntKind.signed, IntKind.bits] at h
  omega
section
variable {H : Type} {enc : TypeId × Value → H} {P : Program} {w : World} {base : Nat} {spare : Nat → Bool} {held : Bool} {fuel : Nat} {t : TypeId} {cs : List Value} {x : DataW H × List MemPlace}
theorem val_of_agg {r : Reach} {b0 : Nat} {v : Value} (ht : (∃ fs, P.underlying t = some (.struct fs)) ∨ ∃ n e, P.underlying t = some (.array n e)) (h : Value.okWide P w r b0 t v) : v = .agg v.cells := by
  unfold Value.okWide at h
  rcases ht with ⟨fs, ht⟩ | ⟨n, e, ht⟩ <;> rw [ht] at h <;> obtain ⟨c, rfl, _⟩ := h <;> rfl
theorem open_ints_array {n : Nat} {e : TypeId} {k : IntKind} (ht : P.underlying t = some (.array n e)) (he : P.underlying e = some (.int k)) (hc : P.cellsOf e = 1) (hct : P.cellsOf t = n)
    (h : DataW.trod enc P w base spare held fuel t cs = some x) : ∃ L : List Int, cs = L.map (.int k ·) ∧ L.length = n ∧ ∀ z ∈ L, (Lit.int k z).wf = true := by
  obtain ⟨xs, m, _, _, hl, hx, hi⟩ := DataW.trod_array ht h
  rw [hct] at hl
  have key : ∀ i, i < n → ∃ z, cs[i]? = some (.int k z) ∧ (Lit.int k z).wf = true := by
    intro i hin
    have h1 := hi i hin
    rw [hc, Nat.mul_one] at h1
    have h2 : xs[i]? = some xs[i] := by simp [hx, hin]
    rw [h2] at h1
    obtain ⟨z, h3, _, h4⟩ := DataW.trod_int he h1
    refine ⟨z, ?_, h4⟩
    have h5 : ((cs.drop i).take 1)[0]? = some (.int k z) := by rw [h3]; rfl
    rw [List.getElem?_take_of_lt (by omega), List.getElem?_drop] at h5
    simpa using h5
  refine ⟨cs.map intOf, ?_, by simp [hl], ?_⟩
  · apply List.ext_getElem?
    intro i
    by_cases hin : i < n
    · obtain ⟨z, hz, _⟩ := key i hin
      simp [hz, intOf]
    · rw [List.getElem?_eq_none (by omega), List.getElem?_eq_none (by simp [hl]; omega)]
  · intro z hz
    rw [List.mem_map] at hz
    obtain ⟨v, hv, rfl⟩ := hz
    obtain ⟨i, hi', hiv⟩ := List.mem_iff_getElem.1 hv
    obtain ⟨z', h1, h2⟩ := key i (by omega)
    rw [List.getElem?_eq_getElem hi', hiv] at h1
    cases h1
    exact h2
theorem open_ints_slice {e : TypeId} {k : IntKind} (ht : P.underlying t = some (.slice e)) (he : P.underlying e = some (.int k)) (hc : P.cellsOf e = 1)
    (h : DataW.trod enc P w base spare held fuel t cs = some x) : ∃ (a : Option Addr) (len cap : Nat) (L : List Int), cs = [.slice a len cap] ∧ Holds (oldH w) 1 (.slice a len cap) len (L.map (.int k ·)) ∧ L.length = len ∧ len ≤ maxLen ∧ ∀ z ∈ L, (Lit.int k z).wf = true := by
  rcases open_ints ht he hc h with ⟨rfl, _⟩ | ⟨a, len, cap, zs, rfl, _, hl, hm, hz, _, hcell, hw⟩
  · exact ⟨none, 0, 0, [], rfl, ⟨by simp, .inl ⟨none, 0, rfl, rfl⟩⟩, rfl, by decide, by simp⟩
  · have hzl : len ≤ zs.length := by rw [hz]; split <;> omega
    have hTl : (zs.take len).length = len := by simp; omega
    refine ⟨some a, len, cap, zs.take len, rfl, ⟨by simp; omega, ?_⟩, hTl, by omega, fun z hz' => hw z (List.mem_of_mem_take hz')⟩
    by_cases h0 : len = 0
    · subst h0; exact .inl ⟨some a, cap, rfl, rfl⟩
    · right
      obtain ⟨b, o, sp⟩ := a
      have hc0 := hcell 0 (by omega)
      cases hb : w.heap[b]? with
      | none => simp [World.cell?, Addr.add, hb] at hc0
      | some ob =>
        cases ob with
        | cells c T f =>
          have hsp : sp = none := by
            cases sp with
            | none => rfl
            | some q => simp [World.cell?, Addr.add, hb] at hc0
          subst hsp
          have hcell' : ∀ i, i < zs.length → c[o + i]? = some (.int k (zs.getD i 0)) := by
            intro i hi
            have := hcell i hi
            rcases Nat.eq_zero_or_pos i with h0' | h0'
            · subst h0'; simpa [World.cell?, Addr.add, hb] using this
            · have hne : i ≠ 0 := by omega
              simpa [World.cell?, Addr.add, hb, hne] using this
          have hsz : o + len ≤ c.size := by
            have := hcell' (len - 1) (by omega)
            have := (Array.getElem?_eq_some_iff.1 this).1
            omega
          refine ⟨b, o, cap, c, T, f, rfl, hb, by omega, ?_⟩
          apply List.ext_getElem?
          intro i
          rw [Nat.mul_one, Array.toList_extract, List.extract_eq_take_drop]
          by_cases hi : i < len
          · rw [List.getElem?_take_of_lt (by omega), List.getElem?_drop]
            have h2 : i < zs.length := by omega
            have h1 := hcell' i h2
            simp only [Array.getElem?_toList, h1, List.getElem?_map, List.getElem?_take_of_lt hi]
            simp [h2]
          · rw [List.getElem?_eq_none (by simp; omega), List.getElem?_eq_none (by simp; omega)]
        | _ => simp [World.cell?, Addr.add, hb] at hc0
theorem open_field {fs : Array Field} (ht : P.underlying t = some (.struct fs)) (h : DataW.trod enc P w base spare held fuel t cs = some x) (i : Nat) {f : Field} (hf : fs[i]? = some f) :
    ∃ y n, DataW.trod enc P w base spare held n f.type ((cs.drop f.offset).take (P.cellsOf f.type)) = some y := by
  obtain ⟨xs, n, _, _, hl, hx, hi⟩ := DataW.trod_struct ht h
  have h1 := hi i f hf
  have hlt : i < fs.size := (Array.getElem?_eq_some_iff.1 hf).1
  rw [List.getElem?_eq_getElem (by omega)] at h1
  exact ⟨_, n, h1⟩
theorem struct_len {fs : Array Field} (ht : P.underlying t = some (.struct fs)) (h : DataW.trod enc P w base spare held fuel t cs = some x) : cs.length = P.cellsOf t := by
  obtain ⟨xs, n, _, _, hl, _⟩ := DataW.trod_struct ht h
  exact hl
theorem cells_of_list {v : Value} {l : List Value} (h : v.cells.toList = l) : v.cells = l.toArray := by rw [← h]
/-! ### arguments of a kind -/
variable {r : Reach} {b0 : Nat} {v : Value} {d : DataW H} {ps : List MemPlace}
theorem field_cells {fs : Array Field} (ht : P.underlying t = some (.struct fs)) (h : DataW.trod enc P w base spare held fuel t cs = some x) (i : Nat) {f : Field} (hf : fs[i]? = some f) {o n : Nat} (ho : f.offset = o) (hn : P.cellsOf f.type = n) :
    ∃ y m, DataW.trod enc P w base spare held m f.type ((cs.drop o).take n) = some y := by
  have := open_field ht h i hf
  rw [ho, hn] at this; exact this
theorem int_cell {k : IntKind} {i : Nat} (ht : P.underlying t = some (.int k)) (h : DataW.trod enc P w base spare held fuel t ((cs.drop i).take 1) = some x) : ∃ z, cs[i]? = some (.int k z) ∧ (Lit.int k z).wf = true := by
  obtain ⟨z, h1, _, h2⟩ := DataW.trod_int ht h
  refine ⟨z, ?_, h2⟩
  have h5 : ((cs.drop i).take 1)[0]? = some (.int k z) := by rw [h1]; rfl
  rw [List.getElem?_take_of_lt (by omega), List.getElem?_drop] at h5
  simpa using h5
theorem exists_list {α : Type} (Q : Nat → α → Prop) : ∀ n, (∀ i, i < n → ∃ a, Q i a) → ∃ L : List α, L.length = n ∧ ∀ i a, L[i]? = some a → Q i a
  | 0, _ => ⟨[], rfl, fun i a h => by simp at h⟩
  | n + 1, h => by
    obtain ⟨L, hl, hL⟩ := exists_list Q n (fun i hi => h i (by omega))
    obtain ⟨a, ha⟩ := h n (by omega)
    refine ⟨L ++ [a], by simp [hl], fun i b hb => ?_⟩
    by_cases hi : i < n
    · rw [List.getElem?_append_left (by omega)] at hb; exact hL i b hb
    · rw [List.getElem?_append_right (by omega)] at hb
      have h0 : i - L.length = 0 := by
        rcases Nat.eq_zero_or_pos (i - L.length) with h0 | h0
        · exact h0
        · rw [List.getElem?_eq_none (by simp; omega)] at hb; cases hb
      rw [h0] at hb
      have : i = n := by omega
      subst this
      simp at hb; subst hb; exact ha
theorem flat_get {α : Type} {f : α → List Value} {wd : Nat} (hw : ∀ a, (f a).length = wd) : ∀ (L : List α) (i : Nat) (a : α) (j : Nat), L[i]? = some a → j < wd → (L.flatMap f)[i * wd + j]? = (f a)[j]?
  | [], i, a, j, h, _ => by simp at h
  | x :: r, 0, a, j, h, hj => by
    simp at h; subst h
    rw [List.flatMap_cons, Nat.zero_mul, Nat.zero_add, List.getElem?_append_left (by rw [hw]; exact hj)]
  | x :: r, i + 1, a, j, h, hj => by
    rw [List.flatMap_cons, List.getElem?_append_right (by rw [hw, Nat.succ_mul]; omega), hw]
    have e : (i + 1) * wd + j - wd = i * wd + j := by rw [Nat.succ_mul]; omega
    rw [e]; exact flat_get hw r i a j (by simpa using h) hj
theorem flat_len {α : Type} {f : α → List Value} {wd : Nat} (hw : ∀ a, (f a).length = wd) : ∀ (L : List α), (L.flatMap f).length = L.length * wd
  | [] => by simp
  | x :: r => by rw [List.flatMap_cons, List.length_append, hw, flat_len hw r, List.length_cons, Nat.succ_mul]; omega
theorem open_slice_of {α : Type} (f : α → List Value) (ok : α → Prop) {e : TypeId} {wd : Nat} (ht : P.underlying t = some (.slice e)) (hc : P.cellsOf e = wd) (hwd : 0 < wd) (hw : ∀ a, (f a).length = wd)
    (he : ∀ n cs x, DataW.trod enc P w base spare held n e cs = some x → ∃ a, cs = f a ∧ ok a) (h : DataW.trod enc P w base spare held fuel t cs = some x) :
    ∃ (a : Option Addr) (len cap : Nat) (L : List α), cs = [.slice a len cap] ∧ L.length = len ∧ Holds (oldH w) wd (.slice a len cap) len (L.flatMap f) ∧ (∀ x ∈ L, ok x) ∧ len ≤ maxLen := by
  rcases DataW.trod_slice ht h with ⟨rfl, _⟩ | ⟨a, len, cap, elems, rest, n, _, rfl, _, hb, hl, hm, hlen, hel, _, _⟩
  · exact ⟨none, 0, 0, [], rfl, rfl, ⟨by simp, .inl ⟨none, 0, rfl, rfl⟩⟩, by simp, by decide⟩
  · obtain ⟨L, hL, hQ⟩ := exists_list (fun i x => ok x ∧ ∀ j, j < wd → w.cell? (a.add (i * wd + j)) = (f x)[j]?) len (by
      intro i hi
      have h1 := hel i hi
      rw [List.getElem?_eq_getElem (by omega), hc, Option.bind_eq_some_iff] at h1
      obtain ⟨cs', hcs, hy⟩ := h1
      obtain ⟨x, rfl, hx⟩ := he _ _ _ hy
      refine ⟨x, hx, fun j hj => ?_⟩
      have h2 := World.cells?_some hcs
      have h3 := h2.2.2 j hj
      have h4 : (a.add (i * wd)).add j = a.add (i * wd + j) := by
        obtain ⟨b, o, sp⟩ := a
        simp only [Addr.add]
        split <;> split <;> simp_all
        all_goals omega
      rw [h4] at h3
      exact h3)
    refine ⟨some a, len, cap, L, rfl, hL, ⟨by rw [flat_len hw, hL], ?_⟩, fun x hx => ?_, by omega⟩
    rotate_left
    · obtain ⟨i, hi, rfl⟩ := List.mem_iff_getElem.1 hx
      exact (hQ i _ (List.getElem?_eq_getElem hi)).1
    by_cases h0 : len = 0
    · subst h0; exact .inl ⟨some a, cap, rfl, rfl⟩
    right
    obtain ⟨b, o, sp⟩ := a
    have hcell : ∀ i, i < len → ∀ j, j < wd → ∃ v, w.cell? ((⟨b, o, sp⟩ : Addr).add (i * wd + j)) = some v ∧ (L.flatMap f)[i * wd + j]? = some v := by
      intro i hi j hj
      have hx : L[i]? = some L[i] := List.getElem?_eq_getElem (by omega)
      have h1 := (hQ i _ hx).2 j hj
      have h2 := flat_get hw L i _ j hx hj
      have h3 : (f L[i])[j]? = some ((f L[i])[j]'(by rw [hw]; exact hj)) := List.getElem?_eq_getElem _
      exact ⟨_, h1.trans h3, h2.trans h3⟩
    obtain ⟨v0, hv0, _⟩ := hcell 0 (by omega) 0 hwd
    cases hbk : w.heap[b]? with
    | none => simp [World.cell?, Addr.add, hbk] at hv0
    | some ob =>
      cases ob with
      | cells c T fz =>
        have hsp : sp = none := by
          cases sp with
          | none => rfl
          | some q => simp [World.cell?, Addr.add, hbk] at hv0
        subst hsp
        have hcell' : ∀ m, m < len * wd → c[o + m]? = (L.flatMap f)[m]? := by
          intro m hm
          have hi : m / wd < len := by rw [Nat.div_lt_iff_lt_mul hwd]; exact hm
          obtain ⟨v, h1, h2⟩ := hcell (m / wd) hi (m % wd) (Nat.mod_lt _ hwd)
          have e : m / wd * wd + m % wd = m := Nat.div_add_mod' m wd
          rw [e] at h1 h2
          rw [h2, ← h1]
          rcases Nat.eq_zero_or_pos m with h0' | h0'
          · subst h0'; simp [World.cell?, Addr.add, hbk]
          · have hne : m ≠ 0 := by omega
            simp [World.cell?, Addr.add, hbk, hne]
        have hfl : (L.flatMap f).length = len * wd := by rw [flat_len hw, hL]
        have hpos : 0 < len * wd := Nat.mul_pos (by omega) hwd
        have hsz : o + len * wd ≤ c.size := by
          have h1 := hcell' (len * wd - 1) (by omega)
          rw [List.getElem?_eq_getElem (by omega)] at h1
          have := (Array.getElem?_eq_some_iff.1 h1).1
          omega
        refine ⟨b, o, cap, c, T, fz, rfl, hbk, hsz, ?_⟩
        apply List.ext_getElem?
        intro m
        rw [Array.toList_extract, List.extract_eq_take_drop]
        by_cases hm : m < len * wd
        · rw [List.getElem?_take_of_lt (by omega), List.getElem?_drop, Array.getElem?_toList]
          exact hcell' m hm
        · rw [List.getElem?_eq_none (by simp; omega), List.getElem?_eq_none (by omega)]
      | _ => simp [World.cell?, Addr.add, hbk] at hv0
end
end Go.Proofs.Ytigofhhonnbkmaa.HL
end
section
namespace Go.Proofs.Ytigofhhonnbkmaa.HL
open Go Go.ChangeShapes Go.WideShapes
variable {P : Program} {H : Type} {enc : TypeId × Value → H} {w : World} {base : Nat} {spare : Nat → Bool} {held : Bool} {r : Reach} {b0 : Nat} {t : TypeId} {v : Value} {d : DataW H} {ps : List MemPlace}
end Go.Proofs.Ytigofhhonnbkmaa.HL
end
section
namespace Go.Proofs.Ytigofhhonnbkmaa.HL
open Go
theorem eX :
    (∀ (e : Env) (r : Nat → Value) (t : Nat), ev e r (.tmp t) = (e.get t).getD (r t)) ∧ (∀ (e : Env) (r : Nat → Value) (v : Value), ev e r (.const v) = v) ∧
    (∀ (e : Env) (r : Nat → Value) (k : Nat), ev e r (.global k) = .pointer (some ⟨k, 0, none⟩)) ∧ (∀ (e : Env) (r : Nat → Value) (k : Nat), ev e r (.func k) = .func (.func k) #[] #[]) ∧
    (∀ t : Nat, Env.get [] t = none) ∧ (∀ (e : Env) (k t : Nat) (v : Value), Env.get ((k, v) :: e) t = if t = k then some v else Env.get e t) ∧ (∀ v u : Value, (some v).getD u = v) ∧
    (∀ (P : Program) (v : Value) (H : Hp) (R : Value → Hp → Prop), NextH P (.value v) H R = R v H) ∧ (∀ (e : Env) (t : Nat) (v : Value), Env.putO e (some t) v = e.put t v) ∧ (∀ (e : Env) (v : Value), Env.putO e none v = e) ∧
    (∀ (t : Nat) (v : Value), Env.put [] t v = [(t, v)]) ∧ (∀ (e : Env) (k t : Nat) (u v : Value), Env.put ((k, u) :: e) t v = if t = k then (k, v) :: e else (k, u) :: Env.put e t v) ∧
    (∀ (H : Hp) (b : Nat) (o o' : Obj), (H.upd b o).upd b o' = H.upd b o') ∧ (∀ (P : Program) (f : FuncId) (args : Array Value) (H : Hp) (R : Value → Hp → Prop), NextH P (.enter f args) H R = CallH P f args H R) :=
  ⟨fun _ _ _ => rfl, fun _ _ _ => rfl, fun _ _ _ => rfl, fun _ _ _ => rfl, fun _ => rfl, fun _ _ _ _ => rfl, fun _ _ => rfl, fun _ _ _ _ => rfl, fun _ _ _ => rfl, fun _ _ => rfl, fun _ _ => rfl, fun _ _ _ _ _ => rfl, fun _ _ _ _ => upd_upd _ _ _ _, fun _ _ _ _ _ => rfl⟩
section
variable {P : Program} {n : Nat} {ops : Array Oper} {Q : Env → Hp → Prop} {d : Nat} {op : Op} {ty : TypeId} {p : String} {af : Array Edge} {rest : List Oper} {e : Env} {H : Hp}
theorem yGT {g : Nat × Bool} (h : ∀ K : Env → Hp → Prop, (∀ e H, OW P n ops Q rest e H → K e H) → ∀ r, Lt P (execOp (ev e r) ⟨some d, op, ty, p, af, some g⟩) H (fun nx H' => NextH P nx H' (fun v H'' => K (e.putO (some d) v) H''))) (hd : noDefer ⟨some d, op, ty, p, af, some g⟩ = true := by rfl) (hw : wantE ops e ⟨some d, op, ty, p, af, some g⟩ = some true := by rfl) (ht : d < n := by decide) :
    OW P n ops Q (⟨some d, op, ty, p, af, some g⟩ :: rest) e H := OW_guardT hd (zai ht) hw h
theorem yGF {g : Nat × Bool} (h : OW P n ops Q rest (e.putO (some d) undef) H) (hd : noDefer ⟨some d, op, ty, p, af, some g⟩ = true := by rfl) (hw : wantE ops e ⟨some d, op, ty, p, af, some g⟩ = some false := by rfl) (ht : d < n := by decide) : OW P n ops Q (⟨some d, op, ty, p, af, some g⟩ :: rest) e H := OW_guardF hd (zai ht) hw h
theorem zab (h : ∀ K : Env → Hp → Prop, (∀ e H, OW P n ops Q rest e H → K e H) → ∀ r, Lt P (execOp (ev e r) ⟨some d, op, ty, p, af, none⟩) H (fun nx H' => NextH P nx H' (fun v H'' => K (e.putO (some d) v) H''))) (hd : noDefer ⟨some d, op, ty, p, af, none⟩ = true := by rfl) (ht : d < n := by decide) :
    OW P n ops Q (⟨some d, op, ty, p, af, none⟩ :: rest) e H := zaI hd (zai ht) h
def evO (e : Env) : Operand → Option Value
  | .tmp t => e.get t
  | .const v => some v
  | _ => none
theorem evO_ev {e : Env} {x : Operand} {v : Value} (h : evO e x = some v) (r : Nat → Value) : ev e r x = v := by
  cases x with
  | tmp t => simp only [evO] at h; simp only [ev, h, Option.getD_some]
  | const c => simp only [evO, Option.some.injEq] at h; subst h; rfl
  | _ => simp [evO] at h
theorem zah {x : Operand} {v : Value} (hv : evO e x = some v) (h : OW P n ops Q rest (e.put d v) H) (hd : noDefer ⟨some d, .move x, ty, p, af, none⟩ = true := by rfl) (ht : d < n := by decide) : OW P n ops Q (⟨some d, .move x, ty, p, af, none⟩ :: rest) e H :=
  zaI hd (zai ht) fun K hK r => by
    rw [x_move, evO_ev hv r]
    exact hK _ _ h
theorem zaj {x : Operand} {v : Value} (hv : evO e x = some v) (h : OW P n ops Q rest (e.put d v) H) (hd : noDefer ⟨some d, .assign x, ty, p, af, none⟩ = true := by rfl) (ht : d < n := by decide) : OW P n ops Q (⟨some d, .assign x, ty, p, af, none⟩ :: rest) e H :=
  zaI hd (zai ht) fun K hK r => by
    rw [x_assign, evO_ev hv r]
    exact hK _ _ h
end
end Go.Proofs.Ytigofhhonnbkmaa.HL
end
section
namespace Go.Proofs.Ytigofhhonnbkmaa.HL
open Go Go.Proofs Go.Proofs.Ytigofhhonnbkmaa.HL
set_option linter.unusedSimpArgs false
set_option linter.unusedVariables false
theorem sz3 : szOf Try.prog 3 = some 1 := by kernel_rfl
theorem sz4 : szOf Try.prog 4 = some 1 := by kernel_rfl
theorem sz5 : szOf Try.prog 5 = some 1 := by kernel_rfl
theorem sz22 : szOf Try.prog 22 = some 1 := by kernel_rfl
theorem sz24 : szOf Try.prog 24 = some 6 := by kernel_rfl
theorem sz27 : szOf Try.prog 27 = some 6 := by kernel_rfl
theorem sz30 : szOf Try.prog 30 = some 64 := by kernel_rfl
theorem sz32 : szOf Try.prog 32 = some 1 := by kernel_rfl
theorem sz50 : szOf Try.prog 50 = some 1 := by kernel_rfl
theorem sz52 : szOf Try.prog 52 = some 5 := by kernel_rfl
theorem sz56 : szOf Try.prog 56 = some 1 := by kernel_rfl
theorem sz58 : szOf Try.prog 58 = some 73 := by kernel_rfl
theorem sz64 : szOf Try.prog 64 = some 1 := by kernel_rfl
theorem sz65 : szOf Try.prog 65 = some 1 := by kernel_rfl
theorem sz67 : szOf Try.prog 67 = some 2 := by kernel_rfl
theorem sz80 : szOf Try.prog 80 = some 1 := by kernel_rfl
theorem sz89 : szOf Try.prog 89 = some 3 := by kernel_rfl
theorem sz102 : szOf Try.prog 102 = some 3 := by kernel_rfl
theorem sz111 : szOf Try.prog 111 = some 4 := by kernel_rfl
theorem sz112 : szOf Try.prog 112 = some 1 := by kernel_rfl
theorem sz115 : szOf Try.prog 115 = some 1 := by kernel_rfl
theorem sz116 : szOf Try.prog 116 = some 1 := by kernel_rfl
theorem sz117 : szOf Try.prog 117 = some 1 := by kernel_rfl
theorem sz130 : szOf Try.prog 130 = some 65 := by kernel_rfl
theorem sz135 : szOf Try.prog 135 = some 65 := by kernel_rfl
theorem sz140 : szOf Try.prog 140 = some 3 := by kernel_rfl
theorem sz143 : szOf Try.prog 143 = some 3 := by kernel_rfl
theorem by3 : byOf Try.prog 3 = some 8 := by kernel_rfl
theorem by5 : byOf Try.prog 5 = some 1 := by kernel_rfl
theorem by30 : byOf Try.prog 30 = some 64 := by kernel_rfl
theorem by67 : byOf Try.prog 67 = some 48 := by kernel_rfl
theorem by115 : byOf Try.prog 115 = some 8 := by kernel_rfl
theorem by130 : byOf Try.prog 130 = some 72 := by kernel_rfl
theorem by135 : byOf Try.prog 135 = some 72 := by kernel_rfl
theorem by140 : byOf Try.prog 140 = some 24 := by kernel_rfl
theorem eqg30 : Program.eqGuardType Try.prog Try.prog.depth 30 = false := by kernel_rfl
theorem zr3 : zrOf Try.prog 3 = some (some (.int .i64 0)) := by kernel_rfl
theorem zr5 : zrOf Try.prog 5 = some (some (.int .u8 0)) := by kernel_rfl
theorem zr24 : zrOf Try.prog 24 = some (some (.agg #[.int .i64 0, .int .i64 0, .int .i64 0, .int .i64 0, .int .i64 0, .slice none 0 0])) := by kernel_rfl
theorem zr27 : zrOf Try.prog 27 = some (some (.agg #[.int .i64 0, .int .i64 0, .int .i64 0, .int .i64 0, .int .i64 0, .slice none 0 0])) := by kernel_rfl
theorem zr30 : zrOf Try.prog 30 = some (some (.agg (Array.replicate 64 (.int .u8 0)))) := by kernel_rfl
theorem zr32 : zrOf Try.prog 32 = some (some (.nilIface)) := by kernel_rfl
theorem zr38 : zrOf Try.prog 38 = some (some (.int .i64 0)) := by kernel_rfl
theorem zr52 : zrOf Try.prog 52 = some (some (.agg #[.slice none 0 0, .int .i64 0, .int .i64 0, .bool false, .bool false])) := by kernel_rfl
theorem zr58 : zrOf Try.prog 58 = some (some (.agg #[.int .i64 0, .int .i64 0, .int .i64 0, .int .i64 0, .int .i64 0, .int .i64 0, .int .i64 0, .slice none 0 0, .int .u8 0, .int .u8 0, .int .u8 0, .int .u8 0, .int .u8 0, .int .u8 0, .int .u8 0, .int .u8 0, .int .u8 0, .int .u8 0, .int .u8 0, .int .u8 0, .int .u8 0, .int .u8 0, .int .u8 0, .int .u8 0, .int .u8 0, .int .u8 0, .int .u8 0, .int .u8 0, .int .u8 0, .int .u8 0, .int .u8 0, .int .u8 0, .int .u8 0, .int .u8 0, .int .u8 0, .int .u8 0, .int .u8 0, .int .u8 0, .int .u8 0, .int .u8 0, .int .u8 0, .int .u8 0, .int .u8 0, .int .u8 0, .int .u8 0, .int .u8 0, .int .u8 0, .int .u8 0, .int .u8 0, .int .u8 0, .int .u8 0, .int .u8 0, .int .u8 0, .int .u8 0, .int .u8 0, .int .u8 0, .int .u8 0, .int .u8 0, .int .u8 0, .int .u8 0, .int .u8 0, .int .u8 0, .int .u8 0, .int .u8 0, .int .u8 0, .int .u8 0, .int .u8 0, .int .u8 0, .int .u8 0, .int .u8 0, .int .u8 0, .int .u8 0, .slice none 0 0])) := by kernel_rfl
theorem zr67 : zrOf Try.prog 67 = some (some (.agg #[.slice none 0 0, .slice none 0 0])) := by kernel_rfl
theorem zr82 : zrOf Try.prog 82 = some (some (.agg #[.slice none 0 0])) := by kernel_rfl
theorem zr89 : zrOf Try.prog 89 = some (some (.agg #[.int .i64 0, .int .i64 0, .slice none 0 0])) := by kernel_rfl
theorem zr102 : zrOf Try.prog 102 = some (some (.agg #[.int .i64 0, .int .i64 0, .slice none 0 0])) := by kernel_rfl
theorem zr107 : zrOf Try.prog 107 = some (some (.agg #[.slice none 0 0, .bool false])) := by kernel_rfl
theorem zr114 : zrOf Try.prog 114 = some (some (.agg #[.int .i64 0, .int .i64 0, .bool false, .bool false, .slice none 0 0])) := by kernel_rfl
theorem zr115 : zrOf Try.prog 115 = some (some (.pointer none)) := by kernel_rfl
theorem zr119 : zrOf Try.prog 119 = some (some (.agg #[.int .i64 0, .map none, .slice none 0 0])) := by kernel_rfl
theorem zr121 : zrOf Try.prog 121 = some (some (.pointer none)) := by kernel_rfl
theorem zr130 : zrOf Try.prog 130 = some (some (.agg #[.int .i64 0, .int .u8 0, .int .u8 0, .int .u8 0, .int .u8 0, .int .u8 0, .int .u8 0, .int .u8 0, .int .u8 0, .int .u8 0, .int .u8 0, .int .u8 0, .int .u8 0, .int .u8 0, .int .u8 0, .int .u8 0, .int .u8 0, .int .u8 0, .int .u8 0, .int .u8 0, .int .u8 0, .int .u8 0, .int .u8 0, .int .u8 0, .int .u8 0, .int .u8 0, .int .u8 0, .int .u8 0, .int .u8 0, .int .u8 0, .int .u8 0, .int .u8 0, .int .u8 0, .int .u8 0, .int .u8 0, .int .u8 0, .int .u8 0, .int .u8 0, .int .u8 0, .int .u8 0, .int .u8 0, .int .u8 0, .int .u8 0, .int .u8 0, .int .u8 0, .int .u8 0, .int .u8 0, .int .u8 0, .int .u8 0, .int .u8 0, .int .u8 0, .int .u8 0, .int .u8 0, .int .u8 0, .int .u8 0, .int .u8 0, .int .u8 0, .int .u8 0, .int .u8 0, .int .u8 0, .int .u8 0, .int .u8 0, .int .u8 0, .int .u8 0, .int .u8 0])) := by kernel_rfl
theorem zr135 : zrOf Try.prog 135 = some (some (.agg #[.int .i64 0, .int .u8 0, .int .u8 0, .int .u8 0, .int .u8 0, .int .u8 0, .int .u8 0, .int .u8 0, .int .u8 0, .int .u8 0, .int .u8 0, .int .u8 0, .int .u8 0, .int .u8 0, .int .u8 0, .int .u8 0, .int .u8 0, .int .u8 0, .int .u8 0, .int .u8 0, .int .u8 0, .int .u8 0, .int .u8 0, .int .u8 0, .int .u8 0, .int .u8 0, .int .u8 0, .int .u8 0, .int .u8 0, .int .u8 0, .int .u8 0, .int .u8 0, .int .u8 0, .int .u8 0, .int .u8 0, .int .u8 0, .int .u8 0, .int .u8 0, .int .u8 0, .int .u8 0, .int .u8 0, .int .u8 0, .int .u8 0, .int .u8 0, .int .u8 0, .int .u8 0, .int .u8 0, .int .u8 0, .int .u8 0, .int .u8 0, .int .u8 0, .int .u8 0, .int .u8 0, .int .u8 0, .int .u8 0, .int .u8 0, .int .u8 0, .int .u8 0, .int .u8 0, .int .u8 0, .int .u8 0, .int .u8 0, .int .u8 0, .int .u8 0, .int .u8 0])) := by kernel_rfl
theorem zr140 : zrOf Try.prog 140 = some (some (.agg #[.int .i64 0, .int .i64 0, .int .i64 0])) := by kernel_rfl
theorem zr143 : zrOf Try.prog 143 = some (some (.agg #[.int .i64 0, .int .i64 0, .int .i64 0])) := by kernel_rfl
theorem zr153 : zrOf Try.prog 153 = some (some (.agg #[.slice none 0 0, .bool false])) := by kernel_rfl
theorem fa24_0 (a : Addr) (H : Hp) (K : Value → Hp → Prop) : Lt Try.prog (Instr.fieldAt 24 (.pointer (some a)) 0) H K = K (.pointer (some (a.add 0))) H := by
  have h := @zaD Try.prog 24 _ 0 _ 1 Try.underlying24 rfl sz3 (by decide) a H K
  exact h
theorem fa24_1 (a : Addr) (H : Hp) (K : Value → Hp → Prop) : Lt Try.prog (Instr.fieldAt 24 (.pointer (some a)) 1) H K = K (.pointer (some (a.add 1))) H := by
  have h := @zaD Try.prog 24 _ 1 _ 1 Try.underlying24 rfl sz3 (by decide) a H K
  exact h
theorem fa24_2 (a : Addr) (H : Hp) (K : Value → Hp → Prop) : Lt Try.prog (Instr.fieldAt 24 (.pointer (some a)) 2) H K = K (.pointer (some (a.add 2))) H := by
  have h := @zaD Try.prog 24 _ 2 _ 1 Try.underlying24 rfl sz3 (by decide) a H K
  exact h
theorem fa24_3 (a : Addr) (H : Hp) (K : Value → Hp → Prop) : Lt Try.prog (Instr.fieldAt 24 (.pointer (some a)) 3) H K = K (.pointer (some (a.add 3))) H := by
  have h := @zaD Try.prog 24 _ 3 _ 1 Try.underlying24 rfl sz3 (by decide) a H K
  exact h
theorem fa24_4 (a : Addr) (H : Hp) (K : Value → Hp → Prop) : Lt Try.prog (Instr.fieldAt 24 (.pointer (some a)) 4) H K = K (.pointer (some (a.add 4))) H := by
  have h := @zaD Try.prog 24 _ 4 _ 1 Try.underlying24 rfl sz3 (by decide) a H K
  exact h
theorem fa24_5 (a : Addr) (H : Hp) (K : Value → Hp → Prop) : Lt Try.prog (Instr.fieldAt 24 (.pointer (some a)) 5) H K = K (.pointer (some (a.add 5))) H := by
  have h := @zaD Try.prog 24 _ 5 _ 1 Try.underlying24 rfl sz22 (by decide) a H K
  exact h
theorem fa27_0 (a : Addr) (H : Hp) (K : Value → Hp → Prop) : Lt Try.prog (Instr.fieldAt 27 (.pointer (some a)) 0) H K = K (.pointer (some (a.add 0))) H := by
  have h := @zaD Try.prog 27 _ 0 _ 1 Try.underlying27 rfl sz3 (by decide) a H K
  exact h
theorem fa27_1 (a : Addr) (H : Hp) (K : Value → Hp → Prop) : Lt Try.prog (Instr.fieldAt 27 (.pointer (some a)) 1) H K = K (.pointer (some (a.add 1))) H := by
  have h := @zaD Try.prog 27 _ 1 _ 1 Try.underlying27 rfl sz3 (by decide) a H K
  exact h
theorem fa27_2 (a : Addr) (H : Hp) (K : Value → Hp → Prop) : Lt Try.prog (Instr.fieldAt 27 (.pointer (some a)) 2) H K = K (.pointer (some (a.add 2))) H := by
  have h := @zaD Try.prog 27 _ 2 _ 1 Try.underlying27 rfl sz3 (by decide) a H K
  exact h
theorem fa27_3 (a : Addr) (H : Hp) (K : Value → Hp → Prop) : Lt Try.prog (Instr.fieldAt 27 (.pointer (some a)) 3) H K = K (.pointer (some (a.add 3))) H := by
  have h := @zaD Try.prog 27 _ 3 _ 1 Try.underlying27 rfl sz3 (by decide) a H K
  exact h
theorem fa27_4 (a : Addr) (H : Hp) (K : Value → Hp → Prop) : Lt Try.prog (Instr.fieldAt 27 (.pointer (some a)) 4) H K = K (.pointer (some (a.add 4))) H := by
  have h := @zaD Try.prog 27 _ 4 _ 1 Try.underlying27 rfl sz3 (by decide) a H K
  exact h
theorem fa27_5 (a : Addr) (H : Hp) (K : Value → Hp → Prop) : Lt Try.prog (Instr.fieldAt 27 (.pointer (some a)) 5) H K = K (.pointer (some (a.add 5))) H := by
  have h := @zaD Try.prog 27 _ 5 _ 1 Try.underlying27 rfl sz22 (by decide) a H K
  exact h
theorem fa52_0 (a : Addr) (H : Hp) (K : Value → Hp → Prop) : Lt Try.prog (Instr.fieldAt 52 (.pointer (some a)) 0) H K = K (.pointer (some (a.add 0))) H := by
  have h := @zaD Try.prog 52 _ 0 _ 1 Try.underlying52 rfl sz50 (by decide) a H K
  exact h
theorem fa52_1 (a : Addr) (H : Hp) (K : Value → Hp → Prop) : Lt Try.prog (Instr.fieldAt 52 (.pointer (some a)) 1) H K = K (.pointer (some (a.add 1))) H := by
  have h := @zaD Try.prog 52 _ 1 _ 1 Try.underlying52 rfl sz3 (by decide) a H K
  exact h
theorem fa52_2 (a : Addr) (H : Hp) (K : Value → Hp → Prop) : Lt Try.prog (Instr.fieldAt 52 (.pointer (some a)) 2) H K = K (.pointer (some (a.add 2))) H := by
  have h := @zaD Try.prog 52 _ 2 _ 1 Try.underlying52 rfl sz3 (by decide) a H K
  exact h
theorem fa52_3 (a : Addr) (H : Hp) (K : Value → Hp → Prop) : Lt Try.prog (Instr.fieldAt 52 (.pointer (some a)) 3) H K = K (.pointer (some (a.add 3))) H := by
  have h := @zaD Try.prog 52 _ 3 _ 1 Try.underlying52 rfl sz4 (by decide) a H K
  exact h
theorem fa52_4 (a : Addr) (H : Hp) (K : Value → Hp → Prop) : Lt Try.prog (Instr.fieldAt 52 (.pointer (some a)) 4) H K = K (.pointer (some (a.add 4))) H := by
  have h := @zaD Try.prog 52 _ 4 _ 1 Try.underlying52 rfl sz4 (by decide) a H K
  exact h
theorem fa58_0 (a : Addr) (H : Hp) (K : Value → Hp → Prop) : Lt Try.prog (Instr.fieldAt 58 (.pointer (some a)) 0) H K = K (.pointer (some (a.add 0))) H := by
  have h := @zaD Try.prog 58 _ 0 _ 1 Try.underlying58 rfl sz3 (by decide) a H K
  exact h
theorem fa58_1 (a : Addr) (H : Hp) (K : Value → Hp → Prop) : Lt Try.prog (Instr.fieldAt 58 (.pointer (some a)) 1) H K = K (.pointer (some (a.add 1))) H := by
  have h := @zaD Try.prog 58 _ 1 _ 1 Try.underlying58 rfl sz3 (by decide) a H K
  exact h
theorem fa58_2 (a : Addr) (H : Hp) (K : Value → Hp → Prop) : Lt Try.prog (Instr.fieldAt 58 (.pointer (some a)) 2) H K = K (.pointer (some (a.add 2))) H := by
  have h := @zaD Try.prog 58 _ 2 _ 6 Try.underlying58 rfl sz24 (by decide) a H K
  exact h
theorem fa58_3 (a : Addr) (H : Hp) (K : Value → Hp → Prop) : Lt Try.prog (Instr.fieldAt 58 (.pointer (some a)) 3) H K = K (.pointer (some (a.add 8))) H := by
  have h := @zaD Try.prog 58 _ 3 _ 64 Try.underlying58 rfl sz30 (by decide) a H K
  exact h
theorem fa58_4 (a : Addr) (H : Hp) (K : Value → Hp → Prop) : Lt Try.prog (Instr.fieldAt 58 (.pointer (some a)) 4) H K = K (.pointer (some (a.add 72))) H := by
  have h := @zaD Try.prog 58 _ 4 _ 1 Try.underlying58 rfl sz56 (by decide) a H K
  exact h
theorem fa67_0 (a : Addr) (H : Hp) (K : Value → Hp → Prop) : Lt Try.prog (Instr.fieldAt 67 (.pointer (some a)) 0) H K = K (.pointer (some (a.add 0))) H := by
  have h := @zaD Try.prog 67 _ 0 _ 1 Try.underlying67 rfl sz64 (by decide) a H K
  exact h
theorem fa67_1 (a : Addr) (H : Hp) (K : Value → Hp → Prop) : Lt Try.prog (Instr.fieldAt 67 (.pointer (some a)) 1) H K = K (.pointer (some (a.add 1))) H := by
  have h := @zaD Try.prog 67 _ 1 _ 1 Try.underlying67 rfl sz65 (by decide) a H K
  exact h
theorem fa82_0 (a : Addr) (H : Hp) (K : Value → Hp → Prop) : Lt Try.prog (Instr.fieldAt 82 (.pointer (some a)) 0) H K = K (.pointer (some (a.add 0))) H := by
  have h := @zaD Try.prog 82 _ 0 _ 1 Try.underlying82 rfl sz80 (by decide) a H K
  exact h
theorem fa89_0 (a : Addr) (H : Hp) (K : Value → Hp → Prop) : Lt Try.prog (Instr.fieldAt 89 (.pointer (some a)) 0) H K = K (.pointer (some (a.add 0))) H := by
  have h := @zaD Try.prog 89 _ 0 _ 1 Try.underlying89 rfl sz3 (by decide) a H K
  exact h
theorem fa89_1 (a : Addr) (H : Hp) (K : Value → Hp → Prop) : Lt Try.prog (Instr.fieldAt 89 (.pointer (some a)) 1) H K = K (.pointer (some (a.add 1))) H := by
  have h := @zaD Try.prog 89 _ 1 _ 1 Try.underlying89 rfl sz3 (by decide) a H K
  exact h
theorem fa89_2 (a : Addr) (H : Hp) (K : Value → Hp → Prop) : Lt Try.prog (Instr.fieldAt 89 (.pointer (some a)) 2) H K = K (.pointer (some (a.add 2))) H := by
  have h := @zaD Try.prog 89 _ 2 _ 1 Try.underlying89 rfl sz80 (by decide) a H K
  exact h
theorem fa102_0 (a : Addr) (H : Hp) (K : Value → Hp → Prop) : Lt Try.prog (Instr.fieldAt 102 (.pointer (some a)) 0) H K = K (.pointer (some (a.add 0))) H := by
  have h := @zaD Try.prog 102 _ 0 _ 1 Try.underlying102 rfl sz3 (by decide) a H K
  exact h
theorem fa102_1 (a : Addr) (H : Hp) (K : Value → Hp → Prop) : Lt Try.prog (Instr.fieldAt 102 (.pointer (some a)) 1) H K = K (.pointer (some (a.add 1))) H := by
  have h := @zaD Try.prog 102 _ 1 _ 1 Try.underlying102 rfl sz3 (by decide) a H K
  exact h
theorem fa102_2 (a : Addr) (H : Hp) (K : Value → Hp → Prop) : Lt Try.prog (Instr.fieldAt 102 (.pointer (some a)) 2) H K = K (.pointer (some (a.add 2))) H := by
  have h := @zaD Try.prog 102 _ 2 _ 1 Try.underlying102 rfl sz80 (by decide) a H K
  exact h
theorem fa107_0 (a : Addr) (H : Hp) (K : Value → Hp → Prop) : Lt Try.prog (Instr.fieldAt 107 (.pointer (some a)) 0) H K = K (.pointer (some (a.add 0))) H := by
  have h := @zaD Try.prog 107 _ 0 _ 1 Try.underlying107 rfl sz80 (by decide) a H K
  exact h
theorem fa107_1 (a : Addr) (H : Hp) (K : Value → Hp → Prop) : Lt Try.prog (Instr.fieldAt 107 (.pointer (some a)) 1) H K = K (.pointer (some (a.add 1))) H := by
  have h := @zaD Try.prog 107 _ 1 _ 1 Try.underlying107 rfl sz4 (by decide) a H K
  exact h
theorem fa111_0 (a : Addr) (H : Hp) (K : Value → Hp → Prop) : Lt Try.prog (Instr.fieldAt 111 (.pointer (some a)) 0) H K = K (.pointer (some (a.add 0))) H := by
  have h := @zaD Try.prog 111 _ 0 _ 1 Try.underlying111 rfl sz3 (by decide) a H K
  exact h
theorem fa111_1 (a : Addr) (H : Hp) (K : Value → Hp → Prop) : Lt Try.prog (Instr.fieldAt 111 (.pointer (some a)) 1) H K = K (.pointer (some (a.add 1))) H := by
  have h := @zaD Try.prog 111 _ 1 _ 1 Try.underlying111 rfl sz3 (by decide) a H K
  exact h
theorem fa111_2 (a : Addr) (H : Hp) (K : Value → Hp → Prop) : Lt Try.prog (Instr.fieldAt 111 (.pointer (some a)) 2) H K = K (.pointer (some (a.add 2))) H := by
  have h := @zaD Try.prog 111 _ 2 _ 1 Try.underlying111 rfl sz4 (by decide) a H K
  exact h
theorem fa111_3 (a : Addr) (H : Hp) (K : Value → Hp → Prop) : Lt Try.prog (Instr.fieldAt 111 (.pointer (some a)) 3) H K = K (.pointer (some (a.add 3))) H := by
  have h := @zaD Try.prog 111 _ 3 _ 1 Try.underlying111 rfl sz4 (by decide) a H K
  exact h
theorem fa114_0 (a : Addr) (H : Hp) (K : Value → Hp → Prop) : Lt Try.prog (Instr.fieldAt 114 (.pointer (some a)) 0) H K = K (.pointer (some (a.add 0))) H := by
  have h := @zaD Try.prog 114 _ 0 _ 4 Try.underlying114 rfl sz111 (by decide) a H K
  exact h
theorem fa114_1 (a : Addr) (H : Hp) (K : Value → Hp → Prop) : Lt Try.prog (Instr.fieldAt 114 (.pointer (some a)) 1) H K = K (.pointer (some (a.add 4))) H := by
  have h := @zaD Try.prog 114 _ 1 _ 1 Try.underlying114 rfl sz112 (by decide) a H K
  exact h
theorem fa119_0 (a : Addr) (H : Hp) (K : Value → Hp → Prop) : Lt Try.prog (Instr.fieldAt 119 (.pointer (some a)) 0) H K = K (.pointer (some (a.add 0))) H := by
  have h := @zaD Try.prog 119 _ 0 _ 1 Try.underlying119 rfl sz3 (by decide) a H K
  exact h
theorem fa119_1 (a : Addr) (H : Hp) (K : Value → Hp → Prop) : Lt Try.prog (Instr.fieldAt 119 (.pointer (some a)) 1) H K = K (.pointer (some (a.add 1))) H := by
  have h := @zaD Try.prog 119 _ 1 _ 1 Try.underlying119 rfl sz116 (by decide) a H K
  exact h
theorem fa119_2 (a : Addr) (H : Hp) (K : Value → Hp → Prop) : Lt Try.prog (Instr.fieldAt 119 (.pointer (some a)) 2) H K = K (.pointer (some (a.add 2))) H := by
  have h := @zaD Try.prog 119 _ 2 _ 1 Try.underlying119 rfl sz117 (by decide) a H K
  exact h
theorem fa124_1 (a : Addr) (H : Hp) (K : Value → Hp → Prop) : Lt Try.prog (Instr.fieldAt 124 (.pointer (some a)) 1) H K = K (.pointer (some (a.add 1))) H := by
  have h := @zaD Try.prog 124 _ 1 _ 1 Try.underlying124 rfl sz32 (by decide) a H K
  exact h
theorem fa130_0 (a : Addr) (H : Hp) (K : Value → Hp → Prop) : Lt Try.prog (Instr.fieldAt 130 (.pointer (some a)) 0) H K = K (.pointer (some (a.add 0))) H := by
  have h := @zaD Try.prog 130 _ 0 _ 1 Try.underlying130 rfl sz3 (by decide) a H K
  exact h
theorem fa130_1 (a : Addr) (H : Hp) (K : Value → Hp → Prop) : Lt Try.prog (Instr.fieldAt 130 (.pointer (some a)) 1) H K = K (.pointer (some (a.add 1))) H := by
  have h := @zaD Try.prog 130 _ 1 _ 64 Try.underlying130 rfl sz30 (by decide) a H K
  exact h
theorem fa135_0 (a : Addr) (H : Hp) (K : Value → Hp → Prop) : Lt Try.prog (Instr.fieldAt 135 (.pointer (some a)) 0) H K = K (.pointer (some (a.add 0))) H := by
  have h := @zaD Try.prog 135 _ 0 _ 1 Try.underlying135 rfl sz3 (by decide) a H K
  exact h
theorem fa135_1 (a : Addr) (H : Hp) (K : Value → Hp → Prop) : Lt Try.prog (Instr.fieldAt 135 (.pointer (some a)) 1) H K = K (.pointer (some (a.add 1))) H := by
  have h := @zaD Try.prog 135 _ 1 _ 64 Try.underlying135 rfl sz30 (by decide) a H K
  exact h
theorem fa140_0 (a : Addr) (H : Hp) (K : Value → Hp → Prop) : Lt Try.prog (Instr.fieldAt 140 (.pointer (some a)) 0) H K = K (.pointer (some (a.add 0))) H := by
  have h := @zaD Try.prog 140 _ 0 _ 1 Try.underlying140 rfl sz3 (by decide) a H K
  exact h
theorem fa140_1 (a : Addr) (H : Hp) (K : Value → Hp → Prop) : Lt Try.prog (Instr.fieldAt 140 (.pointer (some a)) 1) H K = K (.pointer (some (a.add 1))) H := by
  have h := @zaD Try.prog 140 _ 1 _ 1 Try.underlying140 rfl sz3 (by decide) a H K
  exact h
theorem fa140_2 (a : Addr) (H : Hp) (K : Value → Hp → Prop) : Lt Try.prog (Instr.fieldAt 140 (.pointer (some a)) 2) H K = K (.pointer (some (a.add 2))) H := by
  have h := @zaD Try.prog 140 _ 2 _ 1 Try.underlying140 rfl sz3 (by decide) a H K
  exact h
theorem fa143_0 (a : Addr) (H : Hp) (K : Value → Hp → Prop) : Lt Try.prog (Instr.fieldAt 143 (.pointer (some a)) 0) H K = K (.pointer (some (a.add 0))) H := by
  have h := @zaD Try.prog 143 _ 0 _ 1 Try.underlying143 rfl sz3 (by decide) a H K
  exact h
theorem fa143_1 (a : Addr) (H : Hp) (K : Value → Hp → Prop) : Lt Try.prog (Instr.fieldAt 143 (.pointer (some a)) 1) H K = K (.pointer (some (a.add 1))) H := by
  have h := @zaD Try.prog 143 _ 1 _ 1 Try.underlying143 rfl sz3 (by decide) a H K
  exact h
theorem fa143_2 (a : Addr) (H : Hp) (K : Value → Hp → Prop) : Lt Try.prog (Instr.fieldAt 143 (.pointer (some a)) 2) H K = K (.pointer (some (a.add 2))) H := by
  have h := @zaD Try.prog 143 _ 2 _ 1 Try.underlying143 rfl sz3 (by decide) a H K
  exact h
theorem fa153_0 (a : Addr) (H : Hp) (K : Value → Hp → Prop) : Lt Try.prog (Instr.fieldAt 153 (.pointer (some a)) 0) H K = K (.pointer (some (a.add 0))) H := by
  have h := @zaD Try.prog 153 _ 0 _ 1 Try.underlying153 rfl sz80 (by decide) a H K
  exact h
theorem fa153_1 (a : Addr) (H : Hp) (K : Value → Hp → Prop) : Lt Try.prog (Instr.fieldAt 153 (.pointer (some a)) 1) H K = K (.pointer (some (a.add 1))) H := by
  have h := @zaD Try.prog 153 _ 1 _ 1 Try.underlying153 rfl sz4 (by decide) a H K
  exact h
theorem bp24 (ps : Array (Nat × Value)) (H : Hp) (K : Value → Hp → Prop) : Lt Try.prog (Instr.build 24 ps) H K = orF (Instr.fill (#[(0, 1), (1, 1), (2, 1), (3, 1), (4, 1), (5, 1)][·]?) #[.int .i64 0, .int .i64 0, .int .i64 0, .int .i64 0, .int .i64 0, .slice none 0 0] ps.toList) (fun c => K (.agg c) H) := by
  simp only [Instr.build, zaG, l_zero, zr24, zay, l_und, Try.underlying24]
  simp [zaG, zaL, l_size, sz3, sz22, zay, l_map, Value.cells]
  cases Instr.fill _ _ _ <;> rfl
theorem bp27 (ps : Array (Nat × Value)) (H : Hp) (K : Value → Hp → Prop) : Lt Try.prog (Instr.build 27 ps) H K = orF (Instr.fill (#[(0, 1), (1, 1), (2, 1), (3, 1), (4, 1), (5, 1)][·]?) #[.int .i64 0, .int .i64 0, .int .i64 0, .int .i64 0, .int .i64 0, .slice none 0 0] ps.toList) (fun c => K (.agg c) H) := by
  simp only [Instr.build, zaG, l_zero, zr27, zay, l_und, Try.underlying27]
  simp [zaG, zaL, l_size, sz3, sz22, zay, l_map, Value.cells]
  cases Instr.fill _ _ _ <;> rfl
theorem bp52 (ps : Array (Nat × Value)) (H : Hp) (K : Value → Hp → Prop) : Lt Try.prog (Instr.build 52 ps) H K = orF (Instr.fill (#[(0, 1), (1, 1), (2, 1), (3, 1), (4, 1)][·]?) #[.slice none 0 0, .int .i64 0, .int .i64 0, .bool false, .bool false] ps.toList) (fun c => K (.agg c) H) := by
  simp only [Instr.build, zaG, l_zero, zr52, zay, l_und, Try.underlying52]
  simp [zaG, zaL, l_size, sz3, sz4, sz50, zay, l_map, Value.cells]
  cases Instr.fill _ _ _ <;> rfl
theorem bp67 (ps : Array (Nat × Value)) (H : Hp) (K : Value → Hp → Prop) : Lt Try.prog (Instr.build 67 ps) H K = orF (Instr.fill (#[(0, 1), (1, 1)][·]?) #[.slice none 0 0, .slice none 0 0] ps.toList) (fun c => K (.agg c) H) := by
  simp only [Instr.build, zaG, l_zero, zr67, zay, l_und, Try.underlying67]
  simp [zaG, zaL, l_size, sz64, sz65, zay, l_map, Value.cells]
  cases Instr.fill _ _ _ <;> rfl
theorem bp82 (ps : Array (Nat × Value)) (H : Hp) (K : Value → Hp → Prop) : Lt Try.prog (Instr.build 82 ps) H K = orF (Instr.fill (#[(0, 1)][·]?) #[.slice none 0 0] ps.toList) (fun c => K (.agg c) H) := by
  simp only [Instr.build, zaG, l_zero, zr82, zay, l_und, Try.underlying82]
  simp [zaG, zaL, l_size, sz80, zay, l_map, Value.cells]
  cases Instr.fill _ _ _ <;> rfl
theorem bp89 (ps : Array (Nat × Value)) (H : Hp) (K : Value → Hp → Prop) : Lt Try.prog (Instr.build 89 ps) H K = orF (Instr.fill (#[(0, 1), (1, 1), (2, 1)][·]?) #[.int .i64 0, .int .i64 0, .slice none 0 0] ps.toList) (fun c => K (.agg c) H) := by
  simp only [Instr.build, zaG, l_zero, zr89, zay, l_und, Try.underlying89]
  simp [zaG, zaL, l_size, sz3, sz80, zay, l_map, Value.cells]
  cases Instr.fill _ _ _ <;> rfl
theorem bp102 (ps : Array (Nat × Value)) (H : Hp) (K : Value → Hp → Prop) : Lt Try.prog (Instr.build 102 ps) H K = orF (Instr.fill (#[(0, 1), (1, 1), (2, 1)][·]?) #[.int .i64 0, .int .i64 0, .slice none 0 0] ps.toList) (fun c => K (.agg c) H) := by
  simp only [Instr.build, zaG, l_zero, zr102, zay, l_und, Try.underlying102]
  simp [zaG, zaL, l_size, sz3, sz80, zay, l_map, Value.cells]
  cases Instr.fill _ _ _ <;> rfl
theorem bp107 (ps : Array (Nat × Value)) (H : Hp) (K : Value → Hp → Prop) : Lt Try.prog (Instr.build 107 ps) H K = orF (Instr.fill (#[(0, 1), (1, 1)][·]?) #[.slice none 0 0, .bool false] ps.toList) (fun c => K (.agg c) H) := by
  simp only [Instr.build, zaG, l_zero, zr107, zay, l_und, Try.underlying107]
  simp [zaG, zaL, l_size, sz4, sz80, zay, l_map, Value.cells]
  cases Instr.fill _ _ _ <;> rfl
theorem bp114 (ps : Array (Nat × Value)) (H : Hp) (K : Value → Hp → Prop) : Lt Try.prog (Instr.build 114 ps) H K = orF (Instr.fill (#[(0, 4), (4, 1)][·]?) #[.int .i64 0, .int .i64 0, .bool false, .bool false, .slice none 0 0] ps.toList) (fun c => K (.agg c) H) := by
  simp only [Instr.build, zaG, l_zero, zr114, zay, l_und, Try.underlying114]
  simp [zaG, zaL, l_size, sz111, sz112, zay, l_map, Value.cells]
  cases Instr.fill _ _ _ <;> rfl
theorem bp119 (ps : Array (Nat × Value)) (H : Hp) (K : Value → Hp → Prop) : Lt Try.prog (Instr.build 119 ps) H K = orF (Instr.fill (#[(0, 1), (1, 1), (2, 1)][·]?) #[.int .i64 0, .map none, .slice none 0 0] ps.toList) (fun c => K (.agg c) H) := by
  simp only [Instr.build, zaG, l_zero, zr119, zay, l_und, Try.underlying119]
  simp [zaG, zaL, l_size, sz3, sz116, sz117, zay, l_map, Value.cells]
  cases Instr.fill _ _ _ <;> rfl
theorem bp130 (ps : Array (Nat × Value)) (H : Hp) (K : Value → Hp → Prop) : Lt Try.prog (Instr.build 130 ps) H K = orF (Instr.fill (#[(0, 1), (1, 64)][·]?) #[.int .i64 0, .int .u8 0, .int .u8 0, .int .u8 0, .int .u8 0, .int .u8 0, .int .u8 0, .int .u8 0, .int .u8 0, .int .u8 0, .int .u8 0, .int .u8 0, .int .u8 0, .int .u8 0, .int .u8 0, .int .u8 0, .int .u8 0, .int .u8 0, .int .u8 0, .int .u8 0, .int .u8 0, .int .u8 0, .int .u8 0, .int .u8 0, .int .u8 0, .int .u8 0, .int .u8 0, .int .u8 0, .int .u8 0, .int .u8 0, .int .u8 0, .int .u8 0, .int .u8 0, .int .u8 0, .int .u8 0, .int .u8 0, .int .u8 0, .int .u8 0, .int .u8 0, .int .u8 0, .int .u8 0, .int .u8 0, .int .u8 0, .int .u8 0, .int .u8 0, .int .u8 0, .int .u8 0, .int .u8 0, .int .u8 0, .int .u8 0, .int .u8 0, .int .u8 0, .int .u8 0, .int .u8 0, .int .u8 0, .int .u8 0, .int .u8 0, .int .u8 0, .int .u8 0, .int .u8 0, .int .u8 0, .int .u8 0, .int .u8 0, .int .u8 0, .int .u8 0] ps.toList) (fun c => K (.agg c) H) := by
  simp only [Instr.build, zaG, l_zero, zr130, zay, l_und, Try.underlying130]
  simp [zaG, zaL, l_size, sz3, sz30, zay, l_map, Value.cells]
  cases Instr.fill _ _ _ <;> rfl
theorem bp135 (ps : Array (Nat × Value)) (H : Hp) (K : Value → Hp → Prop) : Lt Try.prog (Instr.build 135 ps) H K = orF (Instr.fill (#[(0, 1), (1, 64)][·]?) #[.int .i64 0, .int .u8 0, .int .u8 0, .int .u8 0, .int .u8 0, .int .u8 0, .int .u8 0, .int .u8 0, .int .u8 0, .int .u8 0, .int .u8 0, .int .u8 0, .int .u8 0, .int .u8 0, .int .u8 0, .int .u8 0, .int .u8 0, .int .u8 0, .int .u8 0, .int .u8 0, .int .u8 0, .int .u8 0, .int .u8 0, .int .u8 0, .int .u8 0, .int .u8 0, .int .u8 0, .int .u8 0, .int .u8 0, .int .u8 0, .int .u8 0, .int .u8 0, .int .u8 0, .int .u8 0, .int .u8 0, .int .u8 0, .int .u8 0, .int .u8 0, .int .u8 0, .int .u8 0, .int .u8 0, .int .u8 0, .int .u8 0, .int .u8 0, .int .u8 0, .int .u8 0, .int .u8 0, .int .u8 0, .int .u8 0, .int .u8 0, .int .u8 0, .int .u8 0, .int .u8 0, .int .u8 0, .int .u8 0, .int .u8 0, .int .u8 0, .int .u8 0, .int .u8 0, .int .u8 0, .int .u8 0, .int .u8 0, .int .u8 0, .int .u8 0, .int .u8 0] ps.toList) (fun c => K (.agg c) H) := by
  simp only [Instr.build, zaG, l_zero, zr135, zay, l_und, Try.underlying135]
  simp [zaG, zaL, l_size, sz3, sz30, zay, l_map, Value.cells]
  cases Instr.fill _ _ _ <;> rfl
theorem bp153 (ps : Array (Nat × Value)) (H : Hp) (K : Value → Hp → Prop) : Lt Try.prog (Instr.build 153 ps) H K = orF (Instr.fill (#[(0, 1), (1, 1)][·]?) #[.slice none 0 0, .bool false] ps.toList) (fun c => K (.agg c) H) := by
  simp only [Instr.build, zaG, l_zero, zr153, zay, l_und, Try.underlying153]
  simp [zaG, zaL, l_size, sz4, sz80, zay, l_map, Value.cells]
  cases Instr.fill _ _ _ <;> rfl
theorem bd7 : bodied Try.prog 7 = true := by kernel_rfl
theorem bd8 : bodied Try.prog 8 = true := by kernel_rfl
theorem bd9 : bodied Try.prog 9 = true := by kernel_rfl
theorem bd10 : bodied Try.prog 10 = true := by kernel_rfl
theorem bd11 : bodied Try.prog 11 = true := by kernel_rfl
theorem bd12 : bodied Try.prog 12 = true := by kernel_rfl
theorem bd13 : bodied Try.prog 13 = true := by kernel_rfl
theorem bd14 : bodied Try.prog 14 = true := by kernel_rfl
theorem bd15 : bodied Try.prog 15 = true := by kernel_rfl
theorem bd16 : bodied Try.prog 16 = true := by kernel_rfl
theorem bd17 : bodied Try.prog 17 = true := by kernel_rfl
theorem bd18 : bodied Try.prog 18 = true := by kernel_rfl
theorem bd19 : bodied Try.prog 19 = true := by kernel_rfl
theorem bd20 : bodied Try.prog 20 = true := by kernel_rfl
theorem bd21 : bodied Try.prog 21 = true := by kernel_rfl
theorem bd22 : bodied Try.prog 22 = true := by kernel_rfl
theorem bd23 : bodied Try.prog 23 = true := by kernel_rfl
theorem bd24 : bodied Try.prog 24 = true := by kernel_rfl
theorem bd25 : bodied Try.prog 25 = true := by kernel_rfl
theorem bd26 : bodied Try.prog 26 = true := by kernel_rfl
theorem bd27 : bodied Try.prog 27 = true := by kernel_rfl
theorem bd28 : bodied Try.prog 28 = true := by kernel_rfl
theorem bd29 : bodied Try.prog 29 = true := by kernel_rfl
theorem bd30 : bodied Try.prog 30 = true := by kernel_rfl
theorem bd31 : bodied Try.prog 31 = true := by kernel_rfl
theorem bd32 : bodied Try.prog 32 = true := by kernel_rfl
theorem bd33 : bodied Try.prog 33 = true := by kernel_rfl
theorem bd34 : bodied Try.prog 34 = true := by kernel_rfl
theorem bd35 : bodied Try.prog 35 = true := by kernel_rfl
theorem bd36 : bodied Try.prog 36 = true := by kernel_rfl
theorem bd37 : bodied Try.prog 37 = true := by kernel_rfl
theorem bd38 : bodied Try.prog 38 = true := by kernel_rfl
theorem bd39 : bodied Try.prog 39 = true := by kernel_rfl
theorem bd40 : bodied Try.prog 40 = true := by kernel_rfl
theorem bd41 : bodied Try.prog 41 = true := by kernel_rfl
theorem bd42 : bodied Try.prog 42 = true := by kernel_rfl
theorem bd43 : bodied Try.prog 43 = true := by kernel_rfl
theorem bd44 : bodied Try.prog 44 = true := by kernel_rfl
theorem bd45 : bodied Try.prog 45 = true := by kernel_rfl
theorem bd46 : bodied Try.prog 46 = true := by kernel_rfl
theorem bd47 : bodied Try.prog 47 = true := by kernel_rfl
theorem bd48 : bodied Try.prog 48 = true := by kernel_rfl
theorem bd49 : bodied Try.prog 49 = true := by kernel_rfl
theorem bd50 : bodied Try.prog 50 = true := by kernel_rfl
theorem bd51 : bodied Try.prog 51 = true := by kernel_rfl
theorem bd52 : bodied Try.prog 52 = true := by kernel_rfl
theorem bd53 : bodied Try.prog 53 = true := by kernel_rfl
theorem bd54 : bodied Try.prog 54 = true := by kernel_rfl
theorem bd55 : bodied Try.prog 55 = true := by kernel_rfl
theorem bd56 : bodied Try.prog 56 = true := by kernel_rfl
theorem bd57 : bodied Try.prog 57 = true := by kernel_rfl
theorem bd58 : bodied Try.prog 58 = true := by kernel_rfl
theorem bd59 : bodied Try.prog 59 = true := by kernel_rfl
theorem bd60 : bodied Try.prog 60 = true := by kernel_rfl
theorem bd61 : bodied Try.prog 61 = true := by kernel_rfl
theorem bd62 : bodied Try.prog 62 = true := by kernel_rfl
theorem bd63 : bodied Try.prog 63 = true := by kernel_rfl
theorem bd64 : bodied Try.prog 64 = true := by kernel_rfl
theorem bd65 : bodied Try.prog 65 = true := by kernel_rfl
theorem bd66 : bodied Try.prog 66 = true := by kernel_rfl
theorem bd67 : bodied Try.prog 67 = true := by kernel_rfl
theorem bd68 : bodied Try.prog 68 = true := by kernel_rfl
theorem bd69 : bodied Try.prog 69 = true := by kernel_rfl
theorem bd70 : bodied Try.prog 70 = true := by kernel_rfl
theorem bd71 : bodied Try.prog 71 = true := by kernel_rfl
theorem bd72 : bodied Try.prog 72 = true := by kernel_rfl
theorem bd73 : bodied Try.prog 73 = true := by kernel_rfl
theorem bd74 : bodied Try.prog 74 = true := by kernel_rfl
theorem bd75 : bodied Try.prog 75 = true := by kernel_rfl
theorem bd76 : bodied Try.prog 76 = true := by kernel_rfl
theorem bd77 : bodied Try.prog 77 = true := by kernel_rfl
theorem bd78 : bodied Try.prog 78 = true := by kernel_rfl
theorem bd79 : bodied Try.prog 79 = true := by kernel_rfl
theorem bd80 : bodied Try.prog 80 = true := by kernel_rfl
end Go.Proofs.Ytigofhhonnbkmaa.HL
end
section
namespace Go.Proofs.Ytigofhhonnbkmaa.HL
open Go
def Frm (H : Hp) (S : Nat → Prop) (H' : Hp) (S' : Nat → Prop) : Prop := (∀ b o, H b = some o → ¬ S b → H' b = some o) ∧ ∀ b, S' b → S b ∨ H b = none
theorem Frm.refl (H : Hp) (S : Nat → Prop) : Frm H S H S := ⟨fun _ _ h _ => h, fun _ h => .inl h⟩
theorem Frm.trans {H H1 H2 : Hp} {S S1 S2 : Nat → Prop} (h1 : Frm H S H1 S1) (h2 : Frm H1 S1 H2 S2) : Frm H S H2 S2 := by
  refine ⟨fun b o hb hn => ?_, fun b hb => ?_⟩
  · refine h2.1 b o (h1.1 b o hb hn) fun hs => ?_
    rcases h1.2 b hs with h | h
    · exact hn h
    · rw [h] at hb; cases hb
  · rcases h2.2 b hb with h | h
    · exact h1.2 b h
    · by_cases hs : S b
      · exact .inl hs
      · right
        cases ho : H b with
        | none => rfl
        | some o => rw [h1.1 b o ho hs] at h; cases h
theorem Frm.new {H H1 : Hp} {S S1 : Nat → Prop} (h : Frm H S H1 S1) {b : Nat} {o : Obj} (hb : H1 b = none) : Frm H S (H1.upd b o) S1 := by
  refine ⟨fun x o' hx hn => ?_, h.2⟩
  have := h.1 x o' hx hn
  rw [zap _ _ (by intro e; subst e; rw [this] at hb; cases hb)]; exact this
theorem Frm.le {H0 H H' : Hp} {S S' : Nat → Prop} (h : Frm H S H' S') (hl : Le H0 H) (hs : ∀ b, S b → H0 b = none) : Le H0 H' := fun b o hb =>
  h.1 b o (hl b o hb) fun hS => by rw [hs b hS] at hb; cases hb
theorem Frm.sep {H0 H H' : Hp} {S S' : Nat → Prop} (h : Frm H S H' S') (hl : Le H0 H) (hs : ∀ b, S b → H0 b = none) : ∀ b, S' b → H0 b = none := fun b hb => by
  rcases h.2 b hb with h1 | h1
  · exact hs b h1
  · exact zag hl h1
theorem Frm.stay {H H' : Hp} {S S' T : Nat → Prop} (h : Frm H S H' S') (hd : ∀ b, T b → ¬ S b) : ∀ b o, T b → H b = some o → H' b = some o := fun b o hb ho => h.1 b o ho (hd b hb)
theorem Frm.of_le {H H' : Hp} (S : Nat → Prop) (h : Le H H') : Frm H S H' S := ⟨fun b o hb _ => h b o hb, fun _ hb => .inl hb⟩
theorem OwnS.stay {H H' : Hp} {E : TypeId} {w : Nat} {v : Value} {n : Nat} {cs : List Value} {rs : Option Nat} (h : OwnS H E w v n cs rs) (k : ∀ b o, rs = some b → H b = some o → H' b = some o) : OwnS H' E w v n cs rs := by
  obtain ⟨h1, h2⟩ := h
  refine ⟨h1, h2.imp id ?_⟩
  rintro ⟨r, cap, c, h3, h4, h5, h6, h7, h8⟩
  exact ⟨r, cap, c, h3, k r _ h8 h4, h5, h6, h7, h8⟩
theorem OwnS.known {H : Hp} {E : TypeId} {w : Nat} {v : Value} {n : Nat} {cs : List Value} {rs : Option Nat} (h : OwnS H E w v n cs rs) : ∀ b, rs = some b → H b ≠ none := by
  obtain ⟨_, ⟨_, _, h3⟩ | ⟨r, cap, c, _, h4, _, _, _, h8⟩⟩ := h
  · intro b hb; rw [h3] at hb; cases hb
  · intro b hb; rw [h8] at hb; cases hb; rw [h4]; simp
theorem Grow.known {H H' : Hp} {rs : Option Nat} (h : Grow H rs H') : ∀ b o, H b = some o → rs ≠ some b → H' b = some o := by
  intro b o hb hn
  rcases h with rfl | ⟨r, o', hr, rfl⟩
  · exact hb
  · rw [zap]
    · exact hb
    · intro e; subst e
      rcases hr with hr | hr
      · exact hn hr
      · rw [hr] at hb; cases hb
end Go.Proofs.Ytigofhhonnbkmaa.HL
namespace Go.Proofs.Ytigofhhonnbkmaa.HL
open Go
theorem OwnS.set {H : Hp} {E : TypeId} {k : IntKind} {r n cap : Nat} {l : List Int} {c : Array Value} (h : OwnS H E 1 (.slice (some ⟨r, 0, none⟩) n cap) n (l.map (Value.int k ·)) (some r)) (hc : H r = some (.cells c E)) (i : Nat) (hi : i < n) (y : Int) : OwnS (H.upd r (.cells (c.setIfInBounds i (.int k y)) E)) E 1 (.slice (some ⟨r, 0, none⟩) n cap) n ((l.set i y).map (Value.int k ·)) (some r) := by
  obtain ⟨h1, ⟨h2, _, _⟩ | ⟨r', cap', c', h3, h4, h5, h6, h7, h8⟩⟩ := h
  · cases h2
  · cases h3
    rw [hc] at h4; cases h4
    refine ⟨by simpa using h1, .inr ⟨r, cap, _, rfl, zan _ _ _, h5, by simpa using h6, ?_, rfl⟩⟩
    have e : (l.set i y).map (Value.int k ·) = (l.map (Value.int k ·)).set i (.int k y) := by rw [List.map_set]
    rw [e, ← h7]
    simp only [Array.toList_extract, List.extract_eq_take_drop, Array.toList_setIfInBounds, List.drop_zero, Nat.sub_zero, List.take_set]
end Go.Proofs.Ytigofhhonnbkmaa.HL
end
section
namespace Go.Proofs.Ytigofhhonnbkmaa.HL
open Go
set_option linter.unusedSimpArgs false
def ifV (T : TypeId) : Option Value → Value
  | none => .nilIface
  | some v => .iface T v
end Go.Proofs.Ytigofhhonnbkmaa.HL
end
section
namespace Go.Proofs.Ytigofhhonnbkmaa.HL
open Go
/-! ### two heaps side by side -/
def Hp.join (H F : Hp) : Hp := fun b => match H b with | some o => some o | none => F b
def Hp.apart (H F : Hp) : Prop := ∀ b, F b ≠ none → H b = none
theorem join_l {H F : Hp} {b : Nat} {o : Obj} (h : H b = some o) : H.join F b = some o := by simp [Hp.join, h]
theorem join_r {H F : Hp} {b : Nat} (h : H b = none) : H.join F b = F b := by simp [Hp.join, h]
theorem le_join (H F : Hp) : Le H (H.join F) := fun _ _ h => join_l h
theorem le_join_r {H F : Hp} (h : H.apart F) : Le F (H.join F) := fun b o hb => by
  rw [join_r (h b (by rw [hb]; simp))]; exact hb
theorem upd_join (H F : Hp) (b : Nat) (o : Obj) : (H.join F).upd b o = (H.upd b o).join F := by
  funext x
  by_cases e : x = b
  · subst e; simp [Hp.upd, Hp.join]
  · simp [Hp.upd, Hp.join, e]
theorem join_none {H F : Hp} {b : Nat} (h : H.join F b = none) : H b = none ∧ F b = none := by
  unfold Hp.join at h
  cases hh : H b with
  | some o => rw [hh] at h; cases h
  | none => rw [hh] at h; exact ⟨rfl, h⟩
theorem apart_known {H F : Hp} (h : H.apart F) {b : Nat} {o : Obj} (hb : H b = some o) : F b = none := by
  cases hf : F b with
  | none => rfl
  | some x => rw [h b (by rw [hf]; simp)] at hb; cases hb
theorem apart_upd {H F : Hp} (h : H.apart F) {b : Nat} (hb : F b = none) (o : Obj) : (H.upd b o).apart F := fun x hx => by
  rw [zap _ _ (by intro e; subst e; exact hx hb)]; exact h x hx
theorem cell_join {H F : Hp} {a : Addr} {v : Value} (h : H.cell a = some v) : (H.join F).cell a = some v := by
  unfold Hp.cell at *
  cases hh : H a.block with
  | none => rw [hh] at h; cases h
  | some o => rw [hh] at h; rw [join_l hh]; exact h
theorem Ext.join {H H' F : Hp} {w w' : World} (hs : Sub (H.join F) w) (hd : H.apart F) (hx : Ext H w H' w') : H'.apart F ∧ Ext (H.join F) w (H'.join F) w' := by
  have hlt : ∀ b, F b ≠ none → b < w.heap.size := fun b hb => by
    cases hf : F b with
    | none => exact absurd hf hb
    | some o => exact hs.lt (le_join_r hd b o hf)
  have hd' : H'.apart F := fun b hb => by
    cases hc : H' b with
    | none => rfl
    | some x =>
      rcases hx.dom b (by rw [hc]; simp) with h | h
      · exact absurd (hd b hb) h
      · have := hlt b hb; omega
  refine ⟨hd', ⟨fun b o hb => ?_, hx.size, fun b hb hbn => hx.same b hb (join_none hbn).1, fun b hb => ?_, hx.os, hx.output, hx.tape⟩⟩
  · cases hc : H' b with
    | some x => rw [join_l hc] at hb; cases hb; exact hx.sub b _ hc
    | none =>
      rw [join_r hc] at hb
      have hn : F b ≠ none := by rw [hb]; simp
      rw [hx.same b (hlt b hn) (hd b hn)]
      exact hs b o (by rw [join_r (hd b hn)]; exact hb)
  · cases hc : H' b with
    | some x =>
      rcases hx.dom b (by rw [hc]; simp) with h | h
      · left
        cases hh : H b with
        | none => exact absurd hh h
        | some o => rw [join_l hh]; simp
      · exact .inr h
    | none =>
      rw [join_r hc] at hb
      left; rw [join_r (hd b hb)]; exact hb
theorem Lt_join {P : Program} {α : Type} (s : Sem α) {F : Hp} : ∀ {H : Hp} {K : α → Hp → Prop}, Lt P s H K → H.apart F → Lt P s (H.join F) (fun x H1 => ∃ H', H1 = H'.join F ∧ H'.apart F ∧ K x H') := by
  induction s with
  | pure a => exact fun h hr => ⟨_, rfl, hr, h⟩
  | load m a k ih => intro H K ⟨v, h1, h2⟩ hr; exact ⟨v, cell_join h1, ih _ h2 hr⟩
  | store m a v k ih =>
    intro H K ⟨o', h1, h2, h3, h4, h5⟩ hr
    refine ⟨o', join_l h1, h2, ?_, h4, ?_⟩
    · cases hc : H.cell a with
      | none => exact absurd hc h3
      | some u => rw [cell_join hc]; simp
    · rw [upd_join]; exact ih h5 (apart_upd hr (apart_known hr h1) _)
  | new o' k ih =>
    intro H K h hr r' hr'
    obtain ⟨h1, h2⟩ := join_none hr'
    rw [upd_join]; exact ih _ (h r' h1) (apart_upd hr h2 _)
  | shape r' k ih => intro H K ⟨o', h1, h2⟩ hr; exact ⟨o', join_l h1, ih _ h2 hr⟩
  | freeze a n k ih =>
    intro H K h hr
    rcases h with ⟨h1, h2⟩ | ⟨h1, o', h2, h3⟩
    · exact .inl ⟨h1, ih h2 hr⟩
    · refine .inr ⟨h1, o', join_l h2, ?_⟩
      rw [upd_join]; exact ih h3 (apart_upd hr (apart_known hr h2) _)
  | frozen a k ih => intro H K ⟨o', h1, h2⟩ hr; exact ⟨o', join_l h1, ih _ h2 hr⟩
  | getObj r' k ih => intro H K ⟨o', h1, h2, h3⟩ hr; exact ⟨o', join_l h1, h2, ih _ h3 hr⟩
  | setObj r' o' k ih =>
    intro H K ⟨o0, h1, h2, h3⟩ hr
    refine ⟨o0, join_l h1, h2, ?_⟩
    rw [upd_join]; exact ih h3 (apart_upd hr (apart_known hr h1) _)
  | choose q k ih => exact fun h hr => ⟨fun hf => ih _ (h.1 hf) hr, fun hf t => ih _ (h.2 hf t) hr⟩
  | sys c k ih => exact fun h _ => h.elim
  | program k ih => exact fun h hr => ih _ h hr
  | mark m k ih => exact fun h hr => ih h hr
  | halt h' => exact fun h _ => h.elim
theorem NextH_join {P : Program} {nx : Next} {H F : Hp} {R : Value → Hp → Prop} (h : NextH P nx H R) (hd : H.apart F) : NextH P nx (H.join F) (fun v H1 => ∃ H', H1 = H'.join F ∧ H'.apart F ∧ R v H') := by
  cases nx <;> simp only [NextH] at * <;> first
    | exact ⟨_, rfl, hd, h⟩
    | exact fun w hs => (h w (hs.le (le_join H F))).mono fun _ _ ⟨v, he, H', hR, hx⟩ => ⟨v, he, H'.join F, ⟨H', rfl, (hx.join hs hd).1, hR⟩, (hx.join hs hd).2⟩
    | exact fun w hs => (h w (hs.le (le_join H F))).mono fun v w' ⟨H', hR, hx⟩ => ⟨H'.join F, ⟨H', rfl, (hx.join hs hd).1, hR⟩, (hx.join hs hd).2⟩
    | exact h.elim
theorem ValH_join {P : Program} {g : Value} {args : Array Value} {H F : Hp} {R : Value → Hp → Prop} (h : ValH P g args H R) (hd : H.apart F) : ValH P g args (H.join F) (fun v H1 => ∃ H', H1 = H'.join F ∧ H'.apart F ∧ R v H') := by
  unfold ValH at *
  refine Lt_mono _ _ (Lt_join _ h hd) ?_
  rintro nx H1 ⟨H', rfl, hd', hn⟩
  exact NextH_join hn hd'
theorem ValH.mono {P : Program} {g : Value} {args : Array Value} {H : Hp} {R R' : Value → Hp → Prop} (h : ValH P g args H R) (hr : ∀ v H', R v H' → R' v H') : ValH P g args H R' :=
  Lt_mono _ _ h fun _ _ hn => hn.mono hr
def Hp.less (K H : Hp) : Hp := fun b => match H b with | some _ => none | none => K b
theorem less_apart (K H : Hp) : H.apart (K.less H) := fun b hb => by
  unfold Hp.less at hb
  cases h : H b with
  | none => rfl
  | some o => rw [h] at hb; exact absurd rfl hb
theorem less_none {K H : Hp} {b : Nat} (h : H b = none) : K.less H b = K b := by simp [Hp.less, h]
theorem join_less {K H : Hp} (h : Le H K) : H.join (K.less H) = K := by
  funext b
  cases hb : H b with
  | some o => rw [join_l hb, h b o hb]
  | none => rw [join_r hb, less_none hb]
theorem ValH.use {P : Program} {g : Value} {args : Array Value} {H K : Hp} {R : Value → Hp → Prop} (h : ValH P g args H R) (hl : Le H K) :
    ValH P g args K (fun v K' => ∃ H', R v H' ∧ Le H' K' ∧ ∀ b o, K b = some o → H b = none → K' b = some o ∧ H' b = none) := by
  have := ValH_join h (less_apart K H)
  rw [join_less hl] at this
  refine this.mono ?_
  rintro v K' ⟨H', rfl, hd, hR⟩
  refine ⟨H', hR, le_join _ _, fun b o hb hn => ?_⟩
  have h1 : K.less H b = some o := by rw [less_none hn]; exact hb
  have h2 : H' b = none := hd b (by rw [h1]; simp)
  exact ⟨by rw [join_r h2]; exact h1, h2⟩
theorem CallH.use {P : Program} {f : FuncId} {args : Array Value} {H K : Hp} {R : Value → Hp → Prop} (h : CallH P f args H R) (hl : Le H K) :
    CallH P f args K (fun v K' => ∃ H', R v H' ∧ Le H' K' ∧ ∀ b o, K b = some o → H b = none → K' b = some o ∧ H' b = none) := by
  have := NextH_join (nx := .enter f args) h (less_apart K H)
  rw [join_less hl] at this
  refine CallH.mono this ?_
  rintro v K' ⟨H', rfl, hd, hR⟩
  refine ⟨H', hR, le_join _ _, fun b o hb hn => ?_⟩
  have h1 : K.less H b = some o := by rw [less_none hn]; exact hb
  have h2 : H' b = none := hd b (by rw [h1]; simp)
  exact ⟨by rw [join_r h2]; exact h1, h2⟩
def Iter (P : Program) (g : Value) (H0 : Hp) (n : Nat) (T : Nat → List Value → Hp → Prop) : Prop :=
  ∀ (yf : Fn) (ya yb : Array Value) (J : Nat → Hp → Prop) (S : Hp → Prop) (H : Hp), (∀ i H, J i H → Le H0 H) →
    (∀ i, i < n → ∀ H, J i H → ∀ args F, T i args F → H.apart F → ValH P (.func yf ya yb) args.toArray (H.join F) (fun v H2 => ∃ H3, Le H3 H2 ∧ ((v = .bool true ∧ J (i + 1) H3) ∨ (v = .bool false ∧ S H3)))) →
    J 0 H → ValH P g #[.func yf ya yb] H (fun _ H2 => ∃ H3, Le H3 H2 ∧ (J n H3 ∨ S H3))
def Tpure (xs : Nat → List Value) : Nat → List Value → Hp → Prop := fun i args F => args = xs i ∧ F = emptyHp
theorem join_empty (H : Hp) : H.join emptyHp = H := by
  funext b; unfold Hp.join; cases H b <;> rfl
theorem apart_empty (H : Hp) : H.apart emptyHp := fun _ h => absurd rfl h
def putAll (e : Env) : List (Nat × Value) → Env
  | [] => e
  | (t, v) :: r => putAll (e.put t v) r
theorem Lt_yield {P : Program} {l : Nat} {lp : Loop} {args : Array Value} {H : Hp} {K : Next → Hp → Prop} (h : H l = some (.loop lp)) (hn : args.size = lp.params.size)
    (hK : K (.round l lp.fn ((lp.params.zip args).foldl (fun tmps (t, a) => tmps.setIfInBounds t a) lp.tmps) lp.assign lp.body) H) : Lt P (Instr.yield l args) H K := by
  simp only [Instr.yield, Instr.getLoop, zaG]
  refine ⟨_, h, rfl, ?_⟩
  simp only [l_pure', zaL, hn, ne_eq, not_true, if_false]
  exact hK
theorem Rel.putAll {n B : Nat} {w : World} {H : Hp} {d : List Deferred} : ∀ {l : List (Nat × Value)} {e : Env} {tmps : Array Value}, Rel n B e { tmps, defers := d } w H → (∀ p ∈ l, p.1 < n) → Rel n B (HL.putAll e l) { tmps := l.foldl (fun tmps (t, a) => tmps.setIfInBounds t a) tmps, defers := d } w H
  | [], _, _, h, _ => h
  | (t, v) :: r, e, tmps, h, hl => by
    have h1 := h.put (d := some t) (fun u hu => by cases hu; exact hl (t, v) (by simp)) v
    exact Rel.putAll (l := r) h1 (fun p hp => hl p (by simp [hp]))
theorem CW_rangeFunc {P : Program} {n : Nat} {Q : Ex → Env → Hp → Prop} {e : Env} {H : Hp} {g : Operand} {params : Array Tmp} {assign body : Code} {gv : Value} (hg : ∀ r, ev e r g = gv)
    {H0 : Hp} {N : Nat} {T : Nat → List Value → Hp → Prop} (hit : Iter P gv H0 N T) (J : Nat → Hp → Prop) (hle : ∀ i H', J i H' → Le H0 H') (h0 : J 0 H) (hp : ∀ p ∈ params.toList, p < n)
    (round : ∀ l i, i < N → ∀ H', J i H' → ∀ args F, T i args F → H'.apart F → args.length = params.size ∧
      CW P n (some l) assign (fun x e1 H1 => x = .normal ∧ CW P n (some l) body (fun x e2 H2 => match x with | .normal => J (i + 1) H2 | x => Q x e H2) e1 H1) (putAll e (params.toList.zip args)) (H'.join F))
    (hend : ∀ H', J N H' → Q .normal e H') : CW P n none (.rangeFunc g params assign body) Q e H := by
  intro B a w hr hs
  refine CR_rangeFunc (fun fn => ?_)
  obtain ⟨l, hl⟩ : ∃ l, l = w.heap.size + 1 := ⟨_, rfl⟩
  obtain ⟨lp, hlp⟩ : ∃ lp, lp = loopObj fn a.tmps params assign body w.heap.size := ⟨_, rfl⟩
  obtain ⟨w2, hw2⟩ : ∃ w2, w2 = pushLoop w fn a params assign body := ⟨_, rfl⟩
  have hsz : w2.heap.size = w.heap.size + 2 := by rw [hw2]; simp [pushLoop]
  have hwl : w2.heap[l]? = some (.loop lp) := by
    rw [hw2, hl, hlp]
    simp only [pushLoop]
    have : w.heap.size + 1 = (w.heap.push (.deferred (some []))).size := by simp
    rw [this, Array.getElem?_push_size]
  have hwr : w2.heap[w.heap.size]? = some (.deferred (some [])) := by
    rw [hw2]
    simp only [pushLoop]
    rw [Array.getElem?_push_lt (by simp), Array.getElem_push_eq]
  have hwo : ∀ b, b < w.heap.size → w2.heap[b]? = w.heap[b]? := fun b hb => by
    rw [hw2]
    simp only [pushLoop]
    rw [Array.getElem?_push_lt (by simp; omega), Array.getElem_push_lt hb, Array.getElem?_eq_getElem hb]
  have hHn : ∀ b, w.heap.size ≤ b → H b = none := fun b hb => by
    cases hc : H b with
    | none => rfl
    | some o => have := hs.lt hc; omega
  have hHl : H l = none := hHn l (by omega)
  have hHr : H w.heap.size = none := hHn _ (Nat.le_refl _)
  have hne : w.heap.size ≠ l := by omega
  have hs2 : Sub (H.upd l (.loop lp)) w2 := fun b o hb => by
    by_cases ee : b = l
    · subst ee; rw [zan] at hb; cases hb; exact hwl
    · rw [zap _ _ ee] at hb; rw [hwo b (hs.lt hb)]; exact hs b o hb
  have hx2 : w2.os = w.os ∧ w2.output = w.output ∧ w2.tape = w.tape := by rw [hw2]; exact ⟨rfl, rfl, rfl⟩
  have key := hit (.yield l) #[] #[] (fun i HH => ∃ HJ, HH = HJ.upd l (.loop lp) ∧ HJ l = none ∧ J i HJ)
    (fun HH => ∃ HJ x, HH = HJ.upd l (.loop { lp with state := .done, pending := Ex.jump x }) ∧ x ≠ .normal ∧ HJ l = none ∧ Q x e HJ)
    (H.upd l (.loop lp)) (by
      rintro i _ ⟨HJ, rfl, hn, hj⟩
      exact zaw (hle i HJ hj) (zag (hle i HJ hj) hn))
    (by
      rintro i hi _ ⟨HJ, rfl, hn, hj⟩ args F hT hd
      have hFl : F l = none := apart_known hd (zan _ _ _)
      have hdJ : HJ.apart F := fun b hb => by
        have := hd b hb
        by_cases ee : b = l
        · subst ee; exact hn
        · rwa [zap _ _ ee] at this
      obtain ⟨hlen, hcw⟩ := round l i hi HJ hj args F hT hdJ
      rw [← upd_join]
      have hjn : (HJ.join F) l = none := by rw [join_r hn]; exact hFl
      show Lt P (Instr.yield l (#[] ++ args.toArray)) _ _
      refine Lt_yield (zan _ _ _) (by simp [hlen, hlp, loopObj]) ?_
      simp only [NextH]
      intro w5 hs5
      have hs5' : Sub (HJ.join F) w5 := fun b o hb => hs5 b o (by rw [zap _ _ (by intro ee; subst ee; rw [hjn] at hb; cases hb)]; exact hb)
      have hl5 : w5.heap[l]? = some (.loop lp) := hs5 l _ (zan _ _ _)
      have hlt5 : l < w5.heap.size := hs5.lt (zan _ _ _)
      refine round_of_CR ?_
      rw [show lp.assign = assign from by rw [hlp]; rfl, show lp.body = body from by rw [hlp]; rfl]
      have hrel : Rel n 0 (putAll e (params.toList.zip args)) { tmps := (lp.params.zip (#[] ++ args.toArray)).foldl (fun tmps (t, a) => tmps.setIfInBounds t a) lp.tmps, defers := [] } w5 (HJ.join F) := by
        have h1 : Rel n 0 e { tmps := lp.tmps, defers := [] } w5 (HJ.join F) := ⟨Nat.zero_le _, by rw [hlp]; exact hr.size, by rw [hlp]; exact hr.tmps, [], rfl, .nil, fun _ h => by cases h⟩
        have h2 := Rel.putAll (l := params.toList.zip args) h1 (fun p hpp => hp p.1 (List.of_mem_zip hpp).1)
        have h3 : (lp.params.zip (#[] ++ args.toArray)).foldl (fun tmps (t, a) => tmps.setIfInBounds t a) lp.tmps = (params.toList.zip args).foldl (fun tmps (t, a) => tmps.setIfInBounds t a) lp.tmps := by
          rw [← Array.foldl_toList]; simp [hlp, loopObj]
        rw [h3]; exact h2
      refine (hcw 0 _ w5 hrel hs5').mono ?_
      rintro x a1 w6 ⟨e1, H6, ⟨rfl, hbody⟩, hr6, hx6⟩
      have hH6 : H6 l = none := by
        cases hc : H6 l with
        | none => rfl
        | some o =>
          rcases hx6.dom l (by rw [hc]; simp) with h | h
          · exact absurd hjn h
          · omega
      have hl6 : w6.heap[l]? = some (.loop lp) := by rw [hx6.same l hlt5 hjn]; exact hl5
      refine ⟨lp, hl6, by rw [hlp]; rfl, ?_⟩
      have hset : ∀ (w : World) (HH : Hp) (q : Loop), HH l = none → Sub HH w → Sub HH (setLoop w l q) := fun w HH q hq hsw b o hb => by
        have : b ≠ l := fun ee => by subst ee; rw [hq] at hb; cases hb
        simp only [setLoop]
        rw [Array.getElem?_setIfInBounds_ne (Ne.symm this)]; exact hsw b o hb
      have hr7 : Rel n 0 e1 a1 (setLoop w6 l { lp with state := .busy }) H6 := by
        refine ⟨Nat.zero_le _, hr6.size, hr6.tmps, ?_⟩
        obtain ⟨rs, m1, m2, m3⟩ := hr6.marks
        refine ⟨rs, m1, m2, fun r hrr => ⟨?_, (m3 r hrr).2⟩⟩
        have : r ≠ l := fun ee => by subst ee; rw [(m3 r hrr).1] at hl6; cases hl6
        simp only [setLoop]
        rw [Array.getElem?_setIfInBounds_ne (Ne.symm this)]; exact (m3 r hrr).1
      refine (hbody 0 a1 _ hr7 (hset w6 H6 _ hH6 hx6.sub)).mono ?_
      rintro x a2 w8 ⟨e2, H8, hq8, hr8, hx8⟩
      have hlt6 : l < (setLoop w6 l { lp with state := .busy }).heap.size := by
        simp only [setLoop, Array.size_setIfInBounds]; exact Nat.lt_of_lt_of_le hlt5 hx6.size
      have hl8 : w8.heap[l]? = some (.loop { lp with state := .busy }) := by
        rw [hx8.same l hlt6 hH6]
        simp only [setLoop]
        rw [Array.getElem?_setIfInBounds_self_of_lt (by simpa [setLoop] using hlt6)]
      have hH8 : H8 l = none := by
        cases hc : H8 l with
        | none => rfl
        | some o =>
          rcases hx8.dom l (by rw [hc]; simp) with h | h
          · exact absurd hH6 h
          · omega
      refine ⟨{ lp with state := .busy }, hl8, ?_⟩
      have hextw : Ext ((HJ.join F).upd l (.loop lp)) w5 (H8.upd l (.loop (afterRound { lp with state := .busy } x))) (setLoop w8 l (afterRound { lp with state := .busy } x)) := by
        refine ⟨fun b o hb => ?_, ?_, fun b hb hbn => ?_, fun b hb => ?_, ?_, ?_, ?_⟩
        · by_cases ee : b = l
          · subst ee
            rw [zan] at hb; cases hb
            simp only [setLoop]
            rw [Array.getElem?_setIfInBounds_self_of_lt (Nat.lt_of_lt_of_le hlt6 hx8.size)]
          · rw [zap _ _ ee] at hb
            simp only [setLoop]
            rw [Array.getElem?_setIfInBounds_ne (Ne.symm ee)]; exact hx8.sub b o hb
        · have h1 := hx6.size
          have h2 := hx8.size
          simp only [setLoop, Array.size_setIfInBounds] at h2 ⊢; omega
        · have ee : b ≠ l := fun ee => by subst ee; rw [zan] at hbn; cases hbn
          rw [zap _ _ ee] at hbn
          have h6n : H6 b = none := by
            cases hc : H6 b with
            | none => rfl
            | some o =>
              rcases hx6.dom b (by rw [hc]; simp) with h | h
              · exact absurd hbn h
              · omega
          have hb6 : b < (setLoop w6 l { lp with state := .busy }).heap.size := by
            simp only [setLoop, Array.size_setIfInBounds]; exact Nat.lt_of_lt_of_le hb hx6.size
          have h1 := hx8.same b hb6 h6n
          simp only [setLoop] at h1 ⊢
          rw [Array.getElem?_setIfInBounds_ne (Ne.symm ee)] at h1 ⊢
          rw [h1, hx6.same b hb hbn]
        · by_cases ee : b = l
          · subst ee; left; rw [zan]; simp
          · rw [zap _ _ ee] at hb ⊢
            rcases hx8.dom b hb with h | h
            · exact hx6.dom b h
            · right
              have := hx6.size
              simp only [setLoop, Array.size_setIfInBounds] at h; omega
        · exact hx8.os.trans hx6.os
        · exact hx8.output.trans hx6.output
        · exact hx8.tape.trans hx6.tape
      refine ⟨H8.upd l (.loop (afterRound { lp with state := .busy } x)), ⟨_, Le.refl _, ?_⟩, hextw⟩
      cases x with
      | normal =>
        refine .inl ⟨rfl, H8, ?_, hH8, hq8⟩
        rw [hlp]; rfl
      | exit id => exact .inr ⟨rfl, H8, .exit id, by rw [hlp]; rfl, by simp, hH8, hq8⟩
      | ret => exact .inr ⟨rfl, H8, .ret, by rw [hlp]; rfl, by simp, hH8, hq8⟩)
    ⟨H, rfl, hHl, h0⟩
  obtain ⟨nx, w3, H3, hrun, hn, hx⟩ := Lt_sound _ _ _ w2 key hs2
  have hev : a.eval g = gv := by rw [hr.ev]; exact hg _
  refine ⟨nx, w3, by rw [hev, ← hl, ← hw2]; exact hrun, (hn.sound hx.sub).mono ?_⟩
  rintro v w4 ⟨H4, ⟨H5, hle5, hJS⟩, hx4⟩
  rw [← hl]
  have hx24 := (hx.trans hx4).forget hle5
  -- behind the loop
  have fin : ∀ (HJ : Hp) (q : Loop), H5 = HJ.upd l (.loop q) → HJ l = none → Rel n B e { a with defers := markOf w.heap.size :: a.defers } (setLoop w4 l { q with state := .exhausted }) HJ ∧ Ext H w HJ (setLoop w4 l { q with state := .exhausted }) := by
    rintro HJ q rfl hJl
    have hJr : HJ w.heap.size = none := by
      cases hc : HJ w.heap.size with
      | none => rfl
      | some o =>
        have h1 := hx24.dom w.heap.size (by rw [zap _ _ hne, hc]; simp)
        rcases h1 with h | h
        · rw [zap _ _ hne, hHr] at h; exact absurd rfl h
        · omega
    have hmk : w4.heap[w.heap.size]? = some (.deferred (some [])) := by
      rw [hx24.same _ (by omega) (by rw [zap _ _ hne]; exact hHr)]; exact hwr
    have hext : Ext H w HJ (setLoop w4 l { q with state := .exhausted }) := by
      refine ⟨fun b o hb => ?_, ?_, fun b hb hbn => ?_, fun b hb => ?_, ?_, ?_, ?_⟩
      · have ee : b ≠ l := fun ee => by subst ee; rw [hJl] at hb; cases hb
        simp only [setLoop]
        rw [Array.getElem?_setIfInBounds_ne (Ne.symm ee)]
        exact hx24.sub b o (by rw [zap _ _ ee]; exact hb)
      · have := hx24.size
        simp only [setLoop, Array.size_setIfInBounds]; omega
      · have ee : b ≠ l := by omega
        simp only [setLoop]
        rw [Array.getElem?_setIfInBounds_ne (Ne.symm ee), hx24.same b (by omega) (by rw [zap _ _ ee]; exact hbn), hwo b hb]
      · have ee : b ≠ l := fun ee => by subst ee; exact hb hJl
        have h1 := hx24.dom b (by rw [zap _ _ ee]; exact hb)
        rcases h1 with h | h
        · rw [zap _ _ ee] at h; exact .inl h
        · right; omega
      · exact hx24.os.trans hx2.1
      · exact hx24.output.trans hx2.2.1
      · exact hx24.tape.trans hx2.2.2
    refine ⟨⟨?_, hr.size, hr.tmps, ?_⟩, hext⟩
    · exact Nat.le_trans hr.bound hext.size
    · obtain ⟨rs, m1, m2, m3⟩ := hr.marks
      have hlt : ∀ r ∈ rs, r < w.heap.size := fun r hrr => by
        rcases Nat.lt_or_ge r w.heap.size with h | h
        · exact h
        · have := (m3 r hrr).1; rw [Array.getElem?_eq_none h] at this; cases this
      refine ⟨w.heap.size :: rs, by simp [m1], List.nodup_cons.2 ⟨fun hm => Nat.lt_irrefl _ (hlt _ hm), m2⟩, fun r hrr => ?_⟩
      rcases List.mem_cons.1 hrr with rfl | hrr
      · refine ⟨?_, hJr, hr.bound⟩
        simp only [setLoop]
        rw [Array.getElem?_setIfInBounds_ne (Ne.symm hne)]; exact hmk
      · have hrl := hlt r hrr
        refine ⟨?_, ?_, (m3 r hrr).2.2⟩
        · have ee : r ≠ l := by omega
          simp only [setLoop]
          rw [Array.getElem?_setIfInBounds_ne (Ne.symm ee), hx24.same r (by omega) (by rw [zap _ _ ee]; exact (m3 r hrr).2.1), hwo r hrl]
          exact (m3 r hrr).1
        · cases hc : HJ r with
          | none => rfl
          | some o =>
            have ee : r ≠ l := by omega
            rcases hx24.dom r (by rw [zap _ _ ee, hc]; simp) with h | h
            · rw [zap _ _ ee, (m3 r hrr).2.1] at h; exact absurd rfl h
            · omega
  have hl4 : ∀ (HJ : Hp) (q : Loop), H5 = HJ.upd l (.loop q) → w4.heap[l]? = some (.loop q) := fun HJ q hh => by
    subst hh; exact hx24.sub l _ (zan _ _ _)
  rcases hJS with ⟨HJ, hH5, hJl, hJ⟩ | ⟨HJ, x, hH5, hxn, hJl, hQ⟩
  · obtain ⟨h1, h2⟩ := fin HJ lp hH5 hJl
    refine ⟨lp, hl4 HJ lp hH5, by rw [hlp]; simp [loopObj], ?_⟩
    have : lp.pending = none := by rw [hlp]; rfl
    rw [this] at h1 h2 ⊢
    exact ⟨e, HJ, hend HJ hJ, h1, h2⟩
  · obtain ⟨h1, h2⟩ := fin HJ _ hH5 hJl
    refine ⟨_, hl4 HJ _ hH5, by simp, ?_⟩
    cases x with
    | normal => exact absurd rfl hxn
    | exit id => exact CR_exit ⟨e, HJ, hQ, h1, h2⟩
    | ret => exact CR_ret ⟨e, HJ, hQ, h1, h2⟩
theorem ValH_func {P : Program} {f : FuncId} {caps args : Array Value} {H : Hp} {R : Value → Hp → Prop} (hb : bodied P f = true) (h : CallH P f (args ++ caps) H R) : ValH P (.func (.func f) #[] caps) args H R := by
  unfold ValH
  rw [l_callV, l_callFunc f _ hb]
  simpa [NextH] using h
theorem yes_no {v : Value} {A B : Prop} (h : (v = .bool true ∧ A) ∨ (v = .bool false ∧ B)) : ∃ t, v = .bool t ∧ (t = true → A) ∧ (t = false → B) := by
  rcases h with ⟨rfl, h⟩ | ⟨rfl, h⟩
  · exact ⟨true, rfl, fun _ => h, fun h => by cases h⟩
  · exact ⟨false, rfl, (fun h => by cases h), fun _ => h⟩
theorem Iter.yield {P : Program} {y : Value} {args : List Value} {H F K : Hp} {A B : Hp → Prop} (h : ValH P y args.toArray (H.join F) (fun v H2 => ∃ H3, Le H3 H2 ∧ ((v = .bool true ∧ A H3) ∨ (v = .bool false ∧ B H3)))) (hl : Le (H.join F) K) :
    ValH P y args.toArray K (fun v K' => ∃ t H3, v = .bool t ∧ Le H3 K' ∧ (t = true → A H3) ∧ (t = false → B H3) ∧ ∀ b o, K b = some o → H b = none → F b = none → K' b = some o ∧ H3 b = none) := by
  refine (h.use hl).mono ?_
  rintro v K' ⟨H', ⟨H3, hl3, hc⟩, hl', hk⟩
  obtain ⟨t, rfl, h1, h2⟩ := yes_no hc
  refine ⟨t, H3, rfl, Le.trans hl3 hl', h1, h2, fun b o hb hn hf => ?_⟩
  have h4 := hk b o hb (by rw [join_r hn]; exact hf)
  exact ⟨h4.1, zag hl3 h4.2⟩
theorem Iter.yield0 {P : Program} {y : Value} {args : List Value} {H K : Hp} {A B : Hp → Prop} (h : ValH P y args.toArray (H.join emptyHp) (fun v H2 => ∃ H3, Le H3 H2 ∧ ((v = .bool true ∧ A H3) ∨ (v = .bool false ∧ B H3)))) (hl : Le H K) :
    ValH P y args.toArray K (fun v K' => ∃ t H3, v = .bool t ∧ Le H3 K' ∧ (t = true → A H3) ∧ (t = false → B H3) ∧ ∀ b o, K b = some o → H b = none → K' b = some o ∧ H3 b = none) := by
  refine (Iter.yield h (by rw [join_empty]; exact hl)).mono ?_
  rintro v K' ⟨t, H3, h1, h2, h3, h4, h5⟩
  exact ⟨t, H3, h1, h2, h3, h4, fun b o hb hn => h5 b o hb hn rfl⟩
theorem join_le {H F K : Hp} (h : Le H K) (k : Le F K) : Le (H.join F) K := fun b o hb => by
  cases hc : H b with
  | some x => rw [join_l hc] at hb; cases hb; exact h b _ hc
  | none => rw [join_r hc] at hb; exact k b o hb
end Go.Proofs.Ytigofhhonnbkmaa.HL
end
section
namespace Go.Proofs.Ytigofhhonnbkmaa.HL
open Go
set_option linter.unusedSimpArgs false
def getE : List MapEntry → Int → Option Value
  | [], _ => none
  | e :: es, k => match e.key with | .int _ a => if a = k then some e.val else getE es k | _ => none
def IntKeys (es : List MapEntry) : Prop := ∀ e ∈ es, ∃ k, e.key = .int .i64 k
theorem findNow_int : ∀ (es : List MapEntry) (k : Int) (i : Nat), IntKeys es → ∃ r, Instr.findNow (.int .i64) (.int .i64 k) es i = some r ∧
    ((r = none ∧ getE es k = none) ∨ ∃ j v, r = some (i + j, v) ∧ getE es k = some v ∧ j < es.length ∧ (∃ e, es[j]? = some e ∧ e.key = .int .i64 k ∧ e.val = v) ∧ ∀ j', j' < j → ∀ e, es[j']? = some e → e.key ≠ .int .i64 k)
  | [], k, i, _ => ⟨none, rfl, .inl ⟨rfl, rfl⟩⟩
  | e :: es, k, i, h => by
    obtain ⟨a, ha⟩ := h e (by simp)
    have h' : IntKeys es := fun x hx => h x (by simp [hx])
    simp only [Instr.findNow, Instr.sameNow, ha, getE, if_true]
    by_cases hk : k = a
    · subst hk
      simp only [beq_self_eq_true, if_true]
      exact ⟨_, rfl, .inr ⟨0, e.val, rfl, rfl, by simp, ⟨e, rfl, ha, rfl⟩, fun j' hj => by omega⟩⟩
    · have hne : (k == a) = false := by simpa using hk
      have hne' : ¬ a = k := fun h => hk h.symm
      simp only [hne, hne', if_false]
      obtain ⟨r, h1, h2⟩ := findNow_int es k (i + 1) h'
      refine ⟨r, h1, ?_⟩
      rcases h2 with ⟨rfl, h3⟩ | ⟨j, v, rfl, h3, h4, ⟨e', h5, h6, h7⟩, h8⟩
      · exact .inl ⟨rfl, h3⟩
      · refine .inr ⟨j + 1, v, by rw [show i + 1 + j = i + (j + 1) by omega], h3, by simp; omega, ⟨e', by simpa using h5, h6, h7⟩, fun j' hj e'' he => ?_⟩
        match j', he with
        | 0, he => simp at he; subst he; rw [ha]; intro hc; injection hc with _ hc; exact hk hc.symm
        | j' + 1, he => exact h8 j' (by omega) e'' (by simpa using he)
section
variable {P : Program} {H : Hp}
theorem l_checkInt (t : TypeId) (hu : P.underlying t = some (.int .i64)) (b : Bool) (n : Nat) (k : Int) (K : Unit → Hp → Prop) : Lt P (Instr.checkKey b (n + 1) t (.int .i64 k)) H K = K () H := by
  simp only [Instr.checkKey, zaG, l_und, hu, zay]; rfl
theorem Lt_lookup {t kt et : TypeId} (hu : P.underlying t = some (.map kt et)) (hk : P.underlying kt = some (.int .i64)) {z : Value} (hz : zrOf P et = some (some z)) {m : Nat} {es : Array MapEntry} {c : Nat} (hm : H m = some (.map es c)) (hi : IntKeys es.toList) {k : Int} {K : Value → Hp → Prop}
    (h : K ((getE es.toList k).getD z) H) : Lt P (Instr.lookup t (.map (some m)) (.int .i64 k) false) H K := by
  simp only [Instr.lookup, zaG, l_und, hu, zay]
  refine ⟨_, hm, rfl, ?_⟩
  simp only [l_pure', zaL, zaG]
  rw [l_checkInt kt hk]
  simp only [Instr.findKey, zaG, l_und, hk, zay]
  obtain ⟨r, h1, h2⟩ := findNow_int es.toList k 0 hi
  rw [h1]
  rcases h2 with ⟨rfl, h3⟩ | ⟨j, v, rfl, h3, _⟩
  · rw [h3] at h
    simp only [zaL, zaG, l_zero, hz, zay]
    exact h
  · rw [h3] at h
    simp only [zaL, zaG]
    exact h
theorem getE_push : ∀ (es : List MapEntry) (k : Int) (v : Value) (b : Nat) (x : Int), IntKeys es → getE es k = none → getE (es ++ [{ key := .int .i64 k, val := v, born := b }]) x = if x = k then some v else getE es x
  | [], k, v, b, x, _, _ => by
    simp only [List.nil_append, getE]
    by_cases e : x = k
    · subst e; simp
    · have e' : ¬ k = x := fun h => e h.symm
      simp [e, e']
  | e :: es, k, v, b, x, h, hn => by
    obtain ⟨a, ha⟩ := h e (by simp)
    have h' : IntKeys es := fun y hy => h y (by simp [hy])
    simp only [getE, ha] at hn
    simp only [List.cons_append, getE, ha]
    by_cases hk : a = k
    · rw [if_pos hk] at hn; cases hn
    · rw [if_neg hk] at hn
      rw [getE_push es k v b x h' hn]
      by_cases hx : a = x
      · subst hx; simp [hk]
      · simp [hx]
theorem getE_modify : ∀ (es : List MapEntry) (k : Int) (v : Value) (j : Nat) (x : Int), IntKeys es → (∃ e, es[j]? = some e ∧ e.key = .int .i64 k) → (∀ j', j' < j → ∀ e, es[j']? = some e → e.key ≠ .int .i64 k) →
    getE (es.modify j (fun e => { e with key := .int .i64 k, val := v })) x = if x = k then some v else getE es x
  | [], k, v, j, x, _, h, _ => by obtain ⟨e, h, _⟩ := h; simp at h
  | e :: es, k, v, 0, x, h, ⟨e', h1, h2⟩, _ => by
    simp at h1; subst h1
    simp only [List.modify_zero_cons, getE, h2]
    by_cases hx : x = k
    · subst hx; simp
    · have e' : ¬ k = x := fun h => hx h.symm
      simp [hx, e']
  | e :: es, k, v, j + 1, x, h, ⟨e', h1, h2⟩, h3 => by
    obtain ⟨a, ha⟩ := h e (by simp)
    have h' : IntKeys es := fun y hy => h y (by simp [hy])
    have hak : a ≠ k := fun hh => h3 0 (by omega) e rfl (by rw [ha, hh])
    simp only [List.modify_succ_cons, getE, ha]
    rw [getE_modify es k v j x h' ⟨e', by simpa using h1, h2⟩ (fun j' hj e'' he => h3 (j' + 1) (by omega) e'' (by simpa using he))]
    by_cases hx : a = x
    · subst hx; simp [hak]
    · simp [hx]
theorem keys_modify {es : List MapEntry} (h : IntKeys es) (k : Int) (v : Value) (j : Nat) : IntKeys (es.modify j (fun e => { e with key := .int .i64 k, val := v })) := by
  intro e he
  obtain ⟨i, hi⟩ := List.getElem?_of_mem he
  rw [List.getElem?_modify] at hi
  cases hh : es[i]? with
  | none => rw [hh] at hi; simp at hi
  | some y =>
    rw [hh] at hi
    by_cases e2 : j = i
    · simp [e2] at hi; exact ⟨k, by rw [← hi]⟩
    · simp [e2] at hi; exact h e (by rw [← hi]; exact List.mem_of_getElem? hh)
theorem Lt_mapUpdate {t kt et : TypeId} (hu : P.underlying t = some (.map kt et)) (hk : P.underlying kt = some (.int .i64)) {m : Nat} {es : Array MapEntry} {c : Nat} (hm : H m = some (.map es c)) (hi : IntKeys es.toList) {k : Int} {v : Value} {K : Unit → Hp → Prop}
    (h : ∀ (es' : Array MapEntry) (c' : Nat), IntKeys es'.toList → (∀ x, getE es'.toList x = if x = k then some v else getE es.toList x) → K () (H.upd m (.map es' c'))) : Lt P (Instr.mapUpdate t (.map (some m)) (.int .i64 k) v) H K := by
  simp only [Instr.mapUpdate, zaG, l_und, hu, zay]
  refine ⟨_, hm, rfl, ?_⟩
  simp only [l_pure', zaL, zaG]
  rw [l_checkInt kt hk]
  simp only [Instr.findKey, zaG, l_und, hk, zay]
  obtain ⟨r, h1, h2⟩ := findNow_int es.toList k 0 hi
  rw [h1]
  rcases h2 with ⟨rfl, h3⟩ | ⟨j, v', rfl, h3, hjl, ⟨e, h5, h6, h7⟩, h8⟩
  · simp only [zaL]
    refine ⟨_, hm, rfl, ?_⟩
    refine h _ _ ?_ ?_
    · intro e he
      simp at he
      rcases he with he | rfl
      · exact hi e (by simpa using he)
      · exact ⟨k, rfl⟩
    · intro x
      simp only [Array.toList_push]
      exact getE_push es.toList k v c x hi h3
  · simp only [zaL, zaG, Nat.zero_add]
    have he : es[j]? = some e := by rw [← Array.getElem?_toList]; exact h5
    have hkt : Instr.keyThatStays (((es[j]?).map (·.key)).getD (.int .i64 k)) (.int .i64 k) = pure (.int .i64 k) := by
      rw [he]
      simp only [Option.map_some, Option.getD_some, h6, Instr.keyThatStays, Instr.sameBits, beq_self_eq_true, Bool.and_self, if_true]
    rw [hkt]
    simp only [zaL]
    refine ⟨_, hm, rfl, ?_⟩
    refine h _ _ ?_ ?_
    · simp only [Array.toList_modify]; exact keys_modify hi k v j
    · intro x
      simp only [Array.toList_modify]
      exact getE_modify es.toList k v j x hi ⟨e, h5, h6⟩ h8
theorem Lt_makeMap {t : TypeId} {K : Value → Hp → Prop} (h : ∀ r, H r = none → K (.map (some r)) (H.upd r (.map #[] 0))) : Lt P (Instr.makeMap t none) H K := by
  simp only [Instr.makeMap, zaG, l_new, zaL]
  exact h
end
end Go.Proofs.Ytigofhhonnbkmaa.HL
end
section
namespace Go.Proofs.Ytigofhhonnbkmaa.HL
open Go
set_option linter.unusedSimpArgs false
structure Sec where
  b : List Int
  h : b.length = 64
theorem Sec.ext {x y : Sec} (h : x.b = y.b) : x = y := by cases x; cases y; simp at h; subst h; rfl
instance : DecidableEq Sec := fun x y => if h : x.b = y.b then isTrue (Sec.ext h) else isFalse (fun e => h (by rw [e]))
instance : Inhabited Sec := ⟨⟨List.replicate 64 0, by simp⟩⟩
def Sec.zero : Sec := ⟨List.replicate 64 0, by simp⟩
abbrev Sec.c (x : Sec) : List Value := u8s x.b
abbrev Sec.v (x : Sec) : Value := .agg x.c.toArray
theorem Sec.len (x : Sec) : x.c.length = 64 := by simp [x.h]
theorem zero_v : Sec.zero.v = .agg (Array.replicate 64 (.int .u8 0)) := by
  simp only [Sec.v, Sec.c, Sec.zero]
  congr 1
structure Wt where
  at_ : Int
  x : Sec
deriving Inhabited
abbrev Wt.c (w : Wt) : List Value := .int .i64 w.at_ :: w.x.c
theorem Wt.len (w : Wt) : w.c.length = 65 := by simp [w.x.h]
abbrev wts (l : List Wt) : List Value := l.flatMap Wt.c
theorem Wt.plain (w : Wt) : PlainL w.c := PlainL.cons (plain_int _ _) (PlainL.ints _ _)
structure Dv where
  size : Int
  sure : Int → Sec
  wait : List Wt
instance : Inhabited Dv := ⟨⟨0, fun _ => Sec.zero, []⟩⟩
structure St where
  steps : Int
  left : Int
  armed : Bool
  gone : Bool
  dv : List Dv
def torn (x old : Sec) (t : Int) : Sec := if h : 0 < t ∧ t < 64 then ⟨x.b.take t.toNat ++ old.b.drop t.toNat, by have := x.h; have := old.h; simp; omega⟩ else x
def stN (kept : Nat → Option Int) (ws : List Wt) (s : Int → Sec) : Nat → (Int → Sec)
  | 0 => s
  | n + 1 => match kept n with
    | none => stN kept ws s n
    | some t => fun x => if x = (ws.getD n default).at_ then torn (ws.getD n default).x (stN kept ws s n (ws.getD n default).at_) t else stN kept ws s n x
def Dv.settle (d : Dv) (kept : Nat → Option Int) : Dv := ⟨d.size, stN kept d.wait d.sure d.wait.length, []⟩
def Dv.put (d : Dv) (w : Wt) : Dv := { d with wait := d.wait ++ [w] }
def MapS (es : Array MapEntry) (s : Int → Sec) : Prop := IntKeys es.toList ∧ ∀ k, (getE es.toList k).getD (.agg (Array.replicate 64 (.int .u8 0))) = (s k).v
theorem MapS.nil : MapS #[] (fun _ => Sec.zero) := ⟨fun e he => by simp at he, fun k => zero_v.symm⟩
theorem MapS.put {es es' : Array MapEntry} {s : Int → Sec} (h : MapS es s) {k : Int} {x : Sec} (h1 : IntKeys es'.toList) (h2 : ∀ y, getE es'.toList y = if y = k then some x.v else getE es.toList y) : MapS es' (fun y => if y = k then x else s y) := by
  refine ⟨h1, fun y => ?_⟩
  rw [h2]
  by_cases e : y = k
  · simp [e]
  · simp only [if_neg e]; exact h.2 y
def St.step (s : St) : St × Bool :=
  if s.gone = true ∨ (s.armed = true ∧ s.left ≤ 0) then ({ s with gone := true }, false) else ({ s with left := IntKind.i64.wrap (s.left - 1), steps := IntKind.i64.wrap (s.steps + 1) }, true)
def St.has (s : St) (dev i : Int) : Bool := decide (0 ≤ dev ∧ dev < s.dv.length) && decide (0 ≤ i ∧ i < (s.dv.getD dev.toNat default).size)
def St.wr (s : St) (dev i : Int) (x : Sec) : St × Option Int :=
  if s.has dev i = true then (match s.step with | (t, true) => ({ t with dv := t.dv.set dev.toNat ((t.dv.getD dev.toNat default).put ⟨i, x⟩) }, none) | (t, false) => (t, some 3)) else (s, some 1)
def St.fl (s : St) (dev : Int) : St × Option Int :=
  if 0 ≤ dev ∧ dev < s.dv.length then (match s.step with | (t, true) => ({ t with dv := t.dv.set dev.toNat ((t.dv.getD dev.toNat default).settle (fun _ => some 0)) }, none) | (t, false) => (t, some 3)) else (s, some 1)
theorem step_dv (s : St) : s.step.1.dv = s.dv := by unfold St.step; split <;> rfl
def lastW : List Wt → Int → Option Sec
  | [], _ => none
  | w :: r, i => match lastW r i with | some x => some x | none => if w.at_ = i then some w.x else none
def Dv.read (d : Dv) (i : Int) : Sec := (lastW d.wait i).getD (d.sure i)
end Go.Proofs.Ytigofhhonnbkmaa.HL
end
section
namespace Go.Proofs.Ytigofhhonnbkmaa.HL
open Go Go.Proofs
set_option linter.unusedSimpArgs false
set_option linter.unusedVariables false
attribute [local irreducible] Lt Lq CW OW TW CallH
theorem yaa {p q : Prop} (h : q) (e : p = q := by simp only [envOf, Nat.reduceAdd]; exact rfl) : p := e.mpr h
theorem yab {p q : Prop} (h : q) (e : p = q := by first | (simp only [Ex.thnH, Ex.inBlockH, ↓reduceIte, Nat.reduceEqDiff]; exact rfl) | exact rfl) : p := e.mpr h
theorem yac {p q : Prop} (h : q) (e : p = q := by simp (disch := (first | omega | decide)) only [x_bin, g_int, b_lss, dec_lt_t, dec_lt_f, dec_le_t, dec_le_f, dec_eq_t, dec_eq_f, Bool.not_true, Bool.not_false, eX, ↓reduceIte, Nat.reduceEqDiff, Int.reduceToNat]; exact rfl) : p := e.mpr h
theorem yad {p q : Prop} (h : p) (e : p = q := by first | (simp only [decide_eq_true_eq, decide_eq_false_iff_not, Bool.not_eq_true, Bool.not_eq_false, Bool.and_eq_true, Bool.or_eq_true, Bool.or_eq_false_iff, Bool.not_eq_eq_eq_not, Bool.not_true, Bool.not_false]; exact rfl) | exact rfl) : q := e.mp h
theorem yae {p q : Prop} (h : q) (e : p = q := by simp only [x_bin, g_int, g_bool, g_string, g_pointer, g_slice, g_map, g_func, g_nilFunc, g_err, g_iface, g_nil_iface, g_nil_r, g_nil_l, eX, ↓reduceIte, Nat.reduceEqDiff, Int.reduceToNat]; exact rfl) : p := e.mpr h
theorem yaf {p q : Prop} (h : q) (e : p = q := by first | (simp only [eX, ↓reduceIte, Nat.reduceEqDiff, Int.reduceToNat]; exact rfl) | exact rfl) : p := e.mpr h
theorem yag {p q : Prop} (h : q) (e : p = q := by simp only [x_typeAssert, eX, ↓reduceIte, Nat.reduceEqDiff, Int.reduceToNat]; exact rfl) : p := e.mpr h
theorem yah {p q : Prop} (h : q) (e : p = q := by simp only [x_extract, i_extract, List.getElem?_toArray, List.getElem?_cons_zero, List.getElem?_cons_succ, zay, eX, ↓reduceIte, Nat.reduceEqDiff, Int.reduceToNat]; exact rfl) : p := e.mpr h
theorem yai {p q : Prop} (h : q) (e : p = q := by simp only [x_move, eX, ↓reduceIte, Nat.reduceEqDiff, Int.reduceToNat]; exact rfl) : p := e.mpr h
theorem yaj {p q : Prop} (h : q) (e : p = q := by simp only [eX, ↓reduceIte, Nat.reduceEqDiff, Int.reduceToNat]; exact rfl) : p := e.mpr h
theorem yak {p q : Prop} (h : q) (e : p = q := by simp (disch := (first | omega | decide)) only [x_bin, g_int, b_neq, dec_lt_t, dec_lt_f, dec_le_t, dec_le_f, dec_eq_t, dec_eq_f, Bool.not_true, Bool.not_false, eX, ↓reduceIte, Nat.reduceEqDiff, Int.reduceToNat]; exact rfl) : p := e.mpr h
theorem yal {p q : Prop} (h : q) (e : p = q := by simp only [x_pick, l_asBool, HL.ite_bool, if_true, if_false, Bool.false_eq_true, eX, ↓reduceIte, Nat.reduceEqDiff, Int.reduceToNat]; exact rfl) : p := e.mpr h
theorem yam {p q : Prop} (h : q) (e : p = q := by simp only [x_un, u_not, eX, ↓reduceIte, Nat.reduceEqDiff, Int.reduceToNat]; exact rfl) : p := e.mpr h
theorem yan {p q : Prop} (h : q) (e : p = q := by simp only [x_bin, g_int, g_bool, g_string, g_pointer, g_slice, g_map, g_func, g_nilFunc, g_iface, g_nil_iface, g_nil_r, g_nil_l, eX, ↓reduceIte, Nat.reduceEqDiff, Int.reduceToNat]; exact rfl) : p := e.mpr h
theorem yao {p q : Prop} (h : q) (e : p = q := by simp only [zao, fa124_1, zaH, Nat.reduceAdd, Nat.zero_add, eX, ↓reduceIte, Nat.reduceEqDiff, Int.reduceToNat]; exact rfl) : p := e.mpr h
theorem yap {p q : Prop} (h : q) (e : p = q := by simp only [x_load, eX, ↓reduceIte, Nat.reduceEqDiff, Int.reduceToNat]; exact rfl) : p := e.mpr h
theorem yaq {p q : Prop} (h : q) (e : p = q := by simp (disch := (first | omega | decide)) only [x_bin, g_int, b_add, wrap_i64, wrap_u64, wrap_u32, wrap_u8, eX, ↓reduceIte, Nat.reduceEqDiff, Int.reduceToNat]; exact rfl) : p := e.mpr h
set_option maxRecDepth 100000 in
set_option maxHeartbeats 1000000 in
theorem num_Num_nil (H : Hp) : CallH Try.prog 21 #[.nilIface] H (fun v H' => v = .int .i64 0 ∧ H' = H) := by
 refine zam (l := [_]) (rl := [.tmp 2]) (n := 45) Try.func21 rfl rfl rfl rfl rfl ?_
 refine yaa ?_
 refine zac (fun K1 hK1 => ?_)
 refine zaa ?_
 refine zaj rfl ?_
 refine zad ?_
 refine yab ?_
 refine hK1 _ _ ?_; try clear hK1 K1
 refine zac (fun K2 hK2 => ?_)
 refine zac (fun K3 hK3 => ?_)
 refine zaa ?_
 refine zah rfl ?_
 refine zad ?_
 refine yab ?_
 refine hK3 _ _ ?_; try clear hK3 K3
 refine zaB ?_
 refine CW_loop (fun m e H_ => Env.has [(0, .nilIface), (7, .int .i64 0)] e ∧ H_ = H) (0) ?_ ?_
 ·skip
  exact ⟨⟨rfl, rfl, trivial⟩, rfl⟩
 intro m_ e_ H_ hI_
 obtain ⟨he, rfl⟩ := hI_
 refine CW_env he.sub ?_; clear he e_
 refine zac (fun K4 hK4 => ?_)
 refine zaa ?_
 refine zab (fun K hK r => ?_)
 refine yac ?_
 refine hK _ _ ?_; clear hK K
 refine zad ?_
 refine yab ?_
 refine hK4 _ _ ?_; try clear hK4 K4
 refine zac (fun K5 hK5 => ?_)
 refine zar (fun r => rfl) (fun c8 => ?_) (fun c8 => ?_)
 ·first
  |(exfalso; exact cnA c8; done)
  |skip
   (try replace c8 := yad c8)
   refine zau ?_
   refine yab ?_
   refine hK5 _ _ ?_; try clear hK5 K5
   refine zac (fun K6 hK6 => ?_)
   refine zaB ?_
   refine zac (fun K7 hK7 => ?_)
   refine zac (fun K8 hK8 => ?_)
   refine zaa ?_
   refine zah rfl ?_
   refine zab (fun K hK r => ?_)
   refine yae ?_
   first | rw [b_err_eql _ _ Try.underlying32] | (rw [e_eql _ _ _ _ (by simp), zaM]; first | rw [q_iface_nil _ _ _ Try.underlying32] | rw [q_nil_iface _ _ _ Try.underlying32] | rw [q_nil_nil _ _ _ Try.underlying32])
   refine yaf ?_
   refine hK _ _ ?_; clear hK K
   refine zad ?_
   refine yab ?_
   refine hK8 _ _ ?_; try clear hK8 K8
   refine zar (fun r => rfl) (fun c10 => ?_) (fun c10 => ?_)
   ·first
    |(exfalso; exact cnA c10; done)
    |skip
     (try replace c10 := yad c10)
     refine zac (fun K9 hK9 => ?_)
     refine zaa ?_
     refine zaj rfl ?_
     refine zad ?_
     refine yab ?_
     refine hK9 _ _ ?_; try clear hK9 K9
     refine zaz ?_
     refine yab ?_
     exact ⟨[_], ⟨rfl, trivial⟩, _, Le.refl _, rfl, rfl⟩
   ·first
    |(exfalso; exact cnA c10; done)
    |skip
     (try replace c10 := yad c10)
     refine zau ?_
     refine yab ?_
     refine hK7 _ _ ?_; try clear hK7 K7
     refine zac (fun K10 hK10 => ?_)
     refine zac (fun K11 hK11 => ?_)
     refine zaa ?_
     refine zah rfl ?_
     refine zab (fun K hK r => ?_)
     refine yag ?_
     first | rw [t_same _ _ _ Try.underlying38 (by simp)] | rw [t_other _ _ _ _ Try.underlying38 (by simp) (by decide) _ _ zr38] | rw [t_nil _ _ _ Try.underlying38 (by simp) _ zr38]
     try simp only [if_true, Bool.false_eq_true, if_false]
     refine yaf ?_
     refine hK _ _ ?_; clear hK K
     refine zah rfl ?_
     refine zab (fun K hK r => ?_)
     refine yah ?_
     refine hK _ _ ?_; clear hK K
     refine zab (fun K hK r => ?_)
     refine yah ?_
     refine hK _ _ ?_; clear hK K
     refine zaj rfl ?_
     refine zaj rfl ?_
     refine zad ?_
     refine yab ?_
     refine hK11 _ _ ?_; try clear hK11 K11
     refine zac (fun K12 hK12 => ?_)
     refine zaa ?_
     refine zah rfl ?_
     refine zah rfl ?_
     (first | refine zaA (d := 17) rfl (fun g17 => ?_) (fun g17 => ?_) | skip)
     all_goals try (exfalso; exact cnA g17)
     all_goals (try replace g17 := yad g17)
     all_goals
      refine yaf ?_
      first
      |refine yGT (fun K hK r => ?_)
       refine yai ?_
       refine hK _ _ ?_; clear hK K
      |refine yGF ?_
       refine yaj ?_
      first
      |refine yGT (fun K hK r => ?_)
       refine yak ?_
       refine hK _ _ ?_; clear hK K
      |refine yGF ?_
       refine yaj ?_
      refine zab (fun K hK r => ?_)
      refine yal ?_
      refine hK _ _ ?_; clear hK K
      refine zad ?_
      refine yab ?_
      refine hK12 _ _ ?_; try clear hK12 K12
      refine zar (fun r => rfl) (fun c20 => ?_) (fun c20 => ?_)
      ·first
       |(exfalso; exact cnA c20; done)
       |skip
        (try replace c20 := yad c20)
        refine zac (fun K13 hK13 => ?_)
        refine zaa ?_
        refine zah rfl ?_
        refine zaj rfl ?_
        refine zad ?_
        refine yab ?_
        refine hK13 _ _ ?_; try clear hK13 K13
        refine zaz ?_
        refine yab ?_
        exact ⟨[_], ⟨rfl, trivial⟩, _, Le.refl _, rfl, rfl⟩
      ·first
       |(exfalso; exact cnA c20; done)
       |skip
        (try replace c20 := yad c20)
        refine zau ?_
        refine yab ?_
        refine hK10 _ _ ?_; try clear hK10 K10
        refine zac (fun K14 hK14 => ?_)
        refine zaa ?_
        refine zah rfl ?_
        refine zab (fun K hK r => ?_)
        refine yag ?_
        first | rw [t_same _ _ _ Try.underlying121 (by simp)] | rw [t_other _ _ _ _ Try.underlying121 (by simp) (by decide) _ _ zr121] | rw [t_nil _ _ _ Try.underlying121 (by simp) _ zr121]
        try simp only [if_true, Bool.false_eq_true, if_false]
        refine yaf ?_
        refine hK _ _ ?_; clear hK K
        refine zah rfl ?_
        refine zab (fun K hK r => ?_)
        refine yah ?_
        refine hK _ _ ?_; clear hK K
        refine zab (fun K hK r => ?_)
        refine yah ?_
        refine hK _ _ ?_; clear hK K
        refine zaj rfl ?_
        refine zaj rfl ?_
        refine zad ?_
        refine yab ?_
        refine hK14 _ _ ?_; try clear hK14 K14
        refine zac (fun K15 hK15 => ?_)
        refine zac (fun K16 hK16 => ?_)
        refine zaa ?_
        refine zah rfl ?_
        refine zab (fun K hK r => ?_)
        refine yam ?_
        refine hK _ _ ?_; clear hK K
        refine zah rfl ?_
        (first | refine zaA (d := 29) rfl (fun g29 => ?_) (fun g29 => ?_) | skip)
        all_goals try (exfalso; exact cnA g29)
        all_goals (try replace g29 := yad g29)
        all_goals
         refine yaf ?_
         first
         |refine yGT (fun K hK r => ?_)
          refine yai ?_
          refine hK _ _ ?_; clear hK K
         |refine yGF ?_
          refine yaj ?_
         first
         |refine yGT (fun K hK r => ?_)
          refine yan ?_
          rw [e_eql _ _ _ _ (by simp)]
          rw [zaM]
          first | rw [q_ptr_nil _ _ _ Try.underlying121] | rw [q_nil_ptr _ _ _ Try.underlying121]
          refine yaf ?_
          refine hK _ _ ?_; clear hK K
         |refine yGF ?_
          refine yaj ?_
         refine zab (fun K hK r => ?_)
         refine yal ?_
         refine hK _ _ ?_; clear hK K
         refine zah rfl ?_
         (first | refine zaA (d := 33) rfl (fun g33 => ?_) (fun g33 => ?_) | skip)
         all_goals try (exfalso; exact cnA g33)
         all_goals (try replace g33 := yad g33)
         all_goals
          refine yaf ?_
          first
          |refine yGT (fun K hK r => ?_)
           refine yai ?_
           refine hK _ _ ?_; clear hK K
          |refine yGF ?_
           refine yaj ?_
          first
          |refine yGT (fun K hK r => ?_)
           rw [zav _ _ rfl]
           refine yaj ?_
           refine hK _ _ ?_; clear hK K
          |refine yGF ?_
           refine yaj ?_
          first
          |refine yGT (fun K hK r => ?_)
           refine yao ?_
           refine hK _ _ ?_; clear hK K
          |refine yGF ?_
           refine yaj ?_
          first
          |refine yGT (fun K hK r => ?_)
           refine yap ?_
           refine zae Try.underlying32 rfl hbA ldA ?_
           refine yaf ?_
           refine hK _ _ ?_; clear hK K
          |refine yGF ?_
           refine yaj ?_
          first
          |refine yGT (fun K hK r => ?_)
           refine yae ?_
           first | rw [b_err_eql _ _ Try.underlying32] | (rw [e_eql _ _ _ _ (by simp), zaM]; first | rw [q_iface_nil _ _ _ Try.underlying32] | rw [q_nil_iface _ _ _ Try.underlying32] | rw [q_nil_nil _ _ _ Try.underlying32])
           refine yaf ?_
           refine hK _ _ ?_; clear hK K
          |refine yGF ?_
           refine yaj ?_
          refine zab (fun K hK r => ?_)
          refine yal ?_
          refine hK _ _ ?_; clear hK K
          refine zad ?_
          refine yab ?_
          refine hK16 _ _ ?_; try clear hK16 K16
          refine zar (fun r => rfl) (fun c39 => ?_) (fun c39 => ?_)
          ·first
           |(exfalso; exact cnA c39; done)
           |skip
            (try replace c39 := yad c39)
            refine zac (fun K17 hK17 => ?_)
            refine zaa ?_
            refine zaj rfl ?_
            refine zad ?_
            refine yab ?_
            refine hK17 _ _ ?_; try clear hK17 K17
            refine zaz ?_
            refine yab ?_
            exact ⟨[_], ⟨rfl, trivial⟩, _, Le.refl _, rfl, rfl⟩
          ·first
           |(exfalso; exact cnA c39; done)
           |skip
            (try replace c39 := yad c39)
            refine zau ?_
            refine yab ?_
            refine hK15 _ _ ?_; try clear hK15 K15
            refine zaa ?_
            refine zah rfl ?_
            refine zab (fun K hK r => ?_)
            rw [zav _ _ rfl]
            refine yaj ?_
            refine hK _ _ ?_; clear hK K
            refine zab (fun K hK r => ?_)
            refine yao ?_
            refine hK _ _ ?_; clear hK K
            refine zab (fun K hK r => ?_)
            refine yap ?_
            refine zae Try.underlying32 rfl hbA ldA ?_
            refine yaf ?_
            refine hK _ _ ?_; clear hK K
            refine zaj rfl ?_
            refine zad ?_
            refine yab ?_
            refine hK6 _ _ ?_; try clear hK6 K6
            refine zaa ?_
            refine zab (fun K hK r => ?_)
            refine yaq ?_
            refine hK _ _ ?_; clear hK K
            refine zah rfl ?_
            refine zad ?_
            refine yab ?_
            exact absurd rfl (by assumption)
 ·first
  |(exfalso; exact cnA c8; done)
  |skip
   (try replace c8 := yad c8)
   refine CW_exit ?_
   refine yab ?_
   refine hK2 _ _ ?_; try clear hK2 K2
   refine zac (fun K18 hK18 => ?_)
   refine zaa ?_
   refine zaj rfl ?_
   refine zad ?_
   refine yab ?_
   refine hK18 _ _ ?_; try clear hK18 K18
   refine zaz ?_
   refine yab ?_
   exact ⟨[_], ⟨rfl, trivial⟩, _, Le.refl _, rfl, rfl⟩
set_option maxRecDepth 100000 in
set_option maxHeartbeats 1000000 in
theorem num_Num_errno (H : Hp) (k : Int) (hk : k ≠ 0) (h1 : -9223372036854775808 ≤ k) (h2 : k ≤ 9223372036854775807) : CallH Try.prog 21 #[.iface 38 (.int .i64 k)] H (fun v H' => v = .int .i64 k ∧ H' = H) := by
 refine zam (l := [_]) (rl := [.tmp 2]) (n := 45) Try.func21 rfl rfl rfl rfl rfl ?_
 refine yaa ?_
 refine zac (fun K1 hK1 => ?_)
 refine zaa ?_
 refine zaj rfl ?_
 refine zad ?_
 refine yab ?_
 refine hK1 _ _ ?_; try clear hK1 K1
 refine zac (fun K2 hK2 => ?_)
 refine zac (fun K3 hK3 => ?_)
 refine zaa ?_
 refine zah rfl ?_
 refine zad ?_
 refine yab ?_
 refine hK3 _ _ ?_; try clear hK3 K3
 refine zaB ?_
 refine CW_loop (fun m e H_ => Env.has [(0, .iface 38 (.int .i64 k)), (7, .int .i64 0)] e ∧ H_ = H) (0) ?_ ?_
 ·skip
  exact ⟨⟨rfl, rfl, trivial⟩, rfl⟩
 intro m_ e_ H_ hI_
 obtain ⟨he, rfl⟩ := hI_
 refine CW_env he.sub ?_; clear he e_
 refine zac (fun K4 hK4 => ?_)
 refine zaa ?_
 refine zab (fun K hK r => ?_)
 refine yac ?_
 refine hK _ _ ?_; clear hK K
 refine zad ?_
 refine yab ?_
 refine hK4 _ _ ?_; try clear hK4 K4
 refine zac (fun K5 hK5 => ?_)
 refine zar (fun r => rfl) (fun c8 => ?_) (fun c8 => ?_)
 ·first
  |(exfalso; exact cnA c8; done)
  |skip
   (try replace c8 := yad c8)
   refine zau ?_
   refine yab ?_
   refine hK5 _ _ ?_; try clear hK5 K5
   refine zac (fun K6 hK6 => ?_)
   refine zaB ?_
   refine zac (fun K7 hK7 => ?_)
   refine zac (fun K8 hK8 => ?_)
   refine zaa ?_
   refine zah rfl ?_
   refine zab (fun K hK r => ?_)
   refine yae ?_
   first | rw [b_err_eql _ _ Try.underlying32] | (rw [e_eql _ _ _ _ (by simp), zaM]; first | rw [q_iface_nil _ _ _ Try.underlying32] | rw [q_nil_iface _ _ _ Try.underlying32] | rw [q_nil_nil _ _ _ Try.underlying32])
   refine yaf ?_
   refine hK _ _ ?_; clear hK K
   refine zad ?_
   refine yab ?_
   refine hK8 _ _ ?_; try clear hK8 K8
   refine zar (fun r => rfl) (fun c10 => ?_) (fun c10 => ?_)
   ·first
    |(exfalso; exact cnA c10; done)
    |skip
     (try replace c10 := yad c10)
     refine zac (fun K9 hK9 => ?_)
     refine zaa ?_
     refine zaj rfl ?_
     refine zad ?_
     refine yab ?_
     refine hK9 _ _ ?_; try clear hK9 K9
     refine zaz ?_
     refine yab ?_
     exact ⟨[_], ⟨rfl, trivial⟩, _, Le.refl _, rfl, rfl⟩
   ·first
    |(exfalso; exact cnA c10; done)
    |skip
     (try replace c10 := yad c10)
     refine zau ?_
     refine yab ?_
     refine hK7 _ _ ?_; try clear hK7 K7
     refine zac (fun K10 hK10 => ?_)
     refine zac (fun K11 hK11 => ?_)
     refine zaa ?_
     refine zah rfl ?_
     refine zab (fun K hK r => ?_)
     refine yag ?_
     first | rw [t_same _ _ _ Try.underlying38 (by simp)] | rw [t_other _ _ _ _ Try.underlying38 (by simp) (by decide) _ _ zr38] | rw [t_nil _ _ _ Try.underlying38 (by simp) _ zr38]
     try simp only [if_true, Bool.false_eq_true, if_false]
     refine yaf ?_
     refine hK _ _ ?_; clear hK K
     refine zah rfl ?_
     refine zab (fun K hK r => ?_)
     refine yah ?_
     refine hK _ _ ?_; clear hK K
     refine zab (fun K hK r => ?_)
     refine yah ?_
     refine hK _ _ ?_; clear hK K
     refine zaj rfl ?_
     refine zaj rfl ?_
     refine zad ?_
     refine yab ?_
     refine hK11 _ _ ?_; try clear hK11 K11
     refine zac (fun K12 hK12 => ?_)
     refine zaa ?_
     refine zah rfl ?_
     refine zah rfl ?_
     (first | refine zaA (d := 17) rfl (fun g17 => ?_) (fun g17 => ?_) | skip)
     all_goals try (exfalso; exact cnA g17)
     all_goals (try replace g17 := yad g17)
     all_goals
      refine yaf ?_
      first
      |refine yGT (fun K hK r => ?_)
       refine yai ?_
       refine hK _ _ ?_; clear hK K
      |refine yGF ?_
       refine yaj ?_
      first
      |refine yGT (fun K hK r => ?_)
       refine yak ?_
       refine hK _ _ ?_; clear hK K
      |refine yGF ?_
       refine yaj ?_
      refine zab (fun K hK r => ?_)
      refine yal ?_
      refine hK _ _ ?_; clear hK K
      refine zad ?_
      refine yab ?_
      refine hK12 _ _ ?_; try clear hK12 K12
      refine zar (fun r => rfl) (fun c20 => ?_) (fun c20 => ?_)
      ·first
       |(exfalso; exact cnA c20; done)
       |skip
        (try replace c20 := yad c20)
        refine zac (fun K13 hK13 => ?_)
        refine zaa ?_
        refine zah rfl ?_
        refine zaj rfl ?_
        refine zad ?_
        refine yab ?_
        refine hK13 _ _ ?_; try clear hK13 K13
        refine zaz ?_
        refine yab ?_
        exact ⟨[_], ⟨rfl, trivial⟩, _, Le.refl _, rfl, rfl⟩
      ·first
       |(exfalso; exact cnA c20; done)
       |skip
        (try replace c20 := yad c20)
        refine zau ?_
        refine yab ?_
        refine hK10 _ _ ?_; try clear hK10 K10
        refine zac (fun K14 hK14 => ?_)
        refine zaa ?_
        refine zah rfl ?_
        refine zab (fun K hK r => ?_)
        refine yag ?_
        first | rw [t_same _ _ _ Try.underlying121 (by simp)] | rw [t_other _ _ _ _ Try.underlying121 (by simp) (by decide) _ _ zr121] | rw [t_nil _ _ _ Try.underlying121 (by simp) _ zr121]
        try simp only [if_true, Bool.false_eq_true, if_false]
        refine yaf ?_
        refine hK _ _ ?_; clear hK K
        refine zah rfl ?_
        refine zab (fun K hK r => ?_)
        refine yah ?_
        refine hK _ _ ?_; clear hK K
        refine zab (fun K hK r => ?_)
        refine yah ?_
        refine hK _ _ ?_; clear hK K
        refine zaj rfl ?_
        refine zaj rfl ?_
        refine zad ?_
        refine yab ?_
        refine hK14 _ _ ?_; try clear hK14 K14
        refine zac (fun K15 hK15 => ?_)
        refine zac (fun K16 hK16 => ?_)
        refine zaa ?_
        refine zah rfl ?_
        refine zab (fun K hK r => ?_)
        refine yam ?_
        refine hK _ _ ?_; clear hK K
        refine zah rfl ?_
        (first | refine zaA (d := 29) rfl (fun g29 => ?_) (fun g29 => ?_) | skip)
        all_goals try (exfalso; exact cnA g29)
        all_goals (try replace g29 := yad g29)
        all_goals
         refine yaf ?_
         first
         |refine yGT (fun K hK r => ?_)
          refine yai ?_
          refine hK _ _ ?_; clear hK K
         |refine yGF ?_
          refine yaj ?_
         first
         |refine yGT (fun K hK r => ?_)
          refine yan ?_
          rw [e_eql _ _ _ _ (by simp)]
          rw [zaM]
          first | rw [q_ptr_nil _ _ _ Try.underlying121] | rw [q_nil_ptr _ _ _ Try.underlying121]
          refine yaf ?_
          refine hK _ _ ?_; clear hK K
         |refine yGF ?_
          refine yaj ?_
         refine zab (fun K hK r => ?_)
         refine yal ?_
         refine hK _ _ ?_; clear hK K
         refine zah rfl ?_
         (first | refine zaA (d := 33) rfl (fun g33 => ?_) (fun g33 => ?_) | skip)
         all_goals try (exfalso; exact cnA g33)
         all_goals (try replace g33 := yad g33)
         all_goals
          refine yaf ?_
          first
          |refine yGT (fun K hK r => ?_)
           refine yai ?_
           refine hK _ _ ?_; clear hK K
          |refine yGF ?_
           refine yaj ?_
          first
          |refine yGT (fun K hK r => ?_)
           rw [zav _ _ rfl]
           refine yaj ?_
           refine hK _ _ ?_; clear hK K
          |refine yGF ?_
           refine yaj ?_
          first
          |refine yGT (fun K hK r => ?_)
           refine yao ?_
           refine hK _ _ ?_; clear hK K
          |refine yGF ?_
           refine yaj ?_
          first
          |refine yGT (fun K hK r => ?_)
           refine yap ?_
           refine zae Try.underlying32 rfl hbA ldA ?_
           refine yaf ?_
           refine hK _ _ ?_; clear hK K
          |refine yGF ?_
           refine yaj ?_
          first
          |refine yGT (fun K hK r => ?_)
           refine yae ?_
           first | rw [b_err_eql _ _ Try.underlying32] | (rw [e_eql _ _ _ _ (by simp), zaM]; first | rw [q_iface_nil _ _ _ Try.underlying32] | rw [q_nil_iface _ _ _ Try.underlying32] | rw [q_nil_nil _ _ _ Try.underlying32])
           refine yaf ?_
           refine hK _ _ ?_; clear hK K
          |refine yGF ?_
           refine yaj ?_
          refine zab (fun K hK r => ?_)
          refine yal ?_
          refine hK _ _ ?_; clear hK K
          refine zad ?_
          refine yab ?_
          refine hK16 _ _ ?_; try clear hK16 K16
          refine zar (fun r => rfl) (fun c39 => ?_) (fun c39 => ?_)
          ·first
           |(exfalso; exact cnA c39; done)
           |skip
            (try replace c39 := yad c39)
            refine zac (fun K17 hK17 => ?_)
            refine zaa ?_
            refine zaj rfl ?_
            refine zad ?_
            refine yab ?_
            refine hK17 _ _ ?_; try clear hK17 K17
            refine zaz ?_
            refine yab ?_
            exact ⟨[_], ⟨rfl, trivial⟩, _, Le.refl _, rfl, rfl⟩
          ·first
           |(exfalso; exact cnA c39; done)
           |skip
            (try replace c39 := yad c39)
            refine zau ?_
            refine yab ?_
            refine hK15 _ _ ?_; try clear hK15 K15
            refine zaa ?_
            refine zah rfl ?_
            refine zab (fun K hK r => ?_)
            rw [zav _ _ rfl]
            refine yaj ?_
            refine hK _ _ ?_; clear hK K
            refine zab (fun K hK r => ?_)
            refine yao ?_
            refine hK _ _ ?_; clear hK K
            refine zab (fun K hK r => ?_)
            refine yap ?_
            refine zae Try.underlying32 rfl hbA ldA ?_
            refine yaf ?_
            refine hK _ _ ?_; clear hK K
            refine zaj rfl ?_
            refine zad ?_
            refine yab ?_
            refine hK6 _ _ ?_; try clear hK6 K6
            refine zaa ?_
            refine zab (fun K hK r => ?_)
            refine yaq ?_
            refine hK _ _ ?_; clear hK K
            refine zah rfl ?_
            refine zad ?_
            refine yab ?_
            exact absurd rfl (by assumption)
 ·first
  |(exfalso; exact cnA c8; done)
  |skip
   (try replace c8 := yad c8)
   refine CW_exit ?_
   refine yab ?_
   refine hK2 _ _ ?_; try clear hK2 K2
   refine zac (fun K18 hK18 => ?_)
   refine zaa ?_
   refine zaj rfl ?_
   refine zad ?_
   refine yab ?_
   refine hK18 _ _ ?_; try clear hK18 K18
   refine zaz ?_
   refine yab ?_
   exact ⟨[_], ⟨rfl, trivial⟩, _, Le.refl _, rfl, rfl⟩
abbrev errV : Option Int → Value := errVT 38
def errOk (o : Option Int) : Prop := ∀ k, o = some k → k ≠ 0 ∧ -9223372036854775808 ≤ k ∧ k ≤ 9223372036854775807
theorem num_Num (H : Hp) (o : Option Int) (h : errOk o) : CallH Try.prog 21 #[errV o] H (fun v H' => v = .int .i64 (o.getD 0) ∧ H' = H) := by
  cases o with
  | none => exact num_Num_nil H
  | some k => obtain ⟨h1, h2, h3⟩ := h k rfl; exact num_Num_errno H k h1 h2 h3
theorem yar {p q : Prop} (h : q) (e : p = q := by simp only [zaF _ bd21, List.map_toArray, List.map_cons, List.map_nil, eX, ↓reduceIte, Nat.reduceEqDiff, Int.reduceToNat]; exact rfl) : p := e.mpr h
theorem yas {p q : Prop} (h : q) (e : p = q := by simp (disch := (first | omega | decide)) only [x_bin, g_int, b_eql, dec_lt_t, dec_lt_f, dec_le_t, dec_le_f, dec_eq_t, dec_eq_f, Bool.not_true, Bool.not_false, eX, ↓reduceIte, Nat.reduceEqDiff, Int.reduceToNat]; exact rfl) : p := e.mpr h
set_option maxRecDepth 100000 in
set_option maxHeartbeats 1000000 in
theorem num_Is (H : Hp) (o : Option Int) (h : errOk o) (k : Int) (h1 : -9223372036854775808 ≤ k) (h2 : k ≤ 9223372036854775807) : CallH Try.prog 14 #[errV o, .int .i64 k] H (fun v H' => v = .bool (decide (o.getD 0 = k)) ∧ H' = H) := by
 refine zam (l := [_, _]) (rl := [.tmp 4]) (n := 9) Try.func14 rfl rfl rfl rfl rfl ?_
 refine yaa ?_
 refine zac (fun K1 hK1 => ?_)
 refine zaa ?_
 refine zaj rfl ?_
 refine zad ?_
 refine yab ?_
 refine hK1 _ _ ?_; try clear hK1 K1
 refine zac (fun K2 hK2 => ?_)
 refine zaa ?_
 refine zah rfl ?_
 refine zab (fun K hK r => ?_)
 refine yar ?_
 refine (num_Num _ o h).mono ?_
 rintro v H' ⟨rfl, rfl⟩
 refine yaf ?_
 refine hK _ _ ?_; clear hK K
 refine zah rfl ?_
 refine zab (fun K hK r => ?_)
 refine yas ?_
 refine hK _ _ ?_; clear hK K
 refine zaj rfl ?_
 refine zad ?_
 refine yab ?_
 refine hK2 _ _ ?_; try clear hK2 K2
 refine zaz ?_
 refine yab ?_
 exact ⟨[_], ⟨rfl, trivial⟩, _, Le.refl _, rfl, rfl⟩
def DvX (F : Hp) (b : Nat) (d : Dv) : Prop := ∃ m es c wv wrs, F b = some (.cells #[.int .i64 d.size, .map (some m), wv] 119) ∧ F m = some (.map es c) ∧ MapS es d.sure ∧ OwnS F 130 65 wv d.wait.length (wts d.wait) wrs ∧ ∀ x, F x ≠ none → x = b ∨ x = m ∨ wrs = some x
abbrev ptrV (b : Nat) : Value := .pointer (some ⟨b, 0, none⟩)
structure SX (F : Hp) (p : Nat) (s : St) (r cap : Nat) (bs : List Nat) (Fs : Nat → Hp) : Prop where
  hd : F p = some (.cells #[.int .i64 s.steps, .int .i64 s.left, .bool s.armed, .bool s.gone, .slice (some ⟨r, 0, none⟩) s.dv.length cap] 114)
  len : bs.length = s.dv.length
  own : OwnS F 115 1 (.slice (some ⟨r, 0, none⟩) s.dv.length cap) s.dv.length (bs.map ptrV) (some r)
  dev : ∀ i, i < s.dv.length → DvX (Fs i) (bs.getD i 0) (s.dv.getD i default)
  le : ∀ i, i < s.dv.length → Le (Fs i) F
  fp : ∀ i, i < s.dv.length → Fs i p = none ∧ Fs i r = none
  sep : ∀ i j, i < s.dv.length → j < s.dv.length → i ≠ j → ∀ x, Fs i x ≠ none → Fs j x = none
def SetX (F : Hp) (p : Nat) (s : St) : Prop := ∃ r cap bs Fs, SX F p s r cap bs Fs
def devV (s : St) (bs : List Nat) (dev : Int) : Value := if 0 ≤ dev ∧ dev < s.dv.length then ptrV (bs.getD dev.toNat 0) else .pointer none
theorem ptr_at {bs : List Nat} {c : Array Value} {o n : Nat} (h : ∀ j, j < n * 1 → c[o + j]? = (bs.map ptrV)[j]?) (hn : n = bs.length) (k : Nat) (hk : k < bs.length) : c[o + k]? = some (ptrV (bs.getD k 0)) := by
  rw [h k (by omega), List.getElem?_map, List.getElem?_eq_getElem hk]
  simp [List.getD_eq_getElem?_getD, List.getElem?_eq_getElem hk]
theorem SX.at {F : Hp} {p : Nat} {s : St} {r cap : Nat} {bs : List Nat} {Fs : Nat → Hp} (h : SX F p s r cap bs Fs) {k : Nat} (hk : k < s.dv.length) : ∃ c T f, F r = some (.cells c T f) ∧ c[k]? = some (ptrV (bs.getD k 0)) ∧ k < c.size := by
  obtain ⟨b, o, c, T, f, e, h1, h2, h3⟩ := h.own.holds.at (by omega)
  cases e
  refine ⟨c, T, f, h1, ?_, by omega⟩
  have := ptr_at h3 (by rw [h.len]) k (by rw [h.len]; exact hk)
  rwa [Nat.zero_add] at this
theorem DvX.blk {F : Hp} {b : Nat} {d : Dv} (h : DvX F b d) : ∃ m wv, F b = some (.cells #[.int .i64 d.size, .map (some m), wv] 119) := by
  obtain ⟨m, _, _, wv, _, h1, _⟩ := h; exact ⟨m, wv, h1⟩
theorem yat {p q : Prop} (h : q) (e : p = q := by simp only [zao, fa114_1, zaH, Nat.reduceAdd, Nat.zero_add, eX, ↓reduceIte, Nat.reduceEqDiff, Int.reduceToNat]; exact rfl) : p := e.mpr h
theorem yau {p q : Prop} (h : q) (e : p = q := by simp only [x_builtin, l_len, List.map_toArray, List.map_cons, List.map_nil, i_len_slice _ _ Try.underlying112, eX, ↓reduceIte, Nat.reduceEqDiff, Int.reduceToNat]; exact rfl) : p := e.mpr h
theorem yav {p q : Prop} (h : q) (e : p = q := by simp (disch := (first | omega | decide)) only [x_bin, g_int, b_geq, dec_lt_t, dec_lt_f, dec_le_t, dec_le_f, dec_eq_t, dec_eq_f, Bool.not_true, Bool.not_false, eX, ↓reduceIte, Nat.reduceEqDiff, Int.reduceToNat]; exact rfl) : p := e.mpr h
theorem yaw {p q : Prop} (h : q) (e : p = q := by simp only [x_indexAddr, eX, ↓reduceIte, Nat.reduceEqDiff, Int.reduceToNat]; exact rfl) : p := e.mpr h
theorem yax {p q : Prop} (h : q) (e : p = q := by first | (simp only [zaH, Nat.mul_one, Nat.zero_add, Int.reduceToNat]; exact rfl) | exact rfl) : p := e.mpr h
set_option maxRecDepth 100000 in
set_option maxHeartbeats 1000000 in
theorem device_ok (H : Hp) (p : Nat) (s : St) (rd cap : Nat) (bs : List Nat) (Fs : Nat → Hp) (h : SX H p s rd cap bs Fs) (dev : Int) (hl : s.dv.length ≤ 1000) : CallH Try.prog 55 #[(.pointer (some ⟨p, 0, none⟩)), .int .i64 dev] H (fun v H' => v = devV s bs dev ∧ H' = H) := by
 refine zam (l := [_, _]) (rl := [.tmp 4]) (n := 27) Try.func55 rfl rfl rfl rfl rfl ?_
 refine yaa ?_
 have hhd := h.hd
 refine zac (fun K1 hK1 => ?_)
 refine zaa ?_
 refine zaj rfl ?_
 refine zad ?_
 refine yab ?_
 refine hK1 _ _ ?_; try clear hK1 K1
 refine zac (fun K2 hK2 => ?_)
 refine zac (fun K3 hK3 => ?_)
 refine zaa ?_
 refine zah rfl ?_
 refine zab (fun K hK r => ?_)
 refine yan ?_
 rw [e_eql _ _ _ _ (by simp)]
 rw [zaM]
 first | rw [q_ptr_nil _ _ _ Try.underlying47] | rw [q_nil_ptr _ _ _ Try.underlying47]
 refine yaf ?_
 refine hK _ _ ?_; clear hK K
 refine zah rfl ?_
 (first | refine zaA (d := 7) rfl (fun g7 => ?_) (fun g7 => ?_) | skip)
 all_goals try (exfalso; exact cnA g7)
 all_goals (try replace g7 := yad g7)
 all_goals
  refine yaf ?_
  first
  |refine yGT (fun K hK r => ?_)
   refine yai ?_
   refine hK _ _ ?_; clear hK K
  |refine yGF ?_
   refine yaj ?_
  first
  |refine yGT (fun K hK r => ?_)
   refine yac ?_
   refine hK _ _ ?_; clear hK K
  |refine yGF ?_
   refine yaj ?_
  refine zab (fun K hK r => ?_)
  refine yal ?_
  refine hK _ _ ?_; clear hK K
  refine zah rfl ?_
  (first | refine zaA (d := 11) rfl (fun g11 => ?_) (fun g11 => ?_) | skip)
  all_goals try (exfalso; exact cnA g11)
  all_goals (try replace g11 := yad g11)
  all_goals
   refine yaf ?_
   first
   |refine yGT (fun K hK r => ?_)
    refine yai ?_
    refine hK _ _ ?_; clear hK K
   |refine yGF ?_
    refine yaj ?_
   first
   |refine yGT (fun K hK r => ?_)
    refine yai ?_
    refine hK _ _ ?_; clear hK K
   |refine yGF ?_
    refine yaj ?_
   first
   |refine yGT (fun K hK r => ?_)
    rw [zav _ _ rfl]
    refine yaj ?_
    refine hK _ _ ?_; clear hK K
   |refine yGF ?_
    refine yaj ?_
   first
   |refine yGT (fun K hK r => ?_)
    refine yat ?_
    refine hK _ _ ?_; clear hK K
   |refine yGF ?_
    refine yaj ?_
   first
   |refine yGT (fun K hK r => ?_)
    refine yap ?_
    refine zae Try.underlying112 rfl hbA ldA ?_
    refine yaf ?_
    refine hK _ _ ?_; clear hK K
   |refine yGF ?_
    refine yaj ?_
   first
   |refine yGT (fun K hK r => ?_)
    refine yau ?_
    refine hK _ _ ?_; clear hK K
   |refine yGF ?_
    refine yaj ?_
   first
   |refine yGT (fun K hK r => ?_)
    refine yav ?_
    refine hK _ _ ?_; clear hK K
   |refine yGF ?_
    refine yaj ?_
   refine zab (fun K hK r => ?_)
   refine yal ?_
   refine hK _ _ ?_; clear hK K
   refine zad ?_
   refine yab ?_
   refine hK3 _ _ ?_; try clear hK3 K3
   refine zar (fun r => rfl) (fun c19 => ?_) (fun c19 => ?_)
   ·first
    |(exfalso; exact cnA c19; done)
    |skip
     (try replace c19 := yad c19)
     refine zac (fun K4 hK4 => ?_)
     refine zaa ?_
     refine zaj rfl ?_
     refine zad ?_
     refine yab ?_
     refine hK4 _ _ ?_; try clear hK4 K4
     refine zaz ?_
     refine yab ?_
     refine ⟨[_], ⟨rfl, trivial⟩, _, Le.refl _, ?_, rfl⟩
     show Value.pointer _ = _
     unfold devV; rw [if_neg (by omega)]
   ·first
    |(exfalso; exact cnA c19; done)
    |skip
     (try replace c19 := yad c19)
     have hin : 0 ≤ dev ∧ dev < s.dv.length := by omega
     obtain ⟨cc, T, f, hr, hat, hlt⟩ := h.at (k := dev.toNat) (by omega)
     refine zau ?_
     refine yab ?_
     refine hK2 _ _ ?_; try clear hK2 K2
     refine zac (fun K5 hK5 => ?_)
     refine zaa ?_
     refine zah rfl ?_
     refine zab (fun K hK r => ?_)
     rw [zav _ _ rfl]
     refine yaj ?_
     refine hK _ _ ?_; clear hK K
     refine zab (fun K hK r => ?_)
     refine yat ?_
     refine hK _ _ ?_; clear hK K
     refine zab (fun K hK r => ?_)
     refine yap ?_
     refine zae Try.underlying112 rfl hbA ldA ?_
     refine yaf ?_
     refine hK _ _ ?_; clear hK K
     refine zah rfl ?_
     refine zab (fun K hK r => ?_)
     refine yaw ?_
     refine Lt_indexS Try.underlying112 sz115 ixA ixA ?_
     refine yax ?_
     refine yaf ?_
     refine hK _ _ ?_; clear hK K
     refine zab (fun K hK r => ?_)
     refine yap ?_
     refine zae Try.underlying115 rfl hbA hat ?_
     refine hK _ _ ?_; clear hK K
     refine zaj rfl ?_
     refine zad ?_
     refine yab ?_
     refine hK5 _ _ ?_; try clear hK5 K5
     refine zaz ?_
     refine yab ?_
     refine ⟨[_], ⟨rfl, trivial⟩, _, Le.refl _, ?_, rfl⟩
     show ptrV _ = _
     unfold devV; rw [if_pos hin]
theorem yay {p q : Prop} (h : q) (e : p = q := by simp only [zao, fa119_0, zaH, Nat.reduceAdd, Nat.zero_add, eX, ↓reduceIte, Nat.reduceEqDiff, Int.reduceToNat]; exact rfl) : p := e.mpr h
set_option maxRecDepth 100000 in
set_option maxHeartbeats 1000000 in
theorem has_nil (H : Hp) (i : Int) : CallH Try.prog 56 #[.pointer none, .int .i64 i] H (fun v H' => v = .bool false ∧ H' = H) := by
 refine zam (l := [_, _]) (rl := [.tmp 4]) (n := 19) Try.func56 rfl rfl rfl rfl rfl ?_
 refine yaa ?_
 refine zac (fun K1 hK1 => ?_)
 refine zaa ?_
 refine zaj rfl ?_
 refine zad ?_
 refine yab ?_
 refine hK1 _ _ ?_; try clear hK1 K1
 refine zac (fun K2 hK2 => ?_)
 refine zaa ?_
 refine zah rfl ?_
 refine zab (fun K hK r => ?_)
 refine yan ?_
 rw [e_neq _ _ _ _ (by simp)]
 rw [zaM]
 first | rw [q_ptr_nil _ _ _ Try.underlying115] | rw [q_nil_ptr _ _ _ Try.underlying115]
 refine yaf ?_
 refine hK _ _ ?_; clear hK K
 refine zah rfl ?_
 (first | refine zaA (d := 7) rfl (fun g7 => ?_) (fun g7 => ?_) | skip)
 all_goals try (exfalso; exact cnA g7)
 all_goals (try replace g7 := yad g7)
 all_goals
  refine yaf ?_
  first
  |refine yGT (fun K hK r => ?_)
   refine yai ?_
   refine hK _ _ ?_; clear hK K
  |refine yGF ?_
   refine yaj ?_
  first
  |refine yGT (fun K hK r => ?_)
   refine yav ?_
   refine hK _ _ ?_; clear hK K
  |refine yGF ?_
   refine yaj ?_
  refine zab (fun K hK r => ?_)
  refine yal ?_
  refine hK _ _ ?_; clear hK K
  refine zah rfl ?_
  (first | refine zaA (d := 11) rfl (fun g11 => ?_) (fun g11 => ?_) | skip)
  all_goals try (exfalso; exact cnA g11)
  all_goals (try replace g11 := yad g11)
  all_goals
   refine yaf ?_
   first
   |refine yGT (fun K hK r => ?_)
    refine yai ?_
    refine hK _ _ ?_; clear hK K
   |refine yGF ?_
    refine yaj ?_
   first
   |refine yGT (fun K hK r => ?_)
    refine yai ?_
    refine hK _ _ ?_; clear hK K
   |refine yGF ?_
    refine yaj ?_
   first
   |refine yGT (fun K hK r => ?_)
    rw [zav _ _ rfl]
    refine yaj ?_
    refine hK _ _ ?_; clear hK K
   |refine yGF ?_
    refine yaj ?_
   first
   |refine yGT (fun K hK r => ?_)
    refine yay ?_
    refine hK _ _ ?_; clear hK K
   |refine yGF ?_
    refine yaj ?_
   first
   |refine yGT (fun K hK r => ?_)
    refine yap ?_
    refine zae Try.underlying3 rfl hbA ldA ?_
    refine yaf ?_
    refine hK _ _ ?_; clear hK K
   |refine yGF ?_
    refine yaj ?_
   first
   |refine yGT (fun K hK r => ?_)
    refine yac ?_
    refine hK _ _ ?_; clear hK K
   |refine yGF ?_
    refine yaj ?_
   refine zab (fun K hK r => ?_)
   refine yal ?_
   refine hK _ _ ?_; clear hK K
   refine zaj rfl ?_
   refine zad ?_
   refine yab ?_
   refine hK2 _ _ ?_; try clear hK2 K2
   refine zaz ?_
   refine yab ?_
   first | exact ⟨[_], ⟨rfl, trivial⟩, _, Le.refl _, rfl, rfl⟩ | (exfalso; simp_all; done)
set_option maxRecDepth 100000 in
set_option maxHeartbeats 1000000 in
theorem has_ok (H : Hp) (b : Nat) (size : Int) (x y : Value) (hb : H b = some (.cells #[.int .i64 size, x, y] 119)) (i : Int) : CallH Try.prog 56 #[ptrV b, .int .i64 i] H (fun v H' => v = .bool (decide (0 ≤ i ∧ i < size)) ∧ H' = H) := by
 refine zam (l := [_, _]) (rl := [.tmp 4]) (n := 19) Try.func56 rfl rfl rfl rfl rfl ?_
 refine yaa ?_
 refine zac (fun K1 hK1 => ?_)
 refine zaa ?_
 refine zaj rfl ?_
 refine zad ?_
 refine yab ?_
 refine hK1 _ _ ?_; try clear hK1 K1
 refine zac (fun K2 hK2 => ?_)
 refine zaa ?_
 refine zah rfl ?_
 refine zab (fun K hK r => ?_)
 refine yan ?_
 rw [e_neq _ _ _ _ (by simp)]
 rw [zaM]
 first | rw [q_ptr_nil _ _ _ Try.underlying115] | rw [q_nil_ptr _ _ _ Try.underlying115]
 refine yaf ?_
 refine hK _ _ ?_; clear hK K
 refine zah rfl ?_
 (first | refine zaA (d := 7) rfl (fun g7 => ?_) (fun g7 => ?_) | skip)
 all_goals try (exfalso; exact cnA g7)
 all_goals (try replace g7 := yad g7)
 all_goals
  refine yaf ?_
  first
  |refine yGT (fun K hK r => ?_)
   refine yai ?_
   refine hK _ _ ?_; clear hK K
  |refine yGF ?_
   refine yaj ?_
  first
  |refine yGT (fun K hK r => ?_)
   refine yav ?_
   refine hK _ _ ?_; clear hK K
  |refine yGF ?_
   refine yaj ?_
  refine zab (fun K hK r => ?_)
  refine yal ?_
  refine hK _ _ ?_; clear hK K
  refine zah rfl ?_
  (first | refine zaA (d := 11) rfl (fun g11 => ?_) (fun g11 => ?_) | skip)
  all_goals try (exfalso; exact cnA g11)
  all_goals (try replace g11 := yad g11)
  all_goals
   refine yaf ?_
   first
   |refine yGT (fun K hK r => ?_)
    refine yai ?_
    refine hK _ _ ?_; clear hK K
   |refine yGF ?_
    refine yaj ?_
   first
   |refine yGT (fun K hK r => ?_)
    refine yai ?_
    refine hK _ _ ?_; clear hK K
   |refine yGF ?_
    refine yaj ?_
   first
   |refine yGT (fun K hK r => ?_)
    rw [zav _ _ rfl]
    refine yaj ?_
    refine hK _ _ ?_; clear hK K
   |refine yGF ?_
    refine yaj ?_
   first
   |refine yGT (fun K hK r => ?_)
    refine yay ?_
    refine hK _ _ ?_; clear hK K
   |refine yGF ?_
    refine yaj ?_
   first
   |refine yGT (fun K hK r => ?_)
    refine yap ?_
    refine zae Try.underlying3 rfl hbA ldA ?_
    refine yaf ?_
    refine hK _ _ ?_; clear hK K
   |refine yGF ?_
    refine yaj ?_
   first
   |refine yGT (fun K hK r => ?_)
    refine yac ?_
    refine hK _ _ ?_; clear hK K
   |refine yGF ?_
    refine yaj ?_
   refine zab (fun K hK r => ?_)
   refine yal ?_
   refine hK _ _ ?_; clear hK K
   refine zaj rfl ?_
   refine zad ?_
   refine yab ?_
   refine hK2 _ _ ?_; try clear hK2 K2
   refine zaz ?_
   refine yab ?_
   refine ⟨[_], ⟨rfl, trivial⟩, _, Le.refl _, ?_, rfl⟩
   show Value.bool _ = _
   congr 1
   first | (rw [Bool.eq_iff_iff]; simp only [decide_eq_true_eq]; omega) | (exact (decide_eq_true (by omega)).symm) | (exact (decide_eq_false (by omega)).symm) | (simp_all; done)
theorem yaz {p q : Prop} (h : q) (e : p = q := by simp only [zao, fa111_3, zaH, Nat.reduceAdd, Nat.zero_add, eX, ↓reduceIte, Nat.reduceEqDiff, Int.reduceToNat]; exact rfl) : p := e.mpr h
theorem yaA {p q : Prop} (h : q) (e : p = q := by simp only [zao, fa111_2, zaH, Nat.reduceAdd, Nat.zero_add, eX, ↓reduceIte, Nat.reduceEqDiff, Int.reduceToNat]; exact rfl) : p := e.mpr h
theorem yaB {p q : Prop} (h : q) (e : p = q := by simp only [zao, fa111_1, zaH, Nat.reduceAdd, Nat.zero_add, eX, ↓reduceIte, Nat.reduceEqDiff, Int.reduceToNat]; exact rfl) : p := e.mpr h
theorem yaC {p q : Prop} (h : q) (e : p = q := by simp (disch := (first | omega | decide)) only [x_bin, g_int, b_leq, dec_lt_t, dec_lt_f, dec_le_t, dec_le_f, dec_eq_t, dec_eq_f, Bool.not_true, Bool.not_false, eX, ↓reduceIte, Nat.reduceEqDiff, Int.reduceToNat]; exact rfl) : p := e.mpr h
theorem yaD {p q : Prop} (h : q) (e : p = q := by simp only [x_store, eX, ↓reduceIte, Nat.reduceEqDiff, Int.reduceToNat]; exact rfl) : p := e.mpr h
theorem yaE {p q : Prop} (h : q) (e : p = q := by first | (simp only [setL0, setL1, setL2, setL3, setL4, setL5, setL6, setL7, setL8, setL9]; exact rfl) | exact rfl) : p := e.mpr h
theorem yaF {p q : Prop} (h : q) (e : p = q := by simp only [x_makeInterface, i_makeInterface, Try.underlying38, zay, eX, ↓reduceIte, Nat.reduceEqDiff, Int.reduceToNat]; exact rfl) : p := e.mpr h
theorem yaG {p q : Prop} (h : q) (e : p = q := by simp (disch := (first | omega | decide)) only [x_bin, g_int, b_sub, wrap_i64, wrap_u64, wrap_u32, wrap_u8, eX, ↓reduceIte, Nat.reduceEqDiff, Int.reduceToNat]; exact rfl) : p := e.mpr h
theorem yaH {p q : Prop} (h : q) (e : p = q := by simp only [zao, fa111_0, zaH, Nat.reduceAdd, Nat.zero_add, eX, ↓reduceIte, Nat.reduceEqDiff, Int.reduceToNat]; exact rfl) : p := e.mpr h
set_option maxRecDepth 100000 in
set_option maxHeartbeats 1000000 in
theorem step_ok (H : Hp) (p : Nat) (s : St) (x : Value) (hp : H p = some (.cells #[.int .i64 s.steps, .int .i64 s.left, .bool s.armed, .bool s.gone, x] 114)) : CallH Try.prog 57 #[(.pointer (some ⟨p, 0, none⟩))] H (fun v H' => v = errV (if s.step.2 = true then none else some 3) ∧ H' = H.upd p (.cells #[.int .i64 s.step.1.steps, .int .i64 s.step.1.left, .bool s.step.1.armed, .bool s.step.1.gone, x] 114)) := by
 refine zam (l := [_]) (rl := [.tmp 2]) (n := 38) Try.func57 rfl rfl rfl rfl rfl ?_
 refine yaa ?_
 refine zac (fun K1 hK1 => ?_)
 refine zaa ?_
 refine zaj rfl ?_
 refine zad ?_
 refine yab ?_
 refine hK1 _ _ ?_; try clear hK1 K1
 refine zac (fun K2 hK2 => ?_)
 refine zac (fun K3 hK3 => ?_)
 refine zaa ?_
 refine zah rfl ?_
 refine zab (fun K hK r => ?_)
 rw [zav _ _ rfl]
 refine yaj ?_
 refine hK _ _ ?_; clear hK K
 refine zab (fun K hK r => ?_)
 refine yaz ?_
 refine hK _ _ ?_; clear hK K
 refine zab (fun K hK r => ?_)
 refine yap ?_
 refine zae Try.underlying4 rfl hbA ldA ?_
 refine yaf ?_
 refine hK _ _ ?_; clear hK K
 refine zah rfl ?_
 (first | refine zaA (d := 7) rfl (fun g7 => ?_) (fun g7 => ?_) | skip)
 all_goals try (exfalso; exact cnA g7)
 all_goals (try replace g7 := yad g7)
 all_goals
  refine yaf ?_
  first
  |refine yGT (fun K hK r => ?_)
   refine yai ?_
   refine hK _ _ ?_; clear hK K
  |refine yGF ?_
   refine yaj ?_
  first
  |refine yGT (fun K hK r => ?_)
   rw [zav _ _ rfl]
   refine yaj ?_
   refine hK _ _ ?_; clear hK K
  |refine yGF ?_
   refine yaj ?_
  first
  |refine yGT (fun K hK r => ?_)
   refine yaA ?_
   refine hK _ _ ?_; clear hK K
  |refine yGF ?_
   refine yaj ?_
  first
  |refine yGT (fun K hK r => ?_)
   refine yap ?_
   refine zae Try.underlying4 rfl hbA ldA ?_
   refine yaf ?_
   refine hK _ _ ?_; clear hK K
  |refine yGF ?_
   refine yaj ?_
  first
  |refine yGT (fun K hK r => ?_)
   refine yai ?_
   refine hK _ _ ?_; clear hK K
  |refine yGF ?_
   refine yaj ?_
  (first | refine zaA (d := 12) rfl (fun g12 => ?_) (fun g12 => ?_) | skip)
  all_goals try (exfalso; exact cnA g12)
  all_goals (try replace g12 := yad g12)
  all_goals
   refine yaf ?_
   first
   |refine yGT (fun K hK r => ?_)
    refine yai ?_
    refine hK _ _ ?_; clear hK K
   |refine yGF ?_
    refine yaj ?_
   first
   |refine yGT (fun K hK r => ?_)
    rw [zav _ _ rfl]
    refine yaj ?_
    refine hK _ _ ?_; clear hK K
   |refine yGF ?_
    refine yaj ?_
   first
   |refine yGT (fun K hK r => ?_)
    refine yaB ?_
    refine hK _ _ ?_; clear hK K
   |refine yGF ?_
    refine yaj ?_
   first
   |refine yGT (fun K hK r => ?_)
    refine yap ?_
    refine zae Try.underlying3 rfl hbA ldA ?_
    refine yaf ?_
    refine hK _ _ ?_; clear hK K
   |refine yGF ?_
    refine yaj ?_
   first
   |refine yGT (fun K hK r => ?_)
    refine yaC ?_
    refine hK _ _ ?_; clear hK K
   |refine yGF ?_
    refine yaj ?_
   first
   |refine yGT (fun K hK r => ?_)
    refine yal ?_
    refine hK _ _ ?_; clear hK K
   |refine yGF ?_
    refine yaj ?_
   refine zab (fun K hK r => ?_)
   refine yal ?_
   refine hK _ _ ?_; clear hK K
   refine zad ?_
   refine yab ?_
   refine hK3 _ _ ?_; try clear hK3 K3
   refine zar (fun r => rfl) (fun c19 => ?_) (fun c19 => ?_)
   ·first
    |(exfalso; exact cnA c19; done)
    |skip
     (try replace c19 := yad c19)
     refine zac (fun K4 hK4 => ?_)
     refine zaa ?_
     refine zah rfl ?_
     refine zab (fun K hK r => ?_)
     rw [zav _ _ rfl]
     refine yaj ?_
     refine hK _ _ ?_; clear hK K
     refine zab (fun K hK r => ?_)
     refine yaz ?_
     refine hK _ _ ?_; clear hK K
     refine zaI rfl (zas) (fun K hK r => ?_)
     refine yaD ?_
     refine zaE sz4 hbA bdA plA fzA ?_
     refine yaE ?_
     refine yaf ?_
     refine hK _ _ ?_; clear hK K
     refine zad ?_
     refine yab ?_
     refine hK4 _ _ ?_; try clear hK4 K4
     refine zac (fun K5 hK5 => ?_)
     refine zaa ?_
     refine zab (fun K hK r => ?_)
     refine yaF ?_
     refine hK _ _ ?_; clear hK K
     refine zaj rfl ?_
     refine zad ?_
     refine yab ?_
     refine hK5 _ _ ?_; try clear hK5 K5
     refine zaz ?_
     refine yab ?_
     have hs : s.step = ({ s with gone := true }, false) := by unfold St.step; rw [if_pos (by simp_all)]
     refine ⟨[_], ⟨rfl, trivial⟩, _, Le.refl _, ?_, ?_⟩
     ·rw [hs]; rfl
     ·rw [hs]
   ·first
    |(exfalso; exact cnA c19; done)
    |skip
     (try replace c19 := yad c19)
     refine zau ?_
     refine yab ?_
     refine hK2 _ _ ?_; try clear hK2 K2
     refine zac (fun K6 hK6 => ?_)
     refine zaa ?_
     refine zah rfl ?_
     refine zab (fun K hK r => ?_)
     rw [zav _ _ rfl]
     refine yaj ?_
     refine hK _ _ ?_; clear hK K
     refine zab (fun K hK r => ?_)
     refine yaB ?_
     refine hK _ _ ?_; clear hK K
     refine zab (fun K hK r => ?_)
     refine yap ?_
     refine zae Try.underlying3 rfl hbA ldA ?_
     refine yaf ?_
     refine hK _ _ ?_; clear hK K
     refine zab (fun K hK r => ?_)
     refine yaG ?_
     refine hK _ _ ?_; clear hK K
     refine zab (fun K hK r => ?_)
     rw [zav _ _ rfl]
     refine yaj ?_
     refine hK _ _ ?_; clear hK K
     refine zab (fun K hK r => ?_)
     refine yaB ?_
     refine hK _ _ ?_; clear hK K
     refine zaI rfl (zas) (fun K hK r => ?_)
     refine yaD ?_
     refine zaE sz3 hbA bdA plA fzA ?_
     refine yaE ?_
     refine yaf ?_
     refine hK _ _ ?_; clear hK K
     refine zad ?_
     refine yab ?_
     refine hK6 _ _ ?_; try clear hK6 K6
     refine zac (fun K7 hK7 => ?_)
     refine zaa ?_
     refine zah rfl ?_
     refine zab (fun K hK r => ?_)
     rw [zav _ _ rfl]
     refine yaj ?_
     refine hK _ _ ?_; clear hK K
     refine zab (fun K hK r => ?_)
     refine yaH ?_
     refine hK _ _ ?_; clear hK K
     refine zab (fun K hK r => ?_)
     refine yap ?_
     refine zae Try.underlying3 rfl hbA ldA ?_
     refine yaf ?_
     refine hK _ _ ?_; clear hK K
     refine zab (fun K hK r => ?_)
     refine yaq ?_
     refine hK _ _ ?_; clear hK K
     refine zab (fun K hK r => ?_)
     rw [zav _ _ rfl]
     refine yaj ?_
     refine hK _ _ ?_; clear hK K
     refine zab (fun K hK r => ?_)
     refine yaH ?_
     refine hK _ _ ?_; clear hK K
     refine zaI rfl (zas) (fun K hK r => ?_)
     refine yaD ?_
     refine zaE sz3 hbA bdA plA fzA ?_
     refine yaE ?_
     refine yaf ?_
     refine hK _ _ ?_; clear hK K
     refine zad ?_
     refine yab ?_
     refine hK7 _ _ ?_; try clear hK7 K7
     refine zac (fun K8 hK8 => ?_)
     refine zaa ?_
     refine zaj rfl ?_
     refine zad ?_
     refine yab ?_
     refine hK8 _ _ ?_; try clear hK8 K8
     refine zaz ?_
     refine yab ?_
     have hs : s.step = ({ s with left := IntKind.i64.wrap (s.left - 1), steps := IntKind.i64.wrap (s.steps + 1) }, true) := by unfold St.step; rw [if_neg (by simp_all)]
     refine ⟨[_], ⟨rfl, trivial⟩, _, Le.refl _, ?_, ?_⟩
     ·rw [hs]; rfl
     ·rw [hs]
end Go.Proofs.Ytigofhhonnbkmaa.HL
end
section
namespace Go.Proofs.Ytigofhhonnbkmaa.HL
open Go
set_option linter.unusedSimpArgs false
set_option linter.unusedVariables false
def leI : List Int → Int
  | [] => 0
  | x :: r => x + 256 * leI r
def leR : Nat → Int → List Int
  | 0, _ => []
  | k + 1, n => (n % 256) :: leR k (n / 256)
theorem leR_len : ∀ (k : Nat) (n : Int), (leR k n).length = k
  | 0, _ => rfl
  | k + 1, n => by simp [leR, leR_len k]
theorem leR_byte : ∀ (k : Nat) (n : Int), ByteL (leR k n)
  | 0, _ => by intro x hx; cases hx
  | k + 1, n => by
    intro x hx
    rcases List.mem_cons.1 hx with rfl | hx
    · omega
    · exact leR_byte k _ x hx
theorem leI_leR : ∀ (k : Nat) (n : Int), leI (leR k n) = n % 256 ^ k
  | 0, n => by simp [leI, leR]
  | k + 1, n => by
    have hp : (0 : Int) < 256 ^ k := Int.pow_pos (by decide)
    rw [leR, leI, leI_leR k, Int.pow_succ, Int.mul_comm (256 ^ k) 256]
    have h1 := Int.emod_nonneg (n / 256) (Int.ne_of_gt hp)
    have h2 := Int.emod_lt_of_pos (n / 256) hp
    have h3 := Int.mul_ediv_add_emod (n / 256) (256 ^ k)
    have h4 := ((Int.ediv_emod_unique (a := n) (b := 256 * 256 ^ k) (r := n % 256 + 256 * (n / 256 % 256 ^ k)) (q := n / 256 / 256 ^ k) (by omega)).2 ⟨?_, by omega, by omega⟩).2
    · exact h4.symm
    · rw [Int.mul_assoc]; omega
theorem leR_leI : ∀ (l : List Int), ByteL l → leR l.length (leI l) = l
  | [], _ => rfl
  | x :: r, h => by
    have hx := h x (by simp)
    have h1 : (x + 256 * leI r) % 256 = x := by omega
    have h2 : (x + 256 * leI r) / 256 = leI r := by omega
    simp only [List.length_cons, leI, leR, h1, h2]
    rw [leR_leI r (fun y hy => h y (by simp [hy]))]
theorem leI_range : ∀ (l : List Int), ByteL l → 0 ≤ leI l ∧ leI l < 256 ^ l.length
  | [], _ => by simp [leI]
  | x :: r, h => by
    have hx := h x (by simp)
    have := leI_range r (fun y hy => h y (by simp [hy]))
    simp only [List.length_cons, leI, Int.pow_succ]
    omega
theorem leI_snoc : ∀ (l : List Int) (x : Int), leI (l ++ [x]) = leI l + x * 256 ^ l.length
  | [], x => by simp [leI]
  | y :: r, x => by
    have h1 := leI_snoc r x
    simp only [List.cons_append, List.length_cons, leI, h1, Int.pow_succ]
    rw [Int.mul_add, Int.add_assoc, ← Int.mul_assoc x, Int.mul_comm (x * 256 ^ r.length) 256]
def stampI (n : Int) : List Int := [0, 1, 2, 3, 4, 5].map fun k => IntKind.u8.wrap (n.fdiv (2 ^ (8 * k)))
abbrev stampL (n : Int) : List Value := u8s (stampI n)
theorem stampL_step (n : Int) (k : Nat) (h : k < 6) : (stampL n).take (k + 1) = (stampL n).take k ++ [.int .u8 (IntKind.u8.wrap (n.fdiv (2 ^ (min (8 * (k : Int)).toNat IntKind.i64.bits))))] := by
  rcases k with _ | _ | _ | _ | _ | _ | k <;> first | rfl | omega
theorem stampI_len (n : Int) : (stampI n).length = 6 := rfl
theorem stampI_eq (n : Int) : stampI n = leR 6 n := by
  have e : ∀ b : Int, 0 ≤ b → n.fdiv b = n / b := fun b h => Int.fdiv_eq_ediv_of_nonneg n h
  simp only [stampI, leR, List.map_cons, List.map_nil, u8_def, Nat.mul_zero, Nat.reduceMul, Int.reducePow, List.cons.injEq, and_true, e 1 (by decide), e 256 (by decide), e 65536 (by decide), e 16777216 (by decide), e 4294967296 (by decide), e 1099511627776 (by decide)]
  refine ⟨?_, ?_, ?_, ?_, ?_, ?_⟩ <;> first | omega | trivial
theorem leI_stamp (n : Int) (h0 : 0 ≤ n) (h1 : n ≤ 281474976710655) : leI (stampI n) = n := by
  rw [stampI_eq, leI_leR]; simp only [Int.reducePow]; omega
theorem stamp_byte (n : Int) : ByteL (stampI n) := by rw [stampI_eq]; exact leR_byte 6 n
theorem le_step (D : List Int) (k : Nat) (hk : k < 6) (hl : k < D.length) (hB : ByteL D) :
    IntKind.i64.wrap (BitVec.ofInt IntKind.i64.bits (leI (D.take k)) ||| BitVec.ofInt IntKind.i64.bits (IntKind.i64.wrap (IntKind.i64.wrap (D.getD k 0) * 2 ^ min (8 * (k : Int)).toNat IntKind.i64.bits))).toNat = leI (D.take (k + 1)) := by
  have hx : 0 ≤ D.getD k 0 ∧ D.getD k 0 ≤ 255 := by
    rw [List.getD_eq_getElem?_getD, List.getElem?_eq_getElem hl]; exact hB _ (List.getElem_mem hl)
  have hr := leI_range (D.take k) (fun x h => hB x (List.mem_of_mem_take h))
  have hlen : (D.take k).length = k := by simp; omega
  rw [hlen] at hr
  have e1 : min (8 * (k : Int)).toNat IntKind.i64.bits = 8 * k := by
    have : IntKind.i64.bits = 64 := rfl
    omega
  have e2 : (2 : Int) ^ (8 * k) = 256 ^ k := by rw [Int.pow_mul]; rfl
  have e3 : (256 : Int) ^ k ≤ 1099511627776 := (show ∀ j, j < 6 → (256 : Int) ^ j ≤ 1099511627776 by decide) k hk
  have hp : (0 : Int) < 256 ^ k := Int.pow_pos (by decide)
  have e4 : D.getD k 0 * 256 ^ k ≤ 255 * 1099511627776 := Int.mul_le_mul hx.2 e3 (by omega) (by decide)
  have e5 : 0 ≤ D.getD k 0 * 256 ^ k := Int.mul_nonneg hx.1 (by omega)
  have e6 : D.take (k + 1) = D.take k ++ [D.getD k 0] := by
    rw [List.take_add_one, List.getD_eq_getElem?_getD, List.getElem?_eq_getElem hl]; rfl
  rw [wrap_i64 (D.getD k 0) (by omega) (by omega), e1, e2, wrap_i64 (D.getD k 0 * 256 ^ k) (by omega) (by omega), ← e2, or_i64 _ _ _ hr.1 (by rw [e2]; exact hr.2) hx.1 (by rw [e2]; omega), e6, leI_snoc, hlen, e2]
def sealL (st kd : Int) (l : List Int) : List Int := stampI st ++ [kd, (l.length : Int)] ++ l ++ List.replicate (50 - l.length) 0 ++ stampI st
def badI (st kd : Int) (l : List Int) : Option Int := if st < 1 ∨ st > 281474976710655 ∨ kd < 1 ∨ kd > 255 then some 1 else if l.length > 50 then some 2 else none
def zeroS : List Int := List.replicate 64 0
def sealI (st kd : Int) (l : List Int) : List Int := match badI st kd l with | some _ => zeroS | none => sealL st kd l
theorem badI_none {st kd : Int} {l : List Int} (h : badI st kd l = none) : 1 ≤ st ∧ st ≤ 281474976710655 ∧ 1 ≤ kd ∧ kd ≤ 255 ∧ l.length ≤ 50 := by
  unfold badI at h; split at h <;> try cases h
  split at h <;> try cases h
  omega
theorem sealL_len {st kd : Int} {l : List Int} (h : l.length ≤ 50) : (sealL st kd l).length = 64 := by
  simp [sealL, stampI_len]; omega
theorem sealL_byte {st kd : Int} {l : List Int} (hb : ByteL l) (h : badI st kd l = none) : ByteL (sealL st kd l) := by
  have := badI_none h
  intro x hx
  simp only [sealL, List.mem_append, List.mem_cons, List.mem_replicate, List.not_mem_nil, or_false] at hx
  rcases hx with (((hx | hx) | hx) | hx) | hx
  · exact stamp_byte _ x hx
  · omega
  · exact hb x hx
  · omega
  · exact stamp_byte _ x hx
def stOf (L : List Int) : Int := leI (L.take 6)
def tailOf (L : List Int) : Int := leI ((L.drop 58).take 6)
def kdOf (L : List Int) : Int := L.getD 6 0
def szS (L : List Int) : Int := L.getD 7 0
def dtOf (L : List Int) : List Int := (L.drop 8).take (szS L).toNat
theorem sealI_len (st kd : Int) (l : List Int) : (sealI st kd l).length = 64 := by
  unfold sealI; split
  · rfl
  · rename_i h; exact sealL_len (badI_none h).2.2.2.2
theorem dtOf_len {L : List Int} (hc : L.length = 64) (h : szS L ≤ 50) : (dtOf L).length = (szS L).toNat := by simp [dtOf]; omega
def goodI (L : List Int) : Bool := decide (stOf L = tailOf L ∧ szS L ≤ 50 ∧ badI (stOf L) (kdOf L) (dtOf L) = none ∧ sealL (stOf L) (kdOf L) (dtOf L) = L)
def openI (L : List Int) : Option (Int × Int × List Int) := if goodI L = true then some (stOf L, kdOf L, dtOf L) else none
theorem open_none_bad {L : List Int} (h : (badI (stOf L) (kdOf L) (dtOf L)).isSome = true) : openI L = none := by
  rw [openI, if_neg]; rw [goodI]; intro hh; simp only [decide_eq_true_eq] at hh; rw [hh.2.2.1] at h; cases h
theorem open_none_ne {L : List Int} (h : ¬ sealI (stOf L) (kdOf L) (dtOf L) = L) : openI L = none := by
  rw [openI, if_neg]; rw [goodI]; intro hh; simp only [decide_eq_true_eq] at hh
  apply h; rw [sealI, hh.2.2.1]; exact hh.2.2.2
theorem open_some {L : List Int} (h1 : leI (L.take 6) = leI ((L.drop 58).take 6)) (h2 : L.getD 7 0 ≤ 50) (h3 : (badI (stOf L) (kdOf L) (dtOf L)).isSome = false) (h4 : sealI (stOf L) (kdOf L) (dtOf L) = L) : openI L = some (stOf L, kdOf L, dtOf L) := by
  have h5 : badI (stOf L) (kdOf L) (dtOf L) = none := by cases h : badI (stOf L) (kdOf L) (dtOf L) <;> simp_all
  rw [openI, if_pos]
  rw [goodI, decide_eq_true_eq]
  refine ⟨h1, h2, h5, ?_⟩
  rw [sealI, h5] at h4; exact h4
def opS (L : List Int) : Int := match openI L with | some (s, _, _) => s | none => 0
def opK (L : List Int) : Int := match openI L with | some (_, k, _) => k | none => 0
def opD (L : List Int) : List Int := match openI L with | some (_, _, d) => d | none => []
def opE (L : List Int) : Option Int := match openI L with | some _ => none | none => some 9
def isB (L : List Int) (st kd : Int) : Bool := (opE L).isNone && decide (opS L = st) && decide (opK L = kd)
def isD (L : List Int) (st kd : Int) : List Int := if isB L st kd = true then opD L else []
theorem opD_len (L : List Int) : (opD L).length ≤ 50 := by
  unfold opD openI
  split
  · rename_i s k d h
    split at h
    · rename_i hg
      simp only [goodI, decide_eq_true_eq] at hg
      have h1 := (badI_none hg.2.2.1).2.2.2.2
      cases h; exact h1
    · cases h
  · exact Nat.zero_le _
theorem opD_byte {L : List Int} (hB : ByteL L) : ByteL (opD L) := by
  unfold opD openI
  split
  · rename_i s k d h
    split at h
    · cases h; exact fun x hx => hB x (List.mem_of_mem_drop (List.mem_of_mem_take hx))
    · cases h
  · intro x hx; cases hx
def dvK : Nat → Int → Int
  | 0, n => n
  | k + 1, n => dvK k (n / 256)
theorem dvK_succ : ∀ (k : Nat) (n : Int), dvK (k + 1) n = dvK k n / 256
  | 0, _ => rfl
  | k + 1, n => by rw [dvK, dvK_succ k]; rfl
theorem dvK_range : ∀ (k : Nat) (n : Int), 0 ≤ n → n ≤ 281474976710655 → 0 ≤ dvK k n ∧ dvK k n ≤ 281474976710655
  | 0, _, h, h2 => ⟨h, h2⟩
  | k + 1, n, h, h2 => by rw [dvK]; exact dvK_range k _ (by omega) (by omega)
theorem leR_snoc : ∀ (k : Nat) (n : Int), leR (k + 1) n = leR k n ++ [dvK k n % 256]
  | 0, _ => rfl
  | k + 1, n => by rw [leR, leR_snoc k]; rfl
def refS (st : Int) (k : Nat) : List Int := leR k st ++ List.replicate (58 - k) 0 ++ (leR k st ++ List.replicate (6 - k) 0)
def refD (st kd : Int) (l : List Int) (k : Nat) : List Int := leR 6 st ++ [kd, (l.length : Int)] ++ (l.take k ++ List.replicate (50 - k) 0) ++ leR 6 st
theorem u8s_set (l : List Int) (i : Nat) (x : Int) : (u8s l).toArray.setIfInBounds i (.int .u8 x) = (u8s (l.set i x)).toArray := by simp [List.map_set]
theorem set_mid (A : List Int) (n : Nat) (B : List Int) (i : Nat) (x : Int) (h : A.length = i) (hn : 0 < n) : (A ++ List.replicate n 0 ++ B).set i x = A ++ [x] ++ List.replicate (n - 1) 0 ++ B := by
  obtain ⟨m, rfl⟩ : ∃ m, n = m + 1 := ⟨n - 1, by omega⟩
  subst h
  rw [List.append_assoc, List.set_append_right _ _ (Nat.le_refl _), Nat.sub_self]
  simp [List.replicate_succ]
theorem refS_step (st : Int) (k : Nat) (hk : k < 6) : ((refS st k).set k (dvK k st % 256)).set (58 + k) (dvK k st % 256) = refS st (k + 1) := by
  have h1 : (refS st k).set k (dvK k st % 256) = leR (k + 1) st ++ List.replicate (58 - (k + 1)) 0 ++ (leR k st ++ List.replicate (6 - k) 0) := by
    rw [refS, set_mid _ _ _ _ _ (leR_len k st) (by omega), leR_snoc]; rfl
  rw [h1]
  have h2 := set_mid (leR (k + 1) st ++ List.replicate (58 - (k + 1)) 0 ++ leR k st) (6 - k) [] (58 + k) (dvK k st % 256) (by simp [leR_len]; omega) (by omega)
  simp only [List.append_nil, List.append_assoc] at h2 ⊢
  rw [h2, refS, leR_snoc]
  simp only [List.append_assoc]
  rfl
theorem refS_size (st : Int) (k : Nat) (hk : k ≤ 6) : (refS st k).length = 64 := by simp [refS, leR_len]; omega
theorem refD_size (st kd : Int) (l : List Int) (k : Nat) (hk : k ≤ 50) (hl : k ≤ l.length) : (refD st kd l k).length = 64 := by simp [refD, leR_len]; omega
theorem refD_zero (st kd : Int) (l : List Int) : ((refS st 6).set 6 kd).set 7 l.length = refD st kd l 0 := rfl
theorem refD_step (st kd : Int) (l : List Int) (k : Nat) (hk : k < l.length) (h5 : l.length ≤ 50) : (refD st kd l k).set (8 + k) (l.getD k 0) = refD st kd l (k + 1) := by
  have h2 := set_mid (leR 6 st ++ [kd, (l.length : Int)] ++ l.take k) (50 - k) (leR 6 st) (8 + k) (l.getD k 0) (by simp [leR_len]; omega) (by omega)
  have e6 : l.take (k + 1) = l.take k ++ [l.getD k 0] := by
    rw [List.take_add_one, List.getD_eq_getElem?_getD, List.getElem?_eq_getElem hk]; rfl
  have e7 : 50 - k - 1 = 50 - (k + 1) := by omega
  rw [refD, refD, e6]
  simp only [List.append_assoc, e7] at h2 ⊢
  exact h2
theorem refD_full (st kd : Int) (l : List Int) (h : badI st kd l = none) : refD st kd l l.length = sealI st kd l := by
  rw [sealI, h, refD, sealL, stampI_eq, List.take_length]; simp
theorem parts_seal {st kd : Int} {l : List Int} (h : badI st kd l = none) : stOf (sealL st kd l) = st ∧ tailOf (sealL st kd l) = st ∧ kdOf (sealL st kd l) = kd ∧ szS (sealL st kd l) = l.length ∧ dtOf (sealL st kd l) = l := by
  obtain ⟨h1, h2, h3, h4, h5⟩ := badI_none h
  have e1 : stOf (sealL st kd l) = st := by
    rw [stOf, sealL, List.append_assoc, List.append_assoc, List.append_assoc, List.take_left' (stampI_len st)]; exact leI_stamp st (by omega) h2
  have e5 : (sealL st kd l).drop 58 = stampI st := by
    rw [sealL, List.drop_left' (by simp [stampI_len]; omega)]
  have e2 : tailOf (sealL st kd l) = st := by
    rw [tailOf, e5, List.take_of_length_le (by simp [stampI_len])]; exact leI_stamp st (by omega) h2
  have e6 : (sealL st kd l).drop 6 = [kd, (l.length : Int)] ++ l ++ List.replicate (50 - l.length) 0 ++ stampI st := by
    rw [sealL, List.append_assoc, List.append_assoc, List.append_assoc, List.drop_left' (stampI_len st)]; simp
  have e3 : kdOf (sealL st kd l) = kd := by
    have : (sealL st kd l)[6]? = some kd := by
      have := congrArg (·[0]?) e6; simpa [List.getElem?_drop] using this
    rw [kdOf, List.getD_eq_getElem?_getD, this]; rfl
  have e4 : szS (sealL st kd l) = l.length := by
    have : (sealL st kd l)[7]? = some (l.length : Int) := by
      have := congrArg (·[1]?) e6; simpa [List.getElem?_drop] using this
    rw [szS, List.getD_eq_getElem?_getD, this]; rfl
  have e8 : (sealL st kd l).drop 8 = l ++ (List.replicate (50 - l.length) 0 ++ stampI st) := by
    have : (sealL st kd l).drop 8 = ((sealL st kd l).drop 6).drop 2 := by rw [List.drop_drop]
    rw [this, e6]; simp
  refine ⟨e1, e2, e3, e4, ?_⟩
  rw [dtOf, e4, e8]; simp
theorem good_seal {st kd : Int} {l : List Int} (h : badI st kd l = none) : goodI (sealL st kd l) = true := by
  obtain ⟨h1, h2, h3, h4, h5⟩ := parts_seal h
  have h6 := badI_none h
  simp only [goodI, h1, h2, h3, h4, h5, h, and_true, true_and, decide_eq_true_eq]; omega
theorem open_seal {st kd : Int} {l : List Int} (h : badI st kd l = none) : openI (sealL st kd l) = some (st, kd, l) := by
  obtain ⟨h1, h2, h3, h4, h5⟩ := parts_seal h
  rw [openI, if_pos (good_seal h), h1, h3, h5]
theorem good_iff {L : List Int} : goodI L = true ↔ (stOf L = tailOf L ∧ szS L ≤ 50 ∧ badI (stOf L) (kdOf L) (dtOf L) = none ∧ sealL (stOf L) (kdOf L) (dtOf L) = L) := by simp [goodI]
theorem leI_drop {L : List Int} (hc : L.length = 64) (i : Nat) (hi : i < 6) : leI ((L.take 6).drop i) = L.getD i 0 + 256 * leI ((L.take 6).drop (i + 1)) := by
  have hl : i < (L.take 6).length := by simp; omega
  rw [List.drop_eq_getElem_cons hl, leI]
  congr 1
  rw [List.getD_eq_getElem?_getD, List.getElem?_eq_getElem (by omega)]; simp
theorem leI_small {L : List Int} (hc : L.length = 64) (hB : ByteL L) (k : Nat) (hk : k ≤ 5) : 0 ≤ leI ((L.take 6).drop (6 - k)) ∧ leI ((L.take 6).drop (6 - k)) ≤ 1099511627775 := by
  have h := leI_range ((L.take 6).drop (6 - k)) (fun x hx => hB x (List.mem_of_mem_take (List.mem_of_mem_drop hx)))
  have hl : ((L.take 6).drop (6 - k)).length = k := by simp; omega
  rw [hl] at h
  have e3 : (256 : Int) ^ k ≤ 1099511627776 := (show ∀ j, j < 6 → (256 : Int) ^ j ≤ 1099511627776 by decide) k (by omega)
  omega
def rdOf (L : List Int) : List Int := (L.drop 8).take (min (szS L).toNat 50)
theorem rdOf_len {L : List Int} (hc : L.length = 64) : (rdOf L).length = min (szS L).toNat 50 := by simp [rdOf]; omega
theorem rdOf_step {L : List Int} (hc : L.length = 64) (k : Nat) (hk : k < 50) : (L.drop 8).take (k + 1) = (L.drop 8).take k ++ [L.getD (8 + k) 0] := by
  rw [List.take_add_one, List.getElem?_drop, getD_of_lt L (8 + k) (by omega)]; rfl
theorem ref_some {L : List Int} (hB : ByteL L) (h1 : badI (stOf L) (kdOf L) (rdOf L) = none) (h2 : sealI (stOf L) (kdOf L) (rdOf L) = L) : openI L = some (stOf L, kdOf L, rdOf L) := by
  rw [sealI, h1] at h2
  have h2 : sealL (stOf L) (kdOf L) (rdOf L) = L := h2
  have := open_seal h1
  rw [h2] at this; exact this
theorem ref_none {L : List Int} (hc : L.length = 64) (hB : ByteL L) (h : ¬ (badI (stOf L) (kdOf L) (rdOf L) = none ∧ sealI (stOf L) (kdOf L) (rdOf L) = L)) : openI L = none := by
  rw [openI, if_neg]
  intro hg
  have hz := getD_byte hB 7
  simp only [goodI, decide_eq_true_eq] at hg
  have e : rdOf L = dtOf L := by
    have : szS L ≤ 50 := hg.2.1
    rw [rdOf, dtOf, Nat.min_eq_left (by omega)]
  rw [e] at h
  exact h ⟨hg.2.2.1, by rw [sealI, hg.2.2.1]; exact hg.2.2.2⟩
theorem badI_zero {st kd : Int} {l : List Int} (h : (badI st kd l).getD 0 = 0) : badI st kd l = none := by
  unfold badI at *; split <;> rename_i h1
  · rw [if_pos h1] at h; simp at h
  · rw [if_neg h1] at h; split at h
    · simp at h
    · rename_i h2; rw [if_neg h2]
theorem open_vals {L : List Int} {s k : Int} {d : List Int} (h : openI L = some (s, k, d)) : opS L = s ∧ opK L = k ∧ opD L = d ∧ opE L = none := by simp [opS, opK, opD, opE, h]
theorem open_nones {L : List Int} (h : openI L = none) : opS L = 0 ∧ opK L = 0 ∧ opD L = [] ∧ opE L = some 9 := by simp [opS, opK, opD, opE, h]
theorem open_again {L : List Int} (h : (opE L).isNone = true) : badI (opS L) (opK L) (opD L) = none ∧ sealI (opS L) (opK L) (opD L) = L := by
  cases ho : openI L with
  | none => simp [opE, ho] at h
  | some x =>
    obtain ⟨s, k, d⟩ := x
    obtain ⟨o1, o2, o3, o4⟩ := open_vals ho
    rw [o1, o2, o3]
    unfold openI at ho
    split at ho
    · rename_i hg
      simp only [goodI, decide_eq_true_eq] at hg
      cases ho
      exact ⟨hg.2.2.1, by rw [sealI, hg.2.2.1]; exact hg.2.2.2⟩
    · cases ho
end Go.Proofs.Ytigofhhonnbkmaa.HL
end
section
namespace Go.Proofs.Ytigofhhonnbkmaa.HL
open Go Go.Proofs
set_option linter.unusedSimpArgs false
set_option linter.unusedVariables false
attribute [local irreducible] Lt Lq CW OW TW CallH
theorem yaI {p q : Prop} (h : q) (e : p = q := by simp only [x_move, eX, ↓reduceIte, Nat.reduceEqDiff]; exact rfl) : p := e.mpr h
theorem yaJ {p q : Prop} (h : q) (e : p = q := by simp (disch := (first | omega | decide)) only [x_bin, g_int, b_add, wrap_i64, wrap_u64, wrap_u32, wrap_u8, eX, ↓reduceIte, Nat.reduceEqDiff]; exact rfl) : p := e.mpr h
theorem yaK {p q : Prop} (h : q) (e : p = q := by simp (disch := (first | omega | decide)) only [x_convert, c_int _ _ _ _ Try.underlying3 Try.underlying5, wrap_i64, wrap_u64, wrap_u32, wrap_u8, eX, ↓reduceIte, Nat.reduceEqDiff]; exact rfl) : p := e.mpr h
theorem yaL {p q : Prop} (h : q) (e : p = q := by simp only [x_indexAddr, eX, ↓reduceIte, Nat.reduceEqDiff]; exact rfl) : p := e.mpr h
set_option maxRecDepth 100000 in
set_option maxHeartbeats 1000000 in
theorem stamp_ok (H : Hp) (b : Nat) (c : Array Value) (t : TypeId) (at_ n : Int) (hb : H b = some (.cells c t)) (hc : c.size = 64) (h0 : 0 ≤ at_) (h1 : at_ ≤ 58) :
  CallH Try.prog 68 #[.pointer (some ⟨b, 0, none⟩), .int .i64 at_, .int .i64 n] H (fun v H' => v = .tuple #[] ∧ H' = H.upd b (.cells (putCells c at_.toNat (stampL n)) t)) := by
 refine zam (l := [_, _, _]) (rl := []) (n := 22) Try.func68 rfl rfl rfl rfl rfl ?_
 refine yaa ?_
 refine zac (fun K1 hK1 => ?_)
 refine zaa ?_
 refine zah rfl ?_
 refine zad ?_
 refine yab ?_
 refine hK1 _ _ ?_; try clear hK1 K1
 refine zaB ?_
 refine CW_loop (fun m e H_ => ∃ k : Nat, k ≤ 6 ∧ m = 6 - k ∧ Env.has [(0, .pointer (some ⟨b, 0, none⟩)), (1, .int .i64 at_), (2, .int .i64 n), (7, .int .i64 k)] e ∧ H_ = H.upd b (.cells (putCells c at_.toNat ((stampL n).take k)) t)) (6) ?_ ?_
 ·skip
  exact ⟨0, by omega, rfl, ⟨rfl, rfl, rfl, rfl, trivial⟩, by simp [putCells, upd_self, hb]⟩
 intro m_ e_ H_ hI_
 obtain ⟨k, hk6, rfl, he, rfl⟩ := hI_
 refine CW_env he.sub ?_; clear he e_
 refine zac (fun K2 hK2 => ?_)
 refine zaa ?_
 refine zab (fun K hK r => ?_)
 refine yac ?_
 refine hK _ _ ?_; clear hK K
 refine zad ?_
 refine yab ?_
 refine hK2 _ _ ?_; try clear hK2 K2
 refine zac (fun K3 hK3 => ?_)
 refine zar (fun r => rfl) (fun c8 => ?_) (fun c8 => ?_)
 ·first
  |(exfalso; exact cnA c8; done)
  |skip
   (try replace c8 := yad c8)
   refine zau ?_
   refine yab ?_
   refine hK3 _ _ ?_; try clear hK3 K3
   refine zac (fun K4 hK4 => ?_)
   refine zaB ?_
   refine zac (fun K5 hK5 => ?_)
   refine zaa ?_
   refine zah rfl ?_
   refine zaj rfl ?_
   refine zad ?_
   refine yab ?_
   refine hK5 _ _ ?_; try clear hK5 K5
   refine CW_drawO [0, 0, 0, 0, 0, 0, 0, 0, 0, 0, 0, 3] [0, 1, 2, 3, 4, 5, 6, 7, 8, 9, 10, 11] emptyHp (by kernel_rfl) (by kernel_rfl) (zaN _) ?_
   apply zat rfl (zai (by decide)) rfl
   ·intro r
    refine yaI ?_
    exact ⟨rfl, Le.refl _⟩
   refine yaj ?_
   apply zat rfl (zai (by decide)) rfl
   ·intro r
    refine yaI ?_
    exact ⟨rfl, Le.refl _⟩
   refine yaj ?_
   apply zat rfl (zai (by decide)) rfl
   ·intro r
    refine yaI ?_
    exact ⟨rfl, Le.refl _⟩
   refine yaj ?_
   apply zat rfl (zai (by decide)) rfl
   ·intro r
    refine yaJ ?_
    exact ⟨rfl, Le.refl _⟩
   refine yaj ?_
   apply zat rfl (zai (by decide)) rfl
   ·intro r
    refine yaI ?_
    exact ⟨rfl, Le.refl _⟩
   refine yaj ?_
   apply zat rfl (zai (by decide)) rfl
   ·intro r
    refine yaI ?_
    exact ⟨rfl, Le.refl _⟩
   refine yaj ?_
   apply zat rfl (zai (by decide)) rfl
   ·intro r
    simp (disch := (first | omega | decide)) only [x_bin, g_int, b_mul, wrap_i64, wrap_u64, wrap_u32, wrap_u8, eX, ↓reduceIte, Nat.reduceEqDiff]
    exact ⟨rfl, Le.refl _⟩
   refine yaj ?_
   apply zat rfl (zai (by decide)) rfl
   ·intro r
    simp (disch := (first | omega | decide)) only [x_bin, g_int, b_shr, wrap_i64, wrap_u64, wrap_u32, wrap_u8, eX, ↓reduceIte, Nat.reduceEqDiff]
    exact ⟨rfl, Le.refl _⟩
   refine yaj ?_
   apply zat rfl (zai (by decide)) rfl
   ·intro r
    refine yaK ?_
    exact ⟨rfl, Le.refl _⟩
   refine yaj ?_
   apply zat rfl (zai (by decide)) rfl
   ·intro r
    rw [zav _ _ rfl]
    exact ⟨rfl, Le.refl _⟩
   refine yaj ?_
   apply zat rfl (zai (by decide)) rfl
   ·intro r
    refine yaL ?_
    refine Lt_indexA Try.underlying30 sz5 ixA ixA ?_
    refine yax ?_
    exact ⟨rfl, Le.refl _⟩
   refine yaj ?_
   refine TW_last rfl (zas) rfl (fun K hK r => ?_)
   refine yaD ?_
   refine zaE sz5 hbA bdA plA fzA ?_
   refine yaE ?_
   refine yaf ?_
   refine hK _ _ ?_; clear hK K
   refine TW_nil ?_
   refine yab ?_
   refine hK4 _ _ ?_; try clear hK4 K4
   refine zaa ?_
   refine zab (fun K hK r => ?_)
   refine yaq ?_
   refine hK _ _ ?_; clear hK K
   refine zah rfl ?_
   refine zad ?_
   refine yab ?_
   refine ⟨6 - (k + 1), by omega, k + 1, by omega, rfl, ⟨rfl, rfl, rfl, (by first | rfl | simp [Env.get]), trivial⟩, ?_⟩
   rw [stampL_step n k (by omega), putCells_snoc]
   congr 3
   have : (List.take k (stampL n)).length = k := by simp [stampL, u8s, stampI]; omega
   rw [this]; omega
 ·first
  |(exfalso; exact cnA c8; done)
  |skip
   (try replace c8 := yad c8)
   refine CW_exit ?_
   refine yab ?_
   obtain rfl : k = 6 := by omega
   exact ⟨[], trivial, _, Le.refl _, rfl, rfl⟩
theorem yaM {p q : Prop} (h : q) (e : p = q := by simp only [x_slice, Option.map_some, Option.map_none, eX, ↓reduceIte, Nat.reduceEqDiff, Int.reduceToNat]; exact rfl) : p := e.mpr h
theorem yaN {p q : Prop} (h : q) (e : p = q := by first | (simp only [zaH, Nat.mul_one, Nat.zero_add, Int.reduceToNat, Nat.reduceSub, Nat.reduceEqDiff, ↓reduceIte]; exact rfl) | exact rfl) : p := e.mpr h
theorem yaO {p q : Prop} (h : q) (e : p = q := by simp only [x_builtin, l_len, List.map_toArray, List.map_cons, List.map_nil, i_len_slice _ _ Try.underlying80, eX, ↓reduceIte, Nat.reduceEqDiff, Int.reduceToNat]; exact rfl) : p := e.mpr h
theorem yaP {p q : Prop} (h : q) (e : p = q := by simp (disch := (first | omega | decide)) only [x_convert, c_int _ _ _ _ Try.underlying5 Try.underlying3, wrap_i64, wrap_u64, wrap_u32, wrap_u8, eX, ↓reduceIte, Nat.reduceEqDiff, Int.reduceToNat]; exact rfl) : p := e.mpr h
theorem yaQ {p q : Prop} (h : q) (e : p = q := by simp (disch := (first | omega | decide)) only [x_bin, g_int, b_mul, wrap_i64, wrap_u64, wrap_u32, wrap_u8, eX, ↓reduceIte, Nat.reduceEqDiff, Int.reduceToNat]; exact rfl) : p := e.mpr h
theorem yaR {p q : Prop} (h : q) (e : p = q := by simp (disch := (first | omega | decide)) only [x_bin, g_int, b_shl, wrap_i64, wrap_u64, wrap_u32, wrap_u8, eX, ↓reduceIte, Nat.reduceEqDiff, Int.reduceToNat]; exact rfl) : p := e.mpr h
theorem yaS {p q : Prop} (h : q) (e : p = q := by simp only [x_bin, g_int, b_or, eX, ↓reduceIte, Nat.reduceEqDiff, Int.reduceToNat]; exact rfl) : p := e.mpr h
set_option maxRecDepth 100000 in
set_option maxHeartbeats 1000000 in
theorem stamped_ok (H : Hp) (b : Nat) (L : List Int) (t : TypeId) (at_ : Nat) (hb : H b = some (.cells (u8s L).toArray t)) (hc : L.length = 64) (h1 : at_ ≤ 58) (hB : ByteL L) :
  CallH Try.prog 71 #[.pointer (some ⟨b, 0, none⟩), .int .i64 at_] H (fun v H' => v = .int .i64 (leI ((L.drop at_).take 6)) ∧ H' = H) := by
 refine zam (l := [_, _]) (rl := [.tmp 4]) (n := 29) Try.func71 rfl rfl rfl rfl rfl ?_
 refine yaa ?_
 have hB6 : ∀ k, ByteL ((L.drop at_).take k) := fun k x hx => hB x (List.mem_of_mem_drop (List.mem_of_mem_take hx))
 have hlen : ∀ k, k ≤ 6 → ((L.drop at_).take k).length = k := fun k hk => by simp; omega
 refine zac (fun K1 hK1 => ?_)
 refine zaa ?_
 refine zaj rfl ?_
 refine zad ?_
 refine yab ?_
 refine hK1 _ _ ?_; try clear hK1 K1
 refine zac (fun K2 hK2 => ?_)
 refine zaa ?_
 refine zaj rfl ?_
 refine zad ?_
 refine yab ?_
 refine hK2 _ _ ?_; try clear hK2 K2
 refine zac (fun K3 hK3 => ?_)
 refine zac (fun K4 hK4 => ?_)
 refine zaa ?_
 refine zah rfl ?_
 refine zab (fun K hK r => ?_)
 rw [zav _ _ rfl]
 refine yaj ?_
 refine hK _ _ ?_; clear hK K
 refine zah rfl ?_
 refine zah rfl ?_
 refine zab (fun K hK r => ?_)
 refine yaq ?_
 refine hK _ _ ?_; clear hK K
 refine zab (fun K hK r => ?_)
 refine yaM ?_
 refine Lt_sliceA Try.underlying30 sz5 bound_none (bound_some ixA) (bound_some ixA) bxA bxA bxA (by simp) ?_
 refine yaN ?_
 refine yaf ?_
 refine hK _ _ ?_; clear hK K
 refine zab (fun K hK r => ?_)
 refine yaO ?_
 refine hK _ _ ?_; clear hK K
 refine zah rfl ?_
 refine zad ?_
 refine yab ?_
 refine hK4 _ _ ?_; try clear hK4 K4
 refine zaB ?_
 refine CW_loop (fun m e H_ => ∃ k : Nat, k ≤ 6 ∧ m = 6 - k ∧ Env.has [(13, .slice (some ⟨b, at_, none⟩) 6 (64 - at_)), (14, .int .i64 6), (5, .int .i64 (leI ((L.drop at_).take k))), (15, .int .i64 k)] e ∧ H_ = H) (6) ?_ ?_
 ·skip
  refine ⟨0, by omega, rfl, ⟨?_, ?_, rfl, rfl, trivial⟩, rfl⟩
  rotate_left
  ·show some (Value.int _ _) = _
   congr 2; omega
  show some (Value.slice (some (if _ then _ else _)) _ _) = _
  rw [if_neg (by omega)]
  congr 2
  all_goals simp
  all_goals omega
 intro m_ e_ H_ hI_
 obtain ⟨k, hk6, rfl, he, rfl⟩ := hI_
 refine CW_env he.sub ?_; clear he e_
 refine zac (fun K5 hK5 => ?_)
 refine zaa ?_
 refine zab (fun K hK r => ?_)
 refine yac ?_
 refine hK _ _ ?_; clear hK K
 refine zad ?_
 refine yab ?_
 refine hK5 _ _ ?_; try clear hK5 K5
 refine zac (fun K6 hK6 => ?_)
 refine zar (fun r => rfl) (fun c16 => ?_) (fun c16 => ?_)
 ·first
  |(exfalso; exact cnA c16; done)
  |skip
   (try replace c16 := yad c16)
   refine zau ?_
   refine yab ?_
   refine hK6 _ _ ?_; try clear hK6 K6
   refine zac (fun K7 hK7 => ?_)
   refine zaB ?_
   refine zac (fun K8 hK8 => ?_)
   refine zaa ?_
   refine zah rfl ?_
   refine zab (fun K hK r => ?_)
   refine yaw ?_
   refine Lt_indexS Try.underlying80 sz5 ixA ixA ?_
   refine yax ?_
   refine yaf ?_
   refine hK _ _ ?_; clear hK K
   refine zab (fun K hK r => ?_)
   refine yap ?_
   refine zae Try.underlying5 rfl hbA (v := .int .u8 (L.getD (at_ + k) 0)) ?_ ?_
   ·simp only [List.getElem?_toArray, Nat.zero_add, Int.toNat_natCast]
    rw [u8s_get _ _ (by omega), List.getD_eq_getElem?_getD, List.getElem?_eq_getElem (by omega)]; rfl
   refine hK _ _ ?_; clear hK K
   refine zaj rfl ?_
   refine zaj rfl ?_
   refine zad ?_
   refine yab ?_
   refine hK8 _ _ ?_; try clear hK8 K8
   refine zaa ?_
   refine zah rfl ?_
   refine zah rfl ?_
   refine zab (fun K hK r => ?_)
   refine yaP ?_
   refine hK _ _ ?_; clear hK K
   refine zah rfl ?_
   refine zab (fun K hK r => ?_)
   refine yaQ ?_
   refine hK _ _ ?_; clear hK K
   refine zab (fun K hK r => ?_)
   refine yaR ?_
   refine hK _ _ ?_; clear hK K
   refine zab (fun K hK r => ?_)
   refine yaS ?_
   refine hK _ _ ?_; clear hK K
   refine zaj rfl ?_
   refine zad ?_
   refine yab ?_
   refine hK7 _ _ ?_; try clear hK7 K7
   refine zaa ?_
   refine zab (fun K hK r => ?_)
   refine yaq ?_
   refine hK _ _ ?_; clear hK K
   refine zah rfl ?_
   refine zad ?_
   refine yab ?_
   refine ⟨6 - (k + 1), by omega, k + 1, by omega, rfl, ⟨rfl, rfl, ?_, (by first | rfl | simp [Env.get]), trivial⟩, rfA⟩
   have e := le_step (L.drop at_) k (by omega) (by simp; omega) (fun x hx => hB x (List.mem_of_mem_drop hx))
   have e2 : (L.drop at_).getD k 0 = L.getD (at_ + k) 0 := by simp [List.getD_eq_getElem?_getD]
   rw [e2] at e
   rw [← e]; rfl
 ·first
  |(exfalso; exact cnA c16; done)
  |skip
   (try replace c16 := yad c16)
   refine CW_exit ?_
   refine yab ?_
   refine hK3 _ _ ?_; try clear hK3 K3
   refine zac (fun K9 hK9 => ?_)
   refine zaa ?_
   refine zah rfl ?_
   refine zaj rfl ?_
   refine zad ?_
   refine yab ?_
   refine hK9 _ _ ?_; try clear hK9 K9
   refine zaz ?_
   refine yab ?_
   obtain rfl : k = 6 := by omega
   exact ⟨[_], ⟨rfl, trivial⟩, _, Le.refl _, rfl, rfl⟩
theorem yaT {p q : Prop} (h : q) (e : p = q := by simp only [x_buildSlice, List.map_toArray, List.map_cons, List.map_nil, eX, ↓reduceIte, Nat.reduceEqDiff, Int.reduceToNat]; exact rfl) : p := e.mpr h
theorem yaU {p q : Prop} (h : q) (e : p = q := by simp only [List.flatMap_cons, List.flatMap_nil, Value.cells, List.append_nil, List.cons_append, List.nil_append, List.length_cons, List.length_nil, Nat.zero_add, Nat.reduceAdd]; exact rfl) : p := e.mpr h
theorem yaV {p q : Prop} (h : q) (e : p = q := by simp only [x_builtin, l_append, List.map_toArray, List.map_cons, List.map_nil, eX, ↓reduceIte, Nat.reduceEqDiff, Int.reduceToNat]; exact rfl) : p := e.mpr h
set_option maxRecDepth 100000 in
set_option maxHeartbeats 1000000 in
theorem Clone_ok (H : Hp) (a : Addr) (n cap : Nat) (l : List Int) (hv : Holds H 1 (.slice (some a) n cap) n (u8s l)) (hn : n ≤ 1000000) :
  CallH Try.prog 69 #[.slice (some a) n cap] H (fun v' H' => Le H H' ∧ ∃ rs, OwnS H' 5 1 v' n (u8s l) rs ∧ ∀ r, rs = some r → H r = none) := by
 refine zam (l := [_]) (rl := [.tmp 2]) (n := 8) Try.func69 rfl rfl rfl rfl rfl ?_
 refine yaa ?_
 obtain rfl : n = l.length := by have := hv.1; simpa using this
 refine zac (fun K1 hK1 => ?_)
 refine zaa ?_
 refine zaj rfl ?_
 refine zad ?_
 refine yab ?_
 refine hK1 _ _ ?_; try clear hK1 K1
 refine zac (fun K2 hK2 => ?_)
 refine zac (fun K3 hK3 => ?_)
 refine zaa ?_
 refine zah rfl ?_
 refine zab (fun K hK r => ?_)
 refine yan ?_
 rw [e_eql _ _ _ _ (by simp)]
 rw [zaM, q_slice_nil _ _ _ Try.underlying80]
 refine yaf ?_
 refine hK _ _ ?_; clear hK K
 refine zad ?_
 refine yab ?_
 refine hK3 _ _ ?_; try clear hK3 K3
 refine zar (fun r => rfl) (fun c4 => ?_) (fun c4 => ?_)
 ·first
  |(exfalso; exact cnA c4; done)
  |skip
   (try replace c4 := yad c4)
   refine zac (fun K4 hK4 => ?_)
   refine zaa ?_
   refine zaj rfl ?_
   refine zad ?_
   refine yab ?_
   refine hK4 _ _ ?_; try clear hK4 K4
   refine zaz ?_
   refine yab ?_
   refine ⟨[_], ⟨rfl, trivial⟩, _, Le.refl _, hg7.le (H0 := H) lhA (fun r hr => by cases hr; exact f5_H), rs7, (by show OwnS _ _ _ v7 _ _ _; simpa using ho7), fun r hr => ?_⟩
   rcases hr7 r hr with h | h
   ·cases h; exact f5_H
   ·exact zag lhA h
 ·first
  |(exfalso; exact cnA c4; done)
  |skip
   (try replace c4 := yad c4)
   refine zau ?_
   refine yab ?_
   refine hK2 _ _ ?_; try clear hK2 K2
   refine zac (fun K5 hK5 => ?_)
   refine zaa ?_
   refine zab (fun K hK r => ?_)
   refine yaT ?_
   refine zaJ (vs := []) Try.underlying80 sz5 zr5 rfl bsA (by first | decide | (simp; done)) ?_
   refine yaU ?_
   intro b5 hb5
   have f5_H : H b5 = none := zag lhA hb5
   refine yaf ?_
   refine hK _ _ ?_; clear hK K
   refine zah rfl ?_
   refine zab (fun K hK r => ?_)
   refine yaV ?_
   refine Lt_append Try.underlying80 Try.underlying80 (by simp) sz5 by5 (by decide) zr5 rfl _ (n := 0) (cs := []) (rs := some b5) (ds := u8s l) ⟨rfl, .inr ⟨b5, 0, _, rfl, hbA, Nat.le_refl _, by simp, by simp, rfl⟩⟩ (len_slice _ _ _) (fun K => ?_) (by simp) (PlainL.ints _ _) (by omega) ?_
   ·refine (first_holds (hv.le lhA) (Nat.le_refl _) K).trans ?_
    rw [Nat.mul_one, List.take_of_length_le (by have := hv.1; omega)]
   intro v7 H7 rs7 hg7 ho7 hr7
   refine hK _ _ ?_; clear hK K
   refine zaj rfl ?_
   refine zad ?_
   refine yab ?_
   refine hK5 _ _ ?_; try clear hK5 K5
   refine zaz ?_
   refine yab ?_
   refine ⟨[_], ⟨rfl, trivial⟩, _, Le.refl _, hg7.le (H0 := H) lhA (fun r hr => by cases hr; exact f5_H), rs7, (by show OwnS _ _ _ v7 _ _ _; simpa using ho7), fun r hr => ?_⟩
   rcases hr7 r hr with h | h
   ·cases h; exact f5_H
   ·exact zag lhA h
theorem seal_cells (st kd : Int) (l : List Int) (h5 : l.length ≤ 50) :
    putCells (putCells (((putCells (Array.replicate 64 (.int .u8 0)) 0 (stampL st)).setIfInBounds 6 (.int .u8 kd)).setIfInBounds 7 (.int .u8 l.length)) 8 (u8s l)) 58 (stampL st) = (u8s (sealL st kd l)).toArray := by
  have e0 : (Array.replicate 64 (Value.int .u8 0)).toList = [] ++ List.replicate 64 (Value.int .u8 0) := by simp
  have e1 := putCells_grow e0 (o := 0) rfl (stampL st) (by simp [stampL, u8s, stampI])
  have e2 := putCells_grow e1 (o := 6) (by simp [stampL, u8s, stampI]) [.int .u8 kd] (by simp [stampL, u8s, stampI])
  have e3 := putCells_grow e2 (o := 7) (by simp [stampL, u8s, stampI]) [.int .u8 l.length] (by simp [stampL, u8s, stampI])
  have e4 := putCells_grow e3 (o := 8) (by simp [stampL, u8s, stampI]) (u8s l) (by simp [stampL, u8s, stampI]; omega)
  have e5 : 64 - (stampL st).length - [Value.int .u8 kd].length - [Value.int .u8 l.length].length - (u8s l).length = (50 - l.length) + 6 := by simp [stampL, u8s, stampI]; omega
  rw [e5, ← List.replicate_append_replicate, ← List.append_assoc] at e4
  have e6 := putCells_grow e4 (o := 58) (by simp [stampL, u8s, stampI]; omega) (stampL st) (by simp [stampL, u8s, stampI])
  apply Array.ext'
  simp only [putCells] at e6 ⊢
  rw [e6]
  simp [sealL, stampL, u8s, stampI]
theorem zero_cells : (u8s zeroS).toArray = Array.replicate 64 (.int .u8 0) := by rfl
theorem yaW {p q : Prop} (h : q) (e : p = q := by simp only [x_box, Value.cells, eX, ↓reduceIte, Nat.reduceEqDiff, Int.reduceToNat]; exact rfl) : p := e.mpr h
theorem yaX {p q : Prop} (h : q) (e : p = q := by simp only [x_alloc, zr30, zay, Value.cells, eX, ↓reduceIte, Nat.reduceEqDiff, Int.reduceToNat]; exact rfl) : p := e.mpr h
theorem yaY {p q : Prop} (h : q) (e : p = q := by simp only [zao, fa89_0, zaH, Nat.reduceAdd, Nat.zero_add, eX, ↓reduceIte, Nat.reduceEqDiff, Int.reduceToNat]; exact rfl) : p := e.mpr h
theorem yaZ {p q : Prop} (h : q) (e : p = q := by simp (disch := (first | omega | decide)) only [x_bin, g_int, b_gtr, dec_lt_t, dec_lt_f, dec_le_t, dec_le_f, dec_eq_t, dec_eq_f, Bool.not_true, Bool.not_false, eX, ↓reduceIte, Nat.reduceEqDiff, Int.reduceToNat]; exact rfl) : p := e.mpr h
theorem yba {p q : Prop} (h : q) (e : p = q := by simp only [x_load, eX, ↓reduceIte, Nat.reduceEqDiff]; exact rfl) : p := e.mpr h
theorem ybb {p q : Prop} (h : q) (e : p = q := by simp only [x_slice, Option.map_some, Option.map_none, eX, ↓reduceIte, Nat.reduceEqDiff]; exact rfl) : p := e.mpr h
set_option maxRecDepth 100000 in
set_option maxHeartbeats 1000000 in
theorem Seal_ok (H : Hp) (st kd : Int) (data : Value) (l : List Int) (hd : Holds H 1 data l.length (u8s l)) :
  CallH Try.prog 36 #[.agg #[.int .i64 st, .int .i64 kd, data]] H (fun v H' => v = .tuple #[.agg (u8s (sealI st kd l)).toArray, errV (badI st kd l)] ∧ H' = H) := by
 refine zam (l := [_]) (rl := [.cell 2 30, .tmp 3]) (n := 52) Try.func36 rfl rfl rfl rfl rfl ?_
 refine yaa ?_
 obtain ⟨a, cap, rfl⟩ := hd.form
 refine zac (fun K1 hK1 => ?_)
 refine zaa ?_
 refine zab (fun K hK r => ?_)
 refine yaW ?_
 intro b1 hb1
 have f1_H : H b1 = none := zag lhA hb1
 refine yaf ?_
 refine hK _ _ ?_; clear hK K
 refine zab (fun K hK r => ?_)
 refine yaX ?_
 intro b2 hb2
 try have n2_b1 : b1 ≠ b2 := zaf hbA hb2
 have f2_H : H b2 = none := zag lhA hb2
 refine yaf ?_
 refine hK _ _ ?_; clear hK K
 refine zaj rfl ?_
 refine zad ?_
 refine yab ?_
 refine hK1 _ _ ?_; try clear hK1 K1
 refine zac (fun K2 hK2 => ?_)
 refine zaB ?_
 refine zac (fun K3 hK3 => ?_)
 refine zaa ?_
 refine zab (fun K hK r => ?_)
 refine yaY ?_
 refine hK _ _ ?_; clear hK K
 refine zab (fun K hK r => ?_)
 refine yap ?_
 refine zae Try.underlying3 rfl hbA ldA ?_
 refine yaf ?_
 refine hK _ _ ?_; clear hK K
 refine zab (fun K hK r => ?_)
 refine yac ?_
 refine hK _ _ ?_; clear hK K
 refine zah rfl ?_
 (first | refine zaA (d := 8) rfl (fun g8 => ?_) (fun g8 => ?_) | skip)
 all_goals try (exfalso; exact cnA g8)
 all_goals (try replace g8 := yad g8)
 all_goals
  refine yaf ?_
  first
  |refine yGT (fun K hK r => ?_)
   refine yaY ?_
   refine hK _ _ ?_; clear hK K
  |refine yGF ?_
   refine yaj ?_
  first
  |refine yGT (fun K hK r => ?_)
   refine yap ?_
   refine zae Try.underlying3 rfl hbA ldA ?_
   refine yaf ?_
   refine hK _ _ ?_; clear hK K
  |refine yGF ?_
   refine yaj ?_
  first
  |refine yGT (fun K hK r => ?_)
   refine yaZ ?_
   refine hK _ _ ?_; clear hK K
  |refine yGF ?_
   refine yaj ?_
  refine zab (fun K hK r => ?_)
  refine yal ?_
  refine hK _ _ ?_; clear hK K
  refine zah rfl ?_
  (first | refine zaA (d := 13) rfl (fun g13 => ?_) (fun g13 => ?_) | skip)
  all_goals try (exfalso; exact cnA g13)
  all_goals (try replace g13 := yad g13)
  all_goals
   refine yaf ?_
   first
   |refine yGT (fun K hK r => ?_)
    simp only [zao, fa89_1, zaH, Nat.reduceAdd, Nat.zero_add, eX, ↓reduceIte, Nat.reduceEqDiff, Int.reduceToNat]
    refine hK _ _ ?_; clear hK K
   |refine yGF ?_
    refine yaj ?_
   first
   |refine yGT (fun K hK r => ?_)
    refine yap ?_
    refine zae Try.underlying3 rfl hbA ldA ?_
    refine yaf ?_
    refine hK _ _ ?_; clear hK K
   |refine yGF ?_
    refine yaj ?_
   first
   |refine yGT (fun K hK r => ?_)
    refine yac ?_
    refine hK _ _ ?_; clear hK K
   |refine yGF ?_
    refine yaj ?_
   refine zab (fun K hK r => ?_)
   refine yal ?_
   refine hK _ _ ?_; clear hK K
   refine zah rfl ?_
   (first | refine zaA (d := 18) rfl (fun g18 => ?_) (fun g18 => ?_) | skip)
   all_goals try (exfalso; exact cnA g18)
   all_goals (try replace g18 := yad g18)
   all_goals
    refine yaf ?_
    first
    |refine yGT (fun K hK r => ?_)
     simp only [zao, fa89_1, zaH, Nat.reduceAdd, Nat.zero_add, eX, ↓reduceIte, Nat.reduceEqDiff, Int.reduceToNat]
     refine hK _ _ ?_; clear hK K
    |refine yGF ?_
     refine yaj ?_
    first
    |refine yGT (fun K hK r => ?_)
     refine yap ?_
     refine zae Try.underlying3 rfl hbA ldA ?_
     refine yaf ?_
     refine hK _ _ ?_; clear hK K
    |refine yGF ?_
     refine yaj ?_
    first
    |refine yGT (fun K hK r => ?_)
     refine yaZ ?_
     refine hK _ _ ?_; clear hK K
    |refine yGF ?_
     refine yaj ?_
    refine zab (fun K hK r => ?_)
    refine yal ?_
    refine hK _ _ ?_; clear hK K
    refine zaj rfl ?_
    refine zad ?_
    refine yab ?_
    refine hK3 _ _ ?_; try clear hK3 K3
    refine zar (fun r => rfl) (fun c4 => ?_) (fun c4 => ?_)
    ·first
     |(exfalso; exact cnA c4; done)
     |skip
      (try replace c4 := yad c4)
      refine zac (fun K4 hK4 => ?_)
      refine zaa ?_
      refine zab (fun K hK r => ?_)
      refine yap ?_
      first | refine zax Try.underlying30 rfl sz30 hbA bdA ?_ | refine zaq Try.underlying30 rfl sz30 hbA bdA ?_
      refine yaf ?_
      refine hK _ _ ?_; clear hK K
      refine zab (fun K hK r => ?_)
      refine yaF ?_
      refine hK _ _ ?_; clear hK K
      refine zaI rfl (zas) (fun K hK r => ?_)
      refine yaD ?_
      first | refine zak sz30 bdA hbA bdA plA (by decide) ?_ | refine zal sz30 bdA hbA bdA plA (by decide) ?_
      refine yaf ?_
      refine hK _ _ ?_; clear hK K
      refine zaj rfl ?_
      refine zad ?_
      refine yab ?_
      refine hK4 _ _ ?_; try clear hK4 K4
      refine zaz ?_
      refine yab ?_
      first
      |(have hb : badI st kd l = none := by simp only [badI]; rw [if_neg (by omega), if_neg (by omega)]
        refine ⟨[_, _], ⟨⟨_, rfl, zaC Try.underlying30 rfl sz30 hbA bdA⟩, rfl, trivial⟩, H, lhA, ?_, rfl⟩
        show Value.tuple #[_, _] = _
        rw [seal_cells st kd l (by omega), sealI, hb]; rfl)
      |(have hb : badI st kd l = some 2 := by simp only [badI]; rw [if_neg (by omega), if_pos (by omega)]
        refine ⟨[_, _], ⟨⟨_, rfl, zaC Try.underlying30 rfl sz30 hbA bdA⟩, rfl, trivial⟩, H, lhA, ?_, rfl⟩
        show Value.tuple #[_, _] = _
        rw [sealI, hb]; simp only [zero_cells]; rfl)
      |(have hb : badI st kd l = some 1 := by simp only [badI]; rw [if_pos (by omega)]
        refine ⟨[_, _], ⟨⟨_, rfl, zaC Try.underlying30 rfl sz30 hbA bdA⟩, rfl, trivial⟩, H, lhA, ?_, rfl⟩
        show Value.tuple #[_, _] = _
        rw [sealI, hb]; simp only [zero_cells]; rfl)
      |skip
    ·first
     |(exfalso; exact cnA c4; done)
     |skip
      (try replace c4 := yad c4)
      refine zac (fun K5 hK5 => ?_)
      refine zaa ?_
      refine zab (fun K hK r => ?_)
      simp only [zao, fa89_2, zaH, Nat.reduceAdd, Nat.zero_add, eX, ↓reduceIte, Nat.reduceEqDiff, Int.reduceToNat]
      refine hK _ _ ?_; clear hK K
      refine zab (fun K hK r => ?_)
      refine yap ?_
      refine zae Try.underlying80 rfl hbA ldA ?_
      refine yaf ?_
      refine hK _ _ ?_; clear hK K
      refine zab (fun K hK r => ?_)
      refine yaO ?_
      refine hK _ _ ?_; clear hK K
      refine zab (fun K hK r => ?_)
      refine yaZ ?_
      refine hK _ _ ?_; clear hK K
      refine zaj rfl ?_
      refine zad ?_
      refine yab ?_
      refine hK5 _ _ ?_; try clear hK5 K5
      refine zar (fun r => rfl) (fun c25 => ?_) (fun c25 => ?_)
      ·first
       |(exfalso; exact cnA c25; done)
       |skip
        (try replace c25 := yad c25)
        refine zac (fun K6 hK6 => ?_)
        refine zaa ?_
        refine zab (fun K hK r => ?_)
        refine yap ?_
        first | refine zax Try.underlying30 rfl sz30 hbA bdA ?_ | refine zaq Try.underlying30 rfl sz30 hbA bdA ?_
        refine yaf ?_
        refine hK _ _ ?_; clear hK K
        refine zab (fun K hK r => ?_)
        refine yaF ?_
        refine hK _ _ ?_; clear hK K
        refine zaI rfl (zas) (fun K hK r => ?_)
        refine yaD ?_
        first | refine zak sz30 bdA hbA bdA plA (by decide) ?_ | refine zal sz30 bdA hbA bdA plA (by decide) ?_
        refine yaf ?_
        refine hK _ _ ?_; clear hK K
        refine zaj rfl ?_
        refine zad ?_
        refine yab ?_
        refine hK6 _ _ ?_; try clear hK6 K6
        refine zaz ?_
        refine yab ?_
        first
        |(have hb : badI st kd l = none := by simp only [badI]; rw [if_neg (by omega), if_neg (by omega)]
          refine ⟨[_, _], ⟨⟨_, rfl, zaC Try.underlying30 rfl sz30 hbA bdA⟩, rfl, trivial⟩, H, lhA, ?_, rfl⟩
          show Value.tuple #[_, _] = _
          rw [seal_cells st kd l (by omega), sealI, hb]; rfl)
        |(have hb : badI st kd l = some 2 := by simp only [badI]; rw [if_neg (by omega), if_pos (by omega)]
          refine ⟨[_, _], ⟨⟨_, rfl, zaC Try.underlying30 rfl sz30 hbA bdA⟩, rfl, trivial⟩, H, lhA, ?_, rfl⟩
          show Value.tuple #[_, _] = _
          rw [sealI, hb]; simp only [zero_cells]; rfl)
        |(have hb : badI st kd l = some 1 := by simp only [badI]; rw [if_pos (by omega)]
          refine ⟨[_, _], ⟨⟨_, rfl, zaC Try.underlying30 rfl sz30 hbA bdA⟩, rfl, trivial⟩, H, lhA, ?_, rfl⟩
          show Value.tuple #[_, _] = _
          rw [sealI, hb]; simp only [zero_cells]; rfl)
        |skip
      ·first
       |(exfalso; exact cnA c25; done)
       |skip
        (try replace c25 := yad c25)
        refine zau ?_
        refine yab ?_
        refine hK2 _ _ ?_; try clear hK2 K2
        refine zac (fun K7 hK7 => ?_)
        refine zaa ?_
        refine zab (fun K hK r => ?_)
        refine yaY ?_
        refine hK _ _ ?_; clear hK K
        refine zab (fun K hK r => ?_)
        refine yap ?_
        refine zae Try.underlying3 rfl hbA ldA ?_
        refine yaf ?_
        refine hK _ _ ?_; clear hK K
        refine zab (fun K hK r => ?_)
        simp only [zaF _ bd68, List.map_toArray, List.map_cons, List.map_nil, eX, ↓reduceIte, Nat.reduceEqDiff, Int.reduceToNat]
        refine (stamp_ok _ _ _ _ _ _ hbA (by simp) (by omega) (by omega)).mono ?_
        rintro v H' ⟨rfl, rfl⟩
        refine yaf ?_
        refine hK _ _ ?_; clear hK K
        refine zad ?_
        refine yab ?_
        refine hK7 _ _ ?_; try clear hK7 K7
        refine zac (fun K8 hK8 => ?_)
        obtain ⟨R6, hR6⟩ : ∃ R : Hp, R = H.upd b1 (.cells #[.int .i64 st, .int .i64 kd, .slice a l.length cap] 89) := ⟨_, rfl⟩
        refine CW_drawR [0, 1, 0, 0, 1, 0, 0, 0, 2, 0, 3] [0, 1, 2, 3, 4, 5, 6, 7, 8, 9, 10] R6 (by kernel_rfl) (by kernel_rfl) (by subst hR6; exact leA) (fun lR6 => ?_)
        apply zat rfl (zai (by decide)) rfl
        ·intro r
         simp only [zao, fa89_1, zaH, Nat.reduceAdd, Nat.zero_add, eX, ↓reduceIte, Nat.reduceEqDiff]
         exact ⟨rfl, Le.refl _⟩
        refine yaj ?_
        apply zaO rfl (zai (by decide)) rfl
        ·intro r
         refine yba ?_
         refine zae Try.underlying3 rfl hbA ldA ?_
         exact ⟨rfl, Le.refl _⟩
        refine yaj ?_
        apply zat rfl (zai (by decide)) rfl
        ·intro r
         refine yaK ?_
         exact ⟨rfl, Le.refl _⟩
        refine yaj ?_
        apply zat rfl (zai (by decide)) rfl
        ·intro r
         simp only [zao, fa89_2, zaH, Nat.reduceAdd, Nat.zero_add, eX, ↓reduceIte, Nat.reduceEqDiff]
         exact ⟨rfl, Le.refl _⟩
        refine yaj ?_
        apply zaO rfl (zai (by decide)) rfl
        ·intro r
         refine yba ?_
         refine zae Try.underlying80 rfl hbA ldA ?_
         exact ⟨rfl, Le.refl _⟩
        refine yaj ?_
        apply zat rfl (zai (by decide)) rfl
        ·intro r
         simp only [x_builtin, l_len, List.map_toArray, List.map_cons, List.map_nil, i_len_slice _ _ Try.underlying80, eX, ↓reduceIte, Nat.reduceEqDiff]
         exact ⟨rfl, Le.refl _⟩
        refine yaj ?_
        apply zat rfl (zai (by decide)) rfl
        ·intro r
         refine yaK ?_
         exact ⟨rfl, Le.refl _⟩
        refine yaj ?_
        apply zat rfl (zai (by decide)) rfl
        ·intro r
         refine yaL ?_
         refine Lt_indexA Try.underlying30 sz5 ixA ixA ?_
         refine yax ?_
         exact ⟨rfl, Le.refl _⟩
        refine yaj ?_
        refine TW_chain rfl (zas) rfl (fun K hK r => ?_)
        refine yaD ?_
        refine zaE sz5 hbA bdA plA fzA ?_
        refine yaE ?_
        refine yaf ?_
        refine hK _ _ leA ?_; clear hK K
        apply zat rfl (zai (by decide)) rfl
        ·intro r
         refine yaL ?_
         refine Lt_indexA Try.underlying30 sz5 ixA ixA ?_
         refine yax ?_
         exact ⟨rfl, Le.refl _⟩
        refine yaj ?_
        refine TW_last rfl (zas) rfl (fun K hK r => ?_)
        refine yaD ?_
        refine zaE sz5 hbA bdA plA fzA ?_
        refine yaE ?_
        refine yaf ?_
        refine hK _ _ ?_; clear hK K
        refine TW_nil ?_
        refine yab ?_
        refine hK8 _ _ ?_; try clear hK8 K8
        refine zac (fun K9 hK9 => ?_)
        obtain ⟨R7, hR7⟩ : ∃ R : Hp, R = H.upd b1 (.cells #[.int .i64 st, .int .i64 kd, .slice a l.length cap] 89) := ⟨_, rfl⟩
        refine CW_drawR [0, 0, 1, 3] [0, 1, 2, 3] R7 (by kernel_rfl) (by kernel_rfl) (by subst hR7; exact leA) (fun lR7 => ?_)
        apply zat rfl (zai (by decide)) rfl
        ·intro r
         refine ybb ?_
         refine Lt_sliceA Try.underlying30 sz5 bound_none bound_none (bound_some ixA) bxA bxA bxA (by simp) ?_
         refine yaN ?_
         exact ⟨rfl, Le.refl _⟩
        refine yaj ?_
        apply zat rfl (zai (by decide)) rfl
        ·intro r
         simp only [zao, fa89_2, zaH, Nat.reduceAdd, Nat.zero_add, eX, ↓reduceIte, Nat.reduceEqDiff]
         exact ⟨rfl, Le.refl _⟩
        refine yaj ?_
        apply zaO rfl (zai (by decide)) rfl
        ·intro r
         refine yba ?_
         refine zae Try.underlying80 rfl hbA ldA ?_
         exact ⟨rfl, Le.refl _⟩
        refine yaj ?_
        refine TW_last rfl (zai (by decide)) rfl (fun K hK r => ?_)
        simp only [x_builtin, l_copy, List.map_toArray, List.map_cons, List.map_nil, eX, ↓reduceIte, Nat.reduceEqDiff, Int.reduceToNat]
        have hmin : Nat.min l.length 56 = l.length := Nat.min_eq_left (by omega)
        refine Lt_copy (w := 1) (cs := u8s l) Try.underlying80 sz5 _ hbA bdA (len_slice _ _ _) (fun K => ?_) (by rw [hmin]; simp [u8s]) (PlainL.ints _ _) (by decide) ?_
        ·rw [hmin]
         refine (first_holds (hd.le lhA) (Nat.le_refl _) K).trans ?_
         rw [Nat.mul_one, List.take_of_length_le (by simp [u8s])]
        refine hK _ _ ?_; clear hK K
        refine TW_nil ?_
        refine yab ?_
        refine hK9 _ _ ?_; try clear hK9 K9
        refine zac (fun K10 hK10 => ?_)
        refine zaa ?_
        refine zab (fun K hK r => ?_)
        refine yaY ?_
        refine hK _ _ ?_; clear hK K
        refine zab (fun K hK r => ?_)
        refine yap ?_
        refine zae Try.underlying3 rfl hbA ldA ?_
        refine yaf ?_
        refine hK _ _ ?_; clear hK K
        refine zab (fun K hK r => ?_)
        simp only [zaF _ bd68, List.map_toArray, List.map_cons, List.map_nil, eX, ↓reduceIte, Nat.reduceEqDiff, Int.reduceToNat]
        refine (stamp_ok _ _ _ _ _ _ hbA (by simp) (by omega) (by omega)).mono ?_
        rintro v H' ⟨rfl, rfl⟩
        refine yaf ?_
        refine hK _ _ ?_; clear hK K
        refine zad ?_
        refine yab ?_
        refine hK10 _ _ ?_; try clear hK10 K10
        refine zac (fun K11 hK11 => ?_)
        refine zaa ?_
        refine zab (fun K hK r => ?_)
        refine yap ?_
        first | refine zax Try.underlying30 rfl sz30 hbA bdA ?_ | refine zaq Try.underlying30 rfl sz30 hbA bdA ?_
        refine yaf ?_
        refine hK _ _ ?_; clear hK K
        refine zaI rfl (zas) (fun K hK r => ?_)
        refine yaD ?_
        first | refine zak sz30 bdA hbA bdA plA (by decide) ?_ | refine zal sz30 bdA hbA bdA plA (by decide) ?_
        refine yaf ?_
        refine hK _ _ ?_; clear hK K
        refine zaj rfl ?_
        refine zad ?_
        refine yab ?_
        refine hK11 _ _ ?_; try clear hK11 K11
        refine zaz ?_
        refine yab ?_
        first
        |(have hb : badI st kd l = none := by simp only [badI]; rw [if_neg (by omega), if_neg (by omega)]
          refine ⟨[_, _], ⟨⟨_, rfl, zaC Try.underlying30 rfl sz30 hbA bdA⟩, rfl, trivial⟩, H, lhA, ?_, rfl⟩
          show Value.tuple #[_, _] = _
          rw [seal_cells st kd l (by omega), sealI, hb]; rfl)
        |(have hb : badI st kd l = some 2 := by simp only [badI]; rw [if_neg (by omega), if_pos (by omega)]
          refine ⟨[_, _], ⟨⟨_, rfl, zaC Try.underlying30 rfl sz30 hbA bdA⟩, rfl, trivial⟩, H, lhA, ?_, rfl⟩
          show Value.tuple #[_, _] = _
          rw [sealI, hb]; simp only [zero_cells]; rfl)
        |(have hb : badI st kd l = some 1 := by simp only [badI]; rw [if_pos (by omega)]
          refine ⟨[_, _], ⟨⟨_, rfl, zaC Try.underlying30 rfl sz30 hbA bdA⟩, rfl, trivial⟩, H, lhA, ?_, rfl⟩
          show Value.tuple #[_, _] = _
          rw [sealI, hb]; simp only [zero_cells]; rfl)
        |skip
end Go.Proofs.Ytigofhhonnbkmaa.HL
end
section
namespace Go.Proofs.Ytigofhhonnbkmaa.HL
open Go Go.Proofs
set_option linter.unusedSimpArgs false
set_option linter.unusedVariables false
attribute [local irreducible] Lt Lq CW OW TW CallH
theorem ybc {p q : Prop} (h : q) (e : p = q := by simp only [x_alloc, zr89, zay, Value.cells, eX, ↓reduceIte, Nat.reduceEqDiff, Int.reduceToNat]; exact rfl) : p := e.mpr h
theorem ybd {p q : Prop} (h : q) (e : p = q := by simp only [zaF _ bd71, List.map_toArray, List.map_cons, List.map_nil, eX, ↓reduceIte, Nat.reduceEqDiff, Int.reduceToNat]; exact rfl) : p := e.mpr h
theorem ybe {p q : Prop} (h : q) (e : p = q := by simp only [fill_nil, zay, List.setIfInBounds_toArray, List.set_cons_zero, List.set_cons_succ]; exact rfl) : p := e.mpr h
theorem ybf {p q : Prop} (h : q) (e : p = q := by simp only [zaF _ bd69, List.map_toArray, List.map_cons, List.map_nil, eX, ↓reduceIte, Nat.reduceEqDiff, Int.reduceToNat]; exact rfl) : p := e.mpr h
theorem ybg {p q : Prop} (h : q) (e : p = q := by first | (simp only [List.extract_toArray, List.extract_eq_take_drop, Nat.zero_add, Nat.reduceAdd, Nat.reduceSub, Nat.sub_zero, List.drop_succ_cons, List.drop_zero, List.take_succ_cons, List.take_zero, List.take_nil, List.drop_nil]; exact rfl) | exact rfl) : p := e.mpr h
theorem ybh {p q : Prop} (h : q) (e : p = q := by simp only [x_bin, g_agg _ _ _ _ _ _ eqg30, eX, ↓reduceIte, Nat.reduceEqDiff, Int.reduceToNat]; exact rfl) : p := e.mpr h
set_option maxRecDepth 100000 in
set_option maxHeartbeats 1000000 in
theorem Open_ok (H : Hp) (L : List Int) (hc : L.length = 64) (hB : ByteL L) :
  CallH Try.prog 42 #[.agg (u8s L).toArray] H (fun v H' => Le H H' ∧ ((openI L = none ∧ v = .tuple #[.agg #[.int .i64 0, .int .i64 0, .slice none 0 0], errV (some 9)]) ∨
   ∃ st kd d x rs, openI L = some (st, kd, d) ∧ v = .tuple #[.agg #[.int .i64 st, .int .i64 kd, x], errV none] ∧ OwnS H' 5 1 x d.length (u8s d) rs ∧ ∀ r, rs = some r → H r = none)) := by
 refine zam (l := [_]) (rl := [.cell 2 89, .tmp 3]) (n := 44) Try.func42 rfl rfl rfl rfl rfl ?_
 refine yaa ?_
 have hsl : (sealI (stOf L) (kdOf L) (dtOf L)).length = 64 := sealI_len _ _ _
 have h7 : 0 ≤ L.getD 7 0 ∧ L.getD 7 0 ≤ 255 := getD_byte hB 7
 have h6 : 0 ≤ L.getD 6 0 ∧ L.getD 6 0 ≤ 255 := getD_byte hB 6
 refine zac (fun K1 hK1 => ?_)
 refine zaa ?_
 refine zab (fun K hK r => ?_)
 refine yaW ?_
 intro b1 hb1
 have f1_H : H b1 = none := zag lhA hb1
 refine yaf ?_
 refine hK _ _ ?_; clear hK K
 refine zab (fun K hK r => ?_)
 refine ybc ?_
 intro b2 hb2
 try have n2_b1 : b1 ≠ b2 := zaf hbA hb2
 have f2_H : H b2 = none := zag lhA hb2
 refine yaf ?_
 refine hK _ _ ?_; clear hK K
 refine zaj rfl ?_
 refine zad ?_
 refine yab ?_
 refine hK1 _ _ ?_; try clear hK1 K1
 refine zac (fun K2 hK2 => ?_)
 refine zaa ?_
 refine zab (fun K hK r => ?_)
 refine yaw ?_
 refine Lt_indexA Try.underlying30 sz5 ixA ixA ?_
 refine yax ?_
 refine yaf ?_
 refine hK _ _ ?_; clear hK K
 refine zab (fun K hK r => ?_)
 refine yap ?_
 refine zae Try.underlying5 rfl hbA (v := .int .u8 (L.getD 7 0)) (u8s_at L 7 (by omega)) ?_
 refine hK _ _ ?_; clear hK K
 refine zab (fun K hK r => ?_)
 refine yaP ?_
 refine hK _ _ ?_; clear hK K
 refine zaj rfl ?_
 refine zad ?_
 refine yab ?_
 refine hK2 _ _ ?_; try clear hK2 K2
 refine zac (fun K3 hK3 => ?_)
 refine zac (fun K4 hK4 => ?_)
 refine zaa ?_
 refine zab (fun K hK r => ?_)
 refine ybd ?_
 refine (stamped_ok _ _ L _ 0 hbA hc (by omega) hB).mono ?_
 rintro v H' ⟨rfl, rfl⟩
 refine yaf ?_
 refine hK _ _ ?_; clear hK K
 refine zab (fun K hK r => ?_)
 refine ybd ?_
 refine (stamped_ok _ _ L _ 58 hbA hc (by omega) hB).mono ?_
 rintro v H' ⟨rfl, rfl⟩
 refine yaf ?_
 refine hK _ _ ?_; clear hK K
 refine zab (fun K hK r => ?_)
 refine yak ?_
 refine hK _ _ ?_; clear hK K
 refine zah rfl ?_
 (first | refine zaA (d := 14) rfl (fun g14 => ?_) (fun g14 => ?_) | skip)
 all_goals try (exfalso; exact cnA g14)
 all_goals (try replace g14 := yad g14)
 all_goals
  refine yaf ?_
  first
  |refine yGT (fun K hK r => ?_)
   refine yai ?_
   refine hK _ _ ?_; clear hK K
  |refine yGF ?_
   refine yaj ?_
  first
  |refine yGT (fun K hK r => ?_)
   refine yaZ ?_
   refine hK _ _ ?_; clear hK K
  |refine yGF ?_
   refine yaj ?_
  refine zab (fun K hK r => ?_)
  refine yal ?_
  refine hK _ _ ?_; clear hK K
  refine zad ?_
  refine yab ?_
  refine hK4 _ _ ?_; try clear hK4 K4
  refine zar (fun r => rfl) (fun c17 => ?_) (fun c17 => ?_)
  ·first
   |(exfalso; exact cnA c17; done)
   |skip
    (try replace c17 := yad c17)
    refine zac (fun K5 hK5 => ?_)
    refine zaa ?_
    refine zab (fun K hK r => ?_)
    simp only [x_build, bp89, List.map_toArray, List.map_cons, List.map_nil, eX, ↓reduceIte, Nat.reduceEqDiff, Int.reduceToNat]
    refine ybe ?_
    refine yaf ?_
    refine hK _ _ ?_; clear hK K
    refine zab (fun K hK r => ?_)
    refine yaF ?_
    refine hK _ _ ?_; clear hK K
    refine zaI rfl (zas) (fun K hK r => ?_)
    refine yaD ?_
    first | refine zak sz89 bdA hbA bdA plA (by decide) ?_ | refine zal sz89 bdA hbA bdA plA (by decide) ?_
    refine yaf ?_
    refine hK _ _ ?_; clear hK K
    refine zaj rfl ?_
    refine zad ?_
    refine yab ?_
    refine hK5 _ _ ?_; try clear hK5 K5
    refine zaz ?_
    refine yab ?_
    refine ⟨[_, _], ⟨⟨_, rfl, zaC Try.underlying89 rfl sz89 hbA bdA⟩, rfl, trivial⟩, H, lhA, Le.refl _, .inl ⟨?_, rfl⟩⟩
    simp only [List.drop_zero] at *
    rw [openI, if_neg]; rw [good_iff]; rintro ⟨h1, h2, _⟩
    simp only [stOf, tailOf, szS] at h1 h2
    first | omega | exact absurd h1 (by assumption)
  ·first
   |(exfalso; exact cnA c17; done)
   |skip
    (try replace c17 := yad c17)
    refine zau ?_
    refine yab ?_
    refine hK3 _ _ ?_; try clear hK3 K3
    refine zac (fun K6 hK6 => ?_)
    refine CW_drawE [2, 0, 1, 0, 0, 0, 0, 2, 0, 4, 3] [0, 1, 2, 3, 4, 5, 6, 7, 8, 9, 10] (by kernel_rfl) (by kernel_rfl) (fun R4 hR4 => ?_)
    refine TW_chain rfl (zai (by decide)) rfl (fun K hK r => ?_)
    refine ybd ?_
    refine (stamped_ok _ _ L _ 0 hbA hc (by omega) hB).mono ?_
    rintro v H' ⟨rfl, rfl⟩
    refine yaf ?_
    refine hK _ _ leA ?_; clear hK K
    apply zat rfl (zai (by decide)) rfl
    ·intro r
     refine yaL ?_
     refine Lt_indexA Try.underlying30 sz5 ixA ixA ?_
     refine yax ?_
     exact ⟨rfl, Le.refl _⟩
    refine yaj ?_
    apply zaO rfl (zai (by decide)) rfl
    ·intro r
     refine yba ?_
     refine zae Try.underlying5 rfl hbA (v := .int .u8 (L.getD 6 0)) (u8s_at L 6 (by omega)) ?_
     exact ⟨rfl, Le.refl _⟩
    refine yaj ?_
    apply zat rfl (zai (by decide)) rfl
    ·intro r
     simp (disch := (first | omega | decide)) only [x_convert, c_int _ _ _ _ Try.underlying5 Try.underlying3, wrap_i64, wrap_u64, wrap_u32, wrap_u8, eX, ↓reduceIte, Nat.reduceEqDiff]
     exact ⟨rfl, Le.refl _⟩
    refine yaj ?_
    apply zat rfl (zai (by decide)) rfl
    ·intro r
     refine yaI ?_
     exact ⟨rfl, Le.refl _⟩
    refine yaj ?_
    apply zat rfl (zai (by decide)) rfl
    ·intro r
     refine yaJ ?_
     exact ⟨rfl, Le.refl _⟩
    refine yaj ?_
    apply zat rfl (zai (by decide)) rfl
    ·intro r
     refine ybb ?_
     refine Lt_sliceA Try.underlying30 sz5 bound_none (bound_some ixA) (bound_some ixA) bxA bxA bxA (by simp) ?_
     refine yaN ?_
     exact ⟨rfl, Le.refl _⟩
    refine yaj ?_
    refine TW_chain rfl (zai (by decide)) rfl (fun K hK r => ?_)
    refine ybf ?_
    refine (Clone_ok (l := dtOf L) _ _ _ _ ?_ (by omega)).mono ?_
    ·have e27 : (8 + L.getD 7 0).toNat - 8 = (L.getD 7 0).toNat := by omega
     have l27 : (dtOf L).length = (L.getD 7 0).toNat := dtOf_len hc (by show L.getD 7 0 ≤ 50; omega)
     rw [e27]
     refine ⟨by simp [l27], .inr ⟨b1, 8, _, _, _, _, rfl, hbA, (by rw [Nat.mul_one]; simp only [List.size_toArray, List.length_map]; omega), ?_⟩⟩
     simp only [Array.toList_extract, List.extract_eq_take_drop, Nat.mul_one, Nat.add_sub_cancel_left, dtOf, u8s, List.map_take, List.map_drop]; rfl
    rintro v27 H27 ⟨hl27, rs27, ho27, hr27⟩
    have e27 : (8 + L.getD 7 0).toNat - 8 = (dtOf L).length := by
     rw [dtOf_len hc (by show L.getD 7 0 ≤ 50; omega)]; show _ = (L.getD 7 0).toNat; omega
    rw [e27] at ho27
    obtain ⟨a27, c27, rfl⟩ := ho27.holds.form
    try have kH27_b1 := hl27 b1 _ hbA
    try have kH27_b2 := hl27 b2 _ hbA
    have lH27_H : Le H H27 := Le.trans lhA hl27
    have lH27_R4 : Le R4 H27 := Le.trans lhA hl27
    refine yaf ?_
    refine hK _ _ leA ?_; clear hK K
    apply zat rfl (zai (by decide)) rfl
    ·intro r
     simp only [x_build, bp89, List.map_toArray, List.map_cons, List.map_nil, eX, ↓reduceIte, Nat.reduceEqDiff]
     rw [fill_one rfl clA bdA]
     rw [fill_one rfl clA bdA]
     rw [fill_one rfl clA bdA]
     refine ybe ?_
     exact ⟨rfl, Le.refl _⟩
    refine yaj ?_
    refine TW_make rfl (zai (by decide)) rfl (fun K hK r => ?_)
    refine ybc ?_
    intro b5 hb5
    try have n5_b1 : b1 ≠ b5 := zaf hbA hb5
    try have n5_b2 : b2 ≠ b5 := zaf hbA hb5
    have f5_H : H b5 = none := zag lhA hb5
    have f5_R4 : R4 b5 = none := zag lhA hb5
    refine yaf ?_
    refine hK _ _ ?_; clear hK K
    refine TW_last rfl (zas) rfl (fun K hK r => ?_)
    refine yaD ?_
    first | refine zak sz89 bdA hbA bdA plA (by decide) ?_ | refine zal sz89 bdA hbA bdA plA (by decide) ?_
    refine yaf ?_
    refine hK _ _ ?_; clear hK K
    refine TW_nil ?_
    refine yab ?_
    refine hK6 _ _ ?_; try clear hK6 K6
    refine zac (fun K7 hK7 => ?_)
    refine zac (fun K8 hK8 => ?_)
    refine zaa ?_
    refine zab (fun K hK r => ?_)
    refine yap ?_
    first | refine zax Try.underlying89 rfl sz89 hbA bdA ?_ | refine zaq Try.underlying89 rfl sz89 hbA bdA ?_
    refine ybg ?_
    refine yaf ?_
    refine hK _ _ ?_; clear hK K
    refine zab (fun K hK r => ?_)
    simp only [zaF _ bd36, List.map_toArray, List.map_cons, List.map_nil, eX, ↓reduceIte, Nat.reduceEqDiff, Int.reduceToNat]
    refine (Seal_ok _ (stOf L) (kdOf L) _ (dtOf L) (ho27.holds.le lhA)).mono ?_
    rintro v H' ⟨rfl, rfl⟩
    refine yaf ?_
    refine hK _ _ ?_; clear hK K
    refine zah rfl ?_
    refine zab (fun K hK r => ?_)
    refine yah ?_
    refine hK _ _ ?_; clear hK K
    refine zab (fun K hK r => ?_)
    refine yah ?_
    refine hK _ _ ?_; clear hK K
    refine zab (fun K hK r => ?_)
    refine yaX ?_
    intro b6 hb6
    try have n6_b1 : b1 ≠ b6 := zaf hbA hb6
    try have n6_b2 : b2 ≠ b6 := zaf hbA hb6
    try have n6_b5 : b5 ≠ b6 := zaf hbA hb6
    have f6_H : H b6 = none := zag lhA hb6
    have f6_R4 : R4 b6 = none := zag lhA hb6
    refine yaf ?_
    refine hK _ _ ?_; clear hK K
    refine zaI rfl (zas) (fun K hK r => ?_)
    refine yaD ?_
    first | refine zak sz30 bdA hbA bdA plA (by decide) ?_ | refine zal sz30 bdA hbA bdA plA (by decide) ?_
    refine yaf ?_
    refine hK _ _ ?_; clear hK K
    refine zaj rfl ?_
    refine zad ?_
    refine yab ?_
    refine hK8 _ _ ?_; try clear hK8 K8
    refine zac (fun K9 hK9 => ?_)
    refine zaa ?_
    refine zah rfl ?_
    refine zab (fun K hK r => ?_)
    refine yae ?_
    first | rw [b_err_neq _ _ Try.underlying32] | (rw [e_neq _ _ _ _ (by simp), zaM]; first | rw [q_iface_nil _ _ _ Try.underlying32] | rw [q_nil_iface _ _ _ Try.underlying32] | rw [q_nil_nil _ _ _ Try.underlying32])
    refine yaf ?_
    refine hK _ _ ?_; clear hK K
    refine zah rfl ?_
    (first | refine zaA (d := 36) rfl (fun g36 => ?_) (fun g36 => ?_) | skip)
    all_goals try (exfalso; exact cnA g36)
    all_goals (try replace g36 := yad g36)
    all_goals
     refine yaf ?_
     first
     |refine yGT (fun K hK r => ?_)
      refine yap ?_
      first | refine zax Try.underlying30 rfl sz30 hbA bdA ?_ | refine zaq Try.underlying30 rfl sz30 hbA bdA ?_
      refine yaf ?_
      refine hK _ _ ?_; clear hK K
     |refine yGF ?_
      refine yaj ?_
     first
     |refine yGT (fun K hK r => ?_)
      refine yap ?_
      first | refine zax Try.underlying30 rfl sz30 hbA bdA ?_ | refine zaq Try.underlying30 rfl sz30 hbA bdA ?_
      refine yaf ?_
      refine hK _ _ ?_; clear hK K
     |refine yGF ?_
      refine yaj ?_
     first
     |refine yGT (fun K hK r => ?_)
      refine ybh ?_
      rw [e_neq _ _ _ _ (by simp)]
      rw [zaM, q_array 9999 30 5 64 Try.underlying30 _ Try.underlying5 sz5 (fun x y K => q_int 9998 5 _ Try.underlying5 _ x y K) _ _ bdA bdA]
      refine yaf ?_
      refine hK _ _ ?_; clear hK K
     |refine yGF ?_
      refine yaj ?_
     refine zab (fun K hK r => ?_)
     refine yal ?_
     refine hK _ _ ?_; clear hK K
     refine zad ?_
     refine yab ?_
     refine hK9 _ _ ?_; try clear hK9 K9
     refine zar (fun r => rfl) (fun c40 => ?_) (fun c40 => ?_)
     ·first
      |(exfalso; exact cnA c40; done)
      |skip
       (try replace c40 := yad c40)
       refine zac (fun K10 hK10 => ?_)
       refine zaa ?_
       refine zab (fun K hK r => ?_)
       simp only [x_build, bp89, List.map_toArray, List.map_cons, List.map_nil, eX, ↓reduceIte, Nat.reduceEqDiff, Int.reduceToNat]
       refine ybe ?_
       refine yaf ?_
       refine hK _ _ ?_; clear hK K
       refine zab (fun K hK r => ?_)
       refine yaF ?_
       refine hK _ _ ?_; clear hK K
       refine zaI rfl (zas) (fun K hK r => ?_)
       refine yaD ?_
       first | refine zak sz89 bdA hbA bdA plA (by decide) ?_ | refine zal sz89 bdA hbA bdA plA (by decide) ?_
       refine yaf ?_
       refine hK _ _ ?_; clear hK K
       refine zaj rfl ?_
       refine zad ?_
       refine yab ?_
       refine hK10 _ _ ?_; try clear hK10 K10
       refine zaz ?_
       refine yab ?_
       refine ⟨[_, _], ⟨⟨_, rfl, zaC Try.underlying89 rfl sz89 hbA bdA⟩, rfl, trivial⟩, H, lhA, Le.refl _, .inl ⟨?_, rfl⟩⟩
       first | exact open_none_bad (by assumption) | exact open_none_ne (by assumption)
     ·first
      |(exfalso; exact cnA c40; done)
      |skip
       (try replace c40 := yad c40)
       refine zau ?_
       refine yab ?_
       refine hK7 _ _ ?_; try clear hK7 K7
       refine zac (fun K11 hK11 => ?_)
       refine zaa ?_
       refine zab (fun K hK r => ?_)
       refine yap ?_
       first | refine zax Try.underlying89 rfl sz89 hbA bdA ?_ | refine zaq Try.underlying89 rfl sz89 hbA bdA ?_
       refine ybg ?_
       refine yaf ?_
       refine hK _ _ ?_; clear hK K
       refine zaI rfl (zas) (fun K hK r => ?_)
       refine yaD ?_
       first | refine zak sz89 bdA hbA bdA plA (by decide) ?_ | refine zal sz89 bdA hbA bdA plA (by decide) ?_
       refine yaf ?_
       refine hK _ _ ?_; clear hK K
       refine zaj rfl ?_
       refine zad ?_
       refine yab ?_
       refine hK11 _ _ ?_; try clear hK11 K11
       refine zaz ?_
       refine yab ?_
       refine ⟨[_, _], ⟨⟨_, rfl, zaC Try.underlying89 rfl sz89 hbA bdA⟩, rfl, trivial⟩, _, Le.refl _, lhA, .inr ⟨stOf L, kdOf L, dtOf L, .slice a27 (dtOf L).length c27, rs27, open_some (by simp only [List.drop_zero] at *; assumption) (by omega) (by assumption) (by assumption), ?_, ?_, fun r hr => zag lhA (hr27 r hr)⟩⟩
       ·rfl
       ·exact ((ho27.make hb5).make hb6).upd (fresh_ne hr27 (b := b2) hbA)
def SlabR (H H' : Hp) (d : List Int) (x : Value) : Prop := Le H H' ∧ ∃ rs, OwnS H' 5 1 x d.length (u8s d) rs ∧ ∀ r, rs = some r → H r = none
theorem Open_R (H : Hp) (L : List Int) (hc : L.length = 64) (hB : ByteL L) :
    CallH Try.prog 42 #[.agg (u8s L).toArray] H (fun v H' => ∃ x, SlabR H H' (opD L) x ∧ v = .tuple #[.agg #[.int .i64 (opS L), .int .i64 (opK L), x], errV (opE L)]) := by
  refine (Open_ok H L hc hB).mono ?_
  rintro v H' ⟨hl, ⟨h, rfl⟩ | ⟨st, kd, d, x, rs, h, rfl, ho, hr⟩⟩
  · refine ⟨.slice none 0 0, ⟨hl, none, ?_, fun r hr => by cases hr⟩, ?_⟩
    · simp only [opD, h]; exact OwnS.nil _ _ _
    · simp only [opS, opK, opE, h]
  · refine ⟨x, ⟨hl, rs, ?_, hr⟩, ?_⟩
    · simp only [opD, h]; exact ho
    · simp only [opS, opK, opE, h]
end Go.Proofs.Ytigofhhonnbkmaa.HL
end
section
namespace Go.Proofs.Ytigofhhonnbkmaa.HL
open Go
theorem w_i64 (x : Int) : IntKind.i64.wrap x = (x + 9223372036854775808) % 18446744073709551616 - 9223372036854775808 := by
  simp [IntKind.wrap, IntKind.bits, IntKind.signed]; omega
theorem w_u64 (x : Int) : IntKind.u64.wrap x = x % 18446744073709551616 := by simp [IntKind.wrap, IntKind.bits, IntKind.signed]
def loW (W : Int) : Int := W % 18446744073709551616
def hiW (W : Int) : Int := (W / 18446744073709551616 + 9223372036854775808) % 18446744073709551616 - 9223372036854775808
def fitsI (W : Int) : Prop := -9223372036854775808 ≤ W ∧ W ≤ 9223372036854775807
instance (W : Int) : Decidable (fitsI W) := inferInstanceAs (Decidable (_ ∧ _))
def okI (W : Int) : Int := if fitsI W then W else 0
def okE (W : Int) : Option Int := if fitsI W then none else some 7
end Go.Proofs.Ytigofhhonnbkmaa.HL
end
section
namespace Go.Proofs.Ytigofhhonnbkmaa.HL
open Go
def D (l : List Int) : Nat → Int
  | 0 => 0
  | n + 1 => D l n + l.getD n 0 * 10 ^ n
def dec (l : List Int) : Int := D l l.length
def Dig (l : List Int) : Prop := ∀ d ∈ l, 0 ≤ d ∧ d ≤ 9
def Norm (l : List Int) : Prop := l.getLast? ≠ some 0
def bval (b : Bool) (l : List Int) : Int := if b = true then -dec l else dec l
def NB (b : Bool) (l : List Int) : Prop := Norm l ∧ (l = [] → b = false)
theorem Dig.at {l : List Int} (h : Dig l) (i : Nat) : 0 ≤ l.getD i 0 ∧ l.getD i 0 ≤ 9 := by
  by_cases hi : i < l.length
  · rw [List.getD_eq_getElem?_getD, List.getElem?_eq_getElem hi]; exact h _ (List.getElem_mem hi)
  · rw [List.getD_eq_getElem?_getD, List.getElem?_eq_none (by omega)]; simp
theorem getD_out {l : List Int} {i : Nat} (h : l.length ≤ i) : l.getD i 0 = 0 := by rw [List.getD_eq_getElem?_getD, List.getElem?_eq_none h]; rfl
theorem Dig.append {l : List Int} {x : Int} (h : Dig l) (h0 : 0 ≤ x) (h9 : x ≤ 9) : Dig (l ++ [x]) := fun d hd => by
  rcases List.mem_append.1 hd with hd | hd
  · exact h d hd
  · simp at hd; subst hd; exact ⟨h0, h9⟩
theorem Dig.tail {x : Int} {l : List Int} (h : Dig (x :: l)) : Dig l := fun d hd => h d (by simp [hd])
theorem Dig.nil : Dig [] := fun d hd => by cases hd
theorem Dig.take {l : List Int} (h : Dig l) (n : Nat) : Dig (l.take n) := fun d hd => h d (List.mem_of_mem_take hd)
theorem Dig.drop {l : List Int} (h : Dig l) (n : Nat) : Dig (l.drop n) := fun d hd => h d (List.mem_of_mem_drop hd)
/-! ### comparing -/
/-! ### normal rows -/
theorem len_pos {l : List Int} (h : l ≠ []) : 0 < l.length := by cases l with
  | nil => exact absurd rfl h
  | cons x r => simp
theorem NB.nil : NB false [] := ⟨by simp [Norm], fun _ => rfl⟩
/-! ### a step of each -/
def CapOk (v : Value) (n : Nat) : Prop := ∃ a cap, v = .slice a n cap ∧ n ≤ cap
theorem OwnS.capOk {H : Hp} {E : TypeId} {w : Nat} {v : Value} {n : Nat} {cs : List Value} {rs : Option Nat} (h : OwnS H E w v n cs rs) : CapOk v n := by
  obtain ⟨_, ⟨rfl, rfl, _⟩ | ⟨r, cap, c, rfl, _, h5, _⟩⟩ := h
  · exact ⟨none, 0, rfl, Nat.le_refl _⟩
  · exact ⟨_, cap, rfl, h5⟩
def BigV (H : Hp) (val : Value) (b : Bool) (l : List Int) (n : Nat) : Prop := ∃ v, val = .agg #[.bool b, v] ∧ Holds H 1 v l.length (i64s l) ∧ CapOk v l.length ∧ Dig l ∧ NB b l ∧ l.length ≤ n
theorem BigV.le {H H' : Hp} {val : Value} {b : Bool} {l : List Int} {n : Nat} (h : BigV H val b l n) (k : Le H H') : BigV H' val b l n := by
  obtain ⟨v, h1, h2, h3⟩ := h
  exact ⟨v, h1, h2.le k, h3⟩
end Go.Proofs.Ytigofhhonnbkmaa.HL
end
section
namespace Go.Proofs.Ytigofhhonnbkmaa.HL
open Go
/-! ### half a step: two halves by a number whose highest bit is set -/
def KN (Y y1 y0 : Int) : Prop := Y = y1 * 4294967296 + y0 ∧ 2147483648 ≤ y1 ∧ y1 < 4294967296 ∧ 0 ≤ y0 ∧ y0 < 4294967296
def KI (Y y1 u d q r : Int) : Prop := q * y1 + r = u ∧ 0 ≤ r ∧ (u * 4294967296 + d) / Y ≤ q ∧ q ≤ 4294967297 ∧ 0 ≤ q
/-! ### shifting -/
theorem or_add {x y : Int} {s : Nat} (hs : s ≤ 64) (hx : 0 ≤ x) (hx2 : x * 2 ^ s < 18446744073709551616) (hy : 0 ≤ y) (hy2 : y < 2 ^ s) : IntKind.u64.wrap (BitVec.ofInt IntKind.u64.bits (x * 2 ^ s) ||| BitVec.ofInt IntKind.u64.bits y).toNat = x * 2 ^ s + y := by
  have hp : (2 : Int) ^ s = ((2 ^ s : Nat) : Int) := by simp
  obtain ⟨x, rfl⟩ := Int.eq_ofNat_of_zero_le hx
  obtain ⟨y, rfl⟩ := Int.eq_ofNat_of_zero_le hy
  rw [hp] at *
  have e1 : ((x : Int) * ((2 ^ s : Nat) : Int)) = ((x * 2 ^ s : Nat) : Int) := by simp
  rw [e1] at *
  have hp64 : 2 ^ s ≤ 2 ^ 64 := Nat.pow_le_pow_right (by omega) hs
  have h1 : x * 2 ^ s < 2 ^ 64 := by omega
  have h2 : y < 2 ^ 64 := by omega
  show IntKind.u64.wrap ((BitVec.ofInt 64 ((x * 2 ^ s : Nat) : Int) ||| BitVec.ofInt 64 (y : Int)).toNat : Nat) = _
  rw [BitVec.toNat_or, BitVec.toNat_ofInt, BitVec.toNat_ofInt]
  have e2 : (((x * 2 ^ s : Nat) : Int) % ((2 ^ 64 : Nat) : Int)).toNat = x * 2 ^ s := by omega
  have e3 : ((y : Int) % ((2 ^ 64 : Nat) : Int)).toNat = y := by omega
  rw [e2, e3, Nat.mul_comm x, ← Nat.two_pow_add_eq_or_of_lt (by omega), w_u64]
  rw [Nat.mul_comm x] at h1
  have : 2 ^ s * x + y < 2 ^ 64 := by
    have hk : y < 2 ^ s := by omega
    have h3 : 2 ^ s * x + 2 ^ s ≤ 2 ^ 64 := by
      have hd : 2 ^ s * (2 ^ (64 - s)) = 2 ^ 64 := by rw [← Nat.pow_add]; congr 1; omega
      have : x < 2 ^ (64 - s) := by
        apply Classical.byContradiction; intro hc
        have := Nat.mul_le_mul_left (2 ^ s) (show 2 ^ (64 - s) ≤ x by omega)
        omega
      have := Nat.mul_le_mul_left (2 ^ s) (show x + 1 ≤ 2 ^ (64 - s) by omega)
      rw [Nat.mul_add, Nat.mul_one] at this
      omega
    omega
  omega
theorem shl_fits {x : Int} {s : Nat} (hx : 0 ≤ x) (h : x * 2 ^ s < 18446744073709551616) : IntKind.u64.wrap (x * 2 ^ s) = x * 2 ^ s := by
  have := Int.mul_nonneg hx (show (0 : Int) ≤ 2 ^ s from Int.le_of_lt (Int.pow_pos (by omega)))
  rw [w_u64]; omega
/-! ### dividing toward nought -/
end Go.Proofs.Ytigofhhonnbkmaa.HL
namespace Go.Proofs.Ytigofhhonnbkmaa.HL
open Go
end Go.Proofs.Ytigofhhonnbkmaa.HL
namespace Go.Proofs.Ytigofhhonnbkmaa.HL
open Go
theorem quo_u64 {x y : Int} (h0 : 0 ≤ x) (h1 : x < 18446744073709551616) (hy : 0 < y) : IntKind.u64.wrap (x.tdiv y) = x / y := by
  rw [Int.tdiv_eq_ediv_of_nonneg h0, w_u64]
  have := Int.ediv_le_self y h0
  have := Int.ediv_nonneg h0 (Int.le_of_lt hy)
  omega
end Go.Proofs.Ytigofhhonnbkmaa.HL
namespace Go.Proofs.Ytigofhhonnbkmaa.HL
open Go
def isBq (n : Int) (e : Option Int) (W : Int) : Bool := if fitsI W then decide (e = none) && decide (n = W) else decide (e.getD 0 = 7) && decide (n = 0)
end Go.Proofs.Ytigofhhonnbkmaa.HL
namespace Go.Proofs.Ytigofhhonnbkmaa.HL
open Go
end Go.Proofs.Ytigofhhonnbkmaa.HL
end
section
namespace Go.Proofs.Ytigofhhonnbkmaa.HL
open Go
def cnt (n : Nat) : List Int := if n < 128 then [(n : Int)] else ((n % 128 + 128 : Nat) : Int) :: cnt (n / 128)
termination_by n
decreasing_by omega
theorem cnt_lt {n : Nat} (h : n < 128) : cnt n = [(n : Int)] := by rw [cnt, if_pos h]
theorem cnt_ge {n : Nat} (h : ¬ n < 128) : cnt n = ((n % 128 + 128 : Nat) : Int) :: cnt (n / 128) := by rw [cnt, if_neg h]
theorem cnt_ne (n : Nat) : cnt n ≠ [] := by
  by_cases h : n < 128
  · rw [cnt_lt h]; simp
  · rw [cnt_ge h]; simp
theorem cnt_bytes (n : Nat) : ByteL (cnt n) := by
  induction n using Nat.strongRecOn with
  | ind n ih =>
    by_cases h : n < 128
    · rw [cnt_lt h]; intro x hx; simp at hx; omega
    · rw [cnt_ge h]; intro x hx
      rcases List.mem_cons.1 hx with rfl | hx
      · omega
      · exact ih _ (by omega) x hx
def valL : List Int → Nat
  | [] => 0
  | b :: t => b.toNat % 128 + 128 * valL t
theorem valL_cnt (n : Nat) : valL (cnt n) = n := by
  induction n using Nat.strongRecOn with
  | ind n ih =>
    by_cases h : n < 128
    · rw [cnt_lt h]; simp [valL]; omega
    · rw [cnt_ge h, valL, ih _ (by omega)]; omega
theorem cnt_pref {a b : Nat} : ∀ {x y : List Int}, cnt a ++ x = cnt b ++ y → a = b ∧ x = y := by
  induction a using Nat.strongRecOn generalizing b with
  | ind a ih =>
    intro x y h
    by_cases ha : a < 128 <;> by_cases hb : b < 128
    · rw [cnt_lt ha, cnt_lt hb] at h
      simp only [List.singleton_append, List.cons.injEq] at h
      exact ⟨by omega, h.2⟩
    · rw [cnt_lt ha, cnt_ge hb] at h
      simp only [List.singleton_append, List.cons_append, List.cons.injEq] at h
      omega
    · rw [cnt_ge ha, cnt_lt hb] at h
      simp only [List.singleton_append, List.cons_append, List.cons.injEq] at h
      omega
    · rw [cnt_ge ha, cnt_ge hb] at h
      simp only [List.cons_append, List.cons.injEq] at h
      have := ih (a / 128) (by omega) h.2
      exact ⟨by omega, this.2⟩
theorem cnt_len (n : Nat) : (cnt n).length = max 1 ((bitLen n + 6) / 7) := by
  induction n using Nat.strongRecOn with
  | ind n ih =>
    by_cases h : n < 128
    · rw [cnt_lt h]
      have : bitLen n ≤ 7 := by
        unfold bitLen; split
        · omega
        · rename_i h0
          have := (Nat.log2_lt h0).2 (show n < 2 ^ 7 from h)
          omega
      simp only [List.length_singleton]; omega
    · rw [cnt_ge h, List.length_cons, ih _ (by omega), bitLen_shift n 7 (show n / 2 ^ 7 ≠ 0 by omega)]
      have : 1 ≤ bitLen (n / 128) := by unfold bitLen; rw [if_neg (by omega)]; omega
      show max 1 ((bitLen (n / 128) + 6) / 7) + 1 = max 1 ((7 + bitLen (n / 128) + 6) / 7)
      omega
theorem cnt_len10 {n : Nat} (h : n < 18446744073709551616) : (cnt n).length ≤ 10 := by
  have : bitLen n ≤ 64 := by
    unfold bitLen; split
    · omega
    · rename_i h0
      have := (Nat.log2_lt h0).2 (show n < 2 ^ 64 from h)
      omega
  rw [cnt_len]; omega
/-! ### what a row of bytes begins with -/
def Big1 (p : List Int) : Prop := ∀ x ∈ p, 128 ≤ x ∧ x ≤ 255
theorem Big1.nil : Big1 [] := fun x h => by cases h
theorem Big1.snoc {p : List Int} {c : Int} (h : Big1 p) (h1 : 128 ≤ c) (h2 : c ≤ 255) : Big1 (p ++ [c]) := fun x hx => by
  rcases List.mem_append.1 hx with hx | hx
  · exact h x hx
  · simp at hx; omega
theorem valL_append (p q : List Int) : valL (p ++ q) = valL p + 128 ^ p.length * valL q := by
  induction p with
  | nil => simp [valL]
  | cons b t ih =>
    simp only [List.cons_append, valL, ih, List.length_cons, Nat.pow_succ]
    rw [Nat.mul_add, Nat.mul_comm (128 ^ t.length) 128, Nat.mul_assoc]; omega
theorem valL_lt (p : List Int) : valL p < 128 ^ p.length := by
  induction p with
  | nil => simp [valL]
  | cons b t ih => simp only [valL, List.length_cons, Nat.pow_succ]; omega
theorem cnt_of {p : List Int} : ∀ (_ : Big1 p) {c : Int} (_ : 0 ≤ c) (_ : c < 128) (_ : p = [] ∨ c ≠ 0), cnt (valL (p ++ [c])) = p ++ [c] := by
  induction p with
  | nil =>
    intro _ c h0 h1 _
    have : valL ([] ++ [c]) = c.toNat := by simp [valL]; omega
    rw [this, cnt_lt (by omega)]; simp; omega
  | cons b t ih =>
    intro hp c h0 h1 hc
    have hb := hp b (by simp)
    have h := ih (fun x hx => hp x (by simp [hx])) h0 h1 (by rcases hc with hc | hc; cases hc; exact .inr hc)
    have hc0 : c ≠ 0 := by rcases hc with hc | hc; cases hc; exact hc
    have hpos : 1 ≤ valL (t ++ [c]) := by
      rw [valL_append]
      have : 1 ≤ valL [c] := by simp [valL]; omega
      have := Nat.mul_le_mul (Nat.one_le_pow t.length 128 (by omega)) this
      omega
    simp only [List.cons_append, valL]
    rw [cnt_ge (by omega)]
    have e1 : (b.toNat % 128 + 128 * valL (t ++ [c])) / 128 = valL (t ++ [c]) := by omega
    rw [e1, h]
    congr 1; omega
theorem cnt_shape (n : Nat) : ∃ q d, cnt n = q ++ [d] ∧ Big1 q ∧ 0 ≤ d ∧ d < 128 ∧ (q = [] ∨ d ≠ 0) := by
  induction n using Nat.strongRecOn with
  | ind n ih =>
    by_cases h : n < 128
    · exact ⟨[], n, by rw [cnt_lt h]; rfl, Big1.nil, by omega, by omega, .inl rfl⟩
    · obtain ⟨q, d, h1, h2, h3, h4, h5⟩ := ih (n / 128) (by omega)
      refine ⟨((n % 128 + 128 : Nat) : Int) :: q, d, by rw [cnt_ge h, h1]; rfl, fun x hx => ?_, h3, h4, ?_⟩
      · rcases List.mem_cons.1 hx with rfl | hx
        · omega
        · exact h2 x hx
      · right
        rcases h5 with rfl | h5
        · intro h0
          subst h0
          have := valL_cnt (n / 128)
          rw [h1] at this; simp [valL] at this; omega
        · exact h5
theorem no_cnt {p : List Int} (hp : Big1 p) {u : Nat} {x : List Int} : p ≠ cnt u ++ x := by
  intro h
  obtain ⟨q, d, h1, h2, h3, h4, _⟩ := cnt_shape u
  have : d ∈ p := by rw [h, h1]; simp
  have := hp d this
  omega
theorem split_at {p q : List Int} (hp : Big1 p) (hq : Big1 q) : ∀ {c d : Int} {x y : List Int} (_ : c < 128) (_ : d < 128), p ++ c :: x = q ++ d :: y → p = q ∧ c = d ∧ x = y := by
  induction p generalizing q with
  | nil =>
    intro c d x y hc hd h
    cases q with
    | nil => simp at h; exact ⟨rfl, h.1, h.2⟩
    | cons b t => simp at h; have := hq b (by simp); omega
  | cons b t ih =>
    intro c d x y hc hd h
    cases q with
    | nil => simp at h; have := hp b (by simp); omega
    | cons b' t' =>
      simp only [List.cons_append, List.cons.injEq] at h
      obtain ⟨h1, h2⟩ := h
      obtain ⟨h3, h4, h5⟩ := ih (fun z hz => hp z (by simp [hz])) (q := t') (fun z hz => hq z (by simp [hz])) hc hd h2
      exact ⟨by rw [h1, h3], h4, h5⟩
def RC (l : List Int) : Option (Nat × List Int) → Prop
  | some (u, r) => l = cnt u ++ r ∧ u < 18446744073709551616
  | none => ∀ u r, u < 18446744073709551616 → l ≠ cnt u ++ r
theorem RC.uniq {l : List Int} : ∀ {a b : Option (Nat × List Int)}, RC l a → RC l b → a = b
  | none, none, _, _ => rfl
  | none, some (u, r), h1, h2 => absurd h2.1 (h1 u r h2.2)
  | some (u, r), none, h1, h2 => absurd h1.1 (h2 u r h1.2)
  | some (u, r), some (v, s), h1, h2 => by
    have := cnt_pref (h1.1.symm.trans h2.1)
    rw [this.1, this.2]
theorem RC.cnt {u : Nat} (r : List Int) (h : u < 18446744073709551616) : RC (cnt u ++ r) (some (u, r)) := ⟨rfl, h⟩
theorem RC_end {p : List Int} (hp : Big1 p) : RC p none := fun u r _ h => no_cnt hp h
theorem RC_good {p r : List Int} {c : Int} (hp : Big1 p) (h0 : 0 ≤ c) (h1 : c < 128) (hc : p = [] ∨ c ≠ 0) (h : valL (p ++ [c]) < 18446744073709551616) : RC (p ++ c :: r) (some (valL (p ++ [c]), r)) := by
  refine ⟨?_, h⟩
  rw [cnt_of hp h0 h1 hc]; simp
theorem RC_zero {p r : List Int} (hp : Big1 p) (hne : p ≠ []) : RC (p ++ (0 : Int) :: r) none := by
  intro u x hu h
  obtain ⟨q, d, h1, h2, h3, h4, h5⟩ := cnt_shape u
  rw [h1, List.append_assoc, List.singleton_append] at h
  obtain ⟨e1, e2, _⟩ := split_at hp h2 (by omega) h4 h
  rcases h5 with h5 | h5
  · exact hne (e1.trans h5)
  · exact h5 e2.symm
theorem valL_snoc (p : List Int) {c : Int} (h0 : 0 ≤ c) (h1 : c < 128) : valL (p ++ [c]) = valL p + 128 ^ p.length * c.toNat := by
  rw [valL_append]; simp only [valL]; congr 2; omega
theorem RC_over {p r : List Int} {c : Int} (hp : Big1 p) (hl : p.length = 9) (h1 : 1 < c) (h2 : c ≤ 255) : RC (p ++ c :: r) none := by
  intro u x hu h
  obtain ⟨q, d, k1, k2, k3, k4, k5⟩ := cnt_shape u
  by_cases hc : c < 128
  · rw [k1, List.append_assoc, List.singleton_append] at h
    obtain ⟨rfl, rfl, _⟩ := split_at hp k2 hc k4 h
    have := valL_cnt u
    rw [k1, valL_snoc _ k3 k4, hl] at this
    have h9 : (128 : Nat) ^ 9 = 9223372036854775808 := by decide
    rw [h9] at this
    omega
  · have hb : Big1 (p ++ [c]) := hp.snoc (by omega) h2
    have e : p ++ c :: r = (p ++ [c]) ++ r := by simp
    have hlen := cnt_len10 hu
    rw [e] at h
    -- the first ten bytes are great: the count is longer than ten
    have : (cnt u).length ≤ (p ++ [c]).length := by simp; omega
    have h3 := congrArg (List.take (cnt u).length) h
    rw [List.take_append_of_le_length this, List.take_left] at h3
    exact no_cnt (fun z hz => hb z (List.mem_of_mem_take hz)) (x := []) (h3.trans (List.append_nil _).symm)
theorem valL_step {p : List Int} {c : Int} (h0 : 0 ≤ c) : valL (p ++ [c]) = valL p + c.toNat % 128 * 128 ^ p.length := by
  rw [valL_append]; simp only [valL, Nat.mul_zero, Nat.add_zero]; rw [Nat.mul_comm]
end Go.Proofs.Ytigofhhonnbkmaa.HL
namespace Go.Proofs.Ytigofhhonnbkmaa.HL
open Go
/-! ### the machine's words -/
theorem shr7 (z : Int) : z.fdiv (2 ^ (min 7 IntKind.u64.bits)) = z / 128 := by
  have : (2 : Int) ^ (min 7 IntKind.u64.bits) = 128 := by decide
  rw [this, Int.fdiv_eq_ediv_of_nonneg _ (by omega)]
theorem w_u8 (x : Int) : IntKind.u8.wrap x = x % 256 := by simp [IntKind.wrap, IntKind.bits, IntKind.signed]
theorem or128_all : ∀ x : Fin 256, (BitVec.ofInt 8 ((x.val : Nat) : Int) ||| BitVec.ofInt 8 128).toNat = x.val % 128 + 128 := by decide +kernel
theorem or128 (n : Int) : IntKind.u8.wrap (BitVec.ofInt IntKind.u8.bits (IntKind.u8.wrap n) ||| BitVec.ofInt IntKind.u8.bits 128).toNat = n % 128 + 128 := by
  have h := or128_all ⟨(n % 256).toNat, by omega⟩
  have e : (((n % 256).toNat : Nat) : Int) = n % 256 := by omega
  simp only [e] at h
  rw [w_u8 n, w_u8]
  show (((BitVec.ofInt 8 (n % 256) ||| BitVec.ofInt 8 128).toNat : Nat) : Int) % 256 = _
  rw [h]; omega
theorem and127_all : ∀ x : Fin 256, (BitVec.ofInt 8 ((x.val : Nat) : Int) &&& BitVec.ofInt 8 127).toNat = x.val % 128 := by decide +kernel
theorem and127 {c : Int} (h0 : 0 ≤ c) (h1 : c ≤ 255) : IntKind.u8.wrap (BitVec.ofInt IntKind.u8.bits c &&& BitVec.ofInt IntKind.u8.bits 127).toNat = c % 128 := by
  have h := and127_all ⟨c.toNat, by omega⟩
  have e : ((c.toNat : Nat) : Int) = c := by omega
  simp only [e] at h
  rw [w_u8]
  show (((BitVec.ofInt 8 c &&& BitVec.ofInt 8 127).toNat : Nat) : Int) % 256 = _
  rw [h]; omega
def zig (n : Int) : Nat := if n < 0 then 2 * (-(n + 1)).toNat + 1 else 2 * n.toNat
def unzig (u : Nat) : Int := if u % 2 = 1 then -((u / 2 : Nat) : Int) - 1 else ((u / 2 : Nat) : Int)
end Go.Proofs.Ytigofhhonnbkmaa.HL
namespace Go.Proofs.Ytigofhhonnbkmaa.HL
open Go
theorem RC_ten {l : List Int} (h : 10 ≤ l.length) (hb : Big1 (l.take 10)) : RC l none := by
  intro u r hu e
  have hlen := cnt_len10 hu
  have h3 := congrArg (List.take (cnt u).length) e
  rw [List.take_left] at h3
  refine no_cnt (p := l.take (cnt u).length) (u := u) (x := []) (fun z hz => hb z ?_) (by rw [h3, List.append_nil])
  have : l.take (cnt u).length = (l.take 10).take (cnt u).length := by rw [List.take_take, Nat.min_eq_left hlen]
  rw [this] at hz; exact List.mem_of_mem_take hz
theorem take_snoc {l : List Int} {n : Nat} (h : n < l.length) : l.take (n + 1) = l.take n ++ [l.getD n 0] := by
  rw [List.take_succ_eq_append_getElem h, List.getD_eq_getElem?_getD, List.getElem?_eq_getElem h]; rfl
theorem RC_same {l : List Int} {n u : Nat} (hn : n < l.length) (hu : u < 18446744073709551616) (h : cnt u = l.take (n + 1)) : RC l (some (u, l.drop (n + 1))) := ⟨by rw [h, List.take_append_drop], hu⟩
theorem RC_unlike {l : List Int} {n : Nat} (hn : n < l.length) (hb : Big1 (l.take n)) (hc : l.getD n 0 < 128) (h : cnt (valL (l.take (n + 1)) % 18446744073709551616) ≠ l.take (n + 1)) : RC l none := by
  intro u r hu e
  obtain ⟨q, d, k1, k2, k3, k4, k5⟩ := cnt_shape u
  have e2 : l = l.take n ++ l.getD n 0 :: l.drop (n + 1) := by
    have := (List.take_append_drop (n + 1) l).symm
    rw [take_snoc hn, List.append_assoc, List.singleton_append] at this
    exact this
  rw [k1, List.append_assoc, List.singleton_append] at e
  obtain ⟨e3, e4, _⟩ := split_at hb k2 hc k4 (e2.symm.trans e)
  apply h
  have e5 : l.take (n + 1) = cnt u := by rw [take_snoc hn, k1, e3, e4]
  rw [e5, valL_cnt, Nat.mod_eq_of_lt hu]
theorem valL_drop {l : List Int} {i : Nat} (h : i < l.length) : valL (l.drop i) = (l.getD i 0).toNat % 128 + 128 * valL (l.drop (i + 1)) := by
  rw [List.drop_eq_getElem_cons h, valL, List.getD_eq_getElem?_getD, List.getElem?_eq_getElem h]; rfl
theorem big_step {l : List Int} {n : Nat} (hn : n < l.length) (hB : ByteL l) (hb : Big1 (l.take n)) (h : 128 ≤ l.getD n 0) : Big1 (l.take (n + 1)) := by
  rw [take_snoc hn]
  refine hb.snoc h ?_
  have : l.getD n 0 ∈ l := by rw [List.getD_eq_getElem?_getD, List.getElem?_eq_getElem hn]; exact List.getElem_mem hn
  have := hB _ this
  omega
theorem ByteL.at {l : List Int} (h : ByteL l) (n : Nat) : 0 ≤ l.getD n 0 ∧ l.getD n 0 ≤ 255 := by
  by_cases hn : n < l.length
  · have : l.getD n 0 ∈ l := by rw [List.getD_eq_getElem?_getD, List.getElem?_eq_getElem hn]; exact List.getElem_mem hn
    have := h _ this
    omega
  · rw [getD_out (by omega)]; omega
theorem ByteL.drop {l : List Int} (h : ByteL l) (n : Nat) : ByteL (l.drop n) := fun x hx => h x (List.mem_of_mem_drop hx)
theorem ByteL.take {l : List Int} (h : ByteL l) (n : Nat) : ByteL (l.take n) := fun x hx => h x (List.mem_of_mem_take hx)
theorem acc_wrap (a : Nat) (c : Int) (h0 : 0 ≤ c) : IntKind.u64.wrap (IntKind.u64.wrap (128 * ((a % 18446744073709551616 : Nat) : Int)) + c % 128) = ((c.toNat % 128 + 128 * a) % 18446744073709551616 : Nat) := by
  rw [w_u64, w_u64]; omega
end Go.Proofs.Ytigofhhonnbkmaa.HL
end
