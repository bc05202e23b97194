/- Parts of the proof, one behind the other: HLFrame, HLFrame2, HLShort, S06Ty, HLOwn, Md05, Md06, Md07, Md03, MdVL, MdPr, P10, MdPr2, HLIf, P11, P12, P13, P17, P18, Q40, Q41. -/
import Derived.Carry
import Derived.ChangeOld
import Derived.OpenShut
import Derived.ChangeSlices
import Derived.Test.YtlkopcgoaldpeaaProg
import Derived.KernelRfl
import Derived.Laws.MathBits
import Derived.Test.YtlkopcgoaldpeaaX1
set_option linter.unusedSimpArgs false
set_option linter.unusedVariables false
section
namespace Go.Proofs.Ytlkopcgoaldpeaa.HL
open Go Go.RowKit Go.ChangeShapes Go.WideShapes

/-- The whole heap that there is. -/
def oldH (w : World) : Hp := fun b => w.heap[b]?
theorem oldH_sub (w : World) : Sub (oldH w) w := fun _ _ h => h
theorem calls_of_old {P : Program} {f : FuncId} {args : Array Value} {w : World}
    (h : CallH P f args (oldH w) (fun v H' => v = .bool true ∧ Le (oldH w) H')) : Calls P f args w fun e w' => e = .returned (.bool true) ∧ Below w.heap.size w w' := by
  refine (h w (oldH_sub w)).mono fun e w' ⟨v, he, H', ⟨hv, hl⟩, hx⟩ => ⟨by rw [he, hv], hx.os, hx.tape, hx.output, hx.size, fun k hk => ?_⟩
  have h1 : w.heap[k]? = some w.heap[k] := by simp [hk]
  rw [h1]; exact hx.sub _ _ (hl _ _ h1)

theorem i64_of_wf {n : Int} (h : (Lit.int .i64 n).wf = true) : -9223372036854775808 ≤ n ∧ n ≤ 9223372036854775807 := by
  simp [Lit.wf, IntKind.min, IntKind.max, IntKind.signed, IntKind.bits] at h
  omega

section
variable {H : Type} {enc : TypeId × Value → H} {P : Program} {w : World} {base : Nat} {spare : Nat → Bool} {held : Bool} {fuel : Nat} {t : TypeId} {cs : List Value} {x : DataW H × List MemPlace}

theorem val_of_agg {r : Reach} {b0 : Nat} {v : Value} (ht : (∃ fs, P.underlying t = some (.struct fs)) ∨ ∃ n e, P.underlying t = some (.array n e)) (h : Value.okWide P w r b0 t v) : v = .agg v.cells := by
  unfold Value.okWide at h
  rcases ht with ⟨fs, ht⟩ | ⟨n, e, ht⟩ <;> rw [ht] at h <;> obtain ⟨c, rfl, _⟩ := h <;> rfl

theorem open_field {fs : Array Field} (ht : P.underlying t = some (.struct fs)) (h : DataW.trod enc P w base spare held fuel t cs = some x) (i : Nat) {f : Field} (hf : fs[i]? = some f) :
    ∃ y n, DataW.trod enc P w base spare held n f.type ((cs.drop f.offset).take (P.cellsOf f.type)) = some y := by
  obtain ⟨xs, n, _, _, hl, hx, hi⟩ := DataW.trod_struct ht h
  have h1 := hi i f hf
  have hlt : i < fs.size := (Array.getElem?_eq_some_iff.1 hf).1
  rw [List.getElem?_eq_getElem (by omega)] at h1
  exact ⟨_, n, h1⟩
theorem struct_len {fs : Array Field} (ht : P.underlying t = some (.struct fs)) (h : DataW.trod enc P w base spare held fuel t cs = some x) : cs.length = P.cellsOf t := by
  obtain ⟨xs, n, _, _, hl, _⟩ := DataW.trod_struct ht h
  exact hl
theorem cells_of_list {v : Value} {l : List Value} (h : v.cells.toList = l) : v.cells = l.toArray := by rw [← h]
/-! ### arguments of a kind -/
variable {r : Reach} {b0 : Nat} {v : Value} {d : DataW H} {ps : List MemPlace}
theorem arg_i64 (ht : P.underlying t = some (.int .i64)) (hval : Value.okWide P w r b0 t v) (hd : DataW.Trod enc P w base spare held t v d ps) :
    ∃ n, v = .int .i64 n ∧ -9223372036854775808 ≤ n ∧ n ≤ 9223372036854775807 := by
  obtain ⟨n, rfl, _, _, hw⟩ := open_int ht hval hd
  exact ⟨n, rfl, i64_of_wf hw⟩
/-- A struct of one-cell fields: its cells, each read by its field's type. -/
theorem open_struct1s {fs : Array Field} (ht : P.underlying t = some (.struct fs)) (hct : P.cellsOf t = fs.size)
    (hf : ∀ (i : Nat) (f : Field), fs[i]? = some f → f.offset = i ∧ P.cellsOf f.type = 1) (h : DataW.trod enc P w base spare held fuel t cs = some x) :
    cs.length = fs.size ∧ ∀ (i : Nat) (f : Field), fs[i]? = some f → ∃ v y n, cs[i]? = some v ∧ DataW.trod enc P w base spare held n f.type [v] = some y := by
  have hl := struct_len ht h
  refine ⟨hl.trans hct, fun i f hi => ?_⟩
  obtain ⟨y, n, hy⟩ := open_field ht h i hi
  obtain ⟨h1, h2⟩ := hf i f hi
  have hlt : i < cs.length := by rw [hl, hct]; exact (Array.getElem?_eq_some_iff.1 hi).1
  rw [h1, h2] at hy
  refine ⟨cs[i], y, n, by simp, ?_⟩
  have : (cs.drop i).take 1 = [cs[i]] := by
    rw [List.drop_eq_getElem_cons hlt]; rfl
  rw [this] at hy; exact hy
/-- A field's cells. -/
theorem field_cells {fs : Array Field} (ht : P.underlying t = some (.struct fs)) (h : DataW.trod enc P w base spare held fuel t cs = some x) (i : Nat) {f : Field} (hf : fs[i]? = some f) {o n : Nat} (ho : f.offset = o) (hn : P.cellsOf f.type = n) :
    ∃ y m, DataW.trod enc P w base spare held m f.type ((cs.drop o).take n) = some y := by
  have := open_field ht h i hf
  rw [ho, hn] at this; exact this
theorem int_cell {k : IntKind} {i : Nat} (ht : P.underlying t = some (.int k)) (h : DataW.trod enc P w base spare held fuel t ((cs.drop i).take 1) = some x) : ∃ z, cs[i]? = some (.int k z) ∧ (Lit.int k z).wf = true := by
  obtain ⟨z, h1, _, h2⟩ := DataW.trod_int ht h
  refine ⟨z, ?_, h2⟩
  have h5 : ((cs.drop i).take 1)[0]? = some (.int k z) := by rw [h1]; rfl
  rw [List.getElem?_take_of_lt (by omega), List.getElem?_drop] at h5
  simpa using h5
theorem exists_list {α : Type} (Q : Nat → α → Prop) : ∀ n, (∀ i, i < n → ∃ a, Q i a) → ∃ L : List α, L.length = n ∧ ∀ i a, L[i]? = some a → Q i a
  | 0, _ => ⟨[], rfl, fun i a h => by simp at h⟩
  | n + 1, h => by
    obtain ⟨L, hl, hL⟩ := exists_list Q n (fun i hi => h i (by omega))
    obtain ⟨a, ha⟩ := h n (by omega)
    refine ⟨L ++ [a], by simp [hl], fun i b hb => ?_⟩
    by_cases hi : i < n
    · rw [List.getElem?_append_left (by omega)] at hb; exact hL i b hb
    · rw [List.getElem?_append_right (by omega)] at hb
      have h0 : i - L.length = 0 := by
        rcases Nat.eq_zero_or_pos (i - L.length) with h0 | h0
        · exact h0
        · rw [List.getElem?_eq_none (by simp; omega)] at hb; cases hb
      rw [h0] at hb
      have : i = n := by omega
      subst this
      simp at hb; subst hb; exact ha
theorem flat_get {α : Type} {f : α → List Value} {wd : Nat} (hw : ∀ a, (f a).length = wd) : ∀ (L : List α) (i : Nat) (a : α) (j : Nat), L[i]? = some a → j < wd → (L.flatMap f)[i * wd + j]? = (f a)[j]?
  | [], i, a, j, h, _ => by simp at h
  | x :: r, 0, a, j, h, hj => by
    simp at h; subst h
    rw [List.flatMap_cons, Nat.zero_mul, Nat.zero_add, List.getElem?_append_left (by rw [hw]; exact hj)]
  | x :: r, i + 1, a, j, h, hj => by
    rw [List.flatMap_cons, List.getElem?_append_right (by rw [hw, Nat.succ_mul]; omega), hw]
    have e : (i + 1) * wd + j - wd = i * wd + j := by rw [Nat.succ_mul]; omega
    rw [e]; exact flat_get hw r i a j (by simpa using h) hj
theorem flat_len {α : Type} {f : α → List Value} {wd : Nat} (hw : ∀ a, (f a).length = wd) : ∀ (L : List α), (L.flatMap f).length = L.length * wd
  | [] => by simp
  | x :: r => by rw [List.flatMap_cons, List.length_append, hw, flat_len hw r, List.length_cons, Nat.succ_mul]; omega
/-- A slice whose elements are each told. -/
theorem open_slice_of {α : Type} (f : α → List Value) (ok : α → Prop) {e : TypeId} {wd : Nat} (ht : P.underlying t = some (.slice e)) (hc : P.cellsOf e = wd) (hwd : 0 < wd) (hw : ∀ a, (f a).length = wd)
    (he : ∀ n cs x, DataW.trod enc P w base spare held n e cs = some x → ∃ a, cs = f a ∧ ok a) (h : DataW.trod enc P w base spare held fuel t cs = some x) :
    ∃ (a : Option Addr) (len cap : Nat) (L : List α), cs = [.slice a len cap] ∧ L.length = len ∧ Holds (oldH w) wd (.slice a len cap) len (L.flatMap f) ∧ (∀ x ∈ L, ok x) ∧ len ≤ maxLen := by
  rcases DataW.trod_slice ht h with ⟨rfl, _⟩ | ⟨a, len, cap, elems, rest, n, _, rfl, _, hb, hl, hm, hlen, hel, _, _⟩
  · exact ⟨none, 0, 0, [], rfl, rfl, ⟨by simp, .inl ⟨none, 0, rfl, rfl⟩⟩, by simp, by decide⟩
  · obtain ⟨L, hL, hQ⟩ := exists_list (fun i x => ok x ∧ ∀ j, j < wd → w.cell? (a.add (i * wd + j)) = (f x)[j]?) len (by
      intro i hi
      have h1 := hel i hi
      rw [List.getElem?_eq_getElem (by omega), hc, Option.bind_eq_some_iff] at h1
      obtain ⟨cs', hcs, hy⟩ := h1
      obtain ⟨x, rfl, hx⟩ := he _ _ _ hy
      refine ⟨x, hx, fun j hj => ?_⟩
      have h2 := World.cells?_some hcs
      have h3 := h2.2.2 j hj
      have h4 : (a.add (i * wd)).add j = a.add (i * wd + j) := by
        obtain ⟨b, o, sp⟩ := a
        simp only [Addr.add]
        split <;> split <;> simp_all
        all_goals omega
      rw [h4] at h3
      exact h3)
    refine ⟨some a, len, cap, L, rfl, hL, ⟨by rw [flat_len hw, hL], ?_⟩, fun x hx => ?_, by omega⟩
    rotate_left
    · obtain ⟨i, hi, rfl⟩ := List.mem_iff_getElem.1 hx
      exact (hQ i _ (List.getElem?_eq_getElem hi)).1
    by_cases h0 : len = 0
    · subst h0; exact .inl ⟨some a, cap, rfl, rfl⟩
    right
    obtain ⟨b, o, sp⟩ := a
    have hcell : ∀ i, i < len → ∀ j, j < wd → ∃ v, w.cell? ((⟨b, o, sp⟩ : Addr).add (i * wd + j)) = some v ∧ (L.flatMap f)[i * wd + j]? = some v := by
      intro i hi j hj
      have hx : L[i]? = some L[i] := List.getElem?_eq_getElem (by omega)
      have h1 := (hQ i _ hx).2 j hj
      have h2 := flat_get hw L i _ j hx hj
      have h3 : (f L[i])[j]? = some ((f L[i])[j]'(by rw [hw]; exact hj)) := List.getElem?_eq_getElem _
      exact ⟨_, h1.trans h3, h2.trans h3⟩
    obtain ⟨v0, hv0, _⟩ := hcell 0 (by omega) 0 hwd
    cases hbk : w.heap[b]? with
    | none => simp [World.cell?, Addr.add, hbk] at hv0
    | some ob =>
      cases ob with
      | cells c T fz =>
        have hsp : sp = none := by
          cases sp with
          | none => rfl
          | some q => simp [World.cell?, Addr.add, hbk] at hv0
        subst hsp
        have hcell' : ∀ m, m < len * wd → c[o + m]? = (L.flatMap f)[m]? := by
          intro m hm
          have hi : m / wd < len := by rw [Nat.div_lt_iff_lt_mul hwd]; exact hm
          obtain ⟨v, h1, h2⟩ := hcell (m / wd) hi (m % wd) (Nat.mod_lt _ hwd)
          have e : m / wd * wd + m % wd = m := Nat.div_add_mod' m wd
          rw [e] at h1 h2
          rw [h2, ← h1]
          rcases Nat.eq_zero_or_pos m with h0' | h0'
          · subst h0'; simp [World.cell?, Addr.add, hbk]
          · have hne : m ≠ 0 := by omega
            simp [World.cell?, Addr.add, hbk, hne]
        have hfl : (L.flatMap f).length = len * wd := by rw [flat_len hw, hL]
        have hpos : 0 < len * wd := Nat.mul_pos (by omega) hwd
        have hsz : o + len * wd ≤ c.size := by
          have h1 := hcell' (len * wd - 1) (by omega)
          rw [List.getElem?_eq_getElem (by omega)] at h1
          have := (Array.getElem?_eq_some_iff.1 h1).1
          omega
        refine ⟨b, o, cap, c, T, fz, rfl, hbk, hsz, ?_⟩
        apply List.ext_getElem?
        intro m
        rw [Array.toList_extract, List.extract_eq_take_drop]
        by_cases hm : m < len * wd
        · rw [List.getElem?_take_of_lt (by omega), List.getElem?_drop, Array.getElem?_toList]
          exact hcell' m hm
        · rw [List.getElem?_eq_none (by simp; omega), List.getElem?_eq_none (by omega)]
      | _ => simp [World.cell?, Addr.add, hbk] at hv0
end
end Go.Proofs.Ytlkopcgoaldpeaa.HL
end
section
namespace Go.Proofs.Ytlkopcgoaldpeaa.HL
open Go Go.ChangeShapes Go.WideShapes
variable {P : Program} {H : Type} {enc : TypeId × Value → H} {w : World} {base : Nat} {spare : Nat → Bool} {held : Bool} {r : Reach} {b0 : Nat} {t : TypeId} {v : Value} {d : DataW H} {ps : List MemPlace}
end Go.Proofs.Ytlkopcgoaldpeaa.HL
end
section
namespace Go.Proofs.Ytlkopcgoaldpeaa.HL
open Go
/-- environments, and what comes behind an operation -/
theorem eX :
    (∀ (e : Env) (r : Nat → Value) (t : Nat), ev e r (.tmp t) = (e.get t).getD (r t)) ∧ (∀ (e : Env) (r : Nat → Value) (v : Value), ev e r (.const v) = v) ∧
    (∀ (e : Env) (r : Nat → Value) (k : Nat), ev e r (.global k) = .pointer (some ⟨k, 0, none⟩)) ∧ (∀ (e : Env) (r : Nat → Value) (k : Nat), ev e r (.func k) = .func (.func k) #[] #[]) ∧
    (∀ t : Nat, Env.get [] t = none) ∧ (∀ (e : Env) (k t : Nat) (v : Value), Env.get ((k, v) :: e) t = if t = k then some v else Env.get e t) ∧ (∀ v u : Value, (some v).getD u = v) ∧
    (∀ (P : Program) (v : Value) (H : Hp) (R : Value → Hp → Prop), NextH P (.value v) H R = R v H) ∧ (∀ (e : Env) (t : Nat) (v : Value), Env.putO e (some t) v = e.put t v) ∧ (∀ (e : Env) (v : Value), Env.putO e none v = e) ∧
    (∀ (t : Nat) (v : Value), Env.put [] t v = [(t, v)]) ∧ (∀ (e : Env) (k t : Nat) (u v : Value), Env.put ((k, u) :: e) t v = if t = k then (k, v) :: e else (k, u) :: Env.put e t v) ∧
    (∀ (H : Hp) (b : Nat) (o o' : Obj), (H.upd b o).upd b o' = H.upd b o') ∧ (∀ (P : Program) (f : FuncId) (args : Array Value) (H : Hp) (R : Value → Hp → Prop), NextH P (.enter f args) H R = CallH P f args H R) :=
  ⟨fun _ _ _ => rfl, fun _ _ _ => rfl, fun _ _ _ => rfl, fun _ _ _ => rfl, fun _ => rfl, fun _ _ _ _ => rfl, fun _ _ => rfl, fun _ _ _ _ => rfl, fun _ _ _ => rfl, fun _ _ => rfl, fun _ _ => rfl, fun _ _ _ _ _ => rfl, fun _ _ _ _ => upd_upd _ _ _ _, fun _ _ _ _ _ => rfl⟩
section
variable {P : Program} {n : Nat} {ops : Array Oper} {Q : Env → Hp → Prop} {d : Nat} {op : Op} {ty : TypeId} {p : String} {af : Array Edge} {rest : List Oper} {e : Env} {H : Hp}
theorem OW_opS (h : ∀ K : Env → Hp → Prop, (∀ e H, OW P n ops Q rest e H → K e H) → ∀ r, Lt P (execOp (ev e r) ⟨some d, op, ty, p, af, none⟩) H (fun nx H' => NextH P nx H' (fun v H'' => K (e.putO (some d) v) H''))) (hd : noDefer ⟨some d, op, ty, p, af, none⟩ = true := by rfl) (ht : d < n := by decide) :
    OW P n ops Q (⟨some d, op, ty, p, af, none⟩ :: rest) e H := OW_op hd (lt_some ht) h
/-- What an operand is, where it is known. -/
def evO (e : Env) : Operand → Option Value
  | .tmp t => e.get t
  | .const v => some v
  | _ => none
theorem evO_ev {e : Env} {x : Operand} {v : Value} (h : evO e x = some v) (r : Nat → Value) : ev e r x = v := by
  cases x with
  | tmp t => simp only [evO] at h; simp only [ev, h, Option.getD_some]
  | const c => simp only [evO, Option.some.injEq] at h; subst h; rfl
  | _ => simp [evO] at h
theorem OW_mv {x : Operand} {v : Value} (hv : evO e x = some v) (h : OW P n ops Q rest (e.put d v) H) (hd : noDefer ⟨some d, .move x, ty, p, af, none⟩ = true := by rfl) (ht : d < n := by decide) : OW P n ops Q (⟨some d, .move x, ty, p, af, none⟩ :: rest) e H :=
  OW_op hd (lt_some ht) fun K hK r => by
    rw [x_move, evO_ev hv r]
    exact hK _ _ h
theorem OW_as {x : Operand} {v : Value} (hv : evO e x = some v) (h : OW P n ops Q rest (e.put d v) H) (hd : noDefer ⟨some d, .assign x, ty, p, af, none⟩ = true := by rfl) (ht : d < n := by decide) : OW P n ops Q (⟨some d, .assign x, ty, p, af, none⟩ :: rest) e H :=
  OW_op hd (lt_some ht) fun K hK r => by
    rw [x_assign, evO_ev hv r]
    exact hK _ _ h
end
end Go.Proofs.Ytlkopcgoaldpeaa.HL
end
section
namespace Go.Proofs.Ytlkopcgoaldpeaa.HL
open Go Go.Proofs Go.Proofs.Ytlkopcgoaldpeaa.HL
set_option linter.unusedSimpArgs false
set_option linter.unusedVariables false
theorem sz3 : szOf Try.prog 3 = some 1 := by kernel_rfl
theorem sz4 : szOf Try.prog 4 = some 1 := by kernel_rfl
theorem sz5 : szOf Try.prog 5 = some 1 := by kernel_rfl
theorem sz22 : szOf Try.prog 22 = some 1 := by kernel_rfl
theorem sz24 : szOf Try.prog 24 = some 2 := by kernel_rfl
theorem sz33 : szOf Try.prog 33 = some 1 := by kernel_rfl
theorem sz35 : szOf Try.prog 35 = some 1 := by kernel_rfl
theorem sz47 : szOf Try.prog 47 = some 6 := by kernel_rfl
theorem by5 : byOf Try.prog 5 = some 1 := by kernel_rfl
theorem by47 : byOf Try.prog 47 = some 48 := by kernel_rfl
theorem eqg47 : Program.eqGuardType Try.prog Try.prog.depth 47 = false := by kernel_rfl
theorem zr5 : zrOf Try.prog 5 = some (some (.int .u8 0)) := by kernel_rfl
theorem zr24 : zrOf Try.prog 24 = some (some (.agg #[.int .i64 0, .slice none 0 0])) := by kernel_rfl
theorem zr40 : zrOf Try.prog 40 = some (some (.int .i64 0)) := by kernel_rfl
theorem zr47 : zrOf Try.prog 47 = some (some (.agg #[.int .i64 0, .int .i64 0, .int .i64 0, .int .i64 0, .int .i64 0, .int .i64 0])) := by kernel_rfl
theorem zr58 : zrOf Try.prog 58 = some (some (.agg #[.slice none 0 0])) := by kernel_rfl
theorem zr68 : zrOf Try.prog 68 = some (some (.pointer none)) := by kernel_rfl
theorem zr71 : zrOf Try.prog 71 = some (some (.agg #[.int .i64 0, .nilIface])) := by kernel_rfl
theorem zr93 : zrOf Try.prog 93 = some (some (.agg #[.slice none 0 0, .bool false])) := by kernel_rfl
theorem fa24_0 (a : Addr) (H : Hp) (K : Value → Hp → Prop) : Lt Try.prog (Instr.fieldAt 24 (.pointer (some a)) 0) H K = K (.pointer (some (a.add 0))) H := by
  have h := @fieldAt_one Try.prog 24 _ 0 _ 1 Try.underlying24 rfl sz3 (by decide) a H K
  exact h
theorem fa24_1 (a : Addr) (H : Hp) (K : Value → Hp → Prop) : Lt Try.prog (Instr.fieldAt 24 (.pointer (some a)) 1) H K = K (.pointer (some (a.add 1))) H := by
  have h := @fieldAt_one Try.prog 24 _ 1 _ 1 Try.underlying24 rfl sz22 (by decide) a H K
  exact h
theorem fa47_0 (a : Addr) (H : Hp) (K : Value → Hp → Prop) : Lt Try.prog (Instr.fieldAt 47 (.pointer (some a)) 0) H K = K (.pointer (some (a.add 0))) H := by
  have h := @fieldAt_one Try.prog 47 _ 0 _ 1 Try.underlying47 rfl sz3 (by decide) a H K
  exact h
theorem fa47_1 (a : Addr) (H : Hp) (K : Value → Hp → Prop) : Lt Try.prog (Instr.fieldAt 47 (.pointer (some a)) 1) H K = K (.pointer (some (a.add 1))) H := by
  have h := @fieldAt_one Try.prog 47 _ 1 _ 1 Try.underlying47 rfl sz3 (by decide) a H K
  exact h
theorem fa47_2 (a : Addr) (H : Hp) (K : Value → Hp → Prop) : Lt Try.prog (Instr.fieldAt 47 (.pointer (some a)) 2) H K = K (.pointer (some (a.add 2))) H := by
  have h := @fieldAt_one Try.prog 47 _ 2 _ 1 Try.underlying47 rfl sz3 (by decide) a H K
  exact h
theorem fa47_3 (a : Addr) (H : Hp) (K : Value → Hp → Prop) : Lt Try.prog (Instr.fieldAt 47 (.pointer (some a)) 3) H K = K (.pointer (some (a.add 3))) H := by
  have h := @fieldAt_one Try.prog 47 _ 3 _ 1 Try.underlying47 rfl sz3 (by decide) a H K
  exact h
theorem fa47_4 (a : Addr) (H : Hp) (K : Value → Hp → Prop) : Lt Try.prog (Instr.fieldAt 47 (.pointer (some a)) 4) H K = K (.pointer (some (a.add 4))) H := by
  have h := @fieldAt_one Try.prog 47 _ 4 _ 1 Try.underlying47 rfl sz3 (by decide) a H K
  exact h
theorem fa47_5 (a : Addr) (H : Hp) (K : Value → Hp → Prop) : Lt Try.prog (Instr.fieldAt 47 (.pointer (some a)) 5) H K = K (.pointer (some (a.add 5))) H := by
  have h := @fieldAt_one Try.prog 47 _ 5 _ 1 Try.underlying47 rfl sz3 (by decide) a H K
  exact h
theorem fa58_0 (a : Addr) (H : Hp) (K : Value → Hp → Prop) : Lt Try.prog (Instr.fieldAt 58 (.pointer (some a)) 0) H K = K (.pointer (some (a.add 0))) H := by
  have h := @fieldAt_one Try.prog 58 _ 0 _ 1 Try.underlying58 rfl sz33 (by decide) a H K
  exact h
theorem fa71_1 (a : Addr) (H : Hp) (K : Value → Hp → Prop) : Lt Try.prog (Instr.fieldAt 71 (.pointer (some a)) 1) H K = K (.pointer (some (a.add 1))) H := by
  have h := @fieldAt_one Try.prog 71 _ 1 _ 1 Try.underlying71 rfl sz35 (by decide) a H K
  exact h
theorem fa93_0 (a : Addr) (H : Hp) (K : Value → Hp → Prop) : Lt Try.prog (Instr.fieldAt 93 (.pointer (some a)) 0) H K = K (.pointer (some (a.add 0))) H := by
  have h := @fieldAt_one Try.prog 93 _ 0 _ 1 Try.underlying93 rfl sz33 (by decide) a H K
  exact h
theorem fa93_1 (a : Addr) (H : Hp) (K : Value → Hp → Prop) : Lt Try.prog (Instr.fieldAt 93 (.pointer (some a)) 1) H K = K (.pointer (some (a.add 1))) H := by
  have h := @fieldAt_one Try.prog 93 _ 1 _ 1 Try.underlying93 rfl sz4 (by decide) a H K
  exact h
theorem bp24 (ps : Array (Nat × Value)) (H : Hp) (K : Value → Hp → Prop) : Lt Try.prog (Instr.build 24 ps) H K = orF (Instr.fill (#[(0, 1), (1, 1)][·]?) #[.int .i64 0, .slice none 0 0] ps.toList) (fun c => K (.agg c) H) := by
  simp only [Instr.build, l_bind, l_zero, zr24, orF_some, l_und, Try.underlying24]
  simp [l_bind, l_pure, l_size, sz3, sz22, orF_some, l_map, Value.cells]
  cases Instr.fill _ _ _ <;> rfl
theorem bp47 (ps : Array (Nat × Value)) (H : Hp) (K : Value → Hp → Prop) : Lt Try.prog (Instr.build 47 ps) H K = orF (Instr.fill (#[(0, 1), (1, 1), (2, 1), (3, 1), (4, 1), (5, 1)][·]?) #[.int .i64 0, .int .i64 0, .int .i64 0, .int .i64 0, .int .i64 0, .int .i64 0] ps.toList) (fun c => K (.agg c) H) := by
  simp only [Instr.build, l_bind, l_zero, zr47, orF_some, l_und, Try.underlying47]
  simp [l_bind, l_pure, l_size, sz3, orF_some, l_map, Value.cells]
  cases Instr.fill _ _ _ <;> rfl
theorem bp58 (ps : Array (Nat × Value)) (H : Hp) (K : Value → Hp → Prop) : Lt Try.prog (Instr.build 58 ps) H K = orF (Instr.fill (#[(0, 1)][·]?) #[.slice none 0 0] ps.toList) (fun c => K (.agg c) H) := by
  simp only [Instr.build, l_bind, l_zero, zr58, orF_some, l_und, Try.underlying58]
  simp [l_bind, l_pure, l_size, sz33, orF_some, l_map, Value.cells]
  cases Instr.fill _ _ _ <;> rfl
theorem bp71 (ps : Array (Nat × Value)) (H : Hp) (K : Value → Hp → Prop) : Lt Try.prog (Instr.build 71 ps) H K = orF (Instr.fill (#[(0, 1), (1, 1)][·]?) #[.int .i64 0, .nilIface] ps.toList) (fun c => K (.agg c) H) := by
  simp only [Instr.build, l_bind, l_zero, zr71, orF_some, l_und, Try.underlying71]
  simp [l_bind, l_pure, l_size, sz3, sz35, orF_some, l_map, Value.cells]
  cases Instr.fill _ _ _ <;> rfl
theorem bp93 (ps : Array (Nat × Value)) (H : Hp) (K : Value → Hp → Prop) : Lt Try.prog (Instr.build 93 ps) H K = orF (Instr.fill (#[(0, 1), (1, 1)][·]?) #[.slice none 0 0, .bool false] ps.toList) (fun c => K (.agg c) H) := by
  simp only [Instr.build, l_bind, l_zero, zr93, orF_some, l_und, Try.underlying93]
  simp [l_bind, l_pure, l_size, sz4, sz33, orF_some, l_map, Value.cells]
  cases Instr.fill _ _ _ <;> rfl
theorem flk47 : flatK Try.prog 8 47 = some [some .i64, some .i64, some .i64, some .i64, some .i64, some .i64] := by kernel_rfl
theorem qfl47 (xs ys : List Value) (fx : Fit [some .i64, some .i64, some .i64, some .i64, some .i64, some .i64] xs) (fy : Fit [some .i64, some .i64, some .i64, some .i64, some .i64, some .i64] ys) {H : Hp} {K : Bool → Hp → Prop} : Lt Try.prog (Op.equalIn (9999 + 1) 47 (.agg xs.toArray) (.agg ys.toArray)) H K = K (eqV xs ys) H := by
  have h := q_flat 8 47 _ flk47 (9999 + 1) (by omega) xs ys fx fy H K
  have e : ∀ zs, wrapT Try.prog 47 zs = .agg zs.toArray := fun zs => by unfold wrapT; rw [Try.underlying47]; rfl
  rw [e, e] at h; exact h
theorem bd7 : bodied Try.prog 7 = true := by kernel_rfl
theorem bd8 : bodied Try.prog 8 = true := by kernel_rfl
theorem bd9 : bodied Try.prog 9 = true := by kernel_rfl
theorem bd12 : bodied Try.prog 12 = true := by kernel_rfl
theorem bd14 : bodied Try.prog 14 = true := by kernel_rfl
theorem bd16 : bodied Try.prog 16 = true := by kernel_rfl
theorem bd18 : bodied Try.prog 18 = true := by kernel_rfl
theorem bd19 : bodied Try.prog 19 = true := by kernel_rfl
theorem bd24 : bodied Try.prog 24 = true := by kernel_rfl
theorem bd26 : bodied Try.prog 26 = true := by kernel_rfl
theorem bd27 : bodied Try.prog 27 = true := by kernel_rfl
theorem bd28 : bodied Try.prog 28 = true := by kernel_rfl
theorem bd29 : bodied Try.prog 29 = true := by kernel_rfl
theorem bd30 : bodied Try.prog 30 = true := by kernel_rfl
theorem bd32 : bodied Try.prog 32 = true := by kernel_rfl
theorem bd33 : bodied Try.prog 33 = true := by kernel_rfl
theorem bd34 : bodied Try.prog 34 = true := by kernel_rfl
theorem bd35 : bodied Try.prog 35 = true := by kernel_rfl
theorem bd36 : bodied Try.prog 36 = true := by kernel_rfl
theorem bd37 : bodied Try.prog 37 = true := by kernel_rfl
theorem bd38 : bodied Try.prog 38 = true := by kernel_rfl
theorem bd46 : bodied Try.prog 46 = true := by kernel_rfl
theorem bd47 : bodied Try.prog 47 = true := by kernel_rfl
theorem bd48 : bodied Try.prog 48 = true := by kernel_rfl
theorem bd49 : bodied Try.prog 49 = true := by kernel_rfl
theorem bd50 : bodied Try.prog 50 = true := by kernel_rfl
theorem bd53 : bodied Try.prog 53 = true := by kernel_rfl
theorem bd54 : bodied Try.prog 54 = true := by kernel_rfl
theorem bd55 : bodied Try.prog 55 = true := by kernel_rfl
theorem bd59 : bodied Try.prog 59 = true := by kernel_rfl
theorem bd60 : bodied Try.prog 60 = true := by kernel_rfl
theorem bd61 : bodied Try.prog 61 = true := by kernel_rfl
end Go.Proofs.Ytlkopcgoaldpeaa.HL
end
section
namespace Go.Proofs.Ytlkopcgoaldpeaa.HL
open Go
/-- From H to H' all known blocks outside S stand; the blocks of S' are of S, or were not known. -/
def Frm (H : Hp) (S : Nat → Prop) (H' : Hp) (S' : Nat → Prop) : Prop := (∀ b o, H b = some o → ¬ S b → H' b = some o) ∧ ∀ b, S' b → S b ∨ H b = none
theorem Frm.refl (H : Hp) (S : Nat → Prop) : Frm H S H S := ⟨fun _ _ h _ => h, fun _ h => .inl h⟩
theorem Frm.trans {H H1 H2 : Hp} {S S1 S2 : Nat → Prop} (h1 : Frm H S H1 S1) (h2 : Frm H1 S1 H2 S2) : Frm H S H2 S2 := by
  refine ⟨fun b o hb hn => ?_, fun b hb => ?_⟩
  · refine h2.1 b o (h1.1 b o hb hn) fun hs => ?_
    rcases h1.2 b hs with h | h
    · exact hn h
    · rw [h] at hb; cases hb
  · rcases h2.2 b hb with h | h
    · exact h1.2 b h
    · by_cases hs : S b
      · exact .inl hs
      · right
        cases ho : H b with
        | none => rfl
        | some o => rw [h1.1 b o ho hs] at h; cases h
theorem Frm.new {H H1 : Hp} {S S1 : Nat → Prop} (h : Frm H S H1 S1) {b : Nat} {o : Obj} (hb : H1 b = none) : Frm H S (H1.upd b o) S1 := by
  refine ⟨fun x o' hx hn => ?_, h.2⟩
  have := h.1 x o' hx hn
  rw [upd_ne _ _ (by intro e; subst e; rw [this] at hb; cases hb)]; exact this
theorem Frm.le {H0 H H' : Hp} {S S' : Nat → Prop} (h : Frm H S H' S') (hl : Le H0 H) (hs : ∀ b, S b → H0 b = none) : Le H0 H' := fun b o hb =>
  h.1 b o (hl b o hb) fun hS => by rw [hs b hS] at hb; cases hb
theorem Frm.sep {H0 H H' : Hp} {S S' : Nat → Prop} (h : Frm H S H' S') (hl : Le H0 H) (hs : ∀ b, S b → H0 b = none) : ∀ b, S' b → H0 b = none := fun b hb => by
  rcases h.2 b hb with h1 | h1
  · exact hs b h1
  · exact none_of_le hl h1
theorem Frm.stay {H H' : Hp} {S S' T : Nat → Prop} (h : Frm H S H' S') (hd : ∀ b, T b → ¬ S b) : ∀ b o, T b → H b = some o → H' b = some o := fun b o hb ho => h.1 b o ho (hd b hb)
theorem Frm.of_le {H H' : Hp} (S : Nat → Prop) (h : Le H H') : Frm H S H' S := ⟨fun b o hb _ => h b o hb, fun _ hb => .inl hb⟩
theorem OwnS.stay {H H' : Hp} {E : TypeId} {w : Nat} {v : Value} {n : Nat} {cs : List Value} {rs : Option Nat} (h : OwnS H E w v n cs rs) (k : ∀ b o, rs = some b → H b = some o → H' b = some o) : OwnS H' E w v n cs rs := by
  obtain ⟨h1, h2⟩ := h
  refine ⟨h1, h2.imp id ?_⟩
  rintro ⟨r, cap, c, h3, h4, h5, h6, h7, h8⟩
  exact ⟨r, cap, c, h3, k r _ h8 h4, h5, h6, h7, h8⟩
theorem OwnS.known {H : Hp} {E : TypeId} {w : Nat} {v : Value} {n : Nat} {cs : List Value} {rs : Option Nat} (h : OwnS H E w v n cs rs) : ∀ b, rs = some b → H b ≠ none := by
  obtain ⟨_, ⟨_, _, h3⟩ | ⟨r, cap, c, _, h4, _, _, _, h8⟩⟩ := h
  · intro b hb; rw [h3] at hb; cases hb
  · intro b hb; rw [h8] at hb; cases hb; rw [h4]; simp
theorem Grow.known {H H' : Hp} {rs : Option Nat} (h : Grow H rs H') : ∀ b o, H b = some o → rs ≠ some b → H' b = some o := by
  intro b o hb hn
  rcases h with rfl | ⟨r, o', hr, rfl⟩
  · exact hb
  · rw [upd_ne]
    · exact hb
    · intro e; subst e
      rcases hr with hr | hr
      · exact hn hr
      · rw [hr] at hb; cases hb
end Go.Proofs.Ytlkopcgoaldpeaa.HL
namespace Go.Proofs.Ytlkopcgoaldpeaa.HL
open Go
theorem OwnS.set {H : Hp} {E : TypeId} {k : IntKind} {r n cap : Nat} {l : List Int} {c : Array Value} (h : OwnS H E 1 (.slice (some ⟨r, 0, none⟩) n cap) n (l.map (Value.int k ·)) (some r)) (hc : H r = some (.cells c E)) (i : Nat) (hi : i < n) (y : Int) : OwnS (H.upd r (.cells (c.setIfInBounds i (.int k y)) E)) E 1 (.slice (some ⟨r, 0, none⟩) n cap) n ((l.set i y).map (Value.int k ·)) (some r) := by
  obtain ⟨h1, ⟨h2, _, _⟩ | ⟨r', cap', c', h3, h4, h5, h6, h7, h8⟩⟩ := h
  · cases h2
  · cases h3
    rw [hc] at h4; cases h4
    refine ⟨by simpa using h1, .inr ⟨r, cap, _, rfl, upd_same _ _ _, h5, by simpa using h6, ?_, rfl⟩⟩
    have e : (l.set i y).map (Value.int k ·) = (l.map (Value.int k ·)).set i (.int k y) := by rw [List.map_set]
    rw [e, ← h7]
    simp only [Array.toList_extract, List.extract_eq_take_drop, Array.toList_setIfInBounds, List.drop_zero, Nat.sub_zero, List.take_set]
end Go.Proofs.Ytlkopcgoaldpeaa.HL
end
section
namespace Go.Proofs.Ytlkopcgoaldpeaa.HL
open Go

theorem w_i64 (x : Int) : IntKind.i64.wrap x = (x + 9223372036854775808) % 18446744073709551616 - 9223372036854775808 := by
  simp [IntKind.wrap, IntKind.bits, IntKind.signed]; omega
theorem w_u64 (x : Int) : IntKind.u64.wrap x = x % 18446744073709551616 := by simp [IntKind.wrap, IntKind.bits, IntKind.signed]
def loW (W : Int) : Int := W % 18446744073709551616
def hiW (W : Int) : Int := (W / 18446744073709551616 + 9223372036854775808) % 18446744073709551616 - 9223372036854775808
def fitsI (W : Int) : Prop := -9223372036854775808 ≤ W ∧ W ≤ 9223372036854775807
instance (W : Int) : Decidable (fitsI W) := inferInstanceAs (Decidable (_ ∧ _))
def okI (W : Int) : Int := if fitsI W then W else 0
def okE (W : Int) : Option Int := if fitsI W then none else some 7
theorem u64_nonneg (z : Int) : 0 ≤ IntKind.u64.wrap z := by rw [w_u64]; omega
theorem u64_lt (z : Int) : IntKind.u64.wrap z < 18446744073709551616 := by rw [w_u64]; omega
end Go.Proofs.Ytlkopcgoaldpeaa.HL
end
section
namespace Go.Proofs.Ytlkopcgoaldpeaa.HL
open Go

/-- The first n figures' number. -/
def D (l : List Int) : Nat → Int
  | 0 => 0
  | n + 1 => D l n + l.getD n 0 * 10 ^ n
def dec (l : List Int) : Int := D l l.length
def Dig (l : List Int) : Prop := ∀ d ∈ l, 0 ≤ d ∧ d ≤ 9
def Norm (l : List Int) : Prop := l.getLast? ≠ some 0
def bval (b : Bool) (l : List Int) : Int := if b = true then -dec l else dec l
def NB (b : Bool) (l : List Int) : Prop := Norm l ∧ (l = [] → b = false)

theorem Dig.at {l : List Int} (h : Dig l) (i : Nat) : 0 ≤ l.getD i 0 ∧ l.getD i 0 ≤ 9 := by
  by_cases hi : i < l.length
  · rw [List.getD_eq_getElem?_getD, List.getElem?_eq_getElem hi]; exact h _ (List.getElem_mem hi)
  · rw [List.getD_eq_getElem?_getD, List.getElem?_eq_none (by omega)]; simp
theorem getD_out {l : List Int} {i : Nat} (h : l.length ≤ i) : l.getD i 0 = 0 := by rw [List.getD_eq_getElem?_getD, List.getElem?_eq_none h]; rfl
theorem Dig.append {l : List Int} {x : Int} (h : Dig l) (h0 : 0 ≤ x) (h9 : x ≤ 9) : Dig (l ++ [x]) := fun d hd => by
  rcases List.mem_append.1 hd with hd | hd
  · exact h d hd
  · simp at hd; subst hd; exact ⟨h0, h9⟩
theorem Dig.nil : Dig [] := fun d hd => by cases hd
theorem Dig.take {l : List Int} (h : Dig l) (n : Nat) : Dig (l.take n) := fun d hd => h d (List.mem_of_mem_take hd)
theorem Dig.drop {l : List Int} (h : Dig l) (n : Nat) : Dig (l.drop n) := fun d hd => h d (List.mem_of_mem_drop hd)

/-! ### comparing -/
/-! ### normal rows -/
theorem len_pos {l : List Int} (h : l ≠ []) : 0 < l.length := by cases l with
  | nil => exact absurd rfl h
  | cons x r => simp
theorem NB.nil : NB false [] := ⟨by simp [Norm], fun _ => rfl⟩

/-! ### a step of each -/
def CapOk (v : Value) (n : Nat) : Prop := ∃ a cap, v = .slice a n cap ∧ n ≤ cap
theorem OwnS.capOk {H : Hp} {E : TypeId} {w : Nat} {v : Value} {n : Nat} {cs : List Value} {rs : Option Nat} (h : OwnS H E w v n cs rs) : CapOk v n := by
  obtain ⟨_, ⟨rfl, rfl, _⟩ | ⟨r, cap, c, rfl, _, h5, _⟩⟩ := h
  · exact ⟨none, 0, rfl, Nat.le_refl _⟩
  · exact ⟨_, cap, rfl, h5⟩
/-- A value of the figures' struct. -/
def BigV (H : Hp) (val : Value) (b : Bool) (l : List Int) (n : Nat) : Prop := ∃ v, val = .agg #[.bool b, v] ∧ Holds H 1 v l.length (i64s l) ∧ CapOk v l.length ∧ Dig l ∧ NB b l ∧ l.length ≤ n
theorem BigV.le {H H' : Hp} {val : Value} {b : Bool} {l : List Int} {n : Nat} (h : BigV H val b l n) (k : Le H H') : BigV H' val b l n := by
  obtain ⟨v, h1, h2, h3⟩ := h
  exact ⟨v, h1, h2.le k, h3⟩
end Go.Proofs.Ytlkopcgoaldpeaa.HL
end
section
namespace Go.Proofs.Ytlkopcgoaldpeaa.HL
open Go

/-! ### half a step: two halves by a number whose highest bit is set -/
def KN (Y y1 y0 : Int) : Prop := Y = y1 * 4294967296 + y0 ∧ 2147483648 ≤ y1 ∧ y1 < 4294967296 ∧ 0 ≤ y0 ∧ y0 < 4294967296
def KI (Y y1 u d q r : Int) : Prop := q * y1 + r = u ∧ 0 ≤ r ∧ (u * 4294967296 + d) / Y ≤ q ∧ q ≤ 4294967297 ∧ 0 ≤ q
/-! ### shifting -/
theorem or_add {x y : Int} {s : Nat} (hs : s ≤ 64) (hx : 0 ≤ x) (hx2 : x * 2 ^ s < 18446744073709551616) (hy : 0 ≤ y) (hy2 : y < 2 ^ s) : IntKind.u64.wrap (BitVec.ofInt IntKind.u64.bits (x * 2 ^ s) ||| BitVec.ofInt IntKind.u64.bits y).toNat = x * 2 ^ s + y := by
  have hp : (2 : Int) ^ s = ((2 ^ s : Nat) : Int) := by simp
  obtain ⟨x, rfl⟩ := Int.eq_ofNat_of_zero_le hx
  obtain ⟨y, rfl⟩ := Int.eq_ofNat_of_zero_le hy
  rw [hp] at *
  have e1 : ((x : Int) * ((2 ^ s : Nat) : Int)) = ((x * 2 ^ s : Nat) : Int) := by simp
  rw [e1] at *
  have hp64 : 2 ^ s ≤ 2 ^ 64 := Nat.pow_le_pow_right (by omega) hs
  have h1 : x * 2 ^ s < 2 ^ 64 := by omega
  have h2 : y < 2 ^ 64 := by omega
  show IntKind.u64.wrap ((BitVec.ofInt 64 ((x * 2 ^ s : Nat) : Int) ||| BitVec.ofInt 64 (y : Int)).toNat : Nat) = _
  rw [BitVec.toNat_or, BitVec.toNat_ofInt, BitVec.toNat_ofInt]
  have e2 : (((x * 2 ^ s : Nat) : Int) % ((2 ^ 64 : Nat) : Int)).toNat = x * 2 ^ s := by omega
  have e3 : ((y : Int) % ((2 ^ 64 : Nat) : Int)).toNat = y := by omega
  rw [e2, e3, Nat.mul_comm x, ← Nat.two_pow_add_eq_or_of_lt (by omega), w_u64]
  rw [Nat.mul_comm x] at h1
  have : 2 ^ s * x + y < 2 ^ 64 := by
    have hk : y < 2 ^ s := by omega
    have h3 : 2 ^ s * x + 2 ^ s ≤ 2 ^ 64 := by
      have hd : 2 ^ s * (2 ^ (64 - s)) = 2 ^ 64 := by rw [← Nat.pow_add]; congr 1; omega
      have : x < 2 ^ (64 - s) := by
        apply Classical.byContradiction; intro hc
        have := Nat.mul_le_mul_left (2 ^ s) (show 2 ^ (64 - s) ≤ x by omega)
        omega
      have := Nat.mul_le_mul_left (2 ^ s) (show x + 1 ≤ 2 ^ (64 - s) by omega)
      rw [Nat.mul_add, Nat.mul_one] at this
      omega
    omega
  omega
theorem shl_fits {x : Int} {s : Nat} (hx : 0 ≤ x) (h : x * 2 ^ s < 18446744073709551616) : IntKind.u64.wrap (x * 2 ^ s) = x * 2 ^ s := by
  have := Int.mul_nonneg hx (show (0 : Int) ≤ 2 ^ s from Int.le_of_lt (Int.pow_pos (by omega)))
  rw [w_u64]; omega
/-! ### dividing toward nought -/
end Go.Proofs.Ytlkopcgoaldpeaa.HL
namespace Go.Proofs.Ytlkopcgoaldpeaa.HL
open Go
end Go.Proofs.Ytlkopcgoaldpeaa.HL
namespace Go.Proofs.Ytlkopcgoaldpeaa.HL
open Go
end Go.Proofs.Ytlkopcgoaldpeaa.HL
namespace Go.Proofs.Ytlkopcgoaldpeaa.HL
open Go
/-- is an answer that number, or the fault, if it is none? -/
def isB (n : Int) (e : Option Int) (W : Int) : Bool := if fitsI W then decide (e = none) && decide (n = W) else decide (e.getD 0 = 7) && decide (n = 0)
end Go.Proofs.Ytlkopcgoaldpeaa.HL
namespace Go.Proofs.Ytlkopcgoaldpeaa.HL
open Go
end Go.Proofs.Ytlkopcgoaldpeaa.HL
end
section
namespace Go.Proofs.Ytlkopcgoaldpeaa.HL
open Go

/-- A count's bytes. -/
def cnt (n : Nat) : List Int := if n < 128 then [(n : Int)] else ((n % 128 + 128 : Nat) : Int) :: cnt (n / 128)
termination_by n
decreasing_by omega
theorem cnt_lt {n : Nat} (h : n < 128) : cnt n = [(n : Int)] := by rw [cnt, if_pos h]
theorem cnt_ge {n : Nat} (h : ¬ n < 128) : cnt n = ((n % 128 + 128 : Nat) : Int) :: cnt (n / 128) := by rw [cnt, if_neg h]
theorem cnt_ne (n : Nat) : cnt n ≠ [] := by
  by_cases h : n < 128
  · rw [cnt_lt h]; simp
  · rw [cnt_ge h]; simp
theorem cnt_bytes (n : Nat) : ByteL (cnt n) := by
  induction n using Nat.strongRecOn with
  | ind n ih =>
    by_cases h : n < 128
    · rw [cnt_lt h]; intro x hx; simp at hx; omega
    · rw [cnt_ge h]; intro x hx
      rcases List.mem_cons.1 hx with rfl | hx
      · omega
      · exact ih _ (by omega) x hx
/-- The number of a row of such bytes. -/
def valL : List Int → Nat
  | [] => 0
  | b :: t => b.toNat % 128 + 128 * valL t
theorem valL_cnt (n : Nat) : valL (cnt n) = n := by
  induction n using Nat.strongRecOn with
  | ind n ih =>
    by_cases h : n < 128
    · rw [cnt_lt h]; simp [valL]; omega
    · rw [cnt_ge h, valL, ih _ (by omega)]; omega
theorem cnt_pref {a b : Nat} : ∀ {x y : List Int}, cnt a ++ x = cnt b ++ y → a = b ∧ x = y := by
  induction a using Nat.strongRecOn generalizing b with
  | ind a ih =>
    intro x y h
    by_cases ha : a < 128 <;> by_cases hb : b < 128
    · rw [cnt_lt ha, cnt_lt hb] at h
      simp only [List.singleton_append, List.cons.injEq] at h
      exact ⟨by omega, h.2⟩
    · rw [cnt_lt ha, cnt_ge hb] at h
      simp only [List.singleton_append, List.cons_append, List.cons.injEq] at h
      omega
    · rw [cnt_ge ha, cnt_lt hb] at h
      simp only [List.singleton_append, List.cons_append, List.cons.injEq] at h
      omega
    · rw [cnt_ge ha, cnt_ge hb] at h
      simp only [List.cons_append, List.cons.injEq] at h
      have := ih (a / 128) (by omega) h.2
      exact ⟨by omega, this.2⟩
theorem cnt_len (n : Nat) : (cnt n).length = max 1 ((bitLen n + 6) / 7) := by
  induction n using Nat.strongRecOn with
  | ind n ih =>
    by_cases h : n < 128
    · rw [cnt_lt h]
      have : bitLen n ≤ 7 := by
        unfold bitLen; split
        · omega
        · rename_i h0
          have := (Nat.log2_lt h0).2 (show n < 2 ^ 7 from h)
          omega
      simp only [List.length_singleton]; omega
    · rw [cnt_ge h, List.length_cons, ih _ (by omega), bitLen_shift n 7 (show n / 2 ^ 7 ≠ 0 by omega)]
      have : 1 ≤ bitLen (n / 128) := by unfold bitLen; rw [if_neg (by omega)]; omega
      show max 1 ((bitLen (n / 128) + 6) / 7) + 1 = max 1 ((7 + bitLen (n / 128) + 6) / 7)
      omega
theorem cnt_len10 {n : Nat} (h : n < 18446744073709551616) : (cnt n).length ≤ 10 := by
  have : bitLen n ≤ 64 := by
    unfold bitLen; split
    · omega
    · rename_i h0
      have := (Nat.log2_lt h0).2 (show n < 2 ^ 64 from h)
      omega
  rw [cnt_len]; omega

/-! ### what a row of bytes begins with -/
def Big1 (p : List Int) : Prop := ∀ x ∈ p, 128 ≤ x ∧ x ≤ 255
theorem Big1.nil : Big1 [] := fun x h => by cases h
theorem Big1.snoc {p : List Int} {c : Int} (h : Big1 p) (h1 : 128 ≤ c) (h2 : c ≤ 255) : Big1 (p ++ [c]) := fun x hx => by
  rcases List.mem_append.1 hx with hx | hx
  · exact h x hx
  · simp at hx; omega
theorem valL_append (p q : List Int) : valL (p ++ q) = valL p + 128 ^ p.length * valL q := by
  induction p with
  | nil => simp [valL]
  | cons b t ih =>
    simp only [List.cons_append, valL, ih, List.length_cons, Nat.pow_succ]
    rw [Nat.mul_add, Nat.mul_comm (128 ^ t.length) 128, Nat.mul_assoc]; omega
theorem valL_lt (p : List Int) : valL p < 128 ^ p.length := by
  induction p with
  | nil => simp [valL]
  | cons b t ih => simp only [valL, List.length_cons, Nat.pow_succ]; omega
theorem cnt_of {p : List Int} : ∀ (_ : Big1 p) {c : Int} (_ : 0 ≤ c) (_ : c < 128) (_ : p = [] ∨ c ≠ 0), cnt (valL (p ++ [c])) = p ++ [c] := by
  induction p with
  | nil =>
    intro _ c h0 h1 _
    have : valL ([] ++ [c]) = c.toNat := by simp [valL]; omega
    rw [this, cnt_lt (by omega)]; simp; omega
  | cons b t ih =>
    intro hp c h0 h1 hc
    have hb := hp b (by simp)
    have h := ih (fun x hx => hp x (by simp [hx])) h0 h1 (by rcases hc with hc | hc; cases hc; exact .inr hc)
    have hc0 : c ≠ 0 := by rcases hc with hc | hc; cases hc; exact hc
    have hpos : 1 ≤ valL (t ++ [c]) := by
      rw [valL_append]
      have : 1 ≤ valL [c] := by simp [valL]; omega
      have := Nat.mul_le_mul (Nat.one_le_pow t.length 128 (by omega)) this
      omega
    simp only [List.cons_append, valL]
    rw [cnt_ge (by omega)]
    have e1 : (b.toNat % 128 + 128 * valL (t ++ [c])) / 128 = valL (t ++ [c]) := by omega
    rw [e1, h]
    congr 1; omega
theorem cnt_shape (n : Nat) : ∃ q d, cnt n = q ++ [d] ∧ Big1 q ∧ 0 ≤ d ∧ d < 128 ∧ (q = [] ∨ d ≠ 0) := by
  induction n using Nat.strongRecOn with
  | ind n ih =>
    by_cases h : n < 128
    · exact ⟨[], n, by rw [cnt_lt h]; rfl, Big1.nil, by omega, by omega, .inl rfl⟩
    · obtain ⟨q, d, h1, h2, h3, h4, h5⟩ := ih (n / 128) (by omega)
      refine ⟨((n % 128 + 128 : Nat) : Int) :: q, d, by rw [cnt_ge h, h1]; rfl, fun x hx => ?_, h3, h4, ?_⟩
      · rcases List.mem_cons.1 hx with rfl | hx
        · omega
        · exact h2 x hx
      · right
        rcases h5 with rfl | h5
        · intro h0
          subst h0
          have := valL_cnt (n / 128)
          rw [h1] at this; simp [valL] at this; omega
        · exact h5
/-- what stands at the head, if all that is there is great -/
theorem no_cnt {p : List Int} (hp : Big1 p) {u : Nat} {x : List Int} : p ≠ cnt u ++ x := by
  intro h
  obtain ⟨q, d, h1, h2, h3, h4, _⟩ := cnt_shape u
  have : d ∈ p := by rw [h, h1]; simp
  have := hp d this
  omega
theorem split_at {p q : List Int} (hp : Big1 p) (hq : Big1 q) : ∀ {c d : Int} {x y : List Int} (_ : c < 128) (_ : d < 128), p ++ c :: x = q ++ d :: y → p = q ∧ c = d ∧ x = y := by
  induction p generalizing q with
  | nil =>
    intro c d x y hc hd h
    cases q with
    | nil => simp at h; exact ⟨rfl, h.1, h.2⟩
    | cons b t => simp at h; have := hq b (by simp); omega
  | cons b t ih =>
    intro c d x y hc hd h
    cases q with
    | nil => simp at h; have := hp b (by simp); omega
    | cons b' t' =>
      simp only [List.cons_append, List.cons.injEq] at h
      obtain ⟨h1, h2⟩ := h
      obtain ⟨h3, h4, h5⟩ := ih (fun z hz => hp z (by simp [hz])) (q := t') (fun z hz => hq z (by simp [hz])) hc hd h2
      exact ⟨by rw [h1, h3], h4, h5⟩
/-- What a reading of a count comes to: a count and what is behind it; none. -/
def RC (l : List Int) : Option (Nat × List Int) → Prop
  | some (u, r) => l = cnt u ++ r ∧ u < 18446744073709551616
  | none => ∀ u r, u < 18446744073709551616 → l ≠ cnt u ++ r
theorem RC.uniq {l : List Int} : ∀ {a b : Option (Nat × List Int)}, RC l a → RC l b → a = b
  | none, none, _, _ => rfl
  | none, some (u, r), h1, h2 => absurd h2.1 (h1 u r h2.2)
  | some (u, r), none, h1, h2 => absurd h1.1 (h2 u r h1.2)
  | some (u, r), some (v, s), h1, h2 => by
    have := cnt_pref (h1.1.symm.trans h2.1)
    rw [this.1, this.2]
theorem RC.cnt {u : Nat} (r : List Int) (h : u < 18446744073709551616) : RC (cnt u ++ r) (some (u, r)) := ⟨rfl, h⟩
theorem RC_end {p : List Int} (hp : Big1 p) : RC p none := fun u r _ h => no_cnt hp h
theorem RC_good {p r : List Int} {c : Int} (hp : Big1 p) (h0 : 0 ≤ c) (h1 : c < 128) (hc : p = [] ∨ c ≠ 0) (h : valL (p ++ [c]) < 18446744073709551616) : RC (p ++ c :: r) (some (valL (p ++ [c]), r)) := by
  refine ⟨?_, h⟩
  rw [cnt_of hp h0 h1 hc]; simp
theorem RC_zero {p r : List Int} (hp : Big1 p) (hne : p ≠ []) : RC (p ++ (0 : Int) :: r) none := by
  intro u x hu h
  obtain ⟨q, d, h1, h2, h3, h4, h5⟩ := cnt_shape u
  rw [h1, List.append_assoc, List.singleton_append] at h
  obtain ⟨e1, e2, _⟩ := split_at hp h2 (by omega) h4 h
  rcases h5 with h5 | h5
  · exact hne (e1.trans h5)
  · exact h5 e2.symm
theorem valL_snoc (p : List Int) {c : Int} (h0 : 0 ≤ c) (h1 : c < 128) : valL (p ++ [c]) = valL p + 128 ^ p.length * c.toNat := by
  rw [valL_append]; simp only [valL]; congr 2; omega
theorem RC_over {p r : List Int} {c : Int} (hp : Big1 p) (hl : p.length = 9) (h1 : 1 < c) (h2 : c ≤ 255) : RC (p ++ c :: r) none := by
  intro u x hu h
  obtain ⟨q, d, k1, k2, k3, k4, k5⟩ := cnt_shape u
  by_cases hc : c < 128
  · rw [k1, List.append_assoc, List.singleton_append] at h
    obtain ⟨rfl, rfl, _⟩ := split_at hp k2 hc k4 h
    have := valL_cnt u
    rw [k1, valL_snoc _ k3 k4, hl] at this
    have h9 : (128 : Nat) ^ 9 = 9223372036854775808 := by decide
    rw [h9] at this
    omega
  · have hb : Big1 (p ++ [c]) := hp.snoc (by omega) h2
    have e : p ++ c :: r = (p ++ [c]) ++ r := by simp
    have hlen := cnt_len10 hu
    rw [e] at h
    -- the first ten bytes are great: the count is longer than ten
    have : (cnt u).length ≤ (p ++ [c]).length := by simp; omega
    have h3 := congrArg (List.take (cnt u).length) h
    rw [List.take_append_of_le_length this, List.take_left] at h3
    exact no_cnt (fun z hz => hb z (List.mem_of_mem_take hz)) (x := []) (h3.trans (List.append_nil _).symm)
/-- the number so far -/
theorem valL_step {p : List Int} {c : Int} (h0 : 0 ≤ c) : valL (p ++ [c]) = valL p + c.toNat % 128 * 128 ^ p.length := by
  rw [valL_append]; simp only [valL, Nat.mul_zero, Nat.add_zero]; rw [Nat.mul_comm]
end Go.Proofs.Ytlkopcgoaldpeaa.HL
namespace Go.Proofs.Ytlkopcgoaldpeaa.HL
open Go
/-! ### the machine's words -/
theorem shr7 (z : Int) : z.fdiv (2 ^ (min 7 IntKind.u64.bits)) = z / 128 := by
  have : (2 : Int) ^ (min 7 IntKind.u64.bits) = 128 := by decide
  rw [this, Int.fdiv_eq_ediv_of_nonneg _ (by omega)]
theorem shr1 (z : Int) : z.fdiv (2 ^ (min 1 IntKind.u64.bits)) = z / 2 := by
  have : (2 : Int) ^ (min 1 IntKind.u64.bits) = 2 := by decide
  rw [this, Int.fdiv_eq_ediv_of_nonneg _ (by omega)]
theorem w_u8 (x : Int) : IntKind.u8.wrap x = x % 256 := by simp [IntKind.wrap, IntKind.bits, IntKind.signed]
theorem or128_all : ∀ x : Fin 256, (BitVec.ofInt 8 ((x.val : Nat) : Int) ||| BitVec.ofInt 8 128).toNat = x.val % 128 + 128 := by decide +kernel
theorem or128 (n : Int) : IntKind.u8.wrap (BitVec.ofInt IntKind.u8.bits (IntKind.u8.wrap n) ||| BitVec.ofInt IntKind.u8.bits 128).toNat = n % 128 + 128 := by
  have h := or128_all ⟨(n % 256).toNat, by omega⟩
  have e : (((n % 256).toNat : Nat) : Int) = n % 256 := by omega
  simp only [e] at h
  rw [w_u8 n, w_u8]
  show (((BitVec.ofInt 8 (n % 256) ||| BitVec.ofInt 8 128).toNat : Nat) : Int) % 256 = _
  rw [h]; omega
theorem and127_all : ∀ x : Fin 256, (BitVec.ofInt 8 ((x.val : Nat) : Int) &&& BitVec.ofInt 8 127).toNat = x.val % 128 := by decide +kernel
theorem and127 {c : Int} (h0 : 0 ≤ c) (h1 : c ≤ 255) : IntKind.u8.wrap (BitVec.ofInt IntKind.u8.bits c &&& BitVec.ofInt IntKind.u8.bits 127).toNat = c % 128 := by
  have h := and127_all ⟨c.toNat, by omega⟩
  have e : ((c.toNat : Nat) : Int) = c := by omega
  simp only [e] at h
  rw [w_u8]
  show (((BitVec.ofInt 8 c &&& BitVec.ofInt 8 127).toNat : Nat) : Int) % 256 = _
  rw [h]; omega
/-- a number's count -/
def zig (n : Int) : Nat := if n < 0 then 2 * (-(n + 1)).toNat + 1 else 2 * n.toNat
def unzig (u : Nat) : Int := if u % 2 = 1 then -((u / 2 : Nat) : Int) - 1 else ((u / 2 : Nat) : Int)
theorem unzig_zig (n : Int) : unzig (zig n) = n := by unfold zig unzig; split <;> (split <;> omega)
theorem zig_lt {n : Int} (h1 : -9223372036854775808 ≤ n) (h2 : n ≤ 9223372036854775807) : zig n < 18446744073709551616 := by unfold zig; split <;> omega
theorem zig_inj {a b : Int} (h : zig a = zig b) : a = b := by rw [← unzig_zig a, ← unzig_zig b, h]
theorem xor_zero64 (x : Int) : (BitVec.ofInt 64 x ^^^ BitVec.ofInt 64 0).toNat = (x % 18446744073709551616).toNat := by
  rw [show BitVec.ofInt 64 0 = 0#64 from rfl, BitVec.xor_zero, BitVec.toNat_ofInt]; rfl
theorem xor_ones64 (x : Int) : (BitVec.ofInt 64 x ^^^ BitVec.ofInt 64 (-1)).toNat = 18446744073709551615 - (x % 18446744073709551616).toNat := by
  rw [show BitVec.ofInt 64 (-1) = BitVec.allOnes 64 from rfl, BitVec.xor_allOnes, BitVec.toNat_not, BitVec.toNat_ofInt]; rfl
theorem ofInt_mod64 (x : Int) : BitVec.ofInt 64 (x % 18446744073709551616) = BitVec.ofInt 64 x := by
  apply BitVec.eq_of_toNat_eq
  rw [BitVec.toNat_ofInt, BitVec.toNat_ofInt]
  show ((x % 18446744073709551616) % 18446744073709551616).toNat = (x % 18446744073709551616).toNat
  omega
theorem zig_bits {n : Int} (h1 : -9223372036854775808 ≤ n) (h2 : n ≤ 9223372036854775807) :
    IntKind.u64.wrap (BitVec.ofInt IntKind.u64.bits (IntKind.u64.wrap (IntKind.u64.wrap n * 2 ^ (min (1 : Int).toNat IntKind.u64.bits))) ^^^ BitVec.ofInt IntKind.u64.bits (IntKind.u64.wrap (n.fdiv (2 ^ (min (63 : Int).toNat IntKind.i64.bits))))).toNat = zig n := by
  have e : (2 : Int) ^ (min (63 : Int).toNat IntKind.i64.bits) = 9223372036854775808 := by decide
  have e1 : (2 : Int) ^ (min (1 : Int).toNat IntKind.u64.bits) = 2 := by decide
  rw [e, e1, Int.fdiv_eq_ediv_of_nonneg _ (by omega), w_u64, w_u64 n, w_u64 (n % 18446744073709551616 * 2), w_u64 (n / 9223372036854775808)]
  show (((BitVec.ofInt 64 (n % 18446744073709551616 * 2 % 18446744073709551616) ^^^ BitVec.ofInt 64 (n / 9223372036854775808 % 18446744073709551616)).toNat : Nat) : Int) % 18446744073709551616 = _
  rw [ofInt_mod64, ofInt_mod64]
  by_cases hn : n < 0
  · have e2 : n / 9223372036854775808 = -1 := by omega
    rw [e2, xor_ones64]; unfold zig; rw [if_pos hn]; omega
  · have e2 : n / 9223372036854775808 = 0 := by omega
    rw [e2, xor_zero64]; unfold zig; rw [if_neg hn]; omega
theorem and1_all (u : Int) (h0 : 0 ≤ u) (h1 : u < 18446744073709551616) : IntKind.u64.wrap (BitVec.ofInt IntKind.u64.bits u &&& BitVec.ofInt IntKind.u64.bits 1).toNat = u % 2 := by
  show IntKind.u64.wrap (((BitVec.ofInt 64 u &&& BitVec.ofInt 64 1).toNat : Nat) : Int) = _
  rw [BitVec.toNat_and, BitVec.toNat_ofInt, BitVec.toNat_ofInt, w_u64]
  have e1 : ((1 : Int) % ((2 ^ 64 : Nat) : Int)).toNat = 1 := by decide
  rw [e1, Nat.and_one_is_mod]
  have e2 : (u % ((2 ^ 64 : Nat) : Int)).toNat = u.toNat := by omega
  rw [e2]; omega
theorem unzig_bits {u : Nat} (h : u < 18446744073709551616) : IntKind.i64.wrap (BitVec.ofInt IntKind.i64.bits ((u : Int) / 2) ^^^ BitVec.ofInt IntKind.i64.bits (-((u : Int) % 2))).toNat = unzig u := by
  show IntKind.i64.wrap (((BitVec.ofInt 64 ((u : Int) / 2) ^^^ BitVec.ofInt 64 (-((u : Int) % 2))).toNat : Nat) : Int) = _
  rw [w_i64]
  by_cases hu : u % 2 = 1
  · have e : -((u : Int) % 2) = -1 := by omega
    rw [e, xor_ones64]; unfold unzig; rw [if_pos hu]; omega
  · have e : -((u : Int) % 2) = 0 := by omega
    rw [e, xor_zero64]; unfold unzig; rw [if_neg hu]; omega
end Go.Proofs.Ytlkopcgoaldpeaa.HL
namespace Go.Proofs.Ytlkopcgoaldpeaa.HL
open Go
theorem ByteL.at {l : List Int} (h : ByteL l) (n : Nat) : 0 ≤ l.getD n 0 ∧ l.getD n 0 ≤ 255 := by
  by_cases hn : n < l.length
  · have : l.getD n 0 ∈ l := by rw [List.getD_eq_getElem?_getD, List.getElem?_eq_getElem hn]; exact List.getElem_mem hn
    have := h _ this
    omega
  · rw [getD_out (by omega)]; omega
theorem ByteL.drop {l : List Int} (h : ByteL l) (n : Nat) : ByteL (l.drop n) := fun x hx => h x (List.mem_of_mem_drop hx)
theorem ByteL.take {l : List Int} (h : ByteL l) (n : Nat) : ByteL (l.take n) := fun x hx => h x (List.mem_of_mem_take hx)
end Go.Proofs.Ytlkopcgoaldpeaa.HL
end
section
namespace Go.Proofs.Ytlkopcgoaldpeaa.HL
open Go
structure VL where
  k : Int
  n : Int
  u : Nat
  v : Value
  b : List Int
instance : Inhabited VL := ⟨⟨0, 0, 0, .slice none 0 0, []⟩⟩
abbrev VL.c (x : VL) : List Value := [.int .i64 x.k, .int .i64 x.n, .int .u64 x.u, x.v]
theorem VL.len (x : VL) : x.c.length = 4 := rfl
structure VL.ok (H : Hp) (x : VL) : Prop where
  k1 : -9223372036854775808 ≤ x.k
  k2 : x.k ≤ 9223372036854775807
  n1 : -9223372036854775808 ≤ x.n
  n2 : x.n ≤ 9223372036854775807
  u2 : x.u < 18446744073709551616
  hv : Holds H 1 x.v x.b.length (u8s x.b)
  hb : ByteL x.b
theorem VL.ok.le {H H' : Hp} {x : VL} (h : x.ok H) (k : Le H H') : x.ok H' := ⟨h.k1, h.k2, h.n1, h.n2, h.u2, h.hv.le k, h.hb⟩
abbrev vls (l : List VL) : List Value := l.flatMap VL.c
/-- a value's bytes -/
def encV (k n : Int) (u : Nat) (b : List Int) : List Int :=
  if k = 1 then cnt (zig n) else if k = 2 then [if n = 1 then 1 else 0] else if k = 3 then cnt b.length ++ b else if k = 4 then cnt b.length ++ b else if k = 5 then [n % 256] else cnt u
def VL.enc (x : VL) : List Int := encV x.k x.n x.u x.b
/-- the bytes of the first values -/
def encs (l : List VL) (k : Nat) : List Int := (l.take k).flatMap VL.enc
theorem OwnS.block {H : Hp} {E : TypeId} {n cap : Nat} {a : Option Addr} {cs : List Value} {rs : Option Nat} (h : OwnS H E 1 (.slice a n cap) n cs rs) (hn : 0 < n) : ∃ r c, a = some ⟨r, 0, none⟩ ∧ rs = some r ∧ H r = some (.cells c E) ∧ n ≤ cap ∧ c.size = cap ∧ (c.extract 0 n).toList = cs := by
  obtain ⟨_, ⟨_, h3, _⟩ | ⟨r, cap', c, h3, h4, h5, h6, h7, h8⟩⟩ := h
  · omega
  · injection h3 with e1 e2 e3
    subst e1; subst e3
    exact ⟨r, c, rfl, h8, h4, h5, by simpa using h6, by simpa using h7⟩
end Go.Proofs.Ytlkopcgoaldpeaa.HL
end
section
namespace Go.Proofs.Ytlkopcgoaldpeaa.HL
open Go
structure Cd where
  op : Int
  a : Int
  b : Int
  c : Int
  t : Int
  n : Int
deriving DecidableEq, Inhabited
abbrev Cd.cells (x : Cd) : List Value := [.int .i64 x.op, .int .i64 x.a, .int .i64 x.b, .int .i64 x.c, .int .i64 x.t, .int .i64 x.n]
theorem Cd.len (x : Cd) : x.cells.length = 6 := rfl
structure Cd.ok (x : Cd) : Prop where
  op1 : -9223372036854775808 ≤ x.op
  op2 : x.op ≤ 9223372036854775807
  a1 : -9223372036854775808 ≤ x.a
  a2 : x.a ≤ 9223372036854775807
  b1 : -9223372036854775808 ≤ x.b
  b2 : x.b ≤ 9223372036854775807
  c1 : -9223372036854775808 ≤ x.c
  c2 : x.c ≤ 9223372036854775807
  t1 : -9223372036854775808 ≤ x.t
  t2 : x.t ≤ 9223372036854775807
  n1 : -9223372036854775808 ≤ x.n
  n2 : x.n ≤ 9223372036854775807
abbrev cds (l : List Cd) : List Value := l.flatMap Cd.cells
/-- the letters of an operation's shape -/
def shp (op : Int) : List Int :=
  if op = 0 then [97, 110] else if op = 1 then [97, 98] else if 2 ≤ op ∧ op ≤ 6 then [97, 98, 99] else if op = 7 ∨ op = 8 then [97, 116, 98] else
  if op = 9 then [116, 98, 97] else if op = 10 then [116, 98] else if op = 11 ∨ op = 12 then [97, 116, 98, 99, 107] else if op = 13 then [115, 98, 106, 99] else
  if op = 14 then [98, 106, 99] else if op = 15 then [97] else []
/-- a letter's field -/
def Cd.fld (x : Cd) (l : Int) : Int := if l = 97 ∨ l = 115 then x.a else if l = 98 then x.b else if l = 99 then x.c else if l = 116 then x.t else x.n
def Cd.setf (x : Cd) (l v : Int) : Cd := if l = 97 ∨ l = 115 then { x with a := v } else if l = 98 then { x with b := v } else if l = 99 then { x with c := v } else if l = 116 then { x with t := v } else { x with n := v }
/-- is a field as a letter wants it, with so many instructions behind? -/
def sound (l n behind : Int) : Bool :=
  if l = 97 ∨ l = 98 ∨ l = 99 then decide (0 ≤ n ∧ n ≤ 7) else if l = 116 then decide (0 ≤ n ∧ n ≤ 3) else if l = 107 then decide (1 ≤ n ∧ n ≤ 64) else
  if l = 115 then decide (1 ≤ n ∧ n ≤ behind) else if l = 106 then decide (0 ≤ n ∧ n ≤ 3) else true
def Cd.zero (x : Cd) (ls : List Int) : Cd := ls.foldl (fun y l => y.setf l 0) x
def goodC (x : Cd) (behind : Int) : Bool := decide (shp x.op ≠ []) && (shp x.op).all (fun l => sound l (x.fld l) behind) && decide (x.zero (shp x.op) = ⟨x.op, 0, 0, 0, 0, 0⟩)
/-- where a program isn't good; -2: it is -/
def badAt (cs : List Cd) : Nat → Int
  | 0 => -2
  | k + 1 => if goodC (cs.getD (cs.length - (k + 1)) default) k then badAt cs k else ((cs.length - (k + 1) : Nat) : Int)
def checkP (fuel : Int) (cs : List Cd) : Int := if 1 ≤ fuel ∧ fuel ≤ 1000 ∧ 1 ≤ cs.length ∧ cs.length ≤ 32 then badAt cs cs.length else -1
/-- an instruction's bytes -/
def encF (x : Cd) (l : Int) : List Int := if l = 110 then cnt (zig x.n) else cnt (IntKind.u64.wrap (x.fld l)).toNat
def encC (x : Cd) : List Int := (x.op % 256) :: (shp x.op).flatMap (encF x)
def encP (fuel : Int) (cs : List Cd) : List Int := cnt (IntKind.u64.wrap fuel).toNat ++ cnt cs.length ++ cs.flatMap encC
theorem shp_len (op : Int) : (shp op).length ≤ 5 := by
  unfold shp; repeat' (split <;> try (simp; done))
theorem shp_bytes (op : Int) : ByteL (shp op) := by
  unfold shp
  intro x hx
  repeat' (split at hx <;> try (simp at hx; omega))
  all_goals (simp at hx)
end Go.Proofs.Ytlkopcgoaldpeaa.HL
end
section
namespace Go.Proofs.Ytlkopcgoaldpeaa.HL
open Go Go.Proofs
set_option linter.unusedSimpArgs false
set_option linter.unusedVariables false
attribute [local irreducible] Lt Lq CW OW TW CallH

set_option maxRecDepth 100000 in
set_option maxHeartbeats 8000000 in
theorem shape_ok (H : Hp) (op : Int) : CallH Try.prog 9 #[.int .i64 op] H (fun v H' => v = .tuple #[.string (strOf (shp op)), .bool (decide (shp op ≠ []))] ∧ H' = H) := by
  refine CallH_enter (l := [_]) (rl := [.tmp 2, .tmp 3]) (n := 31) Try.func9 rfl rfl rfl rfl rfl ?_
  simp only [envOf, Nat.reduceAdd]
  refine CW_seq (fun K1 hK1 => ?_)
  refine CW_region ?_
  refine OW_as rfl ?_
  refine OW_as rfl ?_
  refine OW_nil ?_
  try simp only [Ex.thnH, Ex.inBlockH, ↓reduceIte, Nat.reduceEqDiff]
  refine hK1 _ _ ?_; try clear hK1 K1
  refine CW_seq (fun K2 hK2 => ?_)
  refine CW_seq (fun K3 hK3 => ?_)
  refine CW_region ?_
  refine OW_mv rfl ?_
  refine OW_nil ?_
  try simp only [Ex.thnH, Ex.inBlockH, ↓reduceIte, Nat.reduceEqDiff]
  refine hK3 _ _ ?_; try clear hK3 K3
  refine CW_block ?_
  refine CW_seq (fun K4 hK4 => ?_)
  refine CW_region ?_
  refine OW_opS (fun K hK r => ?_)
  simp (disch := (first | omega | decide)) only [x_bin, g_int, b_eql, dec_lt_t, dec_lt_f, dec_le_t, dec_le_f, dec_eq_t, dec_eq_f, Bool.not_true, Bool.not_false, eX, ↓reduceIte, Nat.reduceEqDiff, Int.reduceToNat]
  refine hK _ _ ?_; clear hK K
  refine OW_as rfl ?_
  refine OW_nil ?_
  try simp only [Ex.thnH, Ex.inBlockH, ↓reduceIte, Nat.reduceEqDiff]
  refine hK4 _ _ ?_; try clear hK4 K4
  refine CW_cond (fun r => rfl) (fun c5 => ?_) (fun c5 => ?_)
  · first
    | (exfalso; exact cnA c5; done)
    | skip
      (try simp only [decide_eq_true_eq, decide_eq_false_iff_not, Bool.not_eq_true, Bool.not_eq_false, Bool.and_eq_true, Bool.or_eq_true, Bool.or_eq_false_iff, Bool.not_eq_true, Bool.not_eq_eq_eq_not, Bool.not_true, Bool.not_false] at c5)
      refine CW_seq (fun K5 hK5 => ?_)
      refine CW_region ?_
      refine OW_as rfl ?_
      refine OW_as rfl ?_
      refine OW_nil ?_
      try simp only [Ex.thnH, Ex.inBlockH, ↓reduceIte, Nat.reduceEqDiff]
      refine hK5 _ _ ?_; try clear hK5 K5
      refine CW_ret ?_
      try simp only [Ex.thnH, Ex.inBlockH, ↓reduceIte, Nat.reduceEqDiff]
      refine ⟨[_, _], ⟨rfl, rfl, trivial⟩, _, Le.refl _, ?_, rfl⟩
      show Value.tuple #[Value.string _, Value.bool _] = _
      unfold shp
      repeat' (split <;> try (first | rfl | (exfalso; omega) | (exfalso; simp_all; done) | (exfalso; simp_all; omega)))
  · first
    | (exfalso; exact cnA c5; done)
    | skip
      (try simp only [decide_eq_true_eq, decide_eq_false_iff_not, Bool.not_eq_true, Bool.not_eq_false, Bool.and_eq_true, Bool.or_eq_true, Bool.or_eq_false_iff, Bool.not_eq_true, Bool.not_eq_eq_eq_not, Bool.not_true, Bool.not_false] at c5)
      refine CW_seq (fun K6 hK6 => ?_)
      refine CW_region ?_
      refine OW_opS (fun K hK r => ?_)
      simp (disch := (first | omega | decide)) only [x_bin, g_int, b_eql, dec_lt_t, dec_lt_f, dec_le_t, dec_le_f, dec_eq_t, dec_eq_f, Bool.not_true, Bool.not_false, eX, ↓reduceIte, Nat.reduceEqDiff, Int.reduceToNat]
      refine hK _ _ ?_; clear hK K
      refine OW_as rfl ?_
      refine OW_nil ?_
      try simp only [Ex.thnH, Ex.inBlockH, ↓reduceIte, Nat.reduceEqDiff]
      refine hK6 _ _ ?_; try clear hK6 K6
      refine CW_cond (fun r => rfl) (fun c7 => ?_) (fun c7 => ?_)
      · first
        | (exfalso; exact cnA c7; done)
        | skip
          (try simp only [decide_eq_true_eq, decide_eq_false_iff_not, Bool.not_eq_true, Bool.not_eq_false, Bool.and_eq_true, Bool.or_eq_true, Bool.or_eq_false_iff, Bool.not_eq_true, Bool.not_eq_eq_eq_not, Bool.not_true, Bool.not_false] at c7)
          refine CW_seq (fun K7 hK7 => ?_)
          refine CW_region ?_
          refine OW_as rfl ?_
          refine OW_as rfl ?_
          refine OW_nil ?_
          try simp only [Ex.thnH, Ex.inBlockH, ↓reduceIte, Nat.reduceEqDiff]
          refine hK7 _ _ ?_; try clear hK7 K7
          refine CW_ret ?_
          try simp only [Ex.thnH, Ex.inBlockH, ↓reduceIte, Nat.reduceEqDiff]
          refine ⟨[_, _], ⟨rfl, rfl, trivial⟩, _, Le.refl _, ?_, rfl⟩
          show Value.tuple #[Value.string _, Value.bool _] = _
          unfold shp
          repeat' (split <;> try (first | rfl | (exfalso; omega) | (exfalso; simp_all; done) | (exfalso; simp_all; omega)))
      · first
        | (exfalso; exact cnA c7; done)
        | skip
          (try simp only [decide_eq_true_eq, decide_eq_false_iff_not, Bool.not_eq_true, Bool.not_eq_false, Bool.and_eq_true, Bool.or_eq_true, Bool.or_eq_false_iff, Bool.not_eq_true, Bool.not_eq_eq_eq_not, Bool.not_true, Bool.not_false] at c7)
          refine CW_cut (fun e H_ => Env.has [(4, .int .i64 op), (9, .bool (decide (2 ≤ op ∧ op ≤ 6)))] e ∧ H_ = H) ?_ ?_
          · skip
            refine CW_seq (fun K8 hK8 => ?_)
            refine CW_region ?_
            refine OW_opS (fun K hK r => ?_)
            simp (disch := (first | omega | decide)) only [x_bin, g_int, b_eql, dec_lt_t, dec_lt_f, dec_le_t, dec_le_f, dec_eq_t, dec_eq_f, Bool.not_true, Bool.not_false, eX, ↓reduceIte, Nat.reduceEqDiff, Int.reduceToNat]
            refine hK _ _ ?_; clear hK K
            refine OW_as rfl ?_
            refine OW_nil ?_
            try simp only [Ex.thnH, Ex.inBlockH, ↓reduceIte, Nat.reduceEqDiff]
            refine hK8 _ _ ?_; try clear hK8 K8
            refine CW_cond (fun r => rfl) (fun c9 => ?_) (fun c9 => ?_)
            · first
              | (exfalso; exact cnA c9; done)
              | skip
                (try simp only [decide_eq_true_eq, decide_eq_false_iff_not, Bool.not_eq_true, Bool.not_eq_false, Bool.and_eq_true, Bool.or_eq_true, Bool.or_eq_false_iff, Bool.not_eq_true, Bool.not_eq_eq_eq_not, Bool.not_true, Bool.not_false] at c9)
                refine CW_skip ?_
                try simp only [Ex.thnH, Ex.inBlockH, ↓reduceIte, Nat.reduceEqDiff]
                refine ⟨⟨rfl, ?_, trivial⟩, (by first | rfl | trivial)⟩
                show some (Value.bool _) = some (Value.bool _)
                congr 2
                first | (rw [Bool.eq_iff_iff]; simp only [decide_eq_true_eq]; omega) | (exact (decide_eq_true (by omega)).symm) | (exact (decide_eq_false (by omega)).symm) | (simp_all; done)
            · first
              | (exfalso; exact cnA c9; done)
              | skip
                (try simp only [decide_eq_true_eq, decide_eq_false_iff_not, Bool.not_eq_true, Bool.not_eq_false, Bool.and_eq_true, Bool.or_eq_true, Bool.or_eq_false_iff, Bool.not_eq_true, Bool.not_eq_eq_eq_not, Bool.not_true, Bool.not_false] at c9)
                refine CW_seq (fun K9 hK9 => ?_)
                refine CW_region ?_
                refine OW_opS (fun K hK r => ?_)
                simp (disch := (first | omega | decide)) only [x_bin, g_int, b_eql, dec_lt_t, dec_lt_f, dec_le_t, dec_le_f, dec_eq_t, dec_eq_f, Bool.not_true, Bool.not_false, eX, ↓reduceIte, Nat.reduceEqDiff, Int.reduceToNat]
                refine hK _ _ ?_; clear hK K
                refine OW_as rfl ?_
                refine OW_nil ?_
                try simp only [Ex.thnH, Ex.inBlockH, ↓reduceIte, Nat.reduceEqDiff]
                refine hK9 _ _ ?_; try clear hK9 K9
                refine CW_cond (fun r => rfl) (fun c9 => ?_) (fun c9 => ?_)
                · first
                  | (exfalso; exact cnA c9; done)
                  | skip
                    (try simp only [decide_eq_true_eq, decide_eq_false_iff_not, Bool.not_eq_true, Bool.not_eq_false, Bool.and_eq_true, Bool.or_eq_true, Bool.or_eq_false_iff, Bool.not_eq_true, Bool.not_eq_eq_eq_not, Bool.not_true, Bool.not_false] at c9)
                    refine CW_skip ?_
                    try simp only [Ex.thnH, Ex.inBlockH, ↓reduceIte, Nat.reduceEqDiff]
                    refine ⟨⟨rfl, ?_, trivial⟩, (by first | rfl | trivial)⟩
                    show some (Value.bool _) = some (Value.bool _)
                    congr 2
                    first | (rw [Bool.eq_iff_iff]; simp only [decide_eq_true_eq]; omega) | (exact (decide_eq_true (by omega)).symm) | (exact (decide_eq_false (by omega)).symm) | (simp_all; done)
                · first
                  | (exfalso; exact cnA c9; done)
                  | skip
                    (try simp only [decide_eq_true_eq, decide_eq_false_iff_not, Bool.not_eq_true, Bool.not_eq_false, Bool.and_eq_true, Bool.or_eq_true, Bool.or_eq_false_iff, Bool.not_eq_true, Bool.not_eq_eq_eq_not, Bool.not_true, Bool.not_false] at c9)
                    refine CW_seq (fun K10 hK10 => ?_)
                    refine CW_region ?_
                    refine OW_opS (fun K hK r => ?_)
                    simp (disch := (first | omega | decide)) only [x_bin, g_int, b_eql, dec_lt_t, dec_lt_f, dec_le_t, dec_le_f, dec_eq_t, dec_eq_f, Bool.not_true, Bool.not_false, eX, ↓reduceIte, Nat.reduceEqDiff, Int.reduceToNat]
                    refine hK _ _ ?_; clear hK K
                    refine OW_as rfl ?_
                    refine OW_nil ?_
                    try simp only [Ex.thnH, Ex.inBlockH, ↓reduceIte, Nat.reduceEqDiff]
                    refine hK10 _ _ ?_; try clear hK10 K10
                    refine CW_cond (fun r => rfl) (fun c9 => ?_) (fun c9 => ?_)
                    · first
                      | (exfalso; exact cnA c9; done)
                      | skip
                        (try simp only [decide_eq_true_eq, decide_eq_false_iff_not, Bool.not_eq_true, Bool.not_eq_false, Bool.and_eq_true, Bool.or_eq_true, Bool.or_eq_false_iff, Bool.not_eq_true, Bool.not_eq_eq_eq_not, Bool.not_true, Bool.not_false] at c9)
                        refine CW_skip ?_
                        try simp only [Ex.thnH, Ex.inBlockH, ↓reduceIte, Nat.reduceEqDiff]
                        refine ⟨⟨rfl, ?_, trivial⟩, (by first | rfl | trivial)⟩
                        show some (Value.bool _) = some (Value.bool _)
                        congr 2
                        first | (rw [Bool.eq_iff_iff]; simp only [decide_eq_true_eq]; omega) | (exact (decide_eq_true (by omega)).symm) | (exact (decide_eq_false (by omega)).symm) | (simp_all; done)
                    · first
                      | (exfalso; exact cnA c9; done)
                      | skip
                        (try simp only [decide_eq_true_eq, decide_eq_false_iff_not, Bool.not_eq_true, Bool.not_eq_false, Bool.and_eq_true, Bool.or_eq_true, Bool.or_eq_false_iff, Bool.not_eq_true, Bool.not_eq_eq_eq_not, Bool.not_true, Bool.not_false] at c9)
                        refine CW_seq (fun K11 hK11 => ?_)
                        refine CW_region ?_
                        refine OW_opS (fun K hK r => ?_)
                        simp (disch := (first | omega | decide)) only [x_bin, g_int, b_eql, dec_lt_t, dec_lt_f, dec_le_t, dec_le_f, dec_eq_t, dec_eq_f, Bool.not_true, Bool.not_false, eX, ↓reduceIte, Nat.reduceEqDiff, Int.reduceToNat]
                        refine hK _ _ ?_; clear hK K
                        refine OW_as rfl ?_
                        refine OW_nil ?_
                        try simp only [Ex.thnH, Ex.inBlockH, ↓reduceIte, Nat.reduceEqDiff]
                        refine hK11 _ _ ?_; try clear hK11 K11
                        refine CW_cond (fun r => rfl) (fun c9 => ?_) (fun c9 => ?_)
                        · first
                          | (exfalso; exact cnA c9; done)
                          | skip
                            (try simp only [decide_eq_true_eq, decide_eq_false_iff_not, Bool.not_eq_true, Bool.not_eq_false, Bool.and_eq_true, Bool.or_eq_true, Bool.or_eq_false_iff, Bool.not_eq_true, Bool.not_eq_eq_eq_not, Bool.not_true, Bool.not_false] at c9)
                            refine CW_skip ?_
                            try simp only [Ex.thnH, Ex.inBlockH, ↓reduceIte, Nat.reduceEqDiff]
                            refine ⟨⟨rfl, ?_, trivial⟩, (by first | rfl | trivial)⟩
                            show some (Value.bool _) = some (Value.bool _)
                            congr 2
                            first | (rw [Bool.eq_iff_iff]; simp only [decide_eq_true_eq]; omega) | (exact (decide_eq_true (by omega)).symm) | (exact (decide_eq_false (by omega)).symm) | (simp_all; done)
                        · first
                          | (exfalso; exact cnA c9; done)
                          | skip
                            (try simp only [decide_eq_true_eq, decide_eq_false_iff_not, Bool.not_eq_true, Bool.not_eq_false, Bool.and_eq_true, Bool.or_eq_true, Bool.or_eq_false_iff, Bool.not_eq_true, Bool.not_eq_eq_eq_not, Bool.not_true, Bool.not_false] at c9)
                            refine CW_region ?_
                            refine OW_opS (fun K hK r => ?_)
                            simp (disch := (first | omega | decide)) only [x_bin, g_int, b_eql, dec_lt_t, dec_lt_f, dec_le_t, dec_le_f, dec_eq_t, dec_eq_f, Bool.not_true, Bool.not_false, eX, ↓reduceIte, Nat.reduceEqDiff, Int.reduceToNat]
                            refine hK _ _ ?_; clear hK K
                            refine OW_as rfl ?_
                            refine OW_nil ?_
                            try simp only [Ex.thnH, Ex.inBlockH, ↓reduceIte, Nat.reduceEqDiff]
                            refine ⟨⟨rfl, ?_, trivial⟩, (by first | rfl | trivial)⟩
                            show some (Value.bool _) = some (Value.bool _)
                            congr 2
                            first | (rw [Bool.eq_iff_iff]; simp only [decide_eq_true_eq]; omega) | (exact (decide_eq_true (by omega)).symm) | (exact (decide_eq_false (by omega)).symm) | (simp_all; done)
          rintro e_ H_ ⟨he, hH_⟩
          have hH_ := hH_.symm; subst hH_
          refine CW_env he.sub ?_; clear he e_
          refine CW_cond (fun r => rfl) (fun c9 => ?_) (fun c9 => ?_)
          · first
            | (exfalso; exact cnA c9; done)
            | skip
              (try simp only [decide_eq_true_eq, decide_eq_false_iff_not, Bool.not_eq_true, Bool.not_eq_false, Bool.and_eq_true, Bool.or_eq_true, Bool.or_eq_false_iff, Bool.not_eq_true, Bool.not_eq_eq_eq_not, Bool.not_true, Bool.not_false] at c9)
              refine CW_seq (fun K12 hK12 => ?_)
              refine CW_region ?_
              refine OW_as rfl ?_
              refine OW_as rfl ?_
              refine OW_nil ?_
              try simp only [Ex.thnH, Ex.inBlockH, ↓reduceIte, Nat.reduceEqDiff]
              refine hK12 _ _ ?_; try clear hK12 K12
              refine CW_ret ?_
              try simp only [Ex.thnH, Ex.inBlockH, ↓reduceIte, Nat.reduceEqDiff]
              refine ⟨[_, _], ⟨rfl, rfl, trivial⟩, _, Le.refl _, ?_, rfl⟩
              show Value.tuple #[Value.string _, Value.bool _] = _
              unfold shp
              repeat' (split <;> try (first | rfl | (exfalso; omega) | (exfalso; simp_all; done) | (exfalso; simp_all; omega)))
          · first
            | (exfalso; exact cnA c9; done)
            | skip
              (try simp only [decide_eq_true_eq, decide_eq_false_iff_not, Bool.not_eq_true, Bool.not_eq_false, Bool.and_eq_true, Bool.or_eq_true, Bool.or_eq_false_iff, Bool.not_eq_true, Bool.not_eq_eq_eq_not, Bool.not_true, Bool.not_false] at c9)
              refine CW_cut (fun e H_ => Env.has [(4, .int .i64 op), (15, .bool (decide (op = 7 ∨ op = 8)))] e ∧ H_ = H) ?_ ?_
              · skip
                refine CW_seq (fun K13 hK13 => ?_)
                refine CW_region ?_
                refine OW_opS (fun K hK r => ?_)
                simp (disch := (first | omega | decide)) only [x_bin, g_int, b_eql, dec_lt_t, dec_lt_f, dec_le_t, dec_le_f, dec_eq_t, dec_eq_f, Bool.not_true, Bool.not_false, eX, ↓reduceIte, Nat.reduceEqDiff, Int.reduceToNat]
                refine hK _ _ ?_; clear hK K
                refine OW_as rfl ?_
                refine OW_nil ?_
                try simp only [Ex.thnH, Ex.inBlockH, ↓reduceIte, Nat.reduceEqDiff]
                refine hK13 _ _ ?_; try clear hK13 K13
                refine CW_cond (fun r => rfl) (fun c15 => ?_) (fun c15 => ?_)
                · first
                  | (exfalso; exact cnA c15; done)
                  | skip
                    (try simp only [decide_eq_true_eq, decide_eq_false_iff_not, Bool.not_eq_true, Bool.not_eq_false, Bool.and_eq_true, Bool.or_eq_true, Bool.or_eq_false_iff, Bool.not_eq_true, Bool.not_eq_eq_eq_not, Bool.not_true, Bool.not_false] at c15)
                    refine CW_skip ?_
                    try simp only [Ex.thnH, Ex.inBlockH, ↓reduceIte, Nat.reduceEqDiff]
                    refine ⟨⟨rfl, ?_, trivial⟩, (by first | rfl | trivial)⟩
                    show some (Value.bool _) = some (Value.bool _)
                    congr 2
                    first | (rw [Bool.eq_iff_iff]; simp only [decide_eq_true_eq]; omega) | (exact (decide_eq_true (by omega)).symm) | (exact (decide_eq_false (by omega)).symm) | (simp_all; done)
                · first
                  | (exfalso; exact cnA c15; done)
                  | skip
                    (try simp only [decide_eq_true_eq, decide_eq_false_iff_not, Bool.not_eq_true, Bool.not_eq_false, Bool.and_eq_true, Bool.or_eq_true, Bool.or_eq_false_iff, Bool.not_eq_true, Bool.not_eq_eq_eq_not, Bool.not_true, Bool.not_false] at c15)
                    refine CW_region ?_
                    refine OW_opS (fun K hK r => ?_)
                    simp (disch := (first | omega | decide)) only [x_bin, g_int, b_eql, dec_lt_t, dec_lt_f, dec_le_t, dec_le_f, dec_eq_t, dec_eq_f, Bool.not_true, Bool.not_false, eX, ↓reduceIte, Nat.reduceEqDiff, Int.reduceToNat]
                    refine hK _ _ ?_; clear hK K
                    refine OW_as rfl ?_
                    refine OW_nil ?_
                    try simp only [Ex.thnH, Ex.inBlockH, ↓reduceIte, Nat.reduceEqDiff]
                    refine ⟨⟨rfl, ?_, trivial⟩, (by first | rfl | trivial)⟩
                    show some (Value.bool _) = some (Value.bool _)
                    congr 2
                    first | (rw [Bool.eq_iff_iff]; simp only [decide_eq_true_eq]; omega) | (exact (decide_eq_true (by omega)).symm) | (exact (decide_eq_false (by omega)).symm) | (simp_all; done)
              rintro e_ H_ ⟨he, hH_⟩
              have hH_ := hH_.symm; subst hH_
              refine CW_env he.sub ?_; clear he e_
              refine CW_cond (fun r => rfl) (fun c15 => ?_) (fun c15 => ?_)
              · first
                | (exfalso; exact cnA c15; done)
                | skip
                  (try simp only [decide_eq_true_eq, decide_eq_false_iff_not, Bool.not_eq_true, Bool.not_eq_false, Bool.and_eq_true, Bool.or_eq_true, Bool.or_eq_false_iff, Bool.not_eq_true, Bool.not_eq_eq_eq_not, Bool.not_true, Bool.not_false] at c15)
                  refine CW_seq (fun K14 hK14 => ?_)
                  refine CW_region ?_
                  refine OW_as rfl ?_
                  refine OW_as rfl ?_
                  refine OW_nil ?_
                  try simp only [Ex.thnH, Ex.inBlockH, ↓reduceIte, Nat.reduceEqDiff]
                  refine hK14 _ _ ?_; try clear hK14 K14
                  refine CW_ret ?_
                  try simp only [Ex.thnH, Ex.inBlockH, ↓reduceIte, Nat.reduceEqDiff]
                  refine ⟨[_, _], ⟨rfl, rfl, trivial⟩, _, Le.refl _, ?_, rfl⟩
                  show Value.tuple #[Value.string _, Value.bool _] = _
                  unfold shp
                  repeat' (split <;> try (first | rfl | (exfalso; omega) | (exfalso; simp_all; done) | (exfalso; simp_all; omega)))
              · first
                | (exfalso; exact cnA c15; done)
                | skip
                  (try simp only [decide_eq_true_eq, decide_eq_false_iff_not, Bool.not_eq_true, Bool.not_eq_false, Bool.and_eq_true, Bool.or_eq_true, Bool.or_eq_false_iff, Bool.not_eq_true, Bool.not_eq_eq_eq_not, Bool.not_true, Bool.not_false] at c15)
                  refine CW_seq (fun K15 hK15 => ?_)
                  refine CW_region ?_
                  refine OW_opS (fun K hK r => ?_)
                  simp (disch := (first | omega | decide)) only [x_bin, g_int, b_eql, dec_lt_t, dec_lt_f, dec_le_t, dec_le_f, dec_eq_t, dec_eq_f, Bool.not_true, Bool.not_false, eX, ↓reduceIte, Nat.reduceEqDiff, Int.reduceToNat]
                  refine hK _ _ ?_; clear hK K
                  refine OW_as rfl ?_
                  refine OW_nil ?_
                  try simp only [Ex.thnH, Ex.inBlockH, ↓reduceIte, Nat.reduceEqDiff]
                  refine hK15 _ _ ?_; try clear hK15 K15
                  refine CW_cond (fun r => rfl) (fun c18 => ?_) (fun c18 => ?_)
                  · first
                    | (exfalso; exact cnA c18; done)
                    | skip
                      (try simp only [decide_eq_true_eq, decide_eq_false_iff_not, Bool.not_eq_true, Bool.not_eq_false, Bool.and_eq_true, Bool.or_eq_true, Bool.or_eq_false_iff, Bool.not_eq_true, Bool.not_eq_eq_eq_not, Bool.not_true, Bool.not_false] at c18)
                      refine CW_seq (fun K16 hK16 => ?_)
                      refine CW_region ?_
                      refine OW_as rfl ?_
                      refine OW_as rfl ?_
                      refine OW_nil ?_
                      try simp only [Ex.thnH, Ex.inBlockH, ↓reduceIte, Nat.reduceEqDiff]
                      refine hK16 _ _ ?_; try clear hK16 K16
                      refine CW_ret ?_
                      try simp only [Ex.thnH, Ex.inBlockH, ↓reduceIte, Nat.reduceEqDiff]
                      refine ⟨[_, _], ⟨rfl, rfl, trivial⟩, _, Le.refl _, ?_, rfl⟩
                      show Value.tuple #[Value.string _, Value.bool _] = _
                      unfold shp
                      repeat' (split <;> try (first | rfl | (exfalso; omega) | (exfalso; simp_all; done) | (exfalso; simp_all; omega)))
                  · first
                    | (exfalso; exact cnA c18; done)
                    | skip
                      (try simp only [decide_eq_true_eq, decide_eq_false_iff_not, Bool.not_eq_true, Bool.not_eq_false, Bool.and_eq_true, Bool.or_eq_true, Bool.or_eq_false_iff, Bool.not_eq_true, Bool.not_eq_eq_eq_not, Bool.not_true, Bool.not_false] at c18)
                      refine CW_seq (fun K17 hK17 => ?_)
                      refine CW_region ?_
                      refine OW_opS (fun K hK r => ?_)
                      simp (disch := (first | omega | decide)) only [x_bin, g_int, b_eql, dec_lt_t, dec_lt_f, dec_le_t, dec_le_f, dec_eq_t, dec_eq_f, Bool.not_true, Bool.not_false, eX, ↓reduceIte, Nat.reduceEqDiff, Int.reduceToNat]
                      refine hK _ _ ?_; clear hK K
                      refine OW_as rfl ?_
                      refine OW_nil ?_
                      try simp only [Ex.thnH, Ex.inBlockH, ↓reduceIte, Nat.reduceEqDiff]
                      refine hK17 _ _ ?_; try clear hK17 K17
                      refine CW_cond (fun r => rfl) (fun c20 => ?_) (fun c20 => ?_)
                      · first
                        | (exfalso; exact cnA c20; done)
                        | skip
                          (try simp only [decide_eq_true_eq, decide_eq_false_iff_not, Bool.not_eq_true, Bool.not_eq_false, Bool.and_eq_true, Bool.or_eq_true, Bool.or_eq_false_iff, Bool.not_eq_true, Bool.not_eq_eq_eq_not, Bool.not_true, Bool.not_false] at c20)
                          refine CW_seq (fun K18 hK18 => ?_)
                          refine CW_region ?_
                          refine OW_as rfl ?_
                          refine OW_as rfl ?_
                          refine OW_nil ?_
                          try simp only [Ex.thnH, Ex.inBlockH, ↓reduceIte, Nat.reduceEqDiff]
                          refine hK18 _ _ ?_; try clear hK18 K18
                          refine CW_ret ?_
                          try simp only [Ex.thnH, Ex.inBlockH, ↓reduceIte, Nat.reduceEqDiff]
                          refine ⟨[_, _], ⟨rfl, rfl, trivial⟩, _, Le.refl _, ?_, rfl⟩
                          show Value.tuple #[Value.string _, Value.bool _] = _
                          unfold shp
                          repeat' (split <;> try (first | rfl | (exfalso; omega) | (exfalso; simp_all; done) | (exfalso; simp_all; omega)))
                      · first
                        | (exfalso; exact cnA c20; done)
                        | skip
                          (try simp only [decide_eq_true_eq, decide_eq_false_iff_not, Bool.not_eq_true, Bool.not_eq_false, Bool.and_eq_true, Bool.or_eq_true, Bool.or_eq_false_iff, Bool.not_eq_true, Bool.not_eq_eq_eq_not, Bool.not_true, Bool.not_false] at c20)
                          refine CW_cut (fun e H_ => Env.has [(4, .int .i64 op), (22, .bool (decide (op = 11 ∨ op = 12)))] e ∧ H_ = H) ?_ ?_
                          · skip
                            refine CW_seq (fun K19 hK19 => ?_)
                            refine CW_region ?_
                            refine OW_opS (fun K hK r => ?_)
                            simp (disch := (first | omega | decide)) only [x_bin, g_int, b_eql, dec_lt_t, dec_lt_f, dec_le_t, dec_le_f, dec_eq_t, dec_eq_f, Bool.not_true, Bool.not_false, eX, ↓reduceIte, Nat.reduceEqDiff, Int.reduceToNat]
                            refine hK _ _ ?_; clear hK K
                            refine OW_as rfl ?_
                            refine OW_nil ?_
                            try simp only [Ex.thnH, Ex.inBlockH, ↓reduceIte, Nat.reduceEqDiff]
                            refine hK19 _ _ ?_; try clear hK19 K19
                            refine CW_cond (fun r => rfl) (fun c22 => ?_) (fun c22 => ?_)
                            · first
                              | (exfalso; exact cnA c22; done)
                              | skip
                                (try simp only [decide_eq_true_eq, decide_eq_false_iff_not, Bool.not_eq_true, Bool.not_eq_false, Bool.and_eq_true, Bool.or_eq_true, Bool.or_eq_false_iff, Bool.not_eq_true, Bool.not_eq_eq_eq_not, Bool.not_true, Bool.not_false] at c22)
                                refine CW_skip ?_
                                try simp only [Ex.thnH, Ex.inBlockH, ↓reduceIte, Nat.reduceEqDiff]
                                refine ⟨⟨rfl, ?_, trivial⟩, (by first | rfl | trivial)⟩
                                show some (Value.bool _) = some (Value.bool _)
                                congr 2
                                first | (rw [Bool.eq_iff_iff]; simp only [decide_eq_true_eq]; omega) | (exact (decide_eq_true (by omega)).symm) | (exact (decide_eq_false (by omega)).symm) | (simp_all; done)
                            · first
                              | (exfalso; exact cnA c22; done)
                              | skip
                                (try simp only [decide_eq_true_eq, decide_eq_false_iff_not, Bool.not_eq_true, Bool.not_eq_false, Bool.and_eq_true, Bool.or_eq_true, Bool.or_eq_false_iff, Bool.not_eq_true, Bool.not_eq_eq_eq_not, Bool.not_true, Bool.not_false] at c22)
                                refine CW_region ?_
                                refine OW_opS (fun K hK r => ?_)
                                simp (disch := (first | omega | decide)) only [x_bin, g_int, b_eql, dec_lt_t, dec_lt_f, dec_le_t, dec_le_f, dec_eq_t, dec_eq_f, Bool.not_true, Bool.not_false, eX, ↓reduceIte, Nat.reduceEqDiff, Int.reduceToNat]
                                refine hK _ _ ?_; clear hK K
                                refine OW_as rfl ?_
                                refine OW_nil ?_
                                try simp only [Ex.thnH, Ex.inBlockH, ↓reduceIte, Nat.reduceEqDiff]
                                refine ⟨⟨rfl, ?_, trivial⟩, (by first | rfl | trivial)⟩
                                show some (Value.bool _) = some (Value.bool _)
                                congr 2
                                first | (rw [Bool.eq_iff_iff]; simp only [decide_eq_true_eq]; omega) | (exact (decide_eq_true (by omega)).symm) | (exact (decide_eq_false (by omega)).symm) | (simp_all; done)
                          rintro e_ H_ ⟨he, hH_⟩
                          have hH_ := hH_.symm; subst hH_
                          refine CW_env he.sub ?_; clear he e_
                          refine CW_cond (fun r => rfl) (fun c22 => ?_) (fun c22 => ?_)
                          · first
                            | (exfalso; exact cnA c22; done)
                            | skip
                              (try simp only [decide_eq_true_eq, decide_eq_false_iff_not, Bool.not_eq_true, Bool.not_eq_false, Bool.and_eq_true, Bool.or_eq_true, Bool.or_eq_false_iff, Bool.not_eq_true, Bool.not_eq_eq_eq_not, Bool.not_true, Bool.not_false] at c22)
                              refine CW_seq (fun K20 hK20 => ?_)
                              refine CW_region ?_
                              refine OW_as rfl ?_
                              refine OW_as rfl ?_
                              refine OW_nil ?_
                              try simp only [Ex.thnH, Ex.inBlockH, ↓reduceIte, Nat.reduceEqDiff]
                              refine hK20 _ _ ?_; try clear hK20 K20
                              refine CW_ret ?_
                              try simp only [Ex.thnH, Ex.inBlockH, ↓reduceIte, Nat.reduceEqDiff]
                              refine ⟨[_, _], ⟨rfl, rfl, trivial⟩, _, Le.refl _, ?_, rfl⟩
                              show Value.tuple #[Value.string _, Value.bool _] = _
                              unfold shp
                              repeat' (split <;> try (first | rfl | (exfalso; omega) | (exfalso; simp_all; done) | (exfalso; simp_all; omega)))
                          · first
                            | (exfalso; exact cnA c22; done)
                            | skip
                              (try simp only [decide_eq_true_eq, decide_eq_false_iff_not, Bool.not_eq_true, Bool.not_eq_false, Bool.and_eq_true, Bool.or_eq_true, Bool.or_eq_false_iff, Bool.not_eq_true, Bool.not_eq_eq_eq_not, Bool.not_true, Bool.not_false] at c22)
                              refine CW_seq (fun K21 hK21 => ?_)
                              refine CW_region ?_
                              refine OW_opS (fun K hK r => ?_)
                              simp (disch := (first | omega | decide)) only [x_bin, g_int, b_eql, dec_lt_t, dec_lt_f, dec_le_t, dec_le_f, dec_eq_t, dec_eq_f, Bool.not_true, Bool.not_false, eX, ↓reduceIte, Nat.reduceEqDiff, Int.reduceToNat]
                              refine hK _ _ ?_; clear hK K
                              refine OW_as rfl ?_
                              refine OW_nil ?_
                              try simp only [Ex.thnH, Ex.inBlockH, ↓reduceIte, Nat.reduceEqDiff]
                              refine hK21 _ _ ?_; try clear hK21 K21
                              refine CW_cond (fun r => rfl) (fun c25 => ?_) (fun c25 => ?_)
                              · first
                                | (exfalso; exact cnA c25; done)
                                | skip
                                  (try simp only [decide_eq_true_eq, decide_eq_false_iff_not, Bool.not_eq_true, Bool.not_eq_false, Bool.and_eq_true, Bool.or_eq_true, Bool.or_eq_false_iff, Bool.not_eq_true, Bool.not_eq_eq_eq_not, Bool.not_true, Bool.not_false] at c25)
                                  refine CW_seq (fun K22 hK22 => ?_)
                                  refine CW_region ?_
                                  refine OW_as rfl ?_
                                  refine OW_as rfl ?_
                                  refine OW_nil ?_
                                  try simp only [Ex.thnH, Ex.inBlockH, ↓reduceIte, Nat.reduceEqDiff]
                                  refine hK22 _ _ ?_; try clear hK22 K22
                                  refine CW_ret ?_
                                  try simp only [Ex.thnH, Ex.inBlockH, ↓reduceIte, Nat.reduceEqDiff]
                                  refine ⟨[_, _], ⟨rfl, rfl, trivial⟩, _, Le.refl _, ?_, rfl⟩
                                  show Value.tuple #[Value.string _, Value.bool _] = _
                                  unfold shp
                                  repeat' (split <;> try (first | rfl | (exfalso; omega) | (exfalso; simp_all; done) | (exfalso; simp_all; omega)))
                              · first
                                | (exfalso; exact cnA c25; done)
                                | skip
                                  (try simp only [decide_eq_true_eq, decide_eq_false_iff_not, Bool.not_eq_true, Bool.not_eq_false, Bool.and_eq_true, Bool.or_eq_true, Bool.or_eq_false_iff, Bool.not_eq_true, Bool.not_eq_eq_eq_not, Bool.not_true, Bool.not_false] at c25)
                                  refine CW_seq (fun K23 hK23 => ?_)
                                  refine CW_region ?_
                                  refine OW_opS (fun K hK r => ?_)
                                  simp (disch := (first | omega | decide)) only [x_bin, g_int, b_eql, dec_lt_t, dec_lt_f, dec_le_t, dec_le_f, dec_eq_t, dec_eq_f, Bool.not_true, Bool.not_false, eX, ↓reduceIte, Nat.reduceEqDiff, Int.reduceToNat]
                                  refine hK _ _ ?_; clear hK K
                                  refine OW_as rfl ?_
                                  refine OW_nil ?_
                                  try simp only [Ex.thnH, Ex.inBlockH, ↓reduceIte, Nat.reduceEqDiff]
                                  refine hK23 _ _ ?_; try clear hK23 K23
                                  refine CW_cond (fun r => rfl) (fun c27 => ?_) (fun c27 => ?_)
                                  · first
                                    | (exfalso; exact cnA c27; done)
                                    | skip
                                      (try simp only [decide_eq_true_eq, decide_eq_false_iff_not, Bool.not_eq_true, Bool.not_eq_false, Bool.and_eq_true, Bool.or_eq_true, Bool.or_eq_false_iff, Bool.not_eq_true, Bool.not_eq_eq_eq_not, Bool.not_true, Bool.not_false] at c27)
                                      refine CW_seq (fun K24 hK24 => ?_)
                                      refine CW_region ?_
                                      refine OW_as rfl ?_
                                      refine OW_as rfl ?_
                                      refine OW_nil ?_
                                      try simp only [Ex.thnH, Ex.inBlockH, ↓reduceIte, Nat.reduceEqDiff]
                                      refine hK24 _ _ ?_; try clear hK24 K24
                                      refine CW_ret ?_
                                      try simp only [Ex.thnH, Ex.inBlockH, ↓reduceIte, Nat.reduceEqDiff]
                                      refine ⟨[_, _], ⟨rfl, rfl, trivial⟩, _, Le.refl _, ?_, rfl⟩
                                      show Value.tuple #[Value.string _, Value.bool _] = _
                                      unfold shp
                                      repeat' (split <;> try (first | rfl | (exfalso; omega) | (exfalso; simp_all; done) | (exfalso; simp_all; omega)))
                                  · first
                                    | (exfalso; exact cnA c27; done)
                                    | skip
                                      (try simp only [decide_eq_true_eq, decide_eq_false_iff_not, Bool.not_eq_true, Bool.not_eq_false, Bool.and_eq_true, Bool.or_eq_true, Bool.or_eq_false_iff, Bool.not_eq_true, Bool.not_eq_eq_eq_not, Bool.not_true, Bool.not_false] at c27)
                                      refine CW_seq (fun K25 hK25 => ?_)
                                      refine CW_region ?_
                                      refine OW_opS (fun K hK r => ?_)
                                      simp (disch := (first | omega | decide)) only [x_bin, g_int, b_eql, dec_lt_t, dec_lt_f, dec_le_t, dec_le_f, dec_eq_t, dec_eq_f, Bool.not_true, Bool.not_false, eX, ↓reduceIte, Nat.reduceEqDiff, Int.reduceToNat]
                                      refine hK _ _ ?_; clear hK K
                                      refine OW_as rfl ?_
                                      refine OW_nil ?_
                                      try simp only [Ex.thnH, Ex.inBlockH, ↓reduceIte, Nat.reduceEqDiff]
                                      refine hK25 _ _ ?_; try clear hK25 K25
                                      refine CW_cond (fun r => rfl) (fun c29 => ?_) (fun c29 => ?_)
                                      · first
                                        | (exfalso; exact cnA c29; done)
                                        | skip
                                          (try simp only [decide_eq_true_eq, decide_eq_false_iff_not, Bool.not_eq_true, Bool.not_eq_false, Bool.and_eq_true, Bool.or_eq_true, Bool.or_eq_false_iff, Bool.not_eq_true, Bool.not_eq_eq_eq_not, Bool.not_true, Bool.not_false] at c29)
                                          refine CW_seq (fun K26 hK26 => ?_)
                                          refine CW_region ?_
                                          refine OW_as rfl ?_
                                          refine OW_as rfl ?_
                                          refine OW_nil ?_
                                          try simp only [Ex.thnH, Ex.inBlockH, ↓reduceIte, Nat.reduceEqDiff]
                                          refine hK26 _ _ ?_; try clear hK26 K26
                                          refine CW_ret ?_
                                          try simp only [Ex.thnH, Ex.inBlockH, ↓reduceIte, Nat.reduceEqDiff]
                                          refine ⟨[_, _], ⟨rfl, rfl, trivial⟩, _, Le.refl _, ?_, rfl⟩
                                          show Value.tuple #[Value.string _, Value.bool _] = _
                                          unfold shp
                                          repeat' (split <;> try (first | rfl | (exfalso; omega) | (exfalso; simp_all; done) | (exfalso; simp_all; omega)))
                                      · first
                                        | (exfalso; exact cnA c29; done)
                                        | skip
                                          (try simp only [decide_eq_true_eq, decide_eq_false_iff_not, Bool.not_eq_true, Bool.not_eq_false, Bool.and_eq_true, Bool.or_eq_true, Bool.or_eq_false_iff, Bool.not_eq_true, Bool.not_eq_eq_eq_not, Bool.not_true, Bool.not_false] at c29)
                                          refine CW_skip ?_
                                          try simp only [Ex.thnH, Ex.inBlockH, ↓reduceIte, Nat.reduceEqDiff]
                                          refine hK2 _ _ ?_; try clear hK2 K2
                                          refine CW_seq (fun K27 hK27 => ?_)
                                          refine CW_region ?_
                                          refine OW_as rfl ?_
                                          refine OW_as rfl ?_
                                          refine OW_nil ?_
                                          try simp only [Ex.thnH, Ex.inBlockH, ↓reduceIte, Nat.reduceEqDiff]
                                          refine hK27 _ _ ?_; try clear hK27 K27
                                          refine CW_ret ?_
                                          try simp only [Ex.thnH, Ex.inBlockH, ↓reduceIte, Nat.reduceEqDiff]
                                          refine ⟨[_, _], ⟨rfl, rfl, trivial⟩, _, Le.refl _, ?_, rfl⟩
                                          show Value.tuple #[Value.string _, Value.bool _] = _
                                          unfold shp
                                          repeat' (split <;> try (first | rfl | (exfalso; omega) | (exfalso; simp_all; done) | (exfalso; simp_all; omega)))

end Go.Proofs.Ytlkopcgoaldpeaa.HL
end
section
namespace Go.Proofs.Ytlkopcgoaldpeaa.HL
open Go
set_option linter.unusedSimpArgs false
set_option linter.unusedVariables false
def cdK : List CK := [some .i64, some .i64, some .i64, some .i64, some .i64, some .i64]
theorem Cd.fit (w : Cd) : Fit cdK w.cells := by
  refine ⟨rfl, fun i k v hk hv => ?_⟩
  match i with
  | 0 => cases hk; cases hv; exact ⟨_, rfl⟩
  | 1 => cases hk; cases hv; exact ⟨_, rfl⟩
  | 2 => cases hk; cases hv; exact ⟨_, rfl⟩
  | 3 => cases hk; cases hv; exact ⟨_, rfl⟩
  | 4 => cases hk; cases hv; exact ⟨_, rfl⟩
  | 5 => cases hk; cases hv; exact ⟨_, rfl⟩
  | i + 6 => simp [cdK] at hk
theorem Cd.inj {a b : Cd} : a.cells = b.cells ↔ a = b := by
  obtain ⟨o, t, k, v, d, n⟩ := a
  obtain ⟨o', t', k', v', d', n'⟩ := b
  simp [Cd.cells]
theorem Cd.eqV {a b : Cd} : Go.Proofs.Ytlkopcgoaldpeaa.HL.eqV a.cells b.cells = decide (a = b) := eqV_of Cd.inj
/-- where a letter's field lies -/
def foff (l : Int) : Nat := if l = 97 ∨ l = 115 then 1 else if l = 98 then 2 else if l = 99 then 3 else if l = 116 then 4 else 5
theorem foff_get (x : Cd) (l : Int) : x.cells[foff l]? = some (.int .i64 (x.fld l)) := by
  unfold foff Cd.fld; split
  · rfl
  · split
    · rfl
    · split
      · rfl
      · split <;> rfl
theorem foff_set (x : Cd) (l v : Int) : x.cells.set (foff l) (.int .i64 v) = (x.setf l v).cells := by
  unfold foff Cd.setf; split
  · rfl
  · split
    · rfl
    · split
      · rfl
      · split <;> rfl
theorem foff_lt (l : Int) : foff l < 6 := by unfold foff; repeat' (split <;> try omega)
theorem foff_setA (x : Cd) (l v : Int) : (x.cells.toArray).setIfInBounds (foff l) (.int .i64 v) = (x.setf l v).cells.toArray := by rw [← foff_set]; simp
theorem take_letter {l : List Int} {k : Nat} (h : k < l.length) : l.take (k + 1) = l.take k ++ [l.getD k 0] := by
  rw [List.take_succ_eq_append_getElem h]; simp [List.getD_eq_getElem?_getD, h]
theorem all_step {l : List Int} {p : Int → Bool} {k : Nat} (h : k < l.length) (ha : (l.take k).all p = true) (hp : p (l.getD k 0) = true) : (l.take (k + 1)).all p = true := by
  rw [take_letter h, List.all_append, ha, List.all_cons, hp]; rfl
theorem zero_step (x : Cd) {l : List Int} {k : Nat} (h : k < l.length) : (x.zero (l.take k)).setf (l.getD k 0) 0 = x.zero (l.take (k + 1)) := by
  rw [take_letter h]; simp [Cd.zero]
theorem goodC_none {x : Cd} {b : Int} (h : shp x.op = []) : goodC x b = false := by unfold goodC; simp [h]
theorem goodC_no {x : Cd} {b : Int} {k : Nat} (h : k < (shp x.op).length) (hp : sound ((shp x.op).getD k 0) (x.fld ((shp x.op).getD k 0)) b = false) : goodC x b = false := by
  have : (shp x.op).all (fun l => sound l (x.fld l) b) = false := by
    rw [List.all_eq_false]
    refine ⟨(shp x.op).getD k 0, ?_, by rw [hp]; simp⟩
    rw [List.getD_eq_getElem?_getD, List.getElem?_eq_getElem h]; exact List.getElem_mem h
  unfold goodC; rw [this]; simp
theorem goodC_yes {x : Cd} {b : Int} (h : shp x.op ≠ []) (ha : ((shp x.op).take (shp x.op).length).all (fun l => sound l (x.fld l) b) = true) : decide (x.zero ((shp x.op).take (shp x.op).length) = ⟨x.op, 0, 0, 0, 0, 0⟩) = goodC x b := by
  rw [List.take_length] at *
  unfold goodC; rw [ha]; simp [h]
/-- The same, as the document has it. -/
def usesB (op l : Int) : Bool := decide (l ∈ shp op)
def regB (u : Bool) (n : Int) : Bool := (u && decide (0 ≤ n ∧ n ≤ 7)) || (!u && decide (n = 0))
def goodR (x : Cd) (b : Int) : Bool := decide (shp x.op ≠ []) && regB (usesB x.op 98) x.b && regB (usesB x.op 99) x.c && (if x.op = 13 then decide (1 ≤ x.a ∧ x.a ≤ b) else regB (usesB x.op 97) x.a) &&
  (if usesB x.op 116 then decide (0 ≤ x.t ∧ x.t ≤ 3) else decide (x.t = 0)) && (if usesB x.op 107 then decide (1 ≤ x.n ∧ x.n ≤ 64) else if usesB x.op 106 then decide (0 ≤ x.n ∧ x.n ≤ 3) else usesB x.op 110 || decide (x.n = 0))
theorem badAt_step {cs : List Cd} {k : Nat} (h : k < cs.length) : badAt cs (cs.length - k) = if goodC (cs.getD k default) ((cs.length : Int) - 1 - k) = true then badAt cs (cs.length - (k + 1)) else (k : Int) := by
  have e : cs.length - k = (cs.length - (k + 1)) + 1 := by omega
  rw [e, badAt]
  have e1 : cs.length - (cs.length - (k + 1) + 1) = k := by omega
  have e2 : ((cs.length - (k + 1) : Nat) : Int) = (cs.length : Int) - 1 - k := by omega
  rw [e1, e2]
end Go.Proofs.Ytlkopcgoaldpeaa.HL
end
section
namespace Go.Proofs.Ytlkopcgoaldpeaa.HL
open Go
set_option linter.unusedSimpArgs false
/-- A value of one type, or nil. -/
def ifV (T : TypeId) : Option Value → Value
  | none => .nilIface
  | some v => .iface T v
theorem g_ifv {P : Program} {H : Hp} (op : BinOp) (t : TypeId) (x : Operand) (c : Value) (T : TypeId) (o : Option Value) (K : Unit → Hp → Prop) : Lt P (eqGuard op t x (.const c) (ifV T o) .nilIface) H K = K () H := by
  cases o with
  | none => exact g_nil_r op t x c K
  | some k => exact g_iface op t x (.const c) T _ _ K
theorem b_ifv_neq {P : Program} {H : Hp} (t : TypeId) (ms : Array (String × TypeId)) (hu : P.underlying t = some (.interface ms)) (T : TypeId) (o : Option Value) (K : Value → Hp → Prop) : Lt P (binOp .neq t (ifV T o) .nilIface) H K = K (.bool o.isSome) H := by
  cases o with
  | none => show Lt P (binOp .neq t .nilIface .nilIface) H K = _; rw [e_neq _ _ _ _ (by simp), q_equal, q_nil_nil _ t ms hu]; rfl
  | some k => show Lt P (binOp .neq t (.iface T k) .nilIface) H K = _; rw [e_neq _ _ _ _ (by simp), q_equal, q_iface_nil _ t ms hu]; rfl
theorem b_ifv_eql {P : Program} {H : Hp} (t : TypeId) (ms : Array (String × TypeId)) (hu : P.underlying t = some (.interface ms)) (T : TypeId) (o : Option Value) (K : Value → Hp → Prop) : Lt P (binOp .eql t (ifV T o) .nilIface) H K = K (.bool o.isNone) H := by
  cases o with
  | none => show Lt P (binOp .eql t .nilIface .nilIface) H K = _; rw [e_eql _ _ _ _ (by simp), q_equal, q_nil_nil _ t ms hu]; rfl
  | some k => show Lt P (binOp .eql t (.iface T k) .nilIface) H K = _; rw [e_eql _ _ _ _ (by simp), q_equal, q_iface_nil _ t ms hu]; rfl
theorem str_get {l : List Int} (hB : ByteL l) {k : Nat} (h : k < l.length) : ∃ b : UInt8, (strOf l)[k]? = some b ∧ (b.toNat : Int) = l.getD k 0 := by
  have hs : k < (strOf l).size := by rw [strOf_size]; exact h
  refine ⟨(strOf l)[k]'hs, by simp [hs], ?_⟩
  have hg : l.getD k 0 = l[k] := by simp [List.getD_eq_getElem?_getD, h]
  have hb := hB l[k] (List.getElem_mem h)
  have e : (strOf l)[k]'hs = UInt8.ofNat (l[k]).toNat := by
    have : (strOf l)[k]'hs = (strOf l).data[k]'hs := rfl
    rw [this]; simp [strOf]
  rw [e, hg, UInt8.toNat_ofNat']; omega
theorem Lt_letter {P : Program} {H : Hp} {t : TypeId} (hu : P.underlying t = some .string) {l : List Int} (hB : ByteL l) {k : IntKind} {i : Nat} (h : i < l.length) {K : Value → Hp → Prop} (hK : K (.int .u8 (l.getD i 0)) H) : Lt P (Instr.index t (.string (strOf l)) (.int k (i : Int))) H K := by
  obtain ⟨b, h1, h2⟩ := str_get hB h
  refine Lt_indexStr hu (by omega) (b := b) (by rw [Int.toNat_natCast]; exact h1) ?_
  rw [h2]; exact hK
end Go.Proofs.Ytlkopcgoaldpeaa.HL
end
section
namespace Go.Proofs.Ytlkopcgoaldpeaa.HL
open Go Go.Proofs
set_option linter.unusedSimpArgs false
set_option linter.unusedVariables false
attribute [local irreducible] Lt Lq CW OW TW CallH

set_option maxRecDepth 100000 in
set_option maxHeartbeats 1000000 in
theorem field_ok (H : Hp) (b : Nat) (x : Cd) (l : Int) (hb : H b = some (.cells x.cells.toArray 47)) : CallH Try.prog 28 #[.pointer (some ⟨b, 0, none⟩), .int .u8 l] H (fun v H' => v = .pointer (some ⟨b, foff l, none⟩) ∧ H' = H) := by
  refine CallH_enter (l := [_, _]) (rl := [.tmp 4]) (n := 30) Try.func28 rfl rfl rfl rfl rfl ?_
  simp only [envOf, Nat.reduceAdd]
  refine CW_seq (fun K1 hK1 => ?_)
  refine CW_region ?_
  refine OW_as rfl ?_
  refine OW_nil ?_
  try simp only [Ex.thnH, Ex.inBlockH, ↓reduceIte, Nat.reduceEqDiff]
  refine hK1 _ _ ?_; try clear hK1 K1
  refine CW_seq (fun K2 hK2 => ?_)
  refine CW_seq (fun K3 hK3 => ?_)
  refine CW_region ?_
  refine OW_mv rfl ?_
  refine OW_nil ?_
  try simp only [Ex.thnH, Ex.inBlockH, ↓reduceIte, Nat.reduceEqDiff]
  refine hK3 _ _ ?_; try clear hK3 K3
  refine CW_block ?_
  refine CW_cut (fun e H_ => Env.has [(0, .pointer (some ⟨b, 0, none⟩)), (5, .int .u8 l), (6, .bool (decide (l = 97 ∨ l = 115)))] e ∧ H_ = H) ?_ ?_
  · skip
    refine CW_seq (fun K4 hK4 => ?_)
    refine CW_region ?_
    refine OW_opS (fun K hK r => ?_)
    simp (disch := (first | omega | decide)) only [x_bin, g_int, b_eql, dec_lt_t, dec_lt_f, dec_le_t, dec_le_f, dec_eq_t, dec_eq_f, Bool.not_true, Bool.not_false, eX, ↓reduceIte, Nat.reduceEqDiff, Int.reduceToNat]
    refine hK _ _ ?_; clear hK K
    refine OW_as rfl ?_
    refine OW_nil ?_
    try simp only [Ex.thnH, Ex.inBlockH, ↓reduceIte, Nat.reduceEqDiff]
    refine hK4 _ _ ?_; try clear hK4 K4
    refine CW_cond (fun r => rfl) (fun c6 => ?_) (fun c6 => ?_)
    · first
      | (exfalso; exact cnA c6; done)
      | skip
        (try simp only [decide_eq_true_eq, decide_eq_false_iff_not, Bool.not_eq_true, Bool.not_eq_false, Bool.and_eq_true, Bool.or_eq_true, Bool.or_eq_false_iff, Bool.not_eq_true, Bool.not_eq_eq_eq_not, Bool.not_true, Bool.not_false] at c6)
        refine CW_skip ?_
        try simp only [Ex.thnH, Ex.inBlockH, ↓reduceIte, Nat.reduceEqDiff]
        refine ⟨⟨rfl, rfl, ?_, trivial⟩, (by first | rfl | trivial)⟩
        show some (Value.bool _) = some (Value.bool _)
        congr 2
        first | (rw [Bool.eq_iff_iff]; simp only [decide_eq_true_eq]; omega) | (exact (decide_eq_true (by omega)).symm) | (exact (decide_eq_false (by omega)).symm) | (simp_all; done)
    · first
      | (exfalso; exact cnA c6; done)
      | skip
        (try simp only [decide_eq_true_eq, decide_eq_false_iff_not, Bool.not_eq_true, Bool.not_eq_false, Bool.and_eq_true, Bool.or_eq_true, Bool.or_eq_false_iff, Bool.not_eq_true, Bool.not_eq_eq_eq_not, Bool.not_true, Bool.not_false] at c6)
        refine CW_region ?_
        refine OW_opS (fun K hK r => ?_)
        simp (disch := (first | omega | decide)) only [x_bin, g_int, b_eql, dec_lt_t, dec_lt_f, dec_le_t, dec_le_f, dec_eq_t, dec_eq_f, Bool.not_true, Bool.not_false, eX, ↓reduceIte, Nat.reduceEqDiff, Int.reduceToNat]
        refine hK _ _ ?_; clear hK K
        refine OW_as rfl ?_
        refine OW_nil ?_
        try simp only [Ex.thnH, Ex.inBlockH, ↓reduceIte, Nat.reduceEqDiff]
        refine ⟨⟨rfl, rfl, ?_, trivial⟩, (by first | rfl | trivial)⟩
        show some (Value.bool _) = some (Value.bool _)
        congr 2
        first | (rw [Bool.eq_iff_iff]; simp only [decide_eq_true_eq]; omega) | (exact (decide_eq_true (by omega)).symm) | (exact (decide_eq_false (by omega)).symm) | (simp_all; done)
  rintro e_ H_ ⟨he, hH_⟩
  have hH_ := hH_.symm; subst hH_
  refine CW_env he.sub ?_; clear he e_
  refine CW_cond (fun r => rfl) (fun c6 => ?_) (fun c6 => ?_)
  · first
    | (exfalso; exact cnA c6; done)
    | skip
      (try simp only [decide_eq_true_eq, decide_eq_false_iff_not, Bool.not_eq_true, Bool.not_eq_false, Bool.and_eq_true, Bool.or_eq_true, Bool.or_eq_false_iff, Bool.not_eq_true, Bool.not_eq_eq_eq_not, Bool.not_true, Bool.not_false] at c6)
      refine CW_seq (fun K5 hK5 => ?_)
      refine CW_region ?_
      refine OW_mv rfl ?_
      refine OW_opS (fun K hK r => ?_)
      rw [x_nilCheck _ _ rfl]
      simp only [eX, ↓reduceIte, Nat.reduceEqDiff, Int.reduceToNat]
      refine hK _ _ ?_; clear hK K
      refine OW_opS (fun K hK r => ?_)
      simp only [x_fieldAddr, fa47_1, add_mk, Nat.reduceAdd, Nat.zero_add, eX, ↓reduceIte, Nat.reduceEqDiff, Int.reduceToNat]
      refine hK _ _ ?_; clear hK K
      refine OW_as rfl ?_
      refine OW_nil ?_
      try simp only [Ex.thnH, Ex.inBlockH, ↓reduceIte, Nat.reduceEqDiff]
      refine hK5 _ _ ?_; try clear hK5 K5
      refine CW_ret ?_
      try simp only [Ex.thnH, Ex.inBlockH, ↓reduceIte, Nat.reduceEqDiff]
      refine ⟨[_], ⟨rfl, trivial⟩, _, Le.refl _, ?_, rfl⟩
      show Value.pointer _ = _
      unfold foff
      repeat' (split <;> try (first | rfl | (exfalso; omega) | (exfalso; simp_all; done) | (exfalso; simp_all; omega)))
  · first
    | (exfalso; exact cnA c6; done)
    | skip
      (try simp only [decide_eq_true_eq, decide_eq_false_iff_not, Bool.not_eq_true, Bool.not_eq_false, Bool.and_eq_true, Bool.or_eq_true, Bool.or_eq_false_iff, Bool.not_eq_true, Bool.not_eq_eq_eq_not, Bool.not_true, Bool.not_false] at c6)
      refine CW_seq (fun K6 hK6 => ?_)
      refine CW_region ?_
      refine OW_opS (fun K hK r => ?_)
      simp (disch := (first | omega | decide)) only [x_bin, g_int, b_eql, dec_lt_t, dec_lt_f, dec_le_t, dec_le_f, dec_eq_t, dec_eq_f, Bool.not_true, Bool.not_false, eX, ↓reduceIte, Nat.reduceEqDiff, Int.reduceToNat]
      refine hK _ _ ?_; clear hK K
      refine OW_as rfl ?_
      refine OW_nil ?_
      try simp only [Ex.thnH, Ex.inBlockH, ↓reduceIte, Nat.reduceEqDiff]
      refine hK6 _ _ ?_; try clear hK6 K6
      refine CW_cond (fun r => rfl) (fun c12 => ?_) (fun c12 => ?_)
      · first
        | (exfalso; exact cnA c12; done)
        | skip
          (try simp only [decide_eq_true_eq, decide_eq_false_iff_not, Bool.not_eq_true, Bool.not_eq_false, Bool.and_eq_true, Bool.or_eq_true, Bool.or_eq_false_iff, Bool.not_eq_true, Bool.not_eq_eq_eq_not, Bool.not_true, Bool.not_false] at c12)
          refine CW_seq (fun K7 hK7 => ?_)
          refine CW_region ?_
          refine OW_mv rfl ?_
          refine OW_opS (fun K hK r => ?_)
          rw [x_nilCheck _ _ rfl]
          simp only [eX, ↓reduceIte, Nat.reduceEqDiff, Int.reduceToNat]
          refine hK _ _ ?_; clear hK K
          refine OW_opS (fun K hK r => ?_)
          simp only [x_fieldAddr, fa47_2, add_mk, Nat.reduceAdd, Nat.zero_add, eX, ↓reduceIte, Nat.reduceEqDiff, Int.reduceToNat]
          refine hK _ _ ?_; clear hK K
          refine OW_as rfl ?_
          refine OW_nil ?_
          try simp only [Ex.thnH, Ex.inBlockH, ↓reduceIte, Nat.reduceEqDiff]
          refine hK7 _ _ ?_; try clear hK7 K7
          refine CW_ret ?_
          try simp only [Ex.thnH, Ex.inBlockH, ↓reduceIte, Nat.reduceEqDiff]
          refine ⟨[_], ⟨rfl, trivial⟩, _, Le.refl _, ?_, rfl⟩
          show Value.pointer _ = _
          unfold foff
          repeat' (split <;> try (first | rfl | (exfalso; omega) | (exfalso; simp_all; done) | (exfalso; simp_all; omega)))
      · first
        | (exfalso; exact cnA c12; done)
        | skip
          (try simp only [decide_eq_true_eq, decide_eq_false_iff_not, Bool.not_eq_true, Bool.not_eq_false, Bool.and_eq_true, Bool.or_eq_true, Bool.or_eq_false_iff, Bool.not_eq_true, Bool.not_eq_eq_eq_not, Bool.not_true, Bool.not_false] at c12)
          refine CW_seq (fun K8 hK8 => ?_)
          refine CW_region ?_
          refine OW_opS (fun K hK r => ?_)
          simp (disch := (first | omega | decide)) only [x_bin, g_int, b_eql, dec_lt_t, dec_lt_f, dec_le_t, dec_le_f, dec_eq_t, dec_eq_f, Bool.not_true, Bool.not_false, eX, ↓reduceIte, Nat.reduceEqDiff, Int.reduceToNat]
          refine hK _ _ ?_; clear hK K
          refine OW_as rfl ?_
          refine OW_nil ?_
          try simp only [Ex.thnH, Ex.inBlockH, ↓reduceIte, Nat.reduceEqDiff]
          refine hK8 _ _ ?_; try clear hK8 K8
          refine CW_cond (fun r => rfl) (fun c17 => ?_) (fun c17 => ?_)
          · first
            | (exfalso; exact cnA c17; done)
            | skip
              (try simp only [decide_eq_true_eq, decide_eq_false_iff_not, Bool.not_eq_true, Bool.not_eq_false, Bool.and_eq_true, Bool.or_eq_true, Bool.or_eq_false_iff, Bool.not_eq_true, Bool.not_eq_eq_eq_not, Bool.not_true, Bool.not_false] at c17)
              refine CW_seq (fun K9 hK9 => ?_)
              refine CW_region ?_
              refine OW_mv rfl ?_
              refine OW_opS (fun K hK r => ?_)
              rw [x_nilCheck _ _ rfl]
              simp only [eX, ↓reduceIte, Nat.reduceEqDiff, Int.reduceToNat]
              refine hK _ _ ?_; clear hK K
              refine OW_opS (fun K hK r => ?_)
              simp only [x_fieldAddr, fa47_3, add_mk, Nat.reduceAdd, Nat.zero_add, eX, ↓reduceIte, Nat.reduceEqDiff, Int.reduceToNat]
              refine hK _ _ ?_; clear hK K
              refine OW_as rfl ?_
              refine OW_nil ?_
              try simp only [Ex.thnH, Ex.inBlockH, ↓reduceIte, Nat.reduceEqDiff]
              refine hK9 _ _ ?_; try clear hK9 K9
              refine CW_ret ?_
              try simp only [Ex.thnH, Ex.inBlockH, ↓reduceIte, Nat.reduceEqDiff]
              refine ⟨[_], ⟨rfl, trivial⟩, _, Le.refl _, ?_, rfl⟩
              show Value.pointer _ = _
              unfold foff
              repeat' (split <;> try (first | rfl | (exfalso; omega) | (exfalso; simp_all; done) | (exfalso; simp_all; omega)))
          · first
            | (exfalso; exact cnA c17; done)
            | skip
              (try simp only [decide_eq_true_eq, decide_eq_false_iff_not, Bool.not_eq_true, Bool.not_eq_false, Bool.and_eq_true, Bool.or_eq_true, Bool.or_eq_false_iff, Bool.not_eq_true, Bool.not_eq_eq_eq_not, Bool.not_true, Bool.not_false] at c17)
              refine CW_seq (fun K10 hK10 => ?_)
              refine CW_region ?_
              refine OW_opS (fun K hK r => ?_)
              simp (disch := (first | omega | decide)) only [x_bin, g_int, b_eql, dec_lt_t, dec_lt_f, dec_le_t, dec_le_f, dec_eq_t, dec_eq_f, Bool.not_true, Bool.not_false, eX, ↓reduceIte, Nat.reduceEqDiff, Int.reduceToNat]
              refine hK _ _ ?_; clear hK K
              refine OW_as rfl ?_
              refine OW_nil ?_
              try simp only [Ex.thnH, Ex.inBlockH, ↓reduceIte, Nat.reduceEqDiff]
              refine hK10 _ _ ?_; try clear hK10 K10
              refine CW_cond (fun r => rfl) (fun c22 => ?_) (fun c22 => ?_)
              · first
                | (exfalso; exact cnA c22; done)
                | skip
                  (try simp only [decide_eq_true_eq, decide_eq_false_iff_not, Bool.not_eq_true, Bool.not_eq_false, Bool.and_eq_true, Bool.or_eq_true, Bool.or_eq_false_iff, Bool.not_eq_true, Bool.not_eq_eq_eq_not, Bool.not_true, Bool.not_false] at c22)
                  refine CW_seq (fun K11 hK11 => ?_)
                  refine CW_region ?_
                  refine OW_mv rfl ?_
                  refine OW_opS (fun K hK r => ?_)
                  rw [x_nilCheck _ _ rfl]
                  simp only [eX, ↓reduceIte, Nat.reduceEqDiff, Int.reduceToNat]
                  refine hK _ _ ?_; clear hK K
                  refine OW_opS (fun K hK r => ?_)
                  simp only [x_fieldAddr, fa47_4, add_mk, Nat.reduceAdd, Nat.zero_add, eX, ↓reduceIte, Nat.reduceEqDiff, Int.reduceToNat]
                  refine hK _ _ ?_; clear hK K
                  refine OW_as rfl ?_
                  refine OW_nil ?_
                  try simp only [Ex.thnH, Ex.inBlockH, ↓reduceIte, Nat.reduceEqDiff]
                  refine hK11 _ _ ?_; try clear hK11 K11
                  refine CW_ret ?_
                  try simp only [Ex.thnH, Ex.inBlockH, ↓reduceIte, Nat.reduceEqDiff]
                  refine ⟨[_], ⟨rfl, trivial⟩, _, Le.refl _, ?_, rfl⟩
                  show Value.pointer _ = _
                  unfold foff
                  repeat' (split <;> try (first | rfl | (exfalso; omega) | (exfalso; simp_all; done) | (exfalso; simp_all; omega)))
              · first
                | (exfalso; exact cnA c22; done)
                | skip
                  (try simp only [decide_eq_true_eq, decide_eq_false_iff_not, Bool.not_eq_true, Bool.not_eq_false, Bool.and_eq_true, Bool.or_eq_true, Bool.or_eq_false_iff, Bool.not_eq_true, Bool.not_eq_eq_eq_not, Bool.not_true, Bool.not_false] at c22)
                  refine CW_skip ?_
                  try simp only [Ex.thnH, Ex.inBlockH, ↓reduceIte, Nat.reduceEqDiff]
                  refine hK2 _ _ ?_; try clear hK2 K2
                  refine CW_seq (fun K12 hK12 => ?_)
                  refine CW_region ?_
                  refine OW_mv rfl ?_
                  refine OW_opS (fun K hK r => ?_)
                  rw [x_nilCheck _ _ rfl]
                  simp only [eX, ↓reduceIte, Nat.reduceEqDiff, Int.reduceToNat]
                  refine hK _ _ ?_; clear hK K
                  refine OW_opS (fun K hK r => ?_)
                  simp only [x_fieldAddr, fa47_5, add_mk, Nat.reduceAdd, Nat.zero_add, eX, ↓reduceIte, Nat.reduceEqDiff, Int.reduceToNat]
                  refine hK _ _ ?_; clear hK K
                  refine OW_as rfl ?_
                  refine OW_nil ?_
                  try simp only [Ex.thnH, Ex.inBlockH, ↓reduceIte, Nat.reduceEqDiff]
                  refine hK12 _ _ ?_; try clear hK12 K12
                  refine CW_ret ?_
                  try simp only [Ex.thnH, Ex.inBlockH, ↓reduceIte, Nat.reduceEqDiff]
                  refine ⟨[_], ⟨rfl, trivial⟩, _, Le.refl _, ?_, rfl⟩
                  show Value.pointer _ = _
                  unfold foff
                  repeat' (split <;> try (first | rfl | (exfalso; omega) | (exfalso; simp_all; done) | (exfalso; simp_all; omega)))

set_option maxRecDepth 100000 in
set_option maxHeartbeats 1000000 in
theorem within_ok (H : Hp) (n lo hi : Int) : CallH Try.prog 46 #[.int .i64 n, .int .i64 lo, .int .i64 hi] H (fun v H' => v = .bool (decide (lo ≤ n ∧ n ≤ hi)) ∧ H' = H) := by
  refine CallH_enter (l := [_, _, _]) (rl := [.tmp 6]) (n := 15) Try.func46 rfl rfl rfl rfl rfl ?_
  simp only [envOf, Nat.reduceAdd]
  refine CW_seq (fun K1 hK1 => ?_)
  refine CW_region ?_
  refine OW_as rfl ?_
  refine OW_nil ?_
  try simp only [Ex.thnH, Ex.inBlockH, ↓reduceIte, Nat.reduceEqDiff]
  refine hK1 _ _ ?_; try clear hK1 K1
  refine CW_seq (fun K2 hK2 => ?_)
  refine CW_region ?_
  refine OW_mv rfl ?_
  refine OW_mv rfl ?_
  refine OW_opS (fun K hK r => ?_)
  simp (disch := (first | omega | decide)) only [x_bin, g_int, b_geq, dec_lt_t, dec_lt_f, dec_le_t, dec_le_f, dec_eq_t, dec_eq_f, Bool.not_true, Bool.not_false, eX, ↓reduceIte, Nat.reduceEqDiff, Int.reduceToNat]
  refine hK _ _ ?_; clear hK K
  refine OW_mv rfl ?_
  (first | refine OW_split (d := 10) rfl (fun g10 => ?_) (fun g10 => ?_) | skip)
  all_goals try (exfalso; exact cnA g10)
  all_goals (try simp only [decide_eq_true_eq, decide_eq_false_iff_not, Bool.not_eq_true, Bool.not_eq_false, Bool.and_eq_true, Bool.or_eq_true, Bool.or_eq_false_iff, Bool.not_eq_true, Bool.not_eq_eq_eq_not, Bool.not_true, Bool.not_false] at g10)
  all_goals
    try simp only [eX, ↓reduceIte, Nat.reduceEqDiff, Int.reduceToNat]
    first
    | refine OW_guardT rfl (lt_some (by decide)) rfl (fun K hK r => ?_)
      simp only [x_move, eX, ↓reduceIte, Nat.reduceEqDiff, Int.reduceToNat]
      refine hK _ _ ?_; clear hK K
    | refine OW_guardF rfl (lt_some (by decide)) rfl ?_
      simp only [eX, ↓reduceIte, Nat.reduceEqDiff, Int.reduceToNat]
    first
    | refine OW_guardT rfl (lt_some (by decide)) rfl (fun K hK r => ?_)
      simp only [x_move, eX, ↓reduceIte, Nat.reduceEqDiff, Int.reduceToNat]
      refine hK _ _ ?_; clear hK K
    | refine OW_guardF rfl (lt_some (by decide)) rfl ?_
      simp only [eX, ↓reduceIte, Nat.reduceEqDiff, Int.reduceToNat]
    first
    | refine OW_guardT rfl (lt_some (by decide)) rfl (fun K hK r => ?_)
      simp (disch := (first | omega | decide)) only [x_bin, g_int, b_leq, dec_lt_t, dec_lt_f, dec_le_t, dec_le_f, dec_eq_t, dec_eq_f, Bool.not_true, Bool.not_false, eX, ↓reduceIte, Nat.reduceEqDiff, Int.reduceToNat]
      refine hK _ _ ?_; clear hK K
    | refine OW_guardF rfl (lt_some (by decide)) rfl ?_
      simp only [eX, ↓reduceIte, Nat.reduceEqDiff, Int.reduceToNat]
    refine OW_opS (fun K hK r => ?_)
    simp only [x_pick, l_asBool, HL.ite_bool, if_true, if_false, Bool.false_eq_true, eX, ↓reduceIte, Nat.reduceEqDiff, Int.reduceToNat]
    refine hK _ _ ?_; clear hK K
    refine OW_as rfl ?_
    refine OW_nil ?_
    try simp only [Ex.thnH, Ex.inBlockH, ↓reduceIte, Nat.reduceEqDiff]
    refine hK2 _ _ ?_; try clear hK2 K2
    refine CW_ret ?_
    try simp only [Ex.thnH, Ex.inBlockH, ↓reduceIte, Nat.reduceEqDiff]
    refine ⟨[_], ⟨rfl, trivial⟩, _, Le.refl _, ?_, rfl⟩
    show Value.bool _ = _
    refine congrArg Value.bool ?_
    first | (rw [Bool.eq_iff_iff]; simp only [decide_eq_true_eq]; omega) | (exact (decide_eq_true (by omega)).symm) | (exact (decide_eq_false (by omega)).symm) | (simp_all; done)

set_option maxRecDepth 100000 in
set_option maxHeartbeats 1000000 in
theorem sound_ok (H : Hp) (l n behind : Int) : CallH Try.prog 59 #[.int .u8 l, .int .i64 n, .int .i64 behind] H (fun v H' => v = .bool (sound l n behind) ∧ H' = H) := by
  refine CallH_enter (l := [_, _, _]) (rl := [.tmp 6]) (n := 31) Try.func59 rfl rfl rfl rfl rfl ?_
  simp only [envOf, Nat.reduceAdd]
  refine CW_seq (fun K1 hK1 => ?_)
  refine CW_region ?_
  refine OW_as rfl ?_
  refine OW_nil ?_
  try simp only [Ex.thnH, Ex.inBlockH, ↓reduceIte, Nat.reduceEqDiff]
  refine hK1 _ _ ?_; try clear hK1 K1
  refine CW_seq (fun K2 hK2 => ?_)
  refine CW_seq (fun K3 hK3 => ?_)
  refine CW_region ?_
  refine OW_mv rfl ?_
  refine OW_nil ?_
  try simp only [Ex.thnH, Ex.inBlockH, ↓reduceIte, Nat.reduceEqDiff]
  refine hK3 _ _ ?_; try clear hK3 K3
  refine CW_block ?_
  refine CW_cut (fun e H_ => Env.has [(1, .int .i64 n), (2, .int .i64 behind), (7, .int .u8 l), (8, .bool (decide (l = 97 ∨ l = 98 ∨ l = 99)))] e ∧ H_ = H) ?_ ?_
  · skip
    refine CW_seq (fun K4 hK4 => ?_)
    refine CW_region ?_
    refine OW_opS (fun K hK r => ?_)
    simp (disch := (first | omega | decide)) only [x_bin, g_int, b_eql, dec_lt_t, dec_lt_f, dec_le_t, dec_le_f, dec_eq_t, dec_eq_f, Bool.not_true, Bool.not_false, eX, ↓reduceIte, Nat.reduceEqDiff, Int.reduceToNat]
    refine hK _ _ ?_; clear hK K
    refine OW_as rfl ?_
    refine OW_nil ?_
    try simp only [Ex.thnH, Ex.inBlockH, ↓reduceIte, Nat.reduceEqDiff]
    refine hK4 _ _ ?_; try clear hK4 K4
    refine CW_cond (fun r => rfl) (fun c8 => ?_) (fun c8 => ?_)
    · first
      | (exfalso; exact cnA c8; done)
      | skip
        (try simp only [decide_eq_true_eq, decide_eq_false_iff_not, Bool.not_eq_true, Bool.not_eq_false, Bool.and_eq_true, Bool.or_eq_true, Bool.or_eq_false_iff, Bool.not_eq_true, Bool.not_eq_eq_eq_not, Bool.not_true, Bool.not_false] at c8)
        refine CW_skip ?_
        try simp only [Ex.thnH, Ex.inBlockH, ↓reduceIte, Nat.reduceEqDiff]
        refine ⟨⟨rfl, rfl, rfl, ?_, trivial⟩, (by first | rfl | trivial)⟩
        show some (Value.bool _) = some (Value.bool _)
        congr 2
        first | (rw [Bool.eq_iff_iff]; simp only [decide_eq_true_eq]; omega) | (exact (decide_eq_true (by omega)).symm) | (exact (decide_eq_false (by omega)).symm) | (simp_all; done)
    · first
      | (exfalso; exact cnA c8; done)
      | skip
        (try simp only [decide_eq_true_eq, decide_eq_false_iff_not, Bool.not_eq_true, Bool.not_eq_false, Bool.and_eq_true, Bool.or_eq_true, Bool.or_eq_false_iff, Bool.not_eq_true, Bool.not_eq_eq_eq_not, Bool.not_true, Bool.not_false] at c8)
        refine CW_seq (fun K5 hK5 => ?_)
        refine CW_region ?_
        refine OW_opS (fun K hK r => ?_)
        simp (disch := (first | omega | decide)) only [x_bin, g_int, b_eql, dec_lt_t, dec_lt_f, dec_le_t, dec_le_f, dec_eq_t, dec_eq_f, Bool.not_true, Bool.not_false, eX, ↓reduceIte, Nat.reduceEqDiff, Int.reduceToNat]
        refine hK _ _ ?_; clear hK K
        refine OW_as rfl ?_
        refine OW_nil ?_
        try simp only [Ex.thnH, Ex.inBlockH, ↓reduceIte, Nat.reduceEqDiff]
        refine hK5 _ _ ?_; try clear hK5 K5
        refine CW_cond (fun r => rfl) (fun c8 => ?_) (fun c8 => ?_)
        · first
          | (exfalso; exact cnA c8; done)
          | skip
            (try simp only [decide_eq_true_eq, decide_eq_false_iff_not, Bool.not_eq_true, Bool.not_eq_false, Bool.and_eq_true, Bool.or_eq_true, Bool.or_eq_false_iff, Bool.not_eq_true, Bool.not_eq_eq_eq_not, Bool.not_true, Bool.not_false] at c8)
            refine CW_skip ?_
            try simp only [Ex.thnH, Ex.inBlockH, ↓reduceIte, Nat.reduceEqDiff]
            refine ⟨⟨rfl, rfl, rfl, ?_, trivial⟩, (by first | rfl | trivial)⟩
            show some (Value.bool _) = some (Value.bool _)
            congr 2
            first | (rw [Bool.eq_iff_iff]; simp only [decide_eq_true_eq]; omega) | (exact (decide_eq_true (by omega)).symm) | (exact (decide_eq_false (by omega)).symm) | (simp_all; done)
        · first
          | (exfalso; exact cnA c8; done)
          | skip
            (try simp only [decide_eq_true_eq, decide_eq_false_iff_not, Bool.not_eq_true, Bool.not_eq_false, Bool.and_eq_true, Bool.or_eq_true, Bool.or_eq_false_iff, Bool.not_eq_true, Bool.not_eq_eq_eq_not, Bool.not_true, Bool.not_false] at c8)
            refine CW_region ?_
            refine OW_opS (fun K hK r => ?_)
            simp (disch := (first | omega | decide)) only [x_bin, g_int, b_eql, dec_lt_t, dec_lt_f, dec_le_t, dec_le_f, dec_eq_t, dec_eq_f, Bool.not_true, Bool.not_false, eX, ↓reduceIte, Nat.reduceEqDiff, Int.reduceToNat]
            refine hK _ _ ?_; clear hK K
            refine OW_as rfl ?_
            refine OW_nil ?_
            try simp only [Ex.thnH, Ex.inBlockH, ↓reduceIte, Nat.reduceEqDiff]
            refine ⟨⟨rfl, rfl, rfl, ?_, trivial⟩, (by first | rfl | trivial)⟩
            show some (Value.bool _) = some (Value.bool _)
            congr 2
            first | (rw [Bool.eq_iff_iff]; simp only [decide_eq_true_eq]; omega) | (exact (decide_eq_true (by omega)).symm) | (exact (decide_eq_false (by omega)).symm) | (simp_all; done)
  rintro e_ H_ ⟨he, hH_⟩
  have hH_ := hH_.symm; subst hH_
  refine CW_env he.sub ?_; clear he e_
  refine CW_cond (fun r => rfl) (fun c8 => ?_) (fun c8 => ?_)
  · first
    | (exfalso; exact cnA c8; done)
    | skip
      (try simp only [decide_eq_true_eq, decide_eq_false_iff_not, Bool.not_eq_true, Bool.not_eq_false, Bool.and_eq_true, Bool.or_eq_true, Bool.or_eq_false_iff, Bool.not_eq_true, Bool.not_eq_eq_eq_not, Bool.not_true, Bool.not_false] at c8)
      refine CW_seq (fun K6 hK6 => ?_)
      refine CW_region ?_
      refine OW_mv rfl ?_
      refine OW_opS (fun K hK r => ?_)
      simp only [x_callF _ bd46, List.map_toArray, List.map_cons, List.map_nil, eX, ↓reduceIte, Nat.reduceEqDiff, Int.reduceToNat]
      refine (within_ok _ n 0 7).mono ?_
      rintro v H' ⟨rfl, rfl⟩
      try simp only [eX, ↓reduceIte, Nat.reduceEqDiff, Int.reduceToNat]
      refine hK _ _ ?_; clear hK K
      refine OW_as rfl ?_
      refine OW_nil ?_
      try simp only [Ex.thnH, Ex.inBlockH, ↓reduceIte, Nat.reduceEqDiff]
      refine hK6 _ _ ?_; try clear hK6 K6
      refine CW_ret ?_
      try simp only [Ex.thnH, Ex.inBlockH, ↓reduceIte, Nat.reduceEqDiff]
      refine ⟨[_], ⟨rfl, trivial⟩, _, Le.refl _, ?_, rfl⟩
      show Value.bool _ = _
      refine congrArg Value.bool ?_
      unfold sound
      repeat' (split <;> try (first | rfl | (exfalso; omega) | (exfalso; simp_all; done) | (exfalso; simp_all; omega)))
  · first
    | (exfalso; exact cnA c8; done)
    | skip
      (try simp only [decide_eq_true_eq, decide_eq_false_iff_not, Bool.not_eq_true, Bool.not_eq_false, Bool.and_eq_true, Bool.or_eq_true, Bool.or_eq_false_iff, Bool.not_eq_true, Bool.not_eq_eq_eq_not, Bool.not_true, Bool.not_false] at c8)
      refine CW_seq (fun K7 hK7 => ?_)
      refine CW_region ?_
      refine OW_opS (fun K hK r => ?_)
      simp (disch := (first | omega | decide)) only [x_bin, g_int, b_eql, dec_lt_t, dec_lt_f, dec_le_t, dec_le_f, dec_eq_t, dec_eq_f, Bool.not_true, Bool.not_false, eX, ↓reduceIte, Nat.reduceEqDiff, Int.reduceToNat]
      refine hK _ _ ?_; clear hK K
      refine OW_as rfl ?_
      refine OW_nil ?_
      try simp only [Ex.thnH, Ex.inBlockH, ↓reduceIte, Nat.reduceEqDiff]
      refine hK7 _ _ ?_; try clear hK7 K7
      refine CW_cond (fun r => rfl) (fun c14 => ?_) (fun c14 => ?_)
      · first
        | (exfalso; exact cnA c14; done)
        | skip
          (try simp only [decide_eq_true_eq, decide_eq_false_iff_not, Bool.not_eq_true, Bool.not_eq_false, Bool.and_eq_true, Bool.or_eq_true, Bool.or_eq_false_iff, Bool.not_eq_true, Bool.not_eq_eq_eq_not, Bool.not_true, Bool.not_false] at c14)
          refine CW_seq (fun K8 hK8 => ?_)
          refine CW_region ?_
          refine OW_mv rfl ?_
          refine OW_opS (fun K hK r => ?_)
          simp only [x_callF _ bd46, List.map_toArray, List.map_cons, List.map_nil, eX, ↓reduceIte, Nat.reduceEqDiff, Int.reduceToNat]
          refine (within_ok _ n 0 3).mono ?_
          rintro v H' ⟨rfl, rfl⟩
          try simp only [eX, ↓reduceIte, Nat.reduceEqDiff, Int.reduceToNat]
          refine hK _ _ ?_; clear hK K
          refine OW_as rfl ?_
          refine OW_nil ?_
          try simp only [Ex.thnH, Ex.inBlockH, ↓reduceIte, Nat.reduceEqDiff]
          refine hK8 _ _ ?_; try clear hK8 K8
          refine CW_ret ?_
          try simp only [Ex.thnH, Ex.inBlockH, ↓reduceIte, Nat.reduceEqDiff]
          refine ⟨[_], ⟨rfl, trivial⟩, _, Le.refl _, ?_, rfl⟩
          show Value.bool _ = _
          refine congrArg Value.bool ?_
          unfold sound
          repeat' (split <;> try (first | rfl | (exfalso; omega) | (exfalso; simp_all; done) | (exfalso; simp_all; omega)))
      · first
        | (exfalso; exact cnA c14; done)
        | skip
          (try simp only [decide_eq_true_eq, decide_eq_false_iff_not, Bool.not_eq_true, Bool.not_eq_false, Bool.and_eq_true, Bool.or_eq_true, Bool.or_eq_false_iff, Bool.not_eq_true, Bool.not_eq_eq_eq_not, Bool.not_true, Bool.not_false] at c14)
          refine CW_seq (fun K9 hK9 => ?_)
          refine CW_region ?_
          refine OW_opS (fun K hK r => ?_)
          simp (disch := (first | omega | decide)) only [x_bin, g_int, b_eql, dec_lt_t, dec_lt_f, dec_le_t, dec_le_f, dec_eq_t, dec_eq_f, Bool.not_true, Bool.not_false, eX, ↓reduceIte, Nat.reduceEqDiff, Int.reduceToNat]
          refine hK _ _ ?_; clear hK K
          refine OW_as rfl ?_
          refine OW_nil ?_
          try simp only [Ex.thnH, Ex.inBlockH, ↓reduceIte, Nat.reduceEqDiff]
          refine hK9 _ _ ?_; try clear hK9 K9
          refine CW_cond (fun r => rfl) (fun c18 => ?_) (fun c18 => ?_)
          · first
            | (exfalso; exact cnA c18; done)
            | skip
              (try simp only [decide_eq_true_eq, decide_eq_false_iff_not, Bool.not_eq_true, Bool.not_eq_false, Bool.and_eq_true, Bool.or_eq_true, Bool.or_eq_false_iff, Bool.not_eq_true, Bool.not_eq_eq_eq_not, Bool.not_true, Bool.not_false] at c18)
              refine CW_seq (fun K10 hK10 => ?_)
              refine CW_region ?_
              refine OW_mv rfl ?_
              refine OW_opS (fun K hK r => ?_)
              simp only [x_callF _ bd46, List.map_toArray, List.map_cons, List.map_nil, eX, ↓reduceIte, Nat.reduceEqDiff, Int.reduceToNat]
              refine (within_ok _ n 1 64).mono ?_
              rintro v H' ⟨rfl, rfl⟩
              try simp only [eX, ↓reduceIte, Nat.reduceEqDiff, Int.reduceToNat]
              refine hK _ _ ?_; clear hK K
              refine OW_as rfl ?_
              refine OW_nil ?_
              try simp only [Ex.thnH, Ex.inBlockH, ↓reduceIte, Nat.reduceEqDiff]
              refine hK10 _ _ ?_; try clear hK10 K10
              refine CW_ret ?_
              try simp only [Ex.thnH, Ex.inBlockH, ↓reduceIte, Nat.reduceEqDiff]
              refine ⟨[_], ⟨rfl, trivial⟩, _, Le.refl _, ?_, rfl⟩
              show Value.bool _ = _
              refine congrArg Value.bool ?_
              unfold sound
              repeat' (split <;> try (first | rfl | (exfalso; omega) | (exfalso; simp_all; done) | (exfalso; simp_all; omega)))
          · first
            | (exfalso; exact cnA c18; done)
            | skip
              (try simp only [decide_eq_true_eq, decide_eq_false_iff_not, Bool.not_eq_true, Bool.not_eq_false, Bool.and_eq_true, Bool.or_eq_true, Bool.or_eq_false_iff, Bool.not_eq_true, Bool.not_eq_eq_eq_not, Bool.not_true, Bool.not_false] at c18)
              refine CW_seq (fun K11 hK11 => ?_)
              refine CW_region ?_
              refine OW_opS (fun K hK r => ?_)
              simp (disch := (first | omega | decide)) only [x_bin, g_int, b_eql, dec_lt_t, dec_lt_f, dec_le_t, dec_le_f, dec_eq_t, dec_eq_f, Bool.not_true, Bool.not_false, eX, ↓reduceIte, Nat.reduceEqDiff, Int.reduceToNat]
              refine hK _ _ ?_; clear hK K
              refine OW_as rfl ?_
              refine OW_nil ?_
              try simp only [Ex.thnH, Ex.inBlockH, ↓reduceIte, Nat.reduceEqDiff]
              refine hK11 _ _ ?_; try clear hK11 K11
              refine CW_cond (fun r => rfl) (fun c22 => ?_) (fun c22 => ?_)
              · first
                | (exfalso; exact cnA c22; done)
                | skip
                  (try simp only [decide_eq_true_eq, decide_eq_false_iff_not, Bool.not_eq_true, Bool.not_eq_false, Bool.and_eq_true, Bool.or_eq_true, Bool.or_eq_false_iff, Bool.not_eq_true, Bool.not_eq_eq_eq_not, Bool.not_true, Bool.not_false] at c22)
                  refine CW_seq (fun K12 hK12 => ?_)
                  refine CW_region ?_
                  refine OW_mv rfl ?_
                  refine OW_mv rfl ?_
                  refine OW_opS (fun K hK r => ?_)
                  simp only [x_callF _ bd46, List.map_toArray, List.map_cons, List.map_nil, eX, ↓reduceIte, Nat.reduceEqDiff, Int.reduceToNat]
                  refine (within_ok _ n 1 behind).mono ?_
                  rintro v H' ⟨rfl, rfl⟩
                  try simp only [eX, ↓reduceIte, Nat.reduceEqDiff, Int.reduceToNat]
                  refine hK _ _ ?_; clear hK K
                  refine OW_as rfl ?_
                  refine OW_nil ?_
                  try simp only [Ex.thnH, Ex.inBlockH, ↓reduceIte, Nat.reduceEqDiff]
                  refine hK12 _ _ ?_; try clear hK12 K12
                  refine CW_ret ?_
                  try simp only [Ex.thnH, Ex.inBlockH, ↓reduceIte, Nat.reduceEqDiff]
                  refine ⟨[_], ⟨rfl, trivial⟩, _, Le.refl _, ?_, rfl⟩
                  show Value.bool _ = _
                  refine congrArg Value.bool ?_
                  unfold sound
                  repeat' (split <;> try (first | rfl | (exfalso; omega) | (exfalso; simp_all; done) | (exfalso; simp_all; omega)))
              · first
                | (exfalso; exact cnA c22; done)
                | skip
                  (try simp only [decide_eq_true_eq, decide_eq_false_iff_not, Bool.not_eq_true, Bool.not_eq_false, Bool.and_eq_true, Bool.or_eq_true, Bool.or_eq_false_iff, Bool.not_eq_true, Bool.not_eq_eq_eq_not, Bool.not_true, Bool.not_false] at c22)
                  refine CW_seq (fun K13 hK13 => ?_)
                  refine CW_region ?_
                  refine OW_opS (fun K hK r => ?_)
                  simp (disch := (first | omega | decide)) only [x_bin, g_int, b_eql, dec_lt_t, dec_lt_f, dec_le_t, dec_le_f, dec_eq_t, dec_eq_f, Bool.not_true, Bool.not_false, eX, ↓reduceIte, Nat.reduceEqDiff, Int.reduceToNat]
                  refine hK _ _ ?_; clear hK K
                  refine OW_as rfl ?_
                  refine OW_nil ?_
                  try simp only [Ex.thnH, Ex.inBlockH, ↓reduceIte, Nat.reduceEqDiff]
                  refine hK13 _ _ ?_; try clear hK13 K13
                  refine CW_cond (fun r => rfl) (fun c27 => ?_) (fun c27 => ?_)
                  · first
                    | (exfalso; exact cnA c27; done)
                    | skip
                      (try simp only [decide_eq_true_eq, decide_eq_false_iff_not, Bool.not_eq_true, Bool.not_eq_false, Bool.and_eq_true, Bool.or_eq_true, Bool.or_eq_false_iff, Bool.not_eq_true, Bool.not_eq_eq_eq_not, Bool.not_true, Bool.not_false] at c27)
                      refine CW_seq (fun K14 hK14 => ?_)
                      refine CW_region ?_
                      refine OW_mv rfl ?_
                      refine OW_opS (fun K hK r => ?_)
                      simp only [x_callF _ bd46, List.map_toArray, List.map_cons, List.map_nil, eX, ↓reduceIte, Nat.reduceEqDiff, Int.reduceToNat]
                      refine (within_ok _ n 0 3).mono ?_
                      rintro v H' ⟨rfl, rfl⟩
                      try simp only [eX, ↓reduceIte, Nat.reduceEqDiff, Int.reduceToNat]
                      refine hK _ _ ?_; clear hK K
                      refine OW_as rfl ?_
                      refine OW_nil ?_
                      try simp only [Ex.thnH, Ex.inBlockH, ↓reduceIte, Nat.reduceEqDiff]
                      refine hK14 _ _ ?_; try clear hK14 K14
                      refine CW_ret ?_
                      try simp only [Ex.thnH, Ex.inBlockH, ↓reduceIte, Nat.reduceEqDiff]
                      refine ⟨[_], ⟨rfl, trivial⟩, _, Le.refl _, ?_, rfl⟩
                      show Value.bool _ = _
                      refine congrArg Value.bool ?_
                      unfold sound
                      repeat' (split <;> try (first | rfl | (exfalso; omega) | (exfalso; simp_all; done) | (exfalso; simp_all; omega)))
                  · first
                    | (exfalso; exact cnA c27; done)
                    | skip
                      (try simp only [decide_eq_true_eq, decide_eq_false_iff_not, Bool.not_eq_true, Bool.not_eq_false, Bool.and_eq_true, Bool.or_eq_true, Bool.or_eq_false_iff, Bool.not_eq_true, Bool.not_eq_eq_eq_not, Bool.not_true, Bool.not_false] at c27)
                      refine CW_skip ?_
                      try simp only [Ex.thnH, Ex.inBlockH, ↓reduceIte, Nat.reduceEqDiff]
                      refine hK2 _ _ ?_; try clear hK2 K2
                      refine CW_seq (fun K15 hK15 => ?_)
                      refine CW_region ?_
                      refine OW_as rfl ?_
                      refine OW_nil ?_
                      try simp only [Ex.thnH, Ex.inBlockH, ↓reduceIte, Nat.reduceEqDiff]
                      refine hK15 _ _ ?_; try clear hK15 K15
                      refine CW_ret ?_
                      try simp only [Ex.thnH, Ex.inBlockH, ↓reduceIte, Nat.reduceEqDiff]
                      refine ⟨[_], ⟨rfl, trivial⟩, _, Le.refl _, ?_, rfl⟩
                      show Value.bool _ = _
                      refine congrArg Value.bool ?_
                      unfold sound
                      repeat' (split <;> try (first | rfl | (exfalso; omega) | (exfalso; simp_all; done) | (exfalso; simp_all; omega)))

end Go.Proofs.Ytlkopcgoaldpeaa.HL
end
section
namespace Go.Proofs.Ytlkopcgoaldpeaa.HL
open Go Go.Proofs
set_option linter.unusedSimpArgs false
set_option linter.unusedVariables false
attribute [local irreducible] Lt Lq CW OW TW CallH

set_option maxRecDepth 100000 in
set_option maxHeartbeats 1000000 in
theorem good_ok (H : Hp) (x : Cd) (behind : Int) : CallH Try.prog 48 #[.agg x.cells.toArray, .int .i64 behind] H (fun v H' => v = .bool (goodC x behind) ∧ Le H H') := by
  refine CallH_enter (l := [_, _]) (rl := [.tmp 4]) (n := 46) Try.func48 rfl rfl rfl rfl rfl ?_
  simp only [envOf, Nat.reduceAdd]
  refine CW_seq (fun K1 hK1 => ?_)
  refine CW_region ?_
  refine OW_opS (fun K hK r => ?_)
  simp only [x_box, Value.cells, eX, ↓reduceIte, Nat.reduceEqDiff, Int.reduceToNat]
  intro b2 hb2
  have f2_H : H b2 = none := none_of_le lhA hb2
  try simp only [eX, ↓reduceIte, Nat.reduceEqDiff, Int.reduceToNat]
  refine hK _ _ ?_; clear hK K
  refine OW_as rfl ?_
  refine OW_nil ?_
  try simp only [Ex.thnH, Ex.inBlockH, ↓reduceIte, Nat.reduceEqDiff]
  refine hK1 _ _ ?_; try clear hK1 K1
  refine CW_seq (fun K2 hK2 => ?_)
  refine CW_region ?_
  refine OW_opS (fun K hK r => ?_)
  simp only [x_fieldAddr, fa47_0, add_mk, Nat.reduceAdd, Nat.zero_add, eX, ↓reduceIte, Nat.reduceEqDiff, Int.reduceToNat]
  refine hK _ _ ?_; clear hK K
  refine OW_opS (fun K hK r => ?_)
  simp only [x_load, eX, ↓reduceIte, Nat.reduceEqDiff, Int.reduceToNat]
  refine Lt_loadAt1 Try.underlying3 rfl hbA ldA ?_
  try simp only [eX, ↓reduceIte, Nat.reduceEqDiff, Int.reduceToNat]
  refine hK _ _ ?_; clear hK K
  refine OW_opS (fun K hK r => ?_)
  simp only [x_callF _ bd9, List.map_toArray, List.map_cons, List.map_nil, eX, ↓reduceIte, Nat.reduceEqDiff, Int.reduceToNat]
  refine (shape_ok _ x.op).mono ?_
  rintro v H' ⟨rfl, rfl⟩
  try simp only [eX, ↓reduceIte, Nat.reduceEqDiff, Int.reduceToNat]
  refine hK _ _ ?_; clear hK K
  refine OW_mv rfl ?_
  refine OW_opS (fun K hK r => ?_)
  simp only [x_extract, i_extract, List.getElem?_toArray, List.getElem?_cons_zero, List.getElem?_cons_succ, orF_some, eX, ↓reduceIte, Nat.reduceEqDiff, Int.reduceToNat]
  refine hK _ _ ?_; clear hK K
  refine OW_opS (fun K hK r => ?_)
  simp only [x_extract, i_extract, List.getElem?_toArray, List.getElem?_cons_zero, List.getElem?_cons_succ, orF_some, eX, ↓reduceIte, Nat.reduceEqDiff, Int.reduceToNat]
  refine hK _ _ ?_; clear hK K
  refine OW_as rfl ?_
  refine OW_as rfl ?_
  refine OW_nil ?_
  try simp only [Ex.thnH, Ex.inBlockH, ↓reduceIte, Nat.reduceEqDiff]
  refine hK2 _ _ ?_; try clear hK2 K2
  refine CW_seq (fun K3 hK3 => ?_)
  refine CW_seq (fun K4 hK4 => ?_)
  refine CW_region ?_
  refine OW_mv rfl ?_
  refine OW_opS (fun K hK r => ?_)
  simp only [x_un, u_not, eX, ↓reduceIte, Nat.reduceEqDiff, Int.reduceToNat]
  refine hK _ _ ?_; clear hK K
  refine OW_nil ?_
  try simp only [Ex.thnH, Ex.inBlockH, ↓reduceIte, Nat.reduceEqDiff]
  refine hK4 _ _ ?_; try clear hK4 K4
  refine CW_cond (fun r => rfl) (fun c16 => ?_) (fun c16 => ?_)
  · first
    | (exfalso; exact cnA c16; done)
    | skip
      (try simp only [decide_eq_true_eq, decide_eq_false_iff_not, Bool.not_eq_true, Bool.not_eq_false, Bool.and_eq_true, Bool.or_eq_true, Bool.or_eq_false_iff, Bool.not_eq_true, Bool.not_eq_eq_eq_not, Bool.not_true, Bool.not_false] at c16)
      refine CW_seq (fun K5 hK5 => ?_)
      refine CW_region ?_
      refine OW_as rfl ?_
      refine OW_nil ?_
      try simp only [Ex.thnH, Ex.inBlockH, ↓reduceIte, Nat.reduceEqDiff]
      refine hK5 _ _ ?_; try clear hK5 K5
      refine CW_ret ?_
      try simp only [Ex.thnH, Ex.inBlockH, ↓reduceIte, Nat.reduceEqDiff]
      refine ⟨[_], ⟨rfl, trivial⟩, _, Le.refl _, ?_, lhA⟩
      show Value.bool _ = _
      rw [goodC_none (by simp_all)]
  · first
    | (exfalso; exact cnA c16; done)
    | skip
      (try simp only [decide_eq_true_eq, decide_eq_false_iff_not, Bool.not_eq_true, Bool.not_eq_false, Bool.and_eq_true, Bool.or_eq_true, Bool.or_eq_false_iff, Bool.not_eq_true, Bool.not_eq_eq_eq_not, Bool.not_true, Bool.not_false] at c16)
      refine CW_skip ?_
      try simp only [Ex.thnH, Ex.inBlockH, ↓reduceIte, Nat.reduceEqDiff]
      refine hK3 _ _ ?_; try clear hK3 K3
      refine CW_seq (fun K6 hK6 => ?_)
      refine CW_region ?_
      refine OW_opS (fun K hK r => ?_)
      simp only [x_load, eX, ↓reduceIte, Nat.reduceEqDiff, Int.reduceToNat]
      first | refine Lt_loadAll Try.underlying47 rfl sz47 hbA bdA ?_ | refine Lt_loadAtA Try.underlying47 rfl sz47 hbA bdA ?_
      try simp only [List.extract_toArray, List.extract_eq_take_drop, Nat.zero_add, Nat.reduceAdd, Nat.reduceSub, Nat.sub_zero, List.drop_succ_cons, List.drop_zero, List.take_succ_cons, List.take_zero, List.take_nil, List.drop_nil]
      try simp only [eX, ↓reduceIte, Nat.reduceEqDiff, Int.reduceToNat]
      refine hK _ _ ?_; clear hK K
      refine OW_opS (fun K hK r => ?_)
      simp only [x_alloc, zr47, orF_some, Value.cells, eX, ↓reduceIte, Nat.reduceEqDiff, Int.reduceToNat]
      intro b7 hb7
      try have n7_b2 : b2 ≠ b7 := ne_of_none hbA hb7
      have f7_H : H b7 = none := none_of_le lhA hb7
      try simp only [eX, ↓reduceIte, Nat.reduceEqDiff, Int.reduceToNat]
      refine hK _ _ ?_; clear hK K
      refine OW_op rfl (lt_none) (fun K hK r => ?_)
      simp only [x_store, eX, ↓reduceIte, Nat.reduceEqDiff, Int.reduceToNat]
      first | refine Lt_storeAll sz47 bdA hbA bdA plA (by decide) ?_ | refine Lt_storeAtA sz47 bdA hbA bdA plA (by decide) ?_
      try simp only [eX, ↓reduceIte, Nat.reduceEqDiff, Int.reduceToNat]
      refine hK _ _ ?_; clear hK K
      refine OW_nil ?_
      try simp only [Ex.thnH, Ex.inBlockH, ↓reduceIte, Nat.reduceEqDiff]
      refine hK6 _ _ ?_; try clear hK6 K6
      refine CW_seq (fun K7 hK7 => ?_)
      refine CW_seq (fun K8 hK8 => ?_)
      refine CW_region ?_
      refine OW_mv rfl ?_
      refine OW_opS (fun K hK r => ?_)
      simp only [x_builtin, l_len, List.map_toArray, List.map_cons, List.map_nil, i_len_string _ Try.underlying9, eX, ↓reduceIte, Nat.reduceEqDiff, Int.reduceToNat]
      try simp only [strOf_size]
      refine hK _ _ ?_; clear hK K
      refine OW_mv rfl ?_
      refine OW_nil ?_
      try simp only [Ex.thnH, Ex.inBlockH, ↓reduceIte, Nat.reduceEqDiff]
      refine hK8 _ _ ?_; try clear hK8 K8
      refine CW_block ?_
      refine CW_loop (fun m e H_ => ∃ k : Nat, k ≤ (shp x.op).length ∧ m = (shp x.op).length - k ∧ ((shp x.op).take k).all (fun l => sound l (x.fld l) behind) = true ∧ Env.has [(1, .int .i64 behind), (2, .pointer (some ⟨b2, 0, none⟩)), (5, .string (strOf (shp x.op))), (7, .pointer (some ⟨b7, 0, none⟩)), (19, .int .i64 (shp x.op).length), (20, .int .i64 k)] e ∧ H_ = (H.upd b2 (.cells x.cells.toArray 47)).upd b7 (.cells (x.zero ((shp x.op).take k)).cells.toArray 47)) ((shp x.op).length) ?_ ?_
      · skip
        exact ⟨0, by omega, by omega, rfl, ⟨rfl, rfl, rfl, rfl, rfl, rfl, trivial⟩, by first | rfl | simp [Cd.zero]⟩
      intro m_ e_ H_ hI_
      obtain ⟨k, hk, rfl, hall, he, hH_⟩ := hI_
      subst hH_
      refine CW_env he.sub ?_; clear he e_
      have hl5 := shp_len x.op
      refine CW_seq (fun K9 hK9 => ?_)
      refine CW_region ?_
      refine OW_opS (fun K hK r => ?_)
      simp (disch := (first | omega | decide)) only [x_bin, g_int, b_lss, dec_lt_t, dec_lt_f, dec_le_t, dec_le_f, dec_eq_t, dec_eq_f, Bool.not_true, Bool.not_false, eX, ↓reduceIte, Nat.reduceEqDiff, Int.reduceToNat]
      refine hK _ _ ?_; clear hK K
      refine OW_nil ?_
      try simp only [Ex.thnH, Ex.inBlockH, ↓reduceIte, Nat.reduceEqDiff]
      refine hK9 _ _ ?_; try clear hK9 K9
      refine CW_seq (fun K10 hK10 => ?_)
      refine CW_cond (fun r => rfl) (fun c21 => ?_) (fun c21 => ?_)
      · first
        | (exfalso; exact cnA c21; done)
        | skip
          (try simp only [decide_eq_true_eq, decide_eq_false_iff_not, Bool.not_eq_true, Bool.not_eq_false, Bool.and_eq_true, Bool.or_eq_true, Bool.or_eq_false_iff, Bool.not_eq_true, Bool.not_eq_eq_eq_not, Bool.not_true, Bool.not_false] at c21)
          refine CW_skip ?_
          try simp only [Ex.thnH, Ex.inBlockH, ↓reduceIte, Nat.reduceEqDiff]
          refine hK10 _ _ ?_; try clear hK10 K10
          refine CW_seq (fun K11 hK11 => ?_)
          refine CW_block ?_
          refine CW_seq (fun K12 hK12 => ?_)
          refine CW_region ?_
          refine OW_mv rfl ?_
          refine OW_as rfl ?_
          refine OW_nil ?_
          try simp only [Ex.thnH, Ex.inBlockH, ↓reduceIte, Nat.reduceEqDiff]
          refine hK12 _ _ ?_; try clear hK12 K12
          refine CW_seq (fun K13 hK13 => ?_)
          refine CW_seq (fun K14 hK14 => ?_)
          refine CW_drawE [0, 0, 0, 0, 0, 0, 5, 0, 1, 0, 3, 0] [0, 1, 2, 3, 4, 5, 6, 7, 8, 9, 10, 11] (by kernel_rfl) (by kernel_rfl) (fun R8 hR8 => ?_)
          apply TW_pure rfl (lt_some (by decide)) rfl
          · intro r
            simp only [x_move, eX, ↓reduceIte, Nat.reduceEqDiff]
            exact ⟨rfl, Le.refl _⟩
          simp only [eX, ↓reduceIte, Nat.reduceEqDiff, Int.reduceToNat]
          apply TW_pure rfl (lt_some (by decide)) rfl
          · intro r
            simp only [x_move, eX, ↓reduceIte, Nat.reduceEqDiff]
            exact ⟨rfl, Le.refl _⟩
          simp only [eX, ↓reduceIte, Nat.reduceEqDiff, Int.reduceToNat]
          apply TW_pure rfl (lt_some (by decide)) rfl
          · intro r
            simp only [x_index, eX, ↓reduceIte, Nat.reduceEqDiff]
            refine Lt_letter Try.underlying9 (shp_bytes _) (by omega) ?_
            exact ⟨rfl, Le.refl _⟩
          simp only [eX, ↓reduceIte, Nat.reduceEqDiff, Int.reduceToNat]
          apply TW_pure rfl (lt_some (by decide)) rfl
          · intro r
            simp only [x_move, eX, ↓reduceIte, Nat.reduceEqDiff]
            exact ⟨rfl, Le.refl _⟩
          simp only [eX, ↓reduceIte, Nat.reduceEqDiff, Int.reduceToNat]
          apply TW_pure rfl (lt_some (by decide)) rfl
          · intro r
            simp only [x_move, eX, ↓reduceIte, Nat.reduceEqDiff]
            exact ⟨rfl, Le.refl _⟩
          simp only [eX, ↓reduceIte, Nat.reduceEqDiff, Int.reduceToNat]
          apply TW_pure rfl (lt_some (by decide)) rfl
          · intro r
            simp only [x_index, eX, ↓reduceIte, Nat.reduceEqDiff]
            refine Lt_letter Try.underlying9 (shp_bytes _) (by omega) ?_
            exact ⟨rfl, Le.refl _⟩
          simp only [eX, ↓reduceIte, Nat.reduceEqDiff, Int.reduceToNat]
          refine TW_fence rfl (lt_some (by decide)) rfl (fun K hK r => ?_)
          simp only [x_callF _ bd28, List.map_toArray, List.map_cons, List.map_nil, eX, ↓reduceIte, Nat.reduceEqDiff, Int.reduceToNat]
          refine (field_ok _ b2 x ((shp x.op).getD k 0) hbA).mono ?_
          rintro v H' ⟨rfl, rfl⟩
          try simp only [eX, ↓reduceIte, Nat.reduceEqDiff, Int.reduceToNat]
          refine hK _ _ (fun R29_ hR29_ => ?_); clear hK K
          apply TW_pure rfl (lt_some (by decide)) rfl
          · intro r
            rw [x_nilCheck _ _ rfl]
            exact ⟨rfl, Le.refl _⟩
          simp only [eX, ↓reduceIte, Nat.reduceEqDiff, Int.reduceToNat]
          apply TW_look rfl (lt_some (by decide)) rfl
          · intro r
            simp only [x_load, eX, ↓reduceIte, Nat.reduceEqDiff]
            refine Lt_loadAt1 Try.underlying3 rfl hbA (v := .int .i64 (x.fld ((shp x.op).getD k 0))) (by rw [List.getElem?_toArray]; exact foff_get _ _) ?_
            exact ⟨rfl, Le.refl _⟩
          simp only [eX, ↓reduceIte, Nat.reduceEqDiff, Int.reduceToNat]
          apply TW_pure rfl (lt_some (by decide)) rfl
          · intro r
            simp only [x_move, eX, ↓reduceIte, Nat.reduceEqDiff]
            exact ⟨rfl, Le.refl _⟩
          simp only [eX, ↓reduceIte, Nat.reduceEqDiff, Int.reduceToNat]
          refine TW_last rfl (lt_some (by decide)) rfl (fun K hK r => ?_)
          simp only [x_callF _ bd59, List.map_toArray, List.map_cons, List.map_nil, eX, ↓reduceIte, Nat.reduceEqDiff, Int.reduceToNat]
          refine (sound_ok _ ((shp x.op).getD k 0) (x.fld ((shp x.op).getD k 0)) behind).mono ?_
          rintro v H' ⟨rfl, rfl⟩
          try simp only [eX, ↓reduceIte, Nat.reduceEqDiff, Int.reduceToNat]
          refine hK _ _ ?_; clear hK K
          apply TW_pure rfl (lt_some (by decide)) rfl
          · intro r
            simp only [x_un, u_not, eX, ↓reduceIte, Nat.reduceEqDiff]
            exact ⟨rfl, Le.refl _⟩
          simp only [eX, ↓reduceIte, Nat.reduceEqDiff, Int.reduceToNat]
          refine TW_nil ?_
          try simp only [Ex.thnH, Ex.inBlockH, ↓reduceIte, Nat.reduceEqDiff]
          refine hK14 _ _ ?_; try clear hK14 K14
          refine CW_cond (fun r => rfl) (fun c34 => ?_) (fun c34 => ?_)
          · first
            | (exfalso; exact cnA c34; done)
            | skip
              (try simp only [decide_eq_true_eq, decide_eq_false_iff_not, Bool.not_eq_true, Bool.not_eq_false, Bool.and_eq_true, Bool.or_eq_true, Bool.or_eq_false_iff, Bool.not_eq_true, Bool.not_eq_eq_eq_not, Bool.not_true, Bool.not_false] at c34)
              refine CW_seq (fun K15 hK15 => ?_)
              refine CW_region ?_
              refine OW_as rfl ?_
              refine OW_nil ?_
              try simp only [Ex.thnH, Ex.inBlockH, ↓reduceIte, Nat.reduceEqDiff]
              refine hK15 _ _ ?_; try clear hK15 K15
              refine CW_ret ?_
              try simp only [Ex.thnH, Ex.inBlockH, ↓reduceIte, Nat.reduceEqDiff]
              refine ⟨[_], ⟨rfl, trivial⟩, _, Le.refl _, ?_, lhA⟩
              show Value.bool _ = _
              rw [goodC_no (k := k) (by omega) (by first | assumption | simp_all)]
          · first
            | (exfalso; exact cnA c34; done)
            | skip
              (try simp only [decide_eq_true_eq, decide_eq_false_iff_not, Bool.not_eq_true, Bool.not_eq_false, Bool.and_eq_true, Bool.or_eq_true, Bool.or_eq_false_iff, Bool.not_eq_true, Bool.not_eq_eq_eq_not, Bool.not_true, Bool.not_false] at c34)
              refine CW_skip ?_
              try simp only [Ex.thnH, Ex.inBlockH, ↓reduceIte, Nat.reduceEqDiff]
              refine hK13 _ _ ?_; try clear hK13 K13
              refine CW_region ?_
              refine OW_mv rfl ?_
              refine OW_mv rfl ?_
              refine OW_opS (fun K hK r => ?_)
              simp only [x_index, eX, ↓reduceIte, Nat.reduceEqDiff, Int.reduceToNat]
              refine Lt_letter Try.underlying9 (shp_bytes _) (by omega) ?_
              refine hK _ _ ?_; clear hK K
              refine OW_opS (fun K hK r => ?_)
              simp only [x_callF _ bd28, List.map_toArray, List.map_cons, List.map_nil, eX, ↓reduceIte, Nat.reduceEqDiff, Int.reduceToNat]
              refine (field_ok _ b7 (x.zero ((shp x.op).take k)) ((shp x.op).getD k 0) hbA).mono ?_
              rintro v H' ⟨rfl, rfl⟩
              try simp only [eX, ↓reduceIte, Nat.reduceEqDiff, Int.reduceToNat]
              refine hK _ _ ?_; clear hK K
              refine OW_opS (fun K hK r => ?_)
              rw [x_nilCheck _ _ rfl]
              simp only [eX, ↓reduceIte, Nat.reduceEqDiff, Int.reduceToNat]
              refine hK _ _ ?_; clear hK K
              refine OW_op rfl (lt_none) (fun K hK r => ?_)
              simp only [x_store, eX, ↓reduceIte, Nat.reduceEqDiff, Int.reduceToNat]
              refine Lt_storeAt1 sz3 hbA (by show foff _ < 6; exact foff_lt _) plA fzA ?_
              rw [foff_setA, zero_step x (by omega)]
              refine hK _ _ ?_; clear hK K
              refine OW_nil ?_
              try simp only [Ex.thnH, Ex.inBlockH, ↓reduceIte, Nat.reduceEqDiff]
              refine hK11 _ _ ?_; try clear hK11 K11
              refine CW_region ?_
              refine OW_opS (fun K hK r => ?_)
              simp (disch := (first | omega | decide)) only [x_bin, g_int, b_add, wrap_i64, wrap_u64, wrap_u32, wrap_u8, eX, ↓reduceIte, Nat.reduceEqDiff, Int.reduceToNat]
              refine hK _ _ ?_; clear hK K
              refine OW_mv rfl ?_
              refine OW_nil ?_
              try simp only [Ex.thnH, Ex.inBlockH, ↓reduceIte, Nat.reduceEqDiff]
              exact ⟨(shp x.op).length - (k + 1), by omega, k + 1, by omega, rfl, all_step (by omega) hall (by first | assumption | simp_all), ⟨rfl, rfl, rfl, rfl, rfl, rfl, trivial⟩, (by first | rfl | trivial | exact upd_upd _ _ _ _)⟩
      · first
        | (exfalso; exact cnA c21; done)
        | skip
          (try simp only [decide_eq_true_eq, decide_eq_false_iff_not, Bool.not_eq_true, Bool.not_eq_false, Bool.and_eq_true, Bool.or_eq_true, Bool.or_eq_false_iff, Bool.not_eq_true, Bool.not_eq_eq_eq_not, Bool.not_true, Bool.not_false] at c21)
          refine CW_exit ?_
          try simp only [Ex.thnH, Ex.inBlockH, ↓reduceIte, Nat.reduceEqDiff]
          refine hK7 _ _ ?_; try clear hK7 K7
          refine CW_seq (fun K16 hK16 => ?_)
          refine CW_region ?_
          refine OW_opS (fun K hK r => ?_)
          simp only [x_load, eX, ↓reduceIte, Nat.reduceEqDiff, Int.reduceToNat]
          first | refine Lt_loadAll Try.underlying47 rfl sz47 hbA bdA ?_ | refine Lt_loadAtA Try.underlying47 rfl sz47 hbA bdA ?_
          try simp only [List.extract_toArray, List.extract_eq_take_drop, Nat.zero_add, Nat.reduceAdd, Nat.reduceSub, Nat.sub_zero, List.drop_succ_cons, List.drop_zero, List.take_succ_cons, List.take_zero, List.take_nil, List.drop_nil]
          try simp only [eX, ↓reduceIte, Nat.reduceEqDiff, Int.reduceToNat]
          refine hK _ _ ?_; clear hK K
          refine OW_opS (fun K hK r => ?_)
          simp only [x_fieldAddr, fa47_0, add_mk, Nat.reduceAdd, Nat.zero_add, eX, ↓reduceIte, Nat.reduceEqDiff, Int.reduceToNat]
          refine hK _ _ ?_; clear hK K
          refine OW_opS (fun K hK r => ?_)
          simp only [x_load, eX, ↓reduceIte, Nat.reduceEqDiff, Int.reduceToNat]
          refine Lt_loadAt1 Try.underlying3 rfl hbA ldA ?_
          try simp only [eX, ↓reduceIte, Nat.reduceEqDiff, Int.reduceToNat]
          refine hK _ _ ?_; clear hK K
          refine OW_opS (fun K hK r => ?_)
          simp only [x_build, bp47, List.map_toArray, List.map_cons, List.map_nil, eX, ↓reduceIte, Nat.reduceEqDiff, Int.reduceToNat]
          rw [fill_one rfl clA bdA]
          simp only [fill_nil, orF_some, List.setIfInBounds_toArray, List.set_cons_zero, List.set_cons_succ]
          try simp only [eX, ↓reduceIte, Nat.reduceEqDiff, Int.reduceToNat]
          refine hK _ _ ?_; clear hK K
          refine OW_opS (fun K hK r => ?_)
          simp only [x_bin, g_agg _ _ _ _ _ _ eqg47, eX, ↓reduceIte, Nat.reduceEqDiff, Int.reduceToNat]
          rw [e_eql _ _ _ _ (by simp)]
          rw [q_equal, qfl47 _ _ (Cd.fit _) (Cd.fit (⟨x.op, 0, 0, 0, 0, 0⟩ : Cd)), Cd.eqV]
          refine hK _ _ ?_; clear hK K
          refine OW_as rfl ?_
          refine OW_nil ?_
          try simp only [Ex.thnH, Ex.inBlockH, ↓reduceIte, Nat.reduceEqDiff]
          refine hK16 _ _ ?_; try clear hK16 K16
          refine CW_ret ?_
          try simp only [Ex.thnH, Ex.inBlockH, ↓reduceIte, Nat.reduceEqDiff]
          refine ⟨[_], ⟨rfl, trivial⟩, _, Le.refl _, ?_, lhA⟩
          show Value.bool _ = _
          have ek : k = (shp x.op).length := by omega
          subst ek
          rw [goodC_yes (by simp_all) hall]


/-- an error at an instruction, or none: the fault's block -/
abbrev fltV (o : Option Nat) : Value := ifV 68 (o.map fun b => .pointer (some ⟨b, 0, none⟩))
abbrev fltO (n : Int) : Obj := .cells #[.int .i64 n, .iface 40 (.int .i64 5)] 71

set_option maxRecDepth 100000 in
set_option maxHeartbeats 1000000 in
theorem fault_ok (H : Hp) (n : Int) : CallH Try.prog 47 #[.int .i64 n] H (fun v H' => ∃ b, v = fltV (some b) ∧ H b = none ∧ H' = H.upd b (fltO n)) := by
  refine CallH_enter (l := [_]) (rl := [.tmp 2]) (n := 8) Try.func47 rfl rfl rfl rfl rfl ?_
  simp only [envOf, Nat.reduceAdd]
  refine CW_seq (fun K1 hK1 => ?_)
  refine CW_region ?_
  refine OW_as rfl ?_
  refine OW_nil ?_
  try simp only [Ex.thnH, Ex.inBlockH, ↓reduceIte, Nat.reduceEqDiff]
  refine hK1 _ _ ?_; try clear hK1 K1
  refine CW_seq (fun K2 hK2 => ?_)
  refine CW_region ?_
  refine OW_mv rfl ?_
  refine OW_opS (fun K hK r => ?_)
  simp only [x_makeInterface, i_makeInterface, Try.underlying40, orF_some, eX, ↓reduceIte, Nat.reduceEqDiff, Int.reduceToNat]
  refine hK _ _ ?_; clear hK K
  refine OW_opS (fun K hK r => ?_)
  simp only [x_build, bp71, List.map_toArray, List.map_cons, List.map_nil, eX, ↓reduceIte, Nat.reduceEqDiff, Int.reduceToNat]
  rw [fill_one rfl clA bdA]
  rw [fill_one rfl clA bdA]
  simp only [fill_nil, orF_some, List.setIfInBounds_toArray, List.set_cons_zero, List.set_cons_succ]
  try simp only [eX, ↓reduceIte, Nat.reduceEqDiff, Int.reduceToNat]
  refine hK _ _ ?_; clear hK K
  refine OW_opS (fun K hK r => ?_)
  simp only [x_box, Value.cells, eX, ↓reduceIte, Nat.reduceEqDiff, Int.reduceToNat]
  intro b6 hb6
  have f6_H : H b6 = none := none_of_le lhA hb6
  try simp only [eX, ↓reduceIte, Nat.reduceEqDiff, Int.reduceToNat]
  refine hK _ _ ?_; clear hK K
  refine OW_opS (fun K hK r => ?_)
  simp only [x_makeInterface, i_makeInterface, Try.underlying68, orF_some, eX, ↓reduceIte, Nat.reduceEqDiff, Int.reduceToNat]
  refine hK _ _ ?_; clear hK K
  refine OW_as rfl ?_
  refine OW_nil ?_
  try simp only [Ex.thnH, Ex.inBlockH, ↓reduceIte, Nat.reduceEqDiff]
  refine hK2 _ _ ?_; try clear hK2 K2
  refine CW_ret ?_
  try simp only [Ex.thnH, Ex.inBlockH, ↓reduceIte, Nat.reduceEqDiff]
  exact ⟨[_], ⟨rfl, trivial⟩, _, Le.refl _, b6, rfl, f6_H, rfl⟩

end Go.Proofs.Ytlkopcgoaldpeaa.HL
end
section
namespace Go.Proofs.Ytlkopcgoaldpeaa.HL
open Go Go.Proofs
set_option linter.unusedSimpArgs false
set_option linter.unusedVariables false
attribute [local irreducible] Lt Lq CW OW TW CallH

set_option maxRecDepth 100000 in
set_option maxHeartbeats 1000000 in
theorem check_ok (H : Hp) (fuel : Int) (vc : Value) (cs : List Cd) (hv : Holds H 6 vc cs.length (cds cs)) (hn : cs.length ≤ 1000000) : CallH Try.prog 24 #[.agg #[.int .i64 fuel, vc]] H (fun v H' => ∃ o, v = fltV o ∧ Le H H' ∧ (o = none ↔ checkP fuel cs = -2) ∧ ∀ b, o = some b → H b = none ∧ H' b = some (fltO (checkP fuel cs))) := by
  refine CallH_enter (l := [_]) (rl := [.tmp 2]) (n := 37) Try.func24 rfl rfl rfl rfl rfl ?_
  simp only [envOf, Nat.reduceAdd]
  obtain ⟨av, kv, rfl⟩ := hv.form
  refine CW_seq (fun K1 hK1 => ?_)
  refine CW_region ?_
  refine OW_opS (fun K hK r => ?_)
  simp only [x_box, Value.cells, eX, ↓reduceIte, Nat.reduceEqDiff, Int.reduceToNat]
  intro b1 hb1
  have f1_H : H b1 = none := none_of_le lhA hb1
  try simp only [eX, ↓reduceIte, Nat.reduceEqDiff, Int.reduceToNat]
  refine hK _ _ ?_; clear hK K
  refine OW_as rfl ?_
  refine OW_nil ?_
  try simp only [Ex.thnH, Ex.inBlockH, ↓reduceIte, Nat.reduceEqDiff]
  refine hK1 _ _ ?_; try clear hK1 K1
  refine CW_seq (fun K2 hK2 => ?_)
  refine CW_seq (fun K3 hK3 => ?_)
  refine CW_region_cut (fun e H_ => Env.has [(1, .pointer (some ⟨b1, 0, none⟩)), (15, .bool (decide (¬ (1 ≤ fuel ∧ fuel ≤ 1000 ∧ 1 ≤ cs.length ∧ cs.length ≤ 32))))] e ∧ H_ = H.upd b1 (.cells #[.int .i64 fuel, .slice av cs.length kv] 24)) ?_ ?_
  · skip
    refine OW_opS (fun K hK r => ?_)
    simp only [x_fieldAddr, fa24_0, add_mk, Nat.reduceAdd, Nat.zero_add, eX, ↓reduceIte, Nat.reduceEqDiff, Int.reduceToNat]
    refine hK _ _ ?_; clear hK K
    refine OW_opS (fun K hK r => ?_)
    simp only [x_load, eX, ↓reduceIte, Nat.reduceEqDiff, Int.reduceToNat]
    refine Lt_loadAt1 Try.underlying3 rfl hbA ldA ?_
    try simp only [eX, ↓reduceIte, Nat.reduceEqDiff, Int.reduceToNat]
    refine hK _ _ ?_; clear hK K
    refine OW_opS (fun K hK r => ?_)
    simp only [x_callF _ bd46, List.map_toArray, List.map_cons, List.map_nil, eX, ↓reduceIte, Nat.reduceEqDiff, Int.reduceToNat]
    refine (within_ok _ fuel 1 1000).mono ?_
    rintro v H' ⟨rfl, rfl⟩
    try simp only [eX, ↓reduceIte, Nat.reduceEqDiff, Int.reduceToNat]
    refine hK _ _ ?_; clear hK K
    refine OW_opS (fun K hK r => ?_)
    simp only [x_un, u_not, eX, ↓reduceIte, Nat.reduceEqDiff, Int.reduceToNat]
    refine hK _ _ ?_; clear hK K
    refine OW_mv rfl ?_
    (first | refine OW_split (d := 9) rfl (fun g9 => ?_) (fun g9 => ?_) | skip)
    all_goals try (exfalso; exact cnA g9)
    all_goals (try simp only [decide_eq_true_eq, decide_eq_false_iff_not, Bool.not_eq_true, Bool.not_eq_false, Bool.and_eq_true, Bool.or_eq_true, Bool.or_eq_false_iff, Bool.not_eq_true, Bool.not_eq_eq_eq_not, Bool.not_true, Bool.not_false] at g9)
    all_goals
      try simp only [eX, ↓reduceIte, Nat.reduceEqDiff, Int.reduceToNat]
      first
      | refine OW_guardT rfl (lt_some (by decide)) rfl (fun K hK r => ?_)
        simp only [x_fieldAddr, fa24_1, add_mk, Nat.reduceAdd, Nat.zero_add, eX, ↓reduceIte, Nat.reduceEqDiff, Int.reduceToNat]
        refine hK _ _ ?_; clear hK K
      | refine OW_guardF rfl (lt_some (by decide)) rfl ?_
        simp only [eX, ↓reduceIte, Nat.reduceEqDiff, Int.reduceToNat]
      first
      | refine OW_guardT rfl (lt_some (by decide)) rfl (fun K hK r => ?_)
        simp only [x_load, eX, ↓reduceIte, Nat.reduceEqDiff, Int.reduceToNat]
        refine Lt_loadAt1 Try.underlying22 rfl hbA ldA ?_
        try simp only [eX, ↓reduceIte, Nat.reduceEqDiff, Int.reduceToNat]
        refine hK _ _ ?_; clear hK K
      | refine OW_guardF rfl (lt_some (by decide)) rfl ?_
        simp only [eX, ↓reduceIte, Nat.reduceEqDiff, Int.reduceToNat]
      first
      | refine OW_guardT rfl (lt_some (by decide)) rfl (fun K hK r => ?_)
        simp only [x_builtin, l_len, List.map_toArray, List.map_cons, List.map_nil, i_len_slice _ _ Try.underlying22, eX, ↓reduceIte, Nat.reduceEqDiff, Int.reduceToNat]
        refine hK _ _ ?_; clear hK K
      | refine OW_guardF rfl (lt_some (by decide)) rfl ?_
        simp only [eX, ↓reduceIte, Nat.reduceEqDiff, Int.reduceToNat]
      first
      | refine OW_guardT rfl (lt_some (by decide)) rfl (fun K hK r => ?_)
        simp only [x_callF _ bd46, List.map_toArray, List.map_cons, List.map_nil, eX, ↓reduceIte, Nat.reduceEqDiff, Int.reduceToNat]
        refine (within_ok _ cs.length 1 32).mono ?_
        rintro v H' ⟨rfl, rfl⟩
        try simp only [eX, ↓reduceIte, Nat.reduceEqDiff, Int.reduceToNat]
        refine hK _ _ ?_; clear hK K
      | refine OW_guardF rfl (lt_some (by decide)) rfl ?_
        simp only [eX, ↓reduceIte, Nat.reduceEqDiff, Int.reduceToNat]
      first
      | refine OW_guardT rfl (lt_some (by decide)) rfl (fun K hK r => ?_)
        simp only [x_un, u_not, eX, ↓reduceIte, Nat.reduceEqDiff, Int.reduceToNat]
        refine hK _ _ ?_; clear hK K
      | refine OW_guardF rfl (lt_some (by decide)) rfl ?_
        simp only [eX, ↓reduceIte, Nat.reduceEqDiff, Int.reduceToNat]
      refine OW_opS (fun K hK r => ?_)
      simp only [x_pick, l_asBool, HL.ite_bool, if_true, if_false, Bool.false_eq_true, eX, ↓reduceIte, Nat.reduceEqDiff, Int.reduceToNat]
      refine hK _ _ ?_; clear hK K
      refine OW_nil ?_
      all_goals
        refine ⟨⟨rfl, ?_, trivial⟩, (by first | rfl | trivial)⟩
        show some (Value.bool _) = some (Value.bool _)
        congr 1
        first | (congr 1; rw [Bool.eq_iff_iff]; simp only [decide_eq_true_eq, Bool.not_eq_true', decide_eq_false_iff_not]; omega) | (congr 1; exact (decide_eq_true (by omega)).symm) | (congr 1; exact (decide_eq_false (by omega)).symm)
  rintro e_ H_ ⟨he, hH_⟩
  have hH_ := hH_.symm; subst hH_
  try simp only [Ex.thnH, Ex.inBlockH, ↓reduceIte, Nat.reduceEqDiff]
  refine hK3 _ _ ?_; try clear hK3 K3
  refine CW_env he.sub ?_; clear he e_
  refine CW_cond (fun r => rfl) (fun c15 => ?_) (fun c15 => ?_)
  · first
    | (exfalso; exact cnA c15; done)
    | skip
      (try simp only [decide_eq_true_eq, decide_eq_false_iff_not, Bool.not_eq_true, Bool.not_eq_false, Bool.and_eq_true, Bool.or_eq_true, Bool.or_eq_false_iff, Bool.not_eq_true, Bool.not_eq_eq_eq_not, Bool.not_true, Bool.not_false] at c15)
      refine CW_seq (fun K4 hK4 => ?_)
      refine CW_region ?_
      refine OW_opS (fun K hK r => ?_)
      simp only [x_callF _ bd47, List.map_toArray, List.map_cons, List.map_nil, eX, ↓reduceIte, Nat.reduceEqDiff, Int.reduceToNat]
      refine (fault_ok _ (-1)).mono ?_
      rintro v H16 ⟨bf, rfl, hbf, rfl⟩
      try simp only [eX, ↓reduceIte, Nat.reduceEqDiff, Int.reduceToNat]
      refine hK _ _ ?_; clear hK K
      refine OW_as rfl ?_
      refine OW_nil ?_
      try simp only [Ex.thnH, Ex.inBlockH, ↓reduceIte, Nat.reduceEqDiff]
      refine hK4 _ _ ?_; try clear hK4 K4
      refine CW_ret ?_
      try simp only [Ex.thnH, Ex.inBlockH, ↓reduceIte, Nat.reduceEqDiff]
      have hc : checkP fuel cs = -1 := by unfold checkP; rw [if_neg (by first | assumption | simp_all)]
      refine ⟨[_], ⟨rfl, trivial⟩, _, Le.refl _, some bf, rfl, (by exact le_upd_of lhA (none_of_le lhA hbf)), ⟨(fun h => by cases h), (fun h => by rw [hc] at h; cases h)⟩, fun b hb => ?_⟩
      cases hb
      exact ⟨none_of_le lhA hbf, by rw [hc]; exact upd_same _ _ _⟩
  · first
    | (exfalso; exact cnA c15; done)
    | skip
      (try simp only [decide_eq_true_eq, decide_eq_false_iff_not, Bool.not_eq_true, Bool.not_eq_false, Bool.and_eq_true, Bool.or_eq_true, Bool.or_eq_false_iff, Bool.not_eq_true, Bool.not_eq_eq_eq_not, Bool.not_true, Bool.not_false] at c15)
      have hr : 1 ≤ fuel ∧ fuel ≤ 1000 ∧ 1 ≤ cs.length ∧ cs.length ≤ 32 := by first | assumption | simp_all
      obtain ⟨bv, ov, cv, Tv, Fv, rfl, hbv, hsv, atv⟩ := hv.at (by omega)
      try have n_bv_b1 : bv ≠ b1 := ne_of_none hbv f1_H
      refine CW_skip ?_
      try simp only [Ex.thnH, Ex.inBlockH, ↓reduceIte, Nat.reduceEqDiff]
      refine hK2 _ _ ?_; try clear hK2 K2
      refine CW_seq (fun K5 hK5 => ?_)
      refine CW_seq (fun K6 hK6 => ?_)
      refine CW_region ?_
      refine OW_opS (fun K hK r => ?_)
      simp only [x_fieldAddr, fa24_1, add_mk, Nat.reduceAdd, Nat.zero_add, eX, ↓reduceIte, Nat.reduceEqDiff, Int.reduceToNat]
      refine hK _ _ ?_; clear hK K
      refine OW_opS (fun K hK r => ?_)
      simp only [x_load, eX, ↓reduceIte, Nat.reduceEqDiff, Int.reduceToNat]
      refine Lt_loadAt1 Try.underlying22 rfl hbA ldA ?_
      try simp only [eX, ↓reduceIte, Nat.reduceEqDiff, Int.reduceToNat]
      refine hK _ _ ?_; clear hK K
      refine OW_opS (fun K hK r => ?_)
      simp only [x_builtin, l_len, List.map_toArray, List.map_cons, List.map_nil, i_len_slice _ _ Try.underlying22, eX, ↓reduceIte, Nat.reduceEqDiff, Int.reduceToNat]
      refine hK _ _ ?_; clear hK K
      refine OW_mv rfl ?_
      refine OW_nil ?_
      try simp only [Ex.thnH, Ex.inBlockH, ↓reduceIte, Nat.reduceEqDiff]
      refine hK6 _ _ ?_; try clear hK6 K6
      refine CW_block ?_
      refine CW_loop (fun m e H_ => ∃ k : Nat, k ≤ cs.length ∧ m = cs.length - k ∧ badAt cs cs.length = badAt cs (cs.length - k) ∧ Env.has [(1, .pointer (some ⟨b1, 0, none⟩)), (18, .slice (some ⟨bv, ov, none⟩) cs.length kv), (19, .int .i64 cs.length), (20, .int .i64 k)] e ∧ Le H H_ ∧ H_ b1 = some (.cells #[.int .i64 fuel, .slice (some ⟨bv, ov, none⟩) cs.length kv] 24)) (cs.length) ?_ ?_
      · skip
        exact ⟨0, by omega, by omega, rfl, ⟨rfl, rfl, rfl, rfl, trivial⟩, lhA, hbA⟩
      intro m_ e_ H_ hI_
      obtain ⟨k, hk, rfl, hbad, he, hle, hk1⟩ := hI_
      have hbv_ := hle _ _ hbv
      refine CW_env he.sub ?_; clear he e_
      refine CW_seq (fun K7 hK7 => ?_)
      refine CW_region ?_
      refine OW_opS (fun K hK r => ?_)
      simp (disch := (first | omega | decide)) only [x_bin, g_int, b_lss, dec_lt_t, dec_lt_f, dec_le_t, dec_le_f, dec_eq_t, dec_eq_f, Bool.not_true, Bool.not_false, eX, ↓reduceIte, Nat.reduceEqDiff, Int.reduceToNat]
      refine hK _ _ ?_; clear hK K
      refine OW_nil ?_
      try simp only [Ex.thnH, Ex.inBlockH, ↓reduceIte, Nat.reduceEqDiff]
      refine hK7 _ _ ?_; try clear hK7 K7
      refine CW_seq (fun K8 hK8 => ?_)
      refine CW_cond (fun r => rfl) (fun c21 => ?_) (fun c21 => ?_)
      · first
        | (exfalso; exact cnA c21; done)
        | skip
          (try simp only [decide_eq_true_eq, decide_eq_false_iff_not, Bool.not_eq_true, Bool.not_eq_false, Bool.and_eq_true, Bool.or_eq_true, Bool.or_eq_false_iff, Bool.not_eq_true, Bool.not_eq_eq_eq_not, Bool.not_true, Bool.not_false] at c21)
          refine CW_skip ?_
          try simp only [Ex.thnH, Ex.inBlockH, ↓reduceIte, Nat.reduceEqDiff]
          refine hK8 _ _ ?_; try clear hK8 K8
          refine CW_seq (fun K9 hK9 => ?_)
          refine CW_block ?_
          refine CW_seq (fun K10 hK10 => ?_)
          refine CW_region ?_
          refine OW_mv rfl ?_
          refine OW_opS (fun K hK r => ?_)
          simp only [x_indexAddr, eX, ↓reduceIte, Nat.reduceEqDiff, Int.reduceToNat]
          refine Lt_indexS Try.underlying22 sz47 ixA ixA ?_
          try simp only [add_mk, Nat.mul_one, Nat.zero_add, Int.reduceToNat]
          try simp only [eX, ↓reduceIte, Nat.reduceEqDiff, Int.reduceToNat]
          refine hK _ _ ?_; clear hK K
          refine OW_opS (fun K hK r => ?_)
          simp only [x_load, eX, ↓reduceIte, Nat.reduceEqDiff, Int.reduceToNat]
          refine Lt_loadAtA Try.underlying47 rfl sz47 hbA (by simp only [Int.toNat_natCast]; omega) ?_
          simp only [Int.toNat_natCast]
          rw [ext_at Cd.len atv rfl k (by omega) hsv]
          refine hK _ _ ?_; clear hK K
          refine OW_opS (fun K hK r => ?_)
          simp only [x_alloc, zr47, orF_some, Value.cells, eX, ↓reduceIte, Nat.reduceEqDiff, Int.reduceToNat]
          intro b4 hb4
          try have n4_b1 : b1 ≠ b4 := ne_of_none hbA hb4
          have f4_H : H b4 = none := none_of_le lhA hb4
          try simp only [eX, ↓reduceIte, Nat.reduceEqDiff, Int.reduceToNat]
          refine hK _ _ ?_; clear hK K
          refine OW_as rfl ?_
          refine OW_op rfl (lt_none) (fun K hK r => ?_)
          simp only [x_store, eX, ↓reduceIte, Nat.reduceEqDiff, Int.reduceToNat]
          first | refine Lt_storeAll sz47 bdA hbA bdA plA (by decide) ?_ | refine Lt_storeAtA sz47 bdA hbA bdA plA (by decide) ?_
          try simp only [eX, ↓reduceIte, Nat.reduceEqDiff, Int.reduceToNat]
          refine hK _ _ ?_; clear hK K
          refine OW_nil ?_
          try simp only [Ex.thnH, Ex.inBlockH, ↓reduceIte, Nat.reduceEqDiff]
          refine hK10 _ _ ?_; try clear hK10 K10
          refine CW_seq (fun K11 hK11 => ?_)
          refine CW_region ?_
          refine OW_opS (fun K hK r => ?_)
          simp only [x_load, eX, ↓reduceIte, Nat.reduceEqDiff, Int.reduceToNat]
          first | refine Lt_loadAll Try.underlying47 rfl sz47 hbA bdA ?_ | refine Lt_loadAtA Try.underlying47 rfl sz47 hbA bdA ?_
          try simp only [List.extract_toArray, List.extract_eq_take_drop, Nat.zero_add, Nat.reduceAdd, Nat.reduceSub, Nat.sub_zero, List.drop_succ_cons, List.drop_zero, List.take_succ_cons, List.take_zero, List.take_nil, List.drop_nil]
          try simp only [eX, ↓reduceIte, Nat.reduceEqDiff, Int.reduceToNat]
          refine hK _ _ ?_; clear hK K
          refine OW_opS (fun K hK r => ?_)
          simp only [x_fieldAddr, fa24_1, add_mk, Nat.reduceAdd, Nat.zero_add, eX, ↓reduceIte, Nat.reduceEqDiff, Int.reduceToNat]
          refine hK _ _ ?_; clear hK K
          refine OW_opS (fun K hK r => ?_)
          simp only [x_load, eX, ↓reduceIte, Nat.reduceEqDiff, Int.reduceToNat]
          refine Lt_loadAt1 Try.underlying22 rfl hbA ldA ?_
          try simp only [eX, ↓reduceIte, Nat.reduceEqDiff, Int.reduceToNat]
          refine hK _ _ ?_; clear hK K
          refine OW_opS (fun K hK r => ?_)
          simp only [x_builtin, l_len, List.map_toArray, List.map_cons, List.map_nil, i_len_slice _ _ Try.underlying22, eX, ↓reduceIte, Nat.reduceEqDiff, Int.reduceToNat]
          refine hK _ _ ?_; clear hK K
          refine OW_opS (fun K hK r => ?_)
          simp (disch := (first | omega | decide)) only [x_bin, g_int, b_sub, wrap_i64, wrap_u64, wrap_u32, wrap_u8, eX, ↓reduceIte, Nat.reduceEqDiff, Int.reduceToNat]
          refine hK _ _ ?_; clear hK K
          refine OW_mv rfl ?_
          refine OW_opS (fun K hK r => ?_)
          simp (disch := (first | omega | decide)) only [x_bin, g_int, b_sub, wrap_i64, wrap_u64, wrap_u32, wrap_u8, eX, ↓reduceIte, Nat.reduceEqDiff, Int.reduceToNat]
          refine hK _ _ ?_; clear hK K
          refine OW_opS (fun K hK r => ?_)
          simp only [x_callF _ bd48, List.map_toArray, List.map_cons, List.map_nil, eX, ↓reduceIte, Nat.reduceEqDiff, Int.reduceToNat]
          refine (good_ok _ (cs.getD k default) ((cs.length : Int) - 1 - k)).mono ?_
          rintro v32 H32 ⟨rfl, hl32⟩
          try have kH32_b1 := hl32 b1 _ hbA
          try have kH32_b4 := hl32 b4 _ hbA
          have lH32_H : Le H H32 := Le.trans lhA hl32
          try simp only [eX, ↓reduceIte, Nat.reduceEqDiff, Int.reduceToNat]
          refine hK _ _ ?_; clear hK K
          refine OW_opS (fun K hK r => ?_)
          simp only [x_un, u_not, eX, ↓reduceIte, Nat.reduceEqDiff, Int.reduceToNat]
          refine hK _ _ ?_; clear hK K
          refine OW_nil ?_
          try simp only [Ex.thnH, Ex.inBlockH, ↓reduceIte, Nat.reduceEqDiff]
          refine hK11 _ _ ?_; try clear hK11 K11
          refine CW_cond (fun r => rfl) (fun c33 => ?_) (fun c33 => ?_)
          · first
            | (exfalso; exact cnA c33; done)
            | skip
              (try simp only [decide_eq_true_eq, decide_eq_false_iff_not, Bool.not_eq_true, Bool.not_eq_false, Bool.and_eq_true, Bool.or_eq_true, Bool.or_eq_false_iff, Bool.not_eq_true, Bool.not_eq_eq_eq_not, Bool.not_true, Bool.not_false] at c33)
              refine CW_seq (fun K12 hK12 => ?_)
              refine CW_region ?_
              refine OW_mv rfl ?_
              refine OW_opS (fun K hK r => ?_)
              simp only [x_callF _ bd47, List.map_toArray, List.map_cons, List.map_nil, eX, ↓reduceIte, Nat.reduceEqDiff, Int.reduceToNat]
              refine (fault_ok _ k).mono ?_
              rintro v H35 ⟨bf, rfl, hbf, rfl⟩
              try simp only [eX, ↓reduceIte, Nat.reduceEqDiff, Int.reduceToNat]
              refine hK _ _ ?_; clear hK K
              refine OW_as rfl ?_
              refine OW_nil ?_
              try simp only [Ex.thnH, Ex.inBlockH, ↓reduceIte, Nat.reduceEqDiff]
              refine hK12 _ _ ?_; try clear hK12 K12
              refine CW_ret ?_
              try simp only [Ex.thnH, Ex.inBlockH, ↓reduceIte, Nat.reduceEqDiff]
              have hc : checkP fuel cs = k := by
                unfold checkP; rw [if_pos hr, hbad, badAt_step (by omega), if_neg (by first | assumption | simp_all)]
              refine ⟨[_], ⟨rfl, trivial⟩, _, Le.refl _, some bf, rfl, (by exact le_upd_of lhA (none_of_le lhA hbf)), ⟨(fun h => by cases h), (fun h => by rw [hc] at h; omega)⟩, fun b hb => ?_⟩
              cases hb
              exact ⟨none_of_le lhA hbf, by rw [hc]; exact upd_same _ _ _⟩
          · first
            | (exfalso; exact cnA c33; done)
            | skip
              (try simp only [decide_eq_true_eq, decide_eq_false_iff_not, Bool.not_eq_true, Bool.not_eq_false, Bool.and_eq_true, Bool.or_eq_true, Bool.or_eq_false_iff, Bool.not_eq_true, Bool.not_eq_eq_eq_not, Bool.not_true, Bool.not_false] at c33)
              refine CW_skip ?_
              try simp only [Ex.thnH, Ex.inBlockH, ↓reduceIte, Nat.reduceEqDiff]
              refine hK9 _ _ ?_; try clear hK9 K9
              refine CW_region ?_
              refine OW_opS (fun K hK r => ?_)
              simp (disch := (first | omega | decide)) only [x_bin, g_int, b_add, wrap_i64, wrap_u64, wrap_u32, wrap_u8, eX, ↓reduceIte, Nat.reduceEqDiff, Int.reduceToNat]
              refine hK _ _ ?_; clear hK K
              refine OW_mv rfl ?_
              refine OW_nil ?_
              try simp only [Ex.thnH, Ex.inBlockH, ↓reduceIte, Nat.reduceEqDiff]
              exact ⟨cs.length - (k + 1), by omega, k + 1, by omega, rfl, by rw [hbad, badAt_step (by omega), if_pos (by first | assumption | simp_all)], ⟨rfl, rfl, rfl, rfl, trivial⟩, lhA, hbA⟩
      · first
        | (exfalso; exact cnA c21; done)
        | skip
          (try simp only [decide_eq_true_eq, decide_eq_false_iff_not, Bool.not_eq_true, Bool.not_eq_false, Bool.and_eq_true, Bool.or_eq_true, Bool.or_eq_false_iff, Bool.not_eq_true, Bool.not_eq_eq_eq_not, Bool.not_true, Bool.not_false] at c21)
          refine CW_exit ?_
          try simp only [Ex.thnH, Ex.inBlockH, ↓reduceIte, Nat.reduceEqDiff]
          refine hK5 _ _ ?_; try clear hK5 K5
          refine CW_seq (fun K13 hK13 => ?_)
          refine CW_region ?_
          refine OW_as rfl ?_
          refine OW_nil ?_
          try simp only [Ex.thnH, Ex.inBlockH, ↓reduceIte, Nat.reduceEqDiff]
          refine hK13 _ _ ?_; try clear hK13 K13
          refine CW_ret ?_
          try simp only [Ex.thnH, Ex.inBlockH, ↓reduceIte, Nat.reduceEqDiff]
          have ek : k = cs.length := by omega
          subst ek
          refine ⟨[_], ⟨rfl, trivial⟩, _, Le.refl _, none, rfl, lhA, ⟨fun _ => ?_, fun _ => rfl⟩, fun b hb => by cases hb⟩
          unfold checkP; rw [if_pos hr, hbad, Nat.sub_self]; rfl

end Go.Proofs.Ytlkopcgoaldpeaa.HL
end
section
namespace Go.Proofs.Ytlkopcgoaldpeaa.HL
open Go Go.Proofs
set_option linter.unusedSimpArgs false
set_option linter.unusedVariables false
attribute [local irreducible] Lt Lq CW OW TW CallH

set_option maxRecDepth 100000 in
set_option maxHeartbeats 1000000 in
theorem eqBytes_ok (H : Hp) (va vb : Value) (L M : List Int) (ha : Holds H 1 va L.length (u8s L)) (hb : Holds H 1 vb M.length (u8s M)) (hn : L.length ≤ 10000000) : CallH Try.prog 38 #[va, vb] H (fun v H' => v = .bool (decide (L = M)) ∧ H' = H) := by
  refine CallH_enter (l := [_, _]) (rl := [.tmp 4]) (n := 26) Try.func38 rfl rfl rfl rfl rfl ?_
  simp only [envOf, Nat.reduceAdd]
  obtain ⟨aa, ca, rfl⟩ := ha.form
  obtain ⟨ab, cb, rfl⟩ := hb.form
  refine CW_seq (fun K1 hK1 => ?_)
  refine CW_region ?_
  refine OW_as rfl ?_
  refine OW_nil ?_
  try simp only [Ex.thnH, Ex.inBlockH, ↓reduceIte, Nat.reduceEqDiff]
  refine hK1 _ _ ?_; try clear hK1 K1
  refine CW_seq (fun K2 hK2 => ?_)
  refine CW_seq (fun K3 hK3 => ?_)
  refine CW_region ?_
  refine OW_mv rfl ?_
  refine OW_opS (fun K hK r => ?_)
  simp only [x_builtin, l_len, List.map_toArray, List.map_cons, List.map_nil, i_len_slice _ _ Try.underlying33, eX, ↓reduceIte, Nat.reduceEqDiff, Int.reduceToNat]
  refine hK _ _ ?_; clear hK K
  refine OW_mv rfl ?_
  refine OW_opS (fun K hK r => ?_)
  simp only [x_builtin, l_len, List.map_toArray, List.map_cons, List.map_nil, i_len_slice _ _ Try.underlying33, eX, ↓reduceIte, Nat.reduceEqDiff, Int.reduceToNat]
  refine hK _ _ ?_; clear hK K
  refine OW_opS (fun K hK r => ?_)
  simp (disch := (first | omega | decide)) only [x_bin, g_int, b_neq, dec_lt_t, dec_lt_f, dec_le_t, dec_le_f, dec_eq_t, dec_eq_f, Bool.not_true, Bool.not_false, eX, ↓reduceIte, Nat.reduceEqDiff, Int.reduceToNat]
  refine hK _ _ ?_; clear hK K
  refine OW_nil ?_
  try simp only [Ex.thnH, Ex.inBlockH, ↓reduceIte, Nat.reduceEqDiff]
  refine hK3 _ _ ?_; try clear hK3 K3
  refine CW_cond (fun r => rfl) (fun c10 => ?_) (fun c10 => ?_)
  · first
    | (exfalso; exact cnA c10; done)
    | skip
      (try simp only [decide_eq_true_eq, decide_eq_false_iff_not, Bool.not_eq_true, Bool.not_eq_false, Bool.and_eq_true, Bool.or_eq_true, Bool.or_eq_false_iff, Bool.not_eq_true, Bool.not_eq_eq_eq_not, Bool.not_true, Bool.not_false] at c10)
      refine CW_seq (fun K4 hK4 => ?_)
      refine CW_region ?_
      refine OW_as rfl ?_
      refine OW_nil ?_
      try simp only [Ex.thnH, Ex.inBlockH, ↓reduceIte, Nat.reduceEqDiff]
      refine hK4 _ _ ?_; try clear hK4 K4
      refine CW_ret ?_
      try simp only [Ex.thnH, Ex.inBlockH, ↓reduceIte, Nat.reduceEqDiff]
      refine ⟨[_], ⟨rfl, trivial⟩, _, Le.refl _, ?_, rfl⟩
      show Value.bool _ = _
      rw [decide_eq_false (fun h => by subst h; simp at c10)]
  · first
    | (exfalso; exact cnA c10; done)
    | skip
      (try simp only [decide_eq_true_eq, decide_eq_false_iff_not, Bool.not_eq_true, Bool.not_eq_false, Bool.and_eq_true, Bool.or_eq_true, Bool.or_eq_false_iff, Bool.not_eq_true, Bool.not_eq_eq_eq_not, Bool.not_true, Bool.not_false] at c10)
      have hln : L.length = M.length := by omega
      refine CW_skip ?_
      try simp only [Ex.thnH, Ex.inBlockH, ↓reduceIte, Nat.reduceEqDiff]
      refine hK2 _ _ ?_; try clear hK2 K2
      refine CW_seq (fun K5 hK5 => ?_)
      refine CW_seq (fun K6 hK6 => ?_)
      refine CW_region ?_
      refine OW_mv rfl ?_
      refine OW_opS (fun K hK r => ?_)
      simp only [x_builtin, l_len, List.map_toArray, List.map_cons, List.map_nil, i_len_slice _ _ Try.underlying33, eX, ↓reduceIte, Nat.reduceEqDiff, Int.reduceToNat]
      refine hK _ _ ?_; clear hK K
      refine OW_mv rfl ?_
      refine OW_nil ?_
      try simp only [Ex.thnH, Ex.inBlockH, ↓reduceIte, Nat.reduceEqDiff]
      refine hK6 _ _ ?_; try clear hK6 K6
      refine CW_block ?_
      refine CW_loop (fun m e H_ => ∃ k : Nat, k ≤ L.length ∧ m = L.length - k ∧ L.take k = M.take k ∧ Env.has [(0, .slice aa L.length ca), (1, .slice ab M.length cb), (12, .int .i64 L.length), (13, .int .i64 k)] e ∧ H_ = H) (L.length) ?_ ?_
      · skip
        exact ⟨0, by omega, by omega, rfl, ⟨rfl, rfl, rfl, rfl, trivial⟩, rfl⟩
      intro m_ e_ H_ hI_
      obtain ⟨k, hk, rfl, htk, he, rfl⟩ := hI_
      refine CW_env he.sub ?_; clear he e_
      refine CW_seq (fun K7 hK7 => ?_)
      refine CW_region ?_
      refine OW_opS (fun K hK r => ?_)
      simp (disch := (first | omega | decide)) only [x_bin, g_int, b_lss, dec_lt_t, dec_lt_f, dec_le_t, dec_le_f, dec_eq_t, dec_eq_f, Bool.not_true, Bool.not_false, eX, ↓reduceIte, Nat.reduceEqDiff, Int.reduceToNat]
      refine hK _ _ ?_; clear hK K
      refine OW_nil ?_
      try simp only [Ex.thnH, Ex.inBlockH, ↓reduceIte, Nat.reduceEqDiff]
      refine hK7 _ _ ?_; try clear hK7 K7
      refine CW_seq (fun K8 hK8 => ?_)
      refine CW_cond (fun r => rfl) (fun c14 => ?_) (fun c14 => ?_)
      · first
        | (exfalso; exact cnA c14; done)
        | skip
          (try simp only [decide_eq_true_eq, decide_eq_false_iff_not, Bool.not_eq_true, Bool.not_eq_false, Bool.and_eq_true, Bool.or_eq_true, Bool.or_eq_false_iff, Bool.not_eq_true, Bool.not_eq_eq_eq_not, Bool.not_true, Bool.not_false] at c14)
          obtain ⟨ba, oa, qa, Ta, Fa, rfl, hba, hsa, ata⟩ := ha.at (by omega)
          obtain ⟨bb, ob, qb, Tb, Fb, rfl, hbb, hsb, atb⟩ := hb.at (by omega)
          refine CW_skip ?_
          try simp only [Ex.thnH, Ex.inBlockH, ↓reduceIte, Nat.reduceEqDiff]
          refine hK8 _ _ ?_; try clear hK8 K8
          refine CW_seq (fun K9 hK9 => ?_)
          refine CW_block ?_
          refine CW_seq (fun K10 hK10 => ?_)
          refine CW_region ?_
          refine OW_mv rfl ?_
          refine OW_as rfl ?_
          refine OW_nil ?_
          try simp only [Ex.thnH, Ex.inBlockH, ↓reduceIte, Nat.reduceEqDiff]
          refine hK10 _ _ ?_; try clear hK10 K10
          refine CW_seq (fun K11 hK11 => ?_)
          refine CW_drawE [0, 0, 0, 1, 0, 0, 0, 1, 0] [0, 1, 2, 3, 4, 5, 6, 7, 8] (by kernel_rfl) (by kernel_rfl) (fun R6 hR6 => ?_)
          apply TW_pure rfl (lt_some (by decide)) rfl
          · intro r
            simp only [x_move, eX, ↓reduceIte, Nat.reduceEqDiff]
            exact ⟨rfl, Le.refl _⟩
          simp only [eX, ↓reduceIte, Nat.reduceEqDiff, Int.reduceToNat]
          apply TW_pure rfl (lt_some (by decide)) rfl
          · intro r
            simp only [x_move, eX, ↓reduceIte, Nat.reduceEqDiff]
            exact ⟨rfl, Le.refl _⟩
          simp only [eX, ↓reduceIte, Nat.reduceEqDiff, Int.reduceToNat]
          apply TW_pure rfl (lt_some (by decide)) rfl
          · intro r
            simp only [x_indexAddr, eX, ↓reduceIte, Nat.reduceEqDiff]
            refine Lt_indexS Try.underlying33 sz5 ixA ixA ?_
            try simp only [add_mk, Nat.mul_one, Nat.zero_add, Int.reduceToNat]
            exact ⟨rfl, Le.refl _⟩
          simp only [eX, ↓reduceIte, Nat.reduceEqDiff, Int.reduceToNat]
          apply TW_look rfl (lt_some (by decide)) rfl
          · intro r
            simp only [x_load, eX, ↓reduceIte, Nat.reduceEqDiff]
            refine Lt_loadAt1 Try.underlying5 rfl hbA (v := .int .u8 (L.getD k 0)) (by first | exact ints_at ata rfl _ (by omega) | (simp only [Int.toNat_natCast, Nat.mul_one]; exact ints_at ata rfl _ (by omega))) ?_
            exact ⟨rfl, Le.refl _⟩
          simp only [eX, ↓reduceIte, Nat.reduceEqDiff, Int.reduceToNat]
          apply TW_pure rfl (lt_some (by decide)) rfl
          · intro r
            simp only [x_move, eX, ↓reduceIte, Nat.reduceEqDiff]
            exact ⟨rfl, Le.refl _⟩
          simp only [eX, ↓reduceIte, Nat.reduceEqDiff, Int.reduceToNat]
          apply TW_pure rfl (lt_some (by decide)) rfl
          · intro r
            simp only [x_move, eX, ↓reduceIte, Nat.reduceEqDiff]
            exact ⟨rfl, Le.refl _⟩
          simp only [eX, ↓reduceIte, Nat.reduceEqDiff, Int.reduceToNat]
          apply TW_pure rfl (lt_some (by decide)) rfl
          · intro r
            simp only [x_indexAddr, eX, ↓reduceIte, Nat.reduceEqDiff]
            refine Lt_indexS Try.underlying33 sz5 ixA ixA ?_
            try simp only [add_mk, Nat.mul_one, Nat.zero_add, Int.reduceToNat]
            exact ⟨rfl, Le.refl _⟩
          simp only [eX, ↓reduceIte, Nat.reduceEqDiff, Int.reduceToNat]
          apply TW_look rfl (lt_some (by decide)) rfl
          · intro r
            simp only [x_load, eX, ↓reduceIte, Nat.reduceEqDiff]
            refine Lt_loadAt1 Try.underlying5 rfl hbA (v := .int .u8 (M.getD k 0)) (by first | exact ints_at atb rfl _ (by omega) | (simp only [Int.toNat_natCast, Nat.mul_one]; exact ints_at atb rfl _ (by omega))) ?_
            exact ⟨rfl, Le.refl _⟩
          simp only [eX, ↓reduceIte, Nat.reduceEqDiff, Int.reduceToNat]
          apply TW_pure rfl (lt_some (by decide)) rfl
          · intro r
            simp (disch := (first | omega | decide)) only [x_bin, g_int, b_neq, dec_lt_t, dec_lt_f, dec_le_t, dec_le_f, dec_eq_t, dec_eq_f, Bool.not_true, Bool.not_false, eX, ↓reduceIte, Nat.reduceEqDiff]
            exact ⟨rfl, Le.refl _⟩
          simp only [eX, ↓reduceIte, Nat.reduceEqDiff, Int.reduceToNat]
          refine TW_nil ?_
          try simp only [Ex.thnH, Ex.inBlockH, ↓reduceIte, Nat.reduceEqDiff]
          refine hK11 _ _ ?_; try clear hK11 K11
          refine CW_cond (fun r => rfl) (fun c24 => ?_) (fun c24 => ?_)
          · first
            | (exfalso; exact cnA c24; done)
            | skip
              (try simp only [decide_eq_true_eq, decide_eq_false_iff_not, Bool.not_eq_true, Bool.not_eq_false, Bool.and_eq_true, Bool.or_eq_true, Bool.or_eq_false_iff, Bool.not_eq_true, Bool.not_eq_eq_eq_not, Bool.not_true, Bool.not_false] at c24)
              refine CW_seq (fun K12 hK12 => ?_)
              refine CW_region ?_
              refine OW_as rfl ?_
              refine OW_nil ?_
              try simp only [Ex.thnH, Ex.inBlockH, ↓reduceIte, Nat.reduceEqDiff]
              refine hK12 _ _ ?_; try clear hK12 K12
              refine CW_ret ?_
              try simp only [Ex.thnH, Ex.inBlockH, ↓reduceIte, Nat.reduceEqDiff]
              refine ⟨[_], ⟨rfl, trivial⟩, _, Le.refl _, ?_, rfl⟩
              show Value.bool _ = _
              rw [decide_eq_false (fun h => by subst h; simp at c24)]
          · first
            | (exfalso; exact cnA c24; done)
            | skip
              (try simp only [decide_eq_true_eq, decide_eq_false_iff_not, Bool.not_eq_true, Bool.not_eq_false, Bool.and_eq_true, Bool.or_eq_true, Bool.or_eq_false_iff, Bool.not_eq_true, Bool.not_eq_eq_eq_not, Bool.not_true, Bool.not_false] at c24)
              refine CW_skip ?_
              try simp only [Ex.thnH, Ex.inBlockH, ↓reduceIte, Nat.reduceEqDiff]
              refine hK9 _ _ ?_; try clear hK9 K9
              refine CW_region ?_
              refine OW_opS (fun K hK r => ?_)
              simp (disch := (first | omega | decide)) only [x_bin, g_int, b_add, wrap_i64, wrap_u64, wrap_u32, wrap_u8, eX, ↓reduceIte, Nat.reduceEqDiff, Int.reduceToNat]
              refine hK _ _ ?_; clear hK K
              refine OW_mv rfl ?_
              refine OW_nil ?_
              try simp only [Ex.thnH, Ex.inBlockH, ↓reduceIte, Nat.reduceEqDiff]
              refine ⟨L.length - (k + 1), by omega, k + 1, by omega, rfl, ?_, ⟨rfl, rfl, rfl, rfl, trivial⟩, rfA⟩
              refine take_eq_step htk (by omega) (by omega) ?_
              simpa using c24
      · first
        | (exfalso; exact cnA c14; done)
        | skip
          (try simp only [decide_eq_true_eq, decide_eq_false_iff_not, Bool.not_eq_true, Bool.not_eq_false, Bool.and_eq_true, Bool.or_eq_true, Bool.or_eq_false_iff, Bool.not_eq_true, Bool.not_eq_eq_eq_not, Bool.not_true, Bool.not_false] at c14)
          refine CW_exit ?_
          try simp only [Ex.thnH, Ex.inBlockH, ↓reduceIte, Nat.reduceEqDiff]
          refine hK5 _ _ ?_; try clear hK5 K5
          refine CW_seq (fun K13 hK13 => ?_)
          refine CW_region ?_
          refine OW_as rfl ?_
          refine OW_nil ?_
          try simp only [Ex.thnH, Ex.inBlockH, ↓reduceIte, Nat.reduceEqDiff]
          refine hK13 _ _ ?_; try clear hK13 K13
          refine CW_ret ?_
          try simp only [Ex.thnH, Ex.inBlockH, ↓reduceIte, Nat.reduceEqDiff]
          refine ⟨[_], ⟨rfl, trivial⟩, _, Le.refl _, ?_, rfl⟩
          show Value.bool _ = _
          have ek : k = L.length := by omega
          subst ek
          rw [List.take_length, hln, List.take_length] at htk
          rw [decide_eq_true htk]

end Go.Proofs.Ytlkopcgoaldpeaa.HL
end
section
namespace Go.Proofs.Ytlkopcgoaldpeaa.HL
open Go Go.Proofs
set_option linter.unusedSimpArgs false
set_option linter.unusedVariables false
attribute [local irreducible] Lt Lq CW OW TW CallH

set_option maxRecDepth 100000 in
set_option maxHeartbeats 4000000 in
theorem programs_ok (H : Hp) (f1 f2 : Int) (va vb : Value) (L M : List Cd) (ha : Holds H 6 va L.length (cds L)) (hb : Holds H 6 vb M.length (cds M)) (hn : L.length ≤ 1000000) : CallH Try.prog 12 #[.agg #[.int .i64 f1, va], .agg #[.int .i64 f2, vb]] H (fun v H' => v = .bool (decide (f1 = f2 ∧ L = M)) ∧ Le H H') := by
  refine CallH_enter (l := [_, _]) (rl := [.tmp 4]) (n := 38) Try.func12 rfl rfl rfl rfl rfl ?_
  simp only [envOf, Nat.reduceAdd]
  obtain ⟨aa, ca, rfl⟩ := ha.form
  obtain ⟨ab, cb, rfl⟩ := hb.form
  refine CW_seq (fun K1 hK1 => ?_)
  refine CW_region ?_
  refine OW_opS (fun K hK r => ?_)
  simp only [x_box, Value.cells, eX, ↓reduceIte, Nat.reduceEqDiff, Int.reduceToNat]
  intro b2 hb2
  have f2_H : H b2 = none := none_of_le lhA hb2
  try simp only [eX, ↓reduceIte, Nat.reduceEqDiff, Int.reduceToNat]
  refine hK _ _ ?_; clear hK K
  refine OW_opS (fun K hK r => ?_)
  simp only [x_box, Value.cells, eX, ↓reduceIte, Nat.reduceEqDiff, Int.reduceToNat]
  intro b3 hb3
  try have n3_b2 : b2 ≠ b3 := ne_of_none hbA hb3
  have f3_H : H b3 = none := none_of_le lhA hb3
  try simp only [eX, ↓reduceIte, Nat.reduceEqDiff, Int.reduceToNat]
  refine hK _ _ ?_; clear hK K
  refine OW_as rfl ?_
  refine OW_nil ?_
  try simp only [Ex.thnH, Ex.inBlockH, ↓reduceIte, Nat.reduceEqDiff]
  refine hK1 _ _ ?_; try clear hK1 K1
  refine CW_seq (fun K2 hK2 => ?_)
  refine CW_seq (fun K3 hK3 => ?_)
  refine CW_region_cut (fun e H_ => Env.has [(2, .pointer (some ⟨b2, 0, none⟩)), (3, .pointer (some ⟨b3, 0, none⟩)), (19, .bool (decide (¬ (f1 = f2 ∧ L.length = M.length))))] e ∧ H_ = (H.upd b2 (.cells #[.int .i64 f1, .slice aa L.length ca] 24)).upd b3 (.cells #[.int .i64 f2, .slice ab M.length cb] 24)) ?_ ?_
  · skip
    refine OW_opS (fun K hK r => ?_)
    simp only [x_fieldAddr, fa24_0, add_mk, Nat.reduceAdd, Nat.zero_add, eX, ↓reduceIte, Nat.reduceEqDiff, Int.reduceToNat]
    refine hK _ _ ?_; clear hK K
    refine OW_opS (fun K hK r => ?_)
    simp only [x_load, eX, ↓reduceIte, Nat.reduceEqDiff, Int.reduceToNat]
    refine Lt_loadAt1 Try.underlying3 rfl hbA ldA ?_
    try simp only [eX, ↓reduceIte, Nat.reduceEqDiff, Int.reduceToNat]
    refine hK _ _ ?_; clear hK K
    refine OW_opS (fun K hK r => ?_)
    simp only [x_fieldAddr, fa24_0, add_mk, Nat.reduceAdd, Nat.zero_add, eX, ↓reduceIte, Nat.reduceEqDiff, Int.reduceToNat]
    refine hK _ _ ?_; clear hK K
    refine OW_opS (fun K hK r => ?_)
    simp only [x_load, eX, ↓reduceIte, Nat.reduceEqDiff, Int.reduceToNat]
    refine Lt_loadAt1 Try.underlying3 rfl hbA ldA ?_
    try simp only [eX, ↓reduceIte, Nat.reduceEqDiff, Int.reduceToNat]
    refine hK _ _ ?_; clear hK K
    refine OW_opS (fun K hK r => ?_)
    simp (disch := (first | omega | decide)) only [x_bin, g_int, b_neq, dec_lt_t, dec_lt_f, dec_le_t, dec_le_f, dec_eq_t, dec_eq_f, Bool.not_true, Bool.not_false, eX, ↓reduceIte, Nat.reduceEqDiff, Int.reduceToNat]
    refine hK _ _ ?_; clear hK K
    refine OW_mv rfl ?_
    (first | refine OW_split (d := 11) rfl (fun g11 => ?_) (fun g11 => ?_) | skip)
    all_goals try (exfalso; exact cnA g11)
    all_goals (try simp only [decide_eq_true_eq, decide_eq_false_iff_not, Bool.not_eq_true, Bool.not_eq_false, Bool.and_eq_true, Bool.or_eq_true, Bool.or_eq_false_iff, Bool.not_eq_true, Bool.not_eq_eq_eq_not, Bool.not_true, Bool.not_false] at g11)
    all_goals
      try simp only [eX, ↓reduceIte, Nat.reduceEqDiff, Int.reduceToNat]
      first
      | refine OW_guardT rfl (lt_some (by decide)) rfl (fun K hK r => ?_)
        simp only [x_fieldAddr, fa24_1, add_mk, Nat.reduceAdd, Nat.zero_add, eX, ↓reduceIte, Nat.reduceEqDiff, Int.reduceToNat]
        refine hK _ _ ?_; clear hK K
      | refine OW_guardF rfl (lt_some (by decide)) rfl ?_
        simp only [eX, ↓reduceIte, Nat.reduceEqDiff, Int.reduceToNat]
      first
      | refine OW_guardT rfl (lt_some (by decide)) rfl (fun K hK r => ?_)
        simp only [x_load, eX, ↓reduceIte, Nat.reduceEqDiff, Int.reduceToNat]
        refine Lt_loadAt1 Try.underlying22 rfl hbA ldA ?_
        try simp only [eX, ↓reduceIte, Nat.reduceEqDiff, Int.reduceToNat]
        refine hK _ _ ?_; clear hK K
      | refine OW_guardF rfl (lt_some (by decide)) rfl ?_
        simp only [eX, ↓reduceIte, Nat.reduceEqDiff, Int.reduceToNat]
      first
      | refine OW_guardT rfl (lt_some (by decide)) rfl (fun K hK r => ?_)
        simp only [x_builtin, l_len, List.map_toArray, List.map_cons, List.map_nil, i_len_slice _ _ Try.underlying22, eX, ↓reduceIte, Nat.reduceEqDiff, Int.reduceToNat]
        refine hK _ _ ?_; clear hK K
      | refine OW_guardF rfl (lt_some (by decide)) rfl ?_
        simp only [eX, ↓reduceIte, Nat.reduceEqDiff, Int.reduceToNat]
      first
      | refine OW_guardT rfl (lt_some (by decide)) rfl (fun K hK r => ?_)
        simp only [x_fieldAddr, fa24_1, add_mk, Nat.reduceAdd, Nat.zero_add, eX, ↓reduceIte, Nat.reduceEqDiff, Int.reduceToNat]
        refine hK _ _ ?_; clear hK K
      | refine OW_guardF rfl (lt_some (by decide)) rfl ?_
        simp only [eX, ↓reduceIte, Nat.reduceEqDiff, Int.reduceToNat]
      first
      | refine OW_guardT rfl (lt_some (by decide)) rfl (fun K hK r => ?_)
        simp only [x_load, eX, ↓reduceIte, Nat.reduceEqDiff, Int.reduceToNat]
        refine Lt_loadAt1 Try.underlying22 rfl hbA ldA ?_
        try simp only [eX, ↓reduceIte, Nat.reduceEqDiff, Int.reduceToNat]
        refine hK _ _ ?_; clear hK K
      | refine OW_guardF rfl (lt_some (by decide)) rfl ?_
        simp only [eX, ↓reduceIte, Nat.reduceEqDiff, Int.reduceToNat]
      first
      | refine OW_guardT rfl (lt_some (by decide)) rfl (fun K hK r => ?_)
        simp only [x_builtin, l_len, List.map_toArray, List.map_cons, List.map_nil, i_len_slice _ _ Try.underlying22, eX, ↓reduceIte, Nat.reduceEqDiff, Int.reduceToNat]
        refine hK _ _ ?_; clear hK K
      | refine OW_guardF rfl (lt_some (by decide)) rfl ?_
        simp only [eX, ↓reduceIte, Nat.reduceEqDiff, Int.reduceToNat]
      first
      | refine OW_guardT rfl (lt_some (by decide)) rfl (fun K hK r => ?_)
        simp (disch := (first | omega | decide)) only [x_bin, g_int, b_neq, dec_lt_t, dec_lt_f, dec_le_t, dec_le_f, dec_eq_t, dec_eq_f, Bool.not_true, Bool.not_false, eX, ↓reduceIte, Nat.reduceEqDiff, Int.reduceToNat]
        refine hK _ _ ?_; clear hK K
      | refine OW_guardF rfl (lt_some (by decide)) rfl ?_
        simp only [eX, ↓reduceIte, Nat.reduceEqDiff, Int.reduceToNat]
      refine OW_opS (fun K hK r => ?_)
      simp only [x_pick, l_asBool, HL.ite_bool, if_true, if_false, Bool.false_eq_true, eX, ↓reduceIte, Nat.reduceEqDiff, Int.reduceToNat]
      refine hK _ _ ?_; clear hK K
      refine OW_nil ?_
      all_goals
        refine ⟨⟨rfl, rfl, ?_, trivial⟩, (by first | rfl | trivial)⟩
        show some (Value.bool _) = some (Value.bool _)
        congr 1
        first | (congr 1; rw [Bool.eq_iff_iff]; simp only [decide_eq_true_eq, Bool.not_eq_true', decide_eq_false_iff_not]; omega) | (congr 1; exact (decide_eq_true (by omega)).symm) | (congr 1; exact (decide_eq_false (by omega)).symm)
  rintro e_ H_ ⟨he, hH_⟩
  have hH_ := hH_.symm; subst hH_
  try simp only [Ex.thnH, Ex.inBlockH, ↓reduceIte, Nat.reduceEqDiff]
  refine hK3 _ _ ?_; try clear hK3 K3
  refine CW_env he.sub ?_; clear he e_
  refine CW_cond (fun r => rfl) (fun c19 => ?_) (fun c19 => ?_)
  · first
    | (exfalso; exact cnA c19; done)
    | skip
      (try simp only [decide_eq_true_eq, decide_eq_false_iff_not, Bool.not_eq_true, Bool.not_eq_false, Bool.and_eq_true, Bool.or_eq_true, Bool.or_eq_false_iff, Bool.not_eq_true, Bool.not_eq_eq_eq_not, Bool.not_true, Bool.not_false] at c19)
      refine CW_seq (fun K4 hK4 => ?_)
      refine CW_region ?_
      refine OW_as rfl ?_
      refine OW_nil ?_
      try simp only [Ex.thnH, Ex.inBlockH, ↓reduceIte, Nat.reduceEqDiff]
      refine hK4 _ _ ?_; try clear hK4 K4
      refine CW_ret ?_
      try simp only [Ex.thnH, Ex.inBlockH, ↓reduceIte, Nat.reduceEqDiff]
      refine ⟨[_], ⟨rfl, trivial⟩, _, Le.refl _, ?_, lhA⟩
      show Value.bool _ = _
      rw [decide_eq_false (fun h => by obtain ⟨h1, rfl⟩ := h; simp_all)]
  · first
    | (exfalso; exact cnA c19; done)
    | skip
      (try simp only [decide_eq_true_eq, decide_eq_false_iff_not, Bool.not_eq_true, Bool.not_eq_false, Bool.and_eq_true, Bool.or_eq_true, Bool.or_eq_false_iff, Bool.not_eq_true, Bool.not_eq_eq_eq_not, Bool.not_true, Bool.not_false] at c19)
      have hln : f1 = f2 ∧ L.length = M.length := by first | assumption | (simp_all; done) | omega
      refine CW_skip ?_
      try simp only [Ex.thnH, Ex.inBlockH, ↓reduceIte, Nat.reduceEqDiff]
      refine hK2 _ _ ?_; try clear hK2 K2
      refine CW_seq (fun K5 hK5 => ?_)
      refine CW_seq (fun K6 hK6 => ?_)
      refine CW_region ?_
      refine OW_opS (fun K hK r => ?_)
      simp only [x_fieldAddr, fa24_1, add_mk, Nat.reduceAdd, Nat.zero_add, eX, ↓reduceIte, Nat.reduceEqDiff, Int.reduceToNat]
      refine hK _ _ ?_; clear hK K
      refine OW_opS (fun K hK r => ?_)
      simp only [x_load, eX, ↓reduceIte, Nat.reduceEqDiff, Int.reduceToNat]
      refine Lt_loadAt1 Try.underlying22 rfl hbA ldA ?_
      try simp only [eX, ↓reduceIte, Nat.reduceEqDiff, Int.reduceToNat]
      refine hK _ _ ?_; clear hK K
      refine OW_opS (fun K hK r => ?_)
      simp only [x_builtin, l_len, List.map_toArray, List.map_cons, List.map_nil, i_len_slice _ _ Try.underlying22, eX, ↓reduceIte, Nat.reduceEqDiff, Int.reduceToNat]
      refine hK _ _ ?_; clear hK K
      refine OW_mv rfl ?_
      refine OW_nil ?_
      try simp only [Ex.thnH, Ex.inBlockH, ↓reduceIte, Nat.reduceEqDiff]
      refine hK6 _ _ ?_; try clear hK6 K6
      refine CW_block ?_
      refine CW_loop (fun m e H_ => ∃ k : Nat, k ≤ L.length ∧ m = L.length - k ∧ L.take k = M.take k ∧ Env.has [(2, .pointer (some ⟨b2, 0, none⟩)), (3, .pointer (some ⟨b3, 0, none⟩)), (22, .int .i64 L.length), (23, .int .i64 k)] e ∧ H_ = (H.upd b2 (.cells #[.int .i64 f1, .slice aa L.length ca] 24)).upd b3 (.cells #[.int .i64 f2, .slice ab M.length cb] 24)) (L.length) ?_ ?_
      · skip
        exact ⟨0, by omega, by omega, rfl, ⟨rfl, rfl, rfl, rfl, trivial⟩, rfl⟩
      intro m_ e_ H_ hI_
      obtain ⟨k, hk, rfl, htk, he, hH_⟩ := hI_
      subst hH_
      refine CW_env he.sub ?_; clear he e_
      refine CW_seq (fun K7 hK7 => ?_)
      refine CW_region ?_
      refine OW_opS (fun K hK r => ?_)
      simp (disch := (first | omega | decide)) only [x_bin, g_int, b_lss, dec_lt_t, dec_lt_f, dec_le_t, dec_le_f, dec_eq_t, dec_eq_f, Bool.not_true, Bool.not_false, eX, ↓reduceIte, Nat.reduceEqDiff, Int.reduceToNat]
      refine hK _ _ ?_; clear hK K
      refine OW_nil ?_
      try simp only [Ex.thnH, Ex.inBlockH, ↓reduceIte, Nat.reduceEqDiff]
      refine hK7 _ _ ?_; try clear hK7 K7
      refine CW_seq (fun K8 hK8 => ?_)
      refine CW_cond (fun r => rfl) (fun c24 => ?_) (fun c24 => ?_)
      · first
        | (exfalso; exact cnA c24; done)
        | skip
          (try simp only [decide_eq_true_eq, decide_eq_false_iff_not, Bool.not_eq_true, Bool.not_eq_false, Bool.and_eq_true, Bool.or_eq_true, Bool.or_eq_false_iff, Bool.not_eq_true, Bool.not_eq_eq_eq_not, Bool.not_true, Bool.not_false] at c24)
          obtain ⟨ba, oa, qa, Ta, Fa, rfl, hba, hsa, ata⟩ := ha.at (by omega)
          try have n_ba_b2 : ba ≠ b2 := ne_of_none hba f2_H
          try have n_ba_b3 : ba ≠ b3 := ne_of_none hba f3_H
          obtain ⟨bb, ob, qb, Tb, Fb, rfl, hbb, hsb, atb⟩ := hb.at (by omega)
          try have n_bb_b2 : bb ≠ b2 := ne_of_none hbb f2_H
          try have n_bb_b3 : bb ≠ b3 := ne_of_none hbb f3_H
          refine CW_skip ?_
          try simp only [Ex.thnH, Ex.inBlockH, ↓reduceIte, Nat.reduceEqDiff]
          refine hK8 _ _ ?_; try clear hK8 K8
          refine CW_seq (fun K9 hK9 => ?_)
          refine CW_block ?_
          refine CW_seq (fun K10 hK10 => ?_)
          refine CW_region ?_
          refine OW_mv rfl ?_
          refine OW_as rfl ?_
          refine OW_nil ?_
          try simp only [Ex.thnH, Ex.inBlockH, ↓reduceIte, Nat.reduceEqDiff]
          refine hK10 _ _ ?_; try clear hK10 K10
          refine CW_seq (fun K11 hK11 => ?_)
          refine CW_drawE [0, 1, 0, 0, 1, 0, 1, 0, 0, 1, 0] [0, 1, 2, 3, 4, 5, 6, 7, 8, 9, 10] (by kernel_rfl) (by kernel_rfl) (fun R6 hR6 => ?_)
          apply TW_pure rfl (lt_some (by decide)) rfl
          · intro r
            simp only [x_fieldAddr, fa24_1, add_mk, Nat.reduceAdd, Nat.zero_add, eX, ↓reduceIte, Nat.reduceEqDiff]
            exact ⟨rfl, Le.refl _⟩
          simp only [eX, ↓reduceIte, Nat.reduceEqDiff, Int.reduceToNat]
          apply TW_look rfl (lt_some (by decide)) rfl
          · intro r
            simp only [x_load, eX, ↓reduceIte, Nat.reduceEqDiff]
            refine Lt_loadAt1 Try.underlying22 rfl hbA ldA ?_
            exact ⟨rfl, Le.refl _⟩
          simp only [eX, ↓reduceIte, Nat.reduceEqDiff, Int.reduceToNat]
          apply TW_pure rfl (lt_some (by decide)) rfl
          · intro r
            simp only [x_move, eX, ↓reduceIte, Nat.reduceEqDiff]
            exact ⟨rfl, Le.refl _⟩
          simp only [eX, ↓reduceIte, Nat.reduceEqDiff, Int.reduceToNat]
          apply TW_pure rfl (lt_some (by decide)) rfl
          · intro r
            simp only [x_indexAddr, eX, ↓reduceIte, Nat.reduceEqDiff]
            refine Lt_indexS Try.underlying22 sz47 ixA ixA ?_
            try simp only [add_mk, Nat.mul_one, Nat.zero_add, Int.reduceToNat]
            exact ⟨rfl, Le.refl _⟩
          simp only [eX, ↓reduceIte, Nat.reduceEqDiff, Int.reduceToNat]
          apply TW_look rfl (lt_some (by decide)) rfl
          · intro r
            simp only [x_load, eX, ↓reduceIte, Nat.reduceEqDiff]
            refine Lt_loadAtA Try.underlying47 rfl sz47 hbA (by simp only [Int.toNat_natCast]; omega) ?_
            simp only [Int.toNat_natCast]
            rw [ext_at Cd.len ata rfl k (by omega) hsa]
            exact ⟨rfl, Le.refl _⟩
          simp only [eX, ↓reduceIte, Nat.reduceEqDiff, Int.reduceToNat]
          apply TW_pure rfl (lt_some (by decide)) rfl
          · intro r
            simp only [x_fieldAddr, fa24_1, add_mk, Nat.reduceAdd, Nat.zero_add, eX, ↓reduceIte, Nat.reduceEqDiff]
            exact ⟨rfl, Le.refl _⟩
          simp only [eX, ↓reduceIte, Nat.reduceEqDiff, Int.reduceToNat]
          apply TW_look rfl (lt_some (by decide)) rfl
          · intro r
            simp only [x_load, eX, ↓reduceIte, Nat.reduceEqDiff]
            refine Lt_loadAt1 Try.underlying22 rfl hbA ldA ?_
            exact ⟨rfl, Le.refl _⟩
          simp only [eX, ↓reduceIte, Nat.reduceEqDiff, Int.reduceToNat]
          apply TW_pure rfl (lt_some (by decide)) rfl
          · intro r
            simp only [x_move, eX, ↓reduceIte, Nat.reduceEqDiff]
            exact ⟨rfl, Le.refl _⟩
          simp only [eX, ↓reduceIte, Nat.reduceEqDiff, Int.reduceToNat]
          apply TW_pure rfl (lt_some (by decide)) rfl
          · intro r
            simp only [x_indexAddr, eX, ↓reduceIte, Nat.reduceEqDiff]
            refine Lt_indexS Try.underlying22 sz47 ixA ixA ?_
            try simp only [add_mk, Nat.mul_one, Nat.zero_add, Int.reduceToNat]
            exact ⟨rfl, Le.refl _⟩
          simp only [eX, ↓reduceIte, Nat.reduceEqDiff, Int.reduceToNat]
          apply TW_look rfl (lt_some (by decide)) rfl
          · intro r
            simp only [x_load, eX, ↓reduceIte, Nat.reduceEqDiff]
            refine Lt_loadAtA Try.underlying47 rfl sz47 hbA (by simp only [Int.toNat_natCast]; omega) ?_
            simp only [Int.toNat_natCast]
            rw [ext_at Cd.len atb rfl k (by omega) hsb]
            exact ⟨rfl, Le.refl _⟩
          simp only [eX, ↓reduceIte, Nat.reduceEqDiff, Int.reduceToNat]
          apply TW_pure rfl (lt_some (by decide)) rfl
          · intro r
            simp only [x_bin, g_agg _ _ _ _ _ _ eqg47, eX, ↓reduceIte, Nat.reduceEqDiff]
            rw [e_neq _ _ _ _ (by simp)]
            rw [q_equal, qfl47 _ _ (Cd.fit _) (Cd.fit _), Cd.eqV]
            exact ⟨rfl, Le.refl _⟩
          simp only [eX, ↓reduceIte, Nat.reduceEqDiff, Int.reduceToNat]
          refine TW_nil ?_
          try simp only [Ex.thnH, Ex.inBlockH, ↓reduceIte, Nat.reduceEqDiff]
          refine hK11 _ _ ?_; try clear hK11 K11
          refine CW_cond (fun r => rfl) (fun c36 => ?_) (fun c36 => ?_)
          · first
            | (exfalso; exact cnA c36; done)
            | skip
              (try simp only [decide_eq_true_eq, decide_eq_false_iff_not, Bool.not_eq_true, Bool.not_eq_false, Bool.and_eq_true, Bool.or_eq_true, Bool.or_eq_false_iff, Bool.not_eq_true, Bool.not_eq_eq_eq_not, Bool.not_true, Bool.not_false] at c36)
              refine CW_seq (fun K12 hK12 => ?_)
              refine CW_region ?_
              refine OW_as rfl ?_
              refine OW_nil ?_
              try simp only [Ex.thnH, Ex.inBlockH, ↓reduceIte, Nat.reduceEqDiff]
              refine hK12 _ _ ?_; try clear hK12 K12
              refine CW_ret ?_
              try simp only [Ex.thnH, Ex.inBlockH, ↓reduceIte, Nat.reduceEqDiff]
              refine ⟨[_], ⟨rfl, trivial⟩, _, Le.refl _, ?_, lhA⟩
              show Value.bool _ = _
              rw [decide_eq_false (fun h => by obtain ⟨h1, rfl⟩ := h; simp at c36)]
          · first
            | (exfalso; exact cnA c36; done)
            | skip
              (try simp only [decide_eq_true_eq, decide_eq_false_iff_not, Bool.not_eq_true, Bool.not_eq_false, Bool.and_eq_true, Bool.or_eq_true, Bool.or_eq_false_iff, Bool.not_eq_true, Bool.not_eq_eq_eq_not, Bool.not_true, Bool.not_false] at c36)
              refine CW_skip ?_
              try simp only [Ex.thnH, Ex.inBlockH, ↓reduceIte, Nat.reduceEqDiff]
              refine hK9 _ _ ?_; try clear hK9 K9
              refine CW_region ?_
              refine OW_opS (fun K hK r => ?_)
              simp (disch := (first | omega | decide)) only [x_bin, g_int, b_add, wrap_i64, wrap_u64, wrap_u32, wrap_u8, eX, ↓reduceIte, Nat.reduceEqDiff, Int.reduceToNat]
              refine hK _ _ ?_; clear hK K
              refine OW_mv rfl ?_
              refine OW_nil ?_
              try simp only [Ex.thnH, Ex.inBlockH, ↓reduceIte, Nat.reduceEqDiff]
              refine ⟨L.length - (k + 1), by omega, k + 1, by omega, rfl, ?_, ⟨rfl, rfl, rfl, rfl, trivial⟩, rfA⟩
              refine take_eq_step htk (by omega) (by omega) ?_
              simpa using c36
      · first
        | (exfalso; exact cnA c24; done)
        | skip
          (try simp only [decide_eq_true_eq, decide_eq_false_iff_not, Bool.not_eq_true, Bool.not_eq_false, Bool.and_eq_true, Bool.or_eq_true, Bool.or_eq_false_iff, Bool.not_eq_true, Bool.not_eq_eq_eq_not, Bool.not_true, Bool.not_false] at c24)
          refine CW_exit ?_
          try simp only [Ex.thnH, Ex.inBlockH, ↓reduceIte, Nat.reduceEqDiff]
          refine hK5 _ _ ?_; try clear hK5 K5
          refine CW_seq (fun K13 hK13 => ?_)
          refine CW_region ?_
          refine OW_as rfl ?_
          refine OW_nil ?_
          try simp only [Ex.thnH, Ex.inBlockH, ↓reduceIte, Nat.reduceEqDiff]
          refine hK13 _ _ ?_; try clear hK13 K13
          refine CW_ret ?_
          try simp only [Ex.thnH, Ex.inBlockH, ↓reduceIte, Nat.reduceEqDiff]
          refine ⟨[_], ⟨rfl, trivial⟩, _, Le.refl _, ?_, lhA⟩
          show Value.bool _ = _
          have ek : k = L.length := by omega
          subst ek
          rw [List.take_length, hln.2, List.take_length] at htk
          rw [decide_eq_true ⟨hln.1, htk⟩]

set_option maxRecDepth 100000 in
set_option maxHeartbeats 1000000 in
theorem large_ok (H : Hp) (f : Int) (a : Option Addr) (n cap : Nat) : CallH Try.prog 8 #[.agg #[.int .i64 f, .slice a n cap]] H (fun v H' => v = .bool (decide ((n : Int) > 100)) ∧ Le H H') := by
  refine CallH_enter (l := [_]) (rl := [.tmp 2]) (n := 7) Try.func8 rfl rfl rfl rfl rfl ?_
  simp only [envOf, Nat.reduceAdd]
  refine CW_seq (fun K1 hK1 => ?_)
  refine CW_region ?_
  refine OW_opS (fun K hK r => ?_)
  simp only [x_box, Value.cells, eX, ↓reduceIte, Nat.reduceEqDiff, Int.reduceToNat]
  intro b1 hb1
  have f1_H : H b1 = none := none_of_le lhA hb1
  try simp only [eX, ↓reduceIte, Nat.reduceEqDiff, Int.reduceToNat]
  refine hK _ _ ?_; clear hK K
  refine OW_as rfl ?_
  refine OW_nil ?_
  try simp only [Ex.thnH, Ex.inBlockH, ↓reduceIte, Nat.reduceEqDiff]
  refine hK1 _ _ ?_; try clear hK1 K1
  refine CW_seq (fun K2 hK2 => ?_)
  refine CW_region ?_
  refine OW_opS (fun K hK r => ?_)
  simp only [x_fieldAddr, fa24_1, add_mk, Nat.reduceAdd, Nat.zero_add, eX, ↓reduceIte, Nat.reduceEqDiff, Int.reduceToNat]
  refine hK _ _ ?_; clear hK K
  refine OW_opS (fun K hK r => ?_)
  simp only [x_load, eX, ↓reduceIte, Nat.reduceEqDiff, Int.reduceToNat]
  refine Lt_loadAt1 Try.underlying22 rfl hbA ldA ?_
  try simp only [eX, ↓reduceIte, Nat.reduceEqDiff, Int.reduceToNat]
  refine hK _ _ ?_; clear hK K
  refine OW_opS (fun K hK r => ?_)
  simp only [x_builtin, l_len, List.map_toArray, List.map_cons, List.map_nil, i_len_slice _ _ Try.underlying22, eX, ↓reduceIte, Nat.reduceEqDiff, Int.reduceToNat]
  refine hK _ _ ?_; clear hK K
  refine OW_opS (fun K hK r => ?_)
  simp (disch := (first | omega | decide)) only [x_bin, g_int, b_gtr, dec_lt_t, dec_lt_f, dec_le_t, dec_le_f, dec_eq_t, dec_eq_f, Bool.not_true, Bool.not_false, eX, ↓reduceIte, Nat.reduceEqDiff, Int.reduceToNat]
  refine hK _ _ ?_; clear hK K
  refine OW_as rfl ?_
  refine OW_nil ?_
  try simp only [Ex.thnH, Ex.inBlockH, ↓reduceIte, Nat.reduceEqDiff]
  refine hK2 _ _ ?_; try clear hK2 K2
  refine CW_ret ?_
  try simp only [Ex.thnH, Ex.inBlockH, ↓reduceIte, Nat.reduceEqDiff]
  exact ⟨[_], ⟨rfl, trivial⟩, _, Le.refl _, rfl, lhA⟩

end Go.Proofs.Ytlkopcgoaldpeaa.HL
end
section
namespace Go.Proofs.Ytlkopcgoaldpeaa.HL
open Go Go.Proofs
set_option linter.unusedSimpArgs false
set_option linter.unusedVariables false
attribute [local irreducible] Lt Lq CW OW TW CallH


/-- A writer at p whose bytes are l; S: the blocks it owns. -/
def WR (H : Hp) (p : Nat) (l : List Int) (S : Nat → Prop) : Prop := ∃ v rs, H p = some (.cells #[v] 58) ∧ OwnS H 5 1 v l.length (u8s l) rs ∧ rs ≠ some p ∧ S = fun b => b = p ∨ rs = some b
theorem WR.known {H : Hp} {p : Nat} {l : List Int} {S : Nat → Prop} (h : WR H p l S) : ∀ b, S b → H b ≠ none := by
  obtain ⟨v, rs, h1, h2, h3, rfl⟩ := h
  rintro b (rfl | hb)
  · rw [h1]; simp
  · exact h2.known b hb
theorem WR.stay {H H' : Hp} {p : Nat} {l : List Int} {S : Nat → Prop} (h : WR H p l S) (k : ∀ b o, S b → H b = some o → H' b = some o) : WR H' p l S := by
  obtain ⟨v, rs, h1, h2, h3, rfl⟩ := h
  exact ⟨v, rs, k _ _ (.inl rfl) h1, h2.stay fun b o hb => k b o (.inr hb), h3, rfl⟩
theorem WR.new {H : Hp} {p : Nat} {l : List Int} {S : Nat → Prop} (h : WR H p l S) {b : Nat} {o : Obj} (hb : H b = none) : WR (H.upd b o) p l S :=
  h.stay fun x o' _ hx => by rw [upd_ne]; exact hx; intro e; subst e; rw [hx] at hb; cases hb
theorem WR.fresh {H : Hp} {p : Nat} {v : Value} (hv : v = .slice none 0 0) (h : H p = some (.cells #[v] 58)) : WR H p [] (fun b => b = p) := by
  subst hv
  exact ⟨_, none, h, OwnS.nil _ _ _, by simp, by funext b; simp⟩
theorem WR.at {H : Hp} {p : Nat} {l : List Int} {S : Nat → Prop} (h : WR H p l S) : S p := by
  obtain ⟨v, rs, h1, h2, h3, rfl⟩ := h
  exact .inl rfl

set_option maxRecDepth 100000 in
set_option maxHeartbeats 1000000 in
theorem add_ok (H : Hp) (q : Nat) (l x : List Int) (S : Nat → Prop) (hw : WR H q l S) (v : Value) (hx : Holds H 1 v x.length (u8s x)) (hl : l.length + x.length ≤ 10000000) : CallH Try.prog 49 #[.pointer (some ⟨q, 0, none⟩), v] H (fun _ H' => ∃ S', WR H' q (l ++ x) S' ∧ Frm H S H' S') := by
  refine CallH_enter (l := [_, _]) (rl := []) (n := 15) Try.func49 rfl rfl rfl rfl rfl ?_
  simp only [envOf, Nat.reduceAdd]
  obtain ⟨vw, rs, hq, how, hne, rfl⟩ := hw
  refine CW_seq (fun K1 hK1 => ?_)
  refine CW_region ?_
  refine OW_mv rfl ?_
  refine OW_opS (fun K hK r => ?_)
  simp only [x_bin, g_int, g_bool, g_string, g_pointer, g_slice, g_map, g_func, g_nilFunc, g_iface, g_nil_iface, g_nil_r, g_nil_l, eX, ↓reduceIte, Nat.reduceEqDiff, Int.reduceToNat]
  rw [e_neq _ _ _ _ (by simp)]
  rw [q_equal]
  first | rw [q_ptr_nil _ _ _ Try.underlying56] | rw [q_nil_ptr _ _ _ Try.underlying56]
  try simp only [eX, ↓reduceIte, Nat.reduceEqDiff, Int.reduceToNat]
  refine hK _ _ ?_; clear hK K
  refine OW_nil ?_
  try simp only [Ex.thnH, Ex.inBlockH, ↓reduceIte, Nat.reduceEqDiff]
  refine hK1 _ _ ?_; try clear hK1 K1
  refine CW_cond (fun r => rfl) (fun c5 => ?_) (fun c5 => ?_)
  · first
    | (exfalso; exact cnA c5; done)
    | skip
      (try simp only [decide_eq_true_eq, decide_eq_false_iff_not, Bool.not_eq_true, Bool.not_eq_false, Bool.and_eq_true, Bool.or_eq_true, Bool.or_eq_false_iff, Bool.not_eq_true, Bool.not_eq_eq_eq_not, Bool.not_true, Bool.not_false] at c5)
      refine CW_region ?_
      refine OW_mv rfl ?_
      refine OW_mv rfl ?_
      refine OW_opS (fun K hK r => ?_)
      rw [x_nilCheck _ _ rfl]
      simp only [eX, ↓reduceIte, Nat.reduceEqDiff, Int.reduceToNat]
      refine hK _ _ ?_; clear hK K
      refine OW_opS (fun K hK r => ?_)
      simp only [x_fieldAddr, fa58_0, add_mk, Nat.reduceAdd, Nat.zero_add, eX, ↓reduceIte, Nat.reduceEqDiff, Int.reduceToNat]
      refine hK _ _ ?_; clear hK K
      refine OW_opS (fun K hK r => ?_)
      simp only [x_load, eX, ↓reduceIte, Nat.reduceEqDiff, Int.reduceToNat]
      refine Lt_loadAt1 Try.underlying33 rfl hbA ldA ?_
      try simp only [eX, ↓reduceIte, Nat.reduceEqDiff, Int.reduceToNat]
      refine hK _ _ ?_; clear hK K
      refine OW_mv rfl ?_
      refine OW_opS (fun K hK r => ?_)
      simp only [x_builtin, l_append, List.map_toArray, List.map_cons, List.map_nil, eX, ↓reduceIte, Nat.reduceEqDiff, Int.reduceToNat]
      refine Lt_append Try.underlying33 Try.underlying33 (by simp) sz5 by5 (by decide) zr5 rfl _ (n := l.length) (m := x.length) how (fun K => len_holds hx K) (fun K => first_slice hx K) (by simp) (PlainL.ints _ _) (by omega) ?_
      intro v12 H12 rs12 hg12 ho12 hr12
      have k12_q := hg12.known q _ hq hne
      obtain ⟨a12, c12, rfl⟩ := ho12.holds.form
      refine hK _ _ ?_; clear hK K
      refine OW_opS (fun K hK r => ?_)
      rw [x_nilCheck _ _ rfl]
      simp only [eX, ↓reduceIte, Nat.reduceEqDiff, Int.reduceToNat]
      refine hK _ _ ?_; clear hK K
      refine OW_opS (fun K hK r => ?_)
      simp only [x_fieldAddr, fa58_0, add_mk, Nat.reduceAdd, Nat.zero_add, eX, ↓reduceIte, Nat.reduceEqDiff, Int.reduceToNat]
      refine hK _ _ ?_; clear hK K
      refine OW_op rfl (lt_none) (fun K hK r => ?_)
      simp only [x_store, eX, ↓reduceIte, Nat.reduceEqDiff, Int.reduceToNat]
      refine Lt_storeAt1 sz33 hbA bdA plA fzA ?_
      try simp only [setL0, setL1, setL2, setL3, setL4, setL5, setL6, setL7, setL8, setL9]
      try simp only [eX, ↓reduceIte, Nat.reduceEqDiff, Int.reduceToNat]
      refine hK _ _ ?_; clear hK K
      refine OW_nil ?_
      try simp only [Ex.thnH, Ex.inBlockH, ↓reduceIte, Nat.reduceEqDiff]
      have hne12 : rs12 ≠ some q := fun e => by
        rcases hr12 _ e with h | h
        · exact hne h
        · rw [hq] at h; cases h
      refine ⟨[], trivial, _, Le.refl _, fun b => b = q ∨ rs12 = some b, ⟨_, rs12, upd_same _ _ _, ?_, hne12, rfl⟩, ?_⟩
      · have h := ho12.upd (o := .cells #[.slice a12 (l.length + x.length) c12] 58) hne12
        rw [List.length_append, u8s, List.map_append]; exact h
      · refine ⟨fun b o hb hn => ?_, fun b hb => ?_⟩
        · rw [upd_ne _ _ (fun e => hn (.inl e))]; exact hg12.known b o hb (fun e => hn (.inr e))
        · rcases hb with rfl | hb
          · exact .inl (.inl rfl)
          · rcases hr12 _ hb with h | h
            · exact .inl (.inr h)
            · exact .inr h
  · first
    | (exfalso; exact cnA c5; done)
    | skip
      (try simp only [decide_eq_true_eq, decide_eq_false_iff_not, Bool.not_eq_true, Bool.not_eq_false, Bool.and_eq_true, Bool.or_eq_true, Bool.or_eq_false_iff, Bool.not_eq_true, Bool.not_eq_eq_eq_not, Bool.not_true, Bool.not_false] at c5)
      refine CW_skip ?_
      try simp only [Ex.thnH, Ex.inBlockH, ↓reduceIte, Nat.reduceEqDiff]
      have hne12 : rs12 ≠ some q := fun e => by
        rcases hr12 _ e with h | h
        · exact hne h
        · rw [hq] at h; cases h
      refine ⟨[], trivial, _, Le.refl _, fun b => b = q ∨ rs12 = some b, ⟨_, rs12, upd_same _ _ _, ?_, hne12, rfl⟩, ?_⟩
      · have h := ho12.upd (o := .cells #[.slice a12 (l.length + x.length) c12] 58) hne12
        rw [List.length_append, u8s, List.map_append]; exact h
      · refine ⟨fun b o hb hn => ?_, fun b hb => ?_⟩
        · rw [upd_ne _ _ (fun e => hn (.inl e))]; exact hg12.known b o hb (fun e => hn (.inr e))
        · rcases hb with rfl | hb
          · exact .inl (.inl rfl)
          · rcases hr12 _ hb with h | h
            · exact .inl (.inr h)
            · exact .inr h


theorem c8 (n : Int) (h : n < 256) (h0 : 0 ≤ n) : IntKind.u8.wrap n = n := by rw [w_u8]; omega

set_option maxRecDepth 100000 in
set_option maxHeartbeats 1000000 in
theorem wCount_ok (H : Hp) (q : Nat) (l : List Int) (S : Nat → Prop) (hw : WR H q l S) (n : Nat) (hn : n < 18446744073709551616) (hl : l.length ≤ 9000000) : CallH Try.prog 26 #[.pointer (some ⟨q, 0, none⟩), .int .u64 n] H (fun _ H' => ∃ S', WR H' q (l ++ cnt n) S' ∧ Frm H S H' S') := by
  refine CallH_enter (l := [_, _]) (rl := []) (n := 19) Try.func26 rfl rfl rfl rfl rfl ?_
  simp only [envOf, Nat.reduceAdd]
  refine CW_seq (fun K1 hK1 => ?_)
  refine CW_block ?_
  refine CW_loop (fun m e H_ => ∃ (k : Nat) (a : List Int) (S1 : Nat → Prop), m = k ∧ k ≤ n ∧ cnt n = a ++ cnt k ∧ a.length ≤ 10 ∧ WR H_ q (l ++ a) S1 ∧ Frm H S H_ S1 ∧ Env.has [(0, .pointer (some ⟨q, 0, none⟩)), (1, .int .u64 k)] e) (n) ?_ ?_
  · skip
    exact ⟨n, [], S, rfl, Nat.le_refl _, rfl, by simp, by simpa using hw, Frm.refl _ _, rfl, rfl, trivial⟩
  intro m_ e_ H_ hI_
  obtain ⟨k, a, S1, rfl, hk, hc, ha, hw, hf, he⟩ := hI_
  have hl10 := cnt_len10 hn
  rw [hc, List.length_append] at hl10
  refine CW_env he.sub ?_; clear he e_
  refine CW_seq (fun K2 hK2 => ?_)
  refine CW_seq (fun K3 hK3 => ?_)
  refine CW_region ?_
  refine OW_mv rfl ?_
  refine OW_opS (fun K hK r => ?_)
  simp (disch := (first | omega | decide)) only [x_bin, g_int, b_geq, dec_lt_t, dec_lt_f, dec_le_t, dec_le_f, dec_eq_t, dec_eq_f, Bool.not_true, Bool.not_false, eX, ↓reduceIte, Nat.reduceEqDiff, Int.reduceToNat]
  refine hK _ _ ?_; clear hK K
  refine OW_nil ?_
  try simp only [Ex.thnH, Ex.inBlockH, ↓reduceIte, Nat.reduceEqDiff]
  refine hK3 _ _ ?_; try clear hK3 K3
  refine CW_cond (fun r => rfl) (fun c5 => ?_) (fun c5 => ?_)
  · first
    | (exfalso; exact cnA c5; done)
    | skip
      (try simp only [decide_eq_true_eq, decide_eq_false_iff_not, Bool.not_eq_true, Bool.not_eq_false, Bool.and_eq_true, Bool.or_eq_true, Bool.or_eq_false_iff, Bool.not_eq_true, Bool.not_eq_eq_eq_not, Bool.not_true, Bool.not_false] at c5)
      have c5 : ¬ m_ < 128 := by omega
      refine CW_skip ?_
      try simp only [Ex.thnH, Ex.inBlockH, ↓reduceIte, Nat.reduceEqDiff]
      refine hK2 _ _ ?_; try clear hK2 K2
      refine CW_seq (fun K4 hK4 => ?_)
      refine CW_block ?_
      refine CW_region ?_
      refine OW_mv rfl ?_
      refine OW_mv rfl ?_
      refine OW_opS (fun K hK r => ?_)
      simp (disch := (first | omega | decide)) only [x_convert, c_int _ _ _ _ Try.underlying60 Try.underlying5, wrap_i64, wrap_u64, wrap_u32, wrap_u8, eX, ↓reduceIte, Nat.reduceEqDiff, Int.reduceToNat]
      skip
      refine hK _ _ ?_; clear hK K
      refine OW_opS (fun K hK r => ?_)
      simp only [x_bin, g_int, b_or, eX, ↓reduceIte, Nat.reduceEqDiff, Int.reduceToNat]
      rw [or128]
      refine hK _ _ ?_; clear hK K
      refine OW_opS (fun K hK r => ?_)
      simp only [x_buildSlice, List.map_toArray, List.map_cons, List.map_nil, eX, ↓reduceIte, Nat.reduceEqDiff, Int.reduceToNat]
      refine Lt_buildSlice (vs := [_]) Try.underlying33 sz5 zr5 rfl bsA (by first | decide | (simp; done)) ?_
      simp only [List.flatMap_cons, List.flatMap_nil, Value.cells, List.append_nil, List.cons_append, List.nil_append, List.length_cons, List.length_nil, Nat.zero_add, Nat.reduceAdd]
      intro b12 hb12
      try simp only [eX, ↓reduceIte, Nat.reduceEqDiff, Int.reduceToNat]
      refine hK _ _ ?_; clear hK K
      refine OW_opS (fun K hK r => ?_)
      simp only [x_callF _ bd49, List.map_toArray, List.map_cons, List.map_nil, eX, ↓reduceIte, Nat.reduceEqDiff, Int.reduceToNat]
      have hwn := fun o => hw.new (o := o) hb12
      have hfn := fun o => hf.new (o := o) hb12
      refine (add_ok _ q (l ++ a) [((m_ % 128 + 128 : Nat) : Int)] _ (hwn _) _ ⟨rfl, .inr ⟨b12, 0, _, _, _, _, rfl, upd_same _ _ _, by simp, by simp⟩⟩ (by first | omega | (simp; omega))).mono ?_
      rintro v13 H13 ⟨S13, hw13, hf13⟩
      have hf13 := (hfn _).trans hf13
      try simp only [eX, ↓reduceIte, Nat.reduceEqDiff, Int.reduceToNat]
      refine hK _ _ ?_; clear hK K
      refine OW_nil ?_
      try simp only [Ex.thnH, Ex.inBlockH, ↓reduceIte, Nat.reduceEqDiff]
      refine hK4 _ _ ?_; try clear hK4 K4
      refine CW_region ?_
      refine OW_mv rfl ?_
      refine OW_opS (fun K hK r => ?_)
      simp (disch := (first | omega | decide)) only [x_bin, g_int, b_shr, wrap_i64, wrap_u64, wrap_u32, wrap_u8, eX, ↓reduceIte, Nat.reduceEqDiff, Int.reduceToNat]
      rw [shr7]
      refine hK _ _ ?_; clear hK K
      refine OW_as rfl ?_
      refine OW_nil ?_
      try simp only [Ex.thnH, Ex.inBlockH, ↓reduceIte, Nat.reduceEqDiff]
      refine ⟨m_ / 128, by omega, m_ / 128, a ++ [((m_ % 128 + 128 : Nat) : Int)], S13, rfl, by omega, ?_, ?_, ?_, hf13, rfl, ?_, trivial⟩
      · rw [hc, cnt_ge c5]; simp
      · rw [cnt_ge c5] at hl10; simp at hl10 ⊢; omega
      · rw [← List.append_assoc]; exact hw13
      · show some (Value.int _ _) = some (Value.int _ _)
        congr 2
  · first
    | (exfalso; exact cnA c5; done)
    | skip
      (try simp only [decide_eq_true_eq, decide_eq_false_iff_not, Bool.not_eq_true, Bool.not_eq_false, Bool.and_eq_true, Bool.or_eq_true, Bool.or_eq_false_iff, Bool.not_eq_true, Bool.not_eq_eq_eq_not, Bool.not_true, Bool.not_false] at c5)
      have c5 : m_ < 128 := by omega
      refine CW_exit ?_
      try simp only [Ex.thnH, Ex.inBlockH, ↓reduceIte, Nat.reduceEqDiff]
      refine hK1 _ _ ?_; try clear hK1 K1
      refine CW_region ?_
      refine OW_mv rfl ?_
      refine OW_mv rfl ?_
      refine OW_opS (fun K hK r => ?_)
      simp (disch := (first | omega | decide)) only [x_convert, c_int _ _ _ _ Try.underlying60 Try.underlying5, wrap_i64, wrap_u64, wrap_u32, wrap_u8, eX, ↓reduceIte, Nat.reduceEqDiff, Int.reduceToNat]
      refine hK _ _ ?_; clear hK K
      refine OW_opS (fun K hK r => ?_)
      simp only [x_buildSlice, List.map_toArray, List.map_cons, List.map_nil, eX, ↓reduceIte, Nat.reduceEqDiff, Int.reduceToNat]
      refine Lt_buildSlice (vs := [_]) Try.underlying33 sz5 zr5 rfl bsA (by first | decide | (simp; done)) ?_
      simp only [List.flatMap_cons, List.flatMap_nil, Value.cells, List.append_nil, List.cons_append, List.nil_append, List.length_cons, List.length_nil, Nat.zero_add, Nat.reduceAdd]
      intro b17 hb17
      try simp only [eX, ↓reduceIte, Nat.reduceEqDiff, Int.reduceToNat]
      refine hK _ _ ?_; clear hK K
      refine OW_opS (fun K hK r => ?_)
      simp only [x_callF _ bd49, List.map_toArray, List.map_cons, List.map_nil, eX, ↓reduceIte, Nat.reduceEqDiff, Int.reduceToNat]
      have hwn := fun o => hw.new (o := o) hb17
      have hfn := fun o => hf.new (o := o) hb17
      refine (add_ok _ q (l ++ a) [((m_ : Nat) : Int)] _ (hwn _) _ ⟨rfl, .inr ⟨b17, 0, _, _, _, _, rfl, upd_same _ _ _, by simp, by simp⟩⟩ (by first | omega | (simp; omega))).mono ?_
      rintro v18 H18 ⟨S18, hw18, hf18⟩
      have hf18 := (hfn _).trans hf18
      try simp only [eX, ↓reduceIte, Nat.reduceEqDiff, Int.reduceToNat]
      refine hK _ _ ?_; clear hK K
      refine OW_nil ?_
      try simp only [Ex.thnH, Ex.inBlockH, ↓reduceIte, Nat.reduceEqDiff]
      refine ⟨[], trivial, _, Le.refl _, S18, ?_, hf18⟩
      rw [hc, cnt_lt c5, ← List.append_assoc]; exact hw18

end Go.Proofs.Ytlkopcgoaldpeaa.HL
end
section
namespace Go.Proofs.Ytlkopcgoaldpeaa.HL
open Go Go.Proofs
set_option linter.unusedSimpArgs false
set_option linter.unusedVariables false
attribute [local irreducible] Lt Lq CW OW TW CallH

set_option maxRecDepth 100000 in
set_option maxHeartbeats 1000000 in
theorem wNum_ok (H : Hp) (q : Nat) (l : List Int) (S : Nat → Prop) (hw : WR H q l S) (n : Int) (h1 : -9223372036854775808 ≤ n) (h2 : n ≤ 9223372036854775807) (hl : l.length ≤ 9000000) : CallH Try.prog 29 #[.pointer (some ⟨q, 0, none⟩), .int .i64 n] H (fun _ H' => ∃ S', WR H' q (l ++ cnt (zig n)) S' ∧ Frm H S H' S') := by
  refine CallH_enter (l := [_, _]) (rl := []) (n := 13) Try.func29 rfl rfl rfl rfl rfl ?_
  simp only [envOf, Nat.reduceAdd]
  have hz := zig_lt h1 h2
  have hzb := zig_bits h1 h2
  simp only [Int.reduceToNat] at hzb
  refine CW_region ?_
  refine OW_mv rfl ?_
  refine OW_mv rfl ?_
  refine OW_opS (fun K hK r => ?_)
  simp (disch := (first | omega | decide)) only [x_convert, c_int _ _ _ _ Try.underlying3 Try.underlying60, wrap_i64, wrap_u64, wrap_u32, wrap_u8, eX, ↓reduceIte, Nat.reduceEqDiff, Int.reduceToNat]
  refine hK _ _ ?_; clear hK K
  refine OW_opS (fun K hK r => ?_)
  simp (disch := (first | omega | decide)) only [x_bin, g_int, b_shl, wrap_i64, wrap_u64, wrap_u32, wrap_u8, eX, ↓reduceIte, Nat.reduceEqDiff, Int.reduceToNat]
  refine hK _ _ ?_; clear hK K
  refine OW_mv rfl ?_
  refine OW_opS (fun K hK r => ?_)
  simp (disch := (first | omega | decide)) only [x_bin, g_int, b_shr, wrap_i64, wrap_u64, wrap_u32, wrap_u8, eX, ↓reduceIte, Nat.reduceEqDiff, Int.reduceToNat]
  refine hK _ _ ?_; clear hK K
  refine OW_opS (fun K hK r => ?_)
  simp (disch := (first | omega | decide)) only [x_convert, c_int _ _ _ _ Try.underlying3 Try.underlying60, wrap_i64, wrap_u64, wrap_u32, wrap_u8, eX, ↓reduceIte, Nat.reduceEqDiff, Int.reduceToNat]
  refine hK _ _ ?_; clear hK K
  refine OW_opS (fun K hK r => ?_)
  simp only [x_bin, g_int, b_xor, eX, ↓reduceIte, Nat.reduceEqDiff, Int.reduceToNat]
  rw [hzb]
  refine hK _ _ ?_; clear hK K
  refine OW_opS (fun K hK r => ?_)
  simp only [x_callF _ bd26, List.map_toArray, List.map_cons, List.map_nil, eX, ↓reduceIte, Nat.reduceEqDiff, Int.reduceToNat]
  refine (wCount_ok _ q l S hw (zig n) (by omega) (by omega)).mono ?_
  rintro v12 H12 ⟨S12, hw12, hf12⟩
  try simp only [eX, ↓reduceIte, Nat.reduceEqDiff, Int.reduceToNat]
  refine hK _ _ ?_; clear hK K
  refine OW_nil ?_
  try simp only [Ex.thnH, Ex.inBlockH, ↓reduceIte, Nat.reduceEqDiff]
  exact ⟨[], trivial, _, Le.refl _, S12, hw12, hf12⟩

set_option maxRecDepth 100000 in
set_option maxHeartbeats 1000000 in
theorem wByte_ok (H : Hp) (q : Nat) (l : List Int) (S : Nat → Prop) (hw : WR H q l S) (n : Int) (hl : l.length ≤ 9000000) : CallH Try.prog 27 #[.pointer (some ⟨q, 0, none⟩), .int .u8 n] H (fun _ H' => ∃ S', WR H' q (l ++ [n]) S' ∧ Frm H S H' S') := by
  refine CallH_enter (l := [_, _]) (rl := []) (n := 8) Try.func27 rfl rfl rfl rfl rfl ?_
  simp only [envOf, Nat.reduceAdd]
  have hf := Frm.refl H S
  refine CW_region ?_
  refine OW_mv rfl ?_
  refine OW_mv rfl ?_
  refine OW_opS (fun K hK r => ?_)
  simp only [x_buildSlice, List.map_toArray, List.map_cons, List.map_nil, eX, ↓reduceIte, Nat.reduceEqDiff, Int.reduceToNat]
  refine Lt_buildSlice (vs := [_]) Try.underlying33 sz5 zr5 rfl bsA (by first | decide | (simp; done)) ?_
  simp only [List.flatMap_cons, List.flatMap_nil, Value.cells, List.append_nil, List.cons_append, List.nil_append, List.length_cons, List.length_nil, Nat.zero_add, Nat.reduceAdd]
  intro b6 hb6
  try simp only [eX, ↓reduceIte, Nat.reduceEqDiff, Int.reduceToNat]
  refine hK _ _ ?_; clear hK K
  refine OW_opS (fun K hK r => ?_)
  simp only [x_callF _ bd49, List.map_toArray, List.map_cons, List.map_nil, eX, ↓reduceIte, Nat.reduceEqDiff, Int.reduceToNat]
  have hwn := fun o => hw.new (o := o) hb6
  have hfn := fun o => hf.new (o := o) hb6
  refine (add_ok _ q (l) [n] _ (hwn _) _ ⟨rfl, .inr ⟨b6, 0, _, _, _, _, rfl, upd_same _ _ _, by simp, by simp⟩⟩ (by first | omega | (simp; omega))).mono ?_
  rintro v7 H7 ⟨S7, hw7, hf7⟩
  have hf7 := (hfn _).trans hf7
  try simp only [eX, ↓reduceIte, Nat.reduceEqDiff, Int.reduceToNat]
  refine hK _ _ ?_; clear hK K
  refine OW_nil ?_
  try simp only [Ex.thnH, Ex.inBlockH, ↓reduceIte, Nat.reduceEqDiff]
  exact ⟨[], trivial, _, Le.refl _, S7, hw7, hf7⟩

end Go.Proofs.Ytlkopcgoaldpeaa.HL
end
