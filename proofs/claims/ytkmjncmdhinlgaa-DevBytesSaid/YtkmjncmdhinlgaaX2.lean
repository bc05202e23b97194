/- Parts of the proof, one behind the other: HLFrame, HLFrame2, HLShort, S02Ty, HLOwn, HLIf, HLIter, HLMap, Md02, D10, MdAp, D11, D12, D15, D16. -/
import Derived.Carry
import Derived.ChangeOld
import Derived.OpenShut
import Derived.ChangeSlices
import Derived.Test.YtkmjncmdhinlgaaProg
import Derived.KernelRfl
import Derived.Test.YtkmjncmdhinlgaaX1
set_option linter.unusedSimpArgs false
set_option linter.unusedVariables false
section
namespace Go.Proofs.Ytkmjncmdhinlgaa.HL
open Go Go.RowKit Go.ChangeShapes Go.WideShapes

/-- The whole heap that there is. -/
def oldH (w : World) : Hp := fun b => w.heap[b]?
theorem oldH_sub (w : World) : Sub (oldH w) w := fun _ _ h => h
theorem calls_of_old {P : Program} {f : FuncId} {args : Array Value} {w : World}
    (h : CallH P f args (oldH w) (fun v H' => v = .bool true ∧ Le (oldH w) H')) : Calls P f args w fun e w' => e = .returned (.bool true) ∧ Below w.heap.size w w' := by
  refine (h w (oldH_sub w)).mono fun e w' ⟨v, he, H', ⟨hv, hl⟩, hx⟩ => ⟨by rw [he, hv], hx.os, hx.tape, hx.output, hx.size, fun k hk => ?_⟩
  have h1 : w.heap[k]? = some w.heap[k] := by simp [hk]
  rw [h1]; exact hx.sub _ _ (hl _ _ h1)

theorem u8_of_wf {n : Int} (h : (Lit.int .u8 n).wf = true) : 0 ≤ n ∧ n ≤ 255 := by
  simp [Lit.wf, IntKind.min, IntKind.max, IntKind.signed, IntKind.bits] at h
  omega
theorem i64_of_wf {n : Int} (h : (Lit.int .i64 n).wf = true) : -9223372036854775808 ≤ n ∧ n ≤ 9223372036854775807 := by
  simp [Lit.wf, IntKind.min, IntKind.max, IntKind.signed, IntKind.bits] at h
  omega

section
variable {H : Type} {enc : TypeId × Value → H} {P : Program} {w : World} {base : Nat} {spare : Nat → Bool} {held : Bool} {fuel : Nat} {t : TypeId} {cs : List Value} {x : DataW H × List MemPlace}

theorem open_field {fs : Array Field} (ht : P.underlying t = some (.struct fs)) (h : DataW.trod enc P w base spare held fuel t cs = some x) (i : Nat) {f : Field} (hf : fs[i]? = some f) :
    ∃ y n, DataW.trod enc P w base spare held n f.type ((cs.drop f.offset).take (P.cellsOf f.type)) = some y := by
  obtain ⟨xs, n, _, _, hl, hx, hi⟩ := DataW.trod_struct ht h
  have h1 := hi i f hf
  have hlt : i < fs.size := (Array.getElem?_eq_some_iff.1 hf).1
  rw [List.getElem?_eq_getElem (by omega)] at h1
  exact ⟨_, n, h1⟩
theorem struct_len {fs : Array Field} (ht : P.underlying t = some (.struct fs)) (h : DataW.trod enc P w base spare held fuel t cs = some x) : cs.length = P.cellsOf t := by
  obtain ⟨xs, n, _, _, hl, _⟩ := DataW.trod_struct ht h
  exact hl
/-! ### arguments of a kind -/
variable {r : Reach} {b0 : Nat} {v : Value} {d : DataW H} {ps : List MemPlace}
/-- A struct of one-cell fields: its cells, each read by its field's type. -/
theorem open_struct1s {fs : Array Field} (ht : P.underlying t = some (.struct fs)) (hct : P.cellsOf t = fs.size)
    (hf : ∀ (i : Nat) (f : Field), fs[i]? = some f → f.offset = i ∧ P.cellsOf f.type = 1) (h : DataW.trod enc P w base spare held fuel t cs = some x) :
    cs.length = fs.size ∧ ∀ (i : Nat) (f : Field), fs[i]? = some f → ∃ v y n, cs[i]? = some v ∧ DataW.trod enc P w base spare held n f.type [v] = some y := by
  have hl := struct_len ht h
  refine ⟨hl.trans hct, fun i f hi => ?_⟩
  obtain ⟨y, n, hy⟩ := open_field ht h i hi
  obtain ⟨h1, h2⟩ := hf i f hi
  have hlt : i < cs.length := by rw [hl, hct]; exact (Array.getElem?_eq_some_iff.1 hi).1
  rw [h1, h2] at hy
  refine ⟨cs[i], y, n, by simp, ?_⟩
  have : (cs.drop i).take 1 = [cs[i]] := by
    rw [List.drop_eq_getElem_cons hlt]; rfl
  rw [this] at hy; exact hy
/-- A field's cells. -/
theorem field_cells {fs : Array Field} (ht : P.underlying t = some (.struct fs)) (h : DataW.trod enc P w base spare held fuel t cs = some x) (i : Nat) {f : Field} (hf : fs[i]? = some f) {o n : Nat} (ho : f.offset = o) (hn : P.cellsOf f.type = n) :
    ∃ y m, DataW.trod enc P w base spare held m f.type ((cs.drop o).take n) = some y := by
  have := open_field ht h i hf
  rw [ho, hn] at this; exact this
theorem int_cell {k : IntKind} {i : Nat} (ht : P.underlying t = some (.int k)) (h : DataW.trod enc P w base spare held fuel t ((cs.drop i).take 1) = some x) : ∃ z, cs[i]? = some (.int k z) ∧ (Lit.int k z).wf = true := by
  obtain ⟨z, h1, _, h2⟩ := DataW.trod_int ht h
  refine ⟨z, ?_, h2⟩
  have h5 : ((cs.drop i).take 1)[0]? = some (.int k z) := by rw [h1]; rfl
  rw [List.getElem?_take_of_lt (by omega), List.getElem?_drop] at h5
  simpa using h5
theorem exists_list {α : Type} (Q : Nat → α → Prop) : ∀ n, (∀ i, i < n → ∃ a, Q i a) → ∃ L : List α, L.length = n ∧ ∀ i a, L[i]? = some a → Q i a
  | 0, _ => ⟨[], rfl, fun i a h => by simp at h⟩
  | n + 1, h => by
    obtain ⟨L, hl, hL⟩ := exists_list Q n (fun i hi => h i (by omega))
    obtain ⟨a, ha⟩ := h n (by omega)
    refine ⟨L ++ [a], by simp [hl], fun i b hb => ?_⟩
    by_cases hi : i < n
    · rw [List.getElem?_append_left (by omega)] at hb; exact hL i b hb
    · rw [List.getElem?_append_right (by omega)] at hb
      have h0 : i - L.length = 0 := by
        rcases Nat.eq_zero_or_pos (i - L.length) with h0 | h0
        · exact h0
        · rw [List.getElem?_eq_none (by simp; omega)] at hb; cases hb
      rw [h0] at hb
      have : i = n := by omega
      subst this
      simp at hb; subst hb; exact ha
theorem flat_get {α : Type} {f : α → List Value} {wd : Nat} (hw : ∀ a, (f a).length = wd) : ∀ (L : List α) (i : Nat) (a : α) (j : Nat), L[i]? = some a → j < wd → (L.flatMap f)[i * wd + j]? = (f a)[j]?
  | [], i, a, j, h, _ => by simp at h
  | x :: r, 0, a, j, h, hj => by
    simp at h; subst h
    rw [List.flatMap_cons, Nat.zero_mul, Nat.zero_add, List.getElem?_append_left (by rw [hw]; exact hj)]
  | x :: r, i + 1, a, j, h, hj => by
    rw [List.flatMap_cons, List.getElem?_append_right (by rw [hw, Nat.succ_mul]; omega), hw]
    have e : (i + 1) * wd + j - wd = i * wd + j := by rw [Nat.succ_mul]; omega
    rw [e]; exact flat_get hw r i a j (by simpa using h) hj
theorem flat_len {α : Type} {f : α → List Value} {wd : Nat} (hw : ∀ a, (f a).length = wd) : ∀ (L : List α), (L.flatMap f).length = L.length * wd
  | [] => by simp
  | x :: r => by rw [List.flatMap_cons, List.length_append, hw, flat_len hw r, List.length_cons, Nat.succ_mul]; omega
/-- A slice whose elements are each told. -/
theorem open_slice_of {α : Type} (f : α → List Value) (ok : α → Prop) {e : TypeId} {wd : Nat} (ht : P.underlying t = some (.slice e)) (hc : P.cellsOf e = wd) (hwd : 0 < wd) (hw : ∀ a, (f a).length = wd)
    (he : ∀ n cs x, DataW.trod enc P w base spare held n e cs = some x → ∃ a, cs = f a ∧ ok a) (h : DataW.trod enc P w base spare held fuel t cs = some x) :
    ∃ (a : Option Addr) (len cap : Nat) (L : List α), cs = [.slice a len cap] ∧ L.length = len ∧ Holds (oldH w) wd (.slice a len cap) len (L.flatMap f) ∧ (∀ x ∈ L, ok x) ∧ len ≤ maxLen := by
  rcases DataW.trod_slice ht h with ⟨rfl, _⟩ | ⟨a, len, cap, elems, rest, n, _, rfl, _, hb, hl, hm, hlen, hel, _, _⟩
  · exact ⟨none, 0, 0, [], rfl, rfl, ⟨by simp, .inl ⟨none, 0, rfl, rfl⟩⟩, by simp, by decide⟩
  · obtain ⟨L, hL, hQ⟩ := exists_list (fun i x => ok x ∧ ∀ j, j < wd → w.cell? (a.add (i * wd + j)) = (f x)[j]?) len (by
      intro i hi
      have h1 := hel i hi
      rw [List.getElem?_eq_getElem (by omega), hc, Option.bind_eq_some_iff] at h1
      obtain ⟨cs', hcs, hy⟩ := h1
      obtain ⟨x, rfl, hx⟩ := he _ _ _ hy
      refine ⟨x, hx, fun j hj => ?_⟩
      have h2 := World.cells?_some hcs
      have h3 := h2.2.2 j hj
      have h4 : (a.add (i * wd)).add j = a.add (i * wd + j) := by
        obtain ⟨b, o, sp⟩ := a
        simp only [Addr.add]
        split <;> split <;> simp_all
        all_goals omega
      rw [h4] at h3
      exact h3)
    refine ⟨some a, len, cap, L, rfl, hL, ⟨by rw [flat_len hw, hL], ?_⟩, fun x hx => ?_, by omega⟩
    rotate_left
    · obtain ⟨i, hi, rfl⟩ := List.mem_iff_getElem.1 hx
      exact (hQ i _ (List.getElem?_eq_getElem hi)).1
    by_cases h0 : len = 0
    · subst h0; exact .inl ⟨some a, cap, rfl, rfl⟩
    right
    obtain ⟨b, o, sp⟩ := a
    have hcell : ∀ i, i < len → ∀ j, j < wd → ∃ v, w.cell? ((⟨b, o, sp⟩ : Addr).add (i * wd + j)) = some v ∧ (L.flatMap f)[i * wd + j]? = some v := by
      intro i hi j hj
      have hx : L[i]? = some L[i] := List.getElem?_eq_getElem (by omega)
      have h1 := (hQ i _ hx).2 j hj
      have h2 := flat_get hw L i _ j hx hj
      have h3 : (f L[i])[j]? = some ((f L[i])[j]'(by rw [hw]; exact hj)) := List.getElem?_eq_getElem _
      exact ⟨_, h1.trans h3, h2.trans h3⟩
    obtain ⟨v0, hv0, _⟩ := hcell 0 (by omega) 0 hwd
    cases hbk : w.heap[b]? with
    | none => simp [World.cell?, Addr.add, hbk] at hv0
    | some ob =>
      cases ob with
      | cells c T fz =>
        have hsp : sp = none := by
          cases sp with
          | none => rfl
          | some q => simp [World.cell?, Addr.add, hbk] at hv0
        subst hsp
        have hcell' : ∀ m, m < len * wd → c[o + m]? = (L.flatMap f)[m]? := by
          intro m hm
          have hi : m / wd < len := by rw [Nat.div_lt_iff_lt_mul hwd]; exact hm
          obtain ⟨v, h1, h2⟩ := hcell (m / wd) hi (m % wd) (Nat.mod_lt _ hwd)
          have e : m / wd * wd + m % wd = m := Nat.div_add_mod' m wd
          rw [e] at h1 h2
          rw [h2, ← h1]
          rcases Nat.eq_zero_or_pos m with h0' | h0'
          · subst h0'; simp [World.cell?, Addr.add, hbk]
          · have hne : m ≠ 0 := by omega
            simp [World.cell?, Addr.add, hbk, hne]
        have hfl : (L.flatMap f).length = len * wd := by rw [flat_len hw, hL]
        have hpos : 0 < len * wd := Nat.mul_pos (by omega) hwd
        have hsz : o + len * wd ≤ c.size := by
          have h1 := hcell' (len * wd - 1) (by omega)
          rw [List.getElem?_eq_getElem (by omega)] at h1
          have := (Array.getElem?_eq_some_iff.1 h1).1
          omega
        refine ⟨b, o, cap, c, T, fz, rfl, hbk, hsz, ?_⟩
        apply List.ext_getElem?
        intro m
        rw [Array.toList_extract, List.extract_eq_take_drop]
        by_cases hm : m < len * wd
        · rw [List.getElem?_take_of_lt (by omega), List.getElem?_drop, Array.getElem?_toList]
          exact hcell' m hm
        · rw [List.getElem?_eq_none (by simp; omega), List.getElem?_eq_none (by omega)]
      | _ => simp [World.cell?, Addr.add, hbk] at hv0
end
end Go.Proofs.Ytkmjncmdhinlgaa.HL
end
section
namespace Go.Proofs.Ytkmjncmdhinlgaa.HL
open Go Go.ChangeShapes Go.WideShapes
variable {P : Program} {H : Type} {enc : TypeId × Value → H} {w : World} {base : Nat} {spare : Nat → Bool} {held : Bool} {r : Reach} {b0 : Nat} {t : TypeId} {v : Value} {d : DataW H} {ps : List MemPlace}
end Go.Proofs.Ytkmjncmdhinlgaa.HL
end
section
namespace Go.Proofs.Ytkmjncmdhinlgaa.HL
open Go
/-- environments, and what comes behind an operation -/
theorem eX :
    (∀ (e : Env) (r : Nat → Value) (t : Nat), ev e r (.tmp t) = (e.get t).getD (r t)) ∧ (∀ (e : Env) (r : Nat → Value) (v : Value), ev e r (.const v) = v) ∧
    (∀ (e : Env) (r : Nat → Value) (k : Nat), ev e r (.global k) = .pointer (some ⟨k, 0, none⟩)) ∧ (∀ (e : Env) (r : Nat → Value) (k : Nat), ev e r (.func k) = .func (.func k) #[] #[]) ∧
    (∀ t : Nat, Env.get [] t = none) ∧ (∀ (e : Env) (k t : Nat) (v : Value), Env.get ((k, v) :: e) t = if t = k then some v else Env.get e t) ∧ (∀ v u : Value, (some v).getD u = v) ∧
    (∀ (P : Program) (v : Value) (H : Hp) (R : Value → Hp → Prop), NextH P (.value v) H R = R v H) ∧ (∀ (e : Env) (t : Nat) (v : Value), Env.putO e (some t) v = e.put t v) ∧ (∀ (e : Env) (v : Value), Env.putO e none v = e) ∧
    (∀ (t : Nat) (v : Value), Env.put [] t v = [(t, v)]) ∧ (∀ (e : Env) (k t : Nat) (u v : Value), Env.put ((k, u) :: e) t v = if t = k then (k, v) :: e else (k, u) :: Env.put e t v) ∧
    (∀ (H : Hp) (b : Nat) (o o' : Obj), (H.upd b o).upd b o' = H.upd b o') ∧ (∀ (P : Program) (f : FuncId) (args : Array Value) (H : Hp) (R : Value → Hp → Prop), NextH P (.enter f args) H R = CallH P f args H R) :=
  ⟨fun _ _ _ => rfl, fun _ _ _ => rfl, fun _ _ _ => rfl, fun _ _ _ => rfl, fun _ => rfl, fun _ _ _ _ => rfl, fun _ _ => rfl, fun _ _ _ _ => rfl, fun _ _ _ => rfl, fun _ _ => rfl, fun _ _ => rfl, fun _ _ _ _ _ => rfl, fun _ _ _ _ => upd_upd _ _ _ _, fun _ _ _ _ _ => rfl⟩
section
variable {P : Program} {n : Nat} {ops : Array Oper} {Q : Env → Hp → Prop} {d : Nat} {op : Op} {ty : TypeId} {p : String} {af : Array Edge} {rest : List Oper} {e : Env} {H : Hp}
theorem OW_opS (h : ∀ K : Env → Hp → Prop, (∀ e H, OW P n ops Q rest e H → K e H) → ∀ r, Lt P (execOp (ev e r) ⟨some d, op, ty, p, af, none⟩) H (fun nx H' => NextH P nx H' (fun v H'' => K (e.putO (some d) v) H''))) (hd : noDefer ⟨some d, op, ty, p, af, none⟩ = true := by rfl) (ht : d < n := by decide) :
    OW P n ops Q (⟨some d, op, ty, p, af, none⟩ :: rest) e H := OW_op hd (lt_some ht) h
/-- What an operand is, where it is known. -/
def evO (e : Env) : Operand → Option Value
  | .tmp t => e.get t
  | .const v => some v
  | _ => none
theorem evO_ev {e : Env} {x : Operand} {v : Value} (h : evO e x = some v) (r : Nat → Value) : ev e r x = v := by
  cases x with
  | tmp t => simp only [evO] at h; simp only [ev, h, Option.getD_some]
  | const c => simp only [evO, Option.some.injEq] at h; subst h; rfl
  | _ => simp [evO] at h
theorem OW_mv {x : Operand} {v : Value} (hv : evO e x = some v) (h : OW P n ops Q rest (e.put d v) H) (hd : noDefer ⟨some d, .move x, ty, p, af, none⟩ = true := by rfl) (ht : d < n := by decide) : OW P n ops Q (⟨some d, .move x, ty, p, af, none⟩ :: rest) e H :=
  OW_op hd (lt_some ht) fun K hK r => by
    rw [x_move, evO_ev hv r]
    exact hK _ _ h
theorem OW_as {x : Operand} {v : Value} (hv : evO e x = some v) (h : OW P n ops Q rest (e.put d v) H) (hd : noDefer ⟨some d, .assign x, ty, p, af, none⟩ = true := by rfl) (ht : d < n := by decide) : OW P n ops Q (⟨some d, .assign x, ty, p, af, none⟩ :: rest) e H :=
  OW_op hd (lt_some ht) fun K hK r => by
    rw [x_assign, evO_ev hv r]
    exact hK _ _ h
end
end Go.Proofs.Ytkmjncmdhinlgaa.HL
end
section
namespace Go.Proofs.Ytkmjncmdhinlgaa.HL
open Go Go.Proofs Go.Proofs.Ytkmjncmdhinlgaa.HL
set_option linter.unusedSimpArgs false
set_option linter.unusedVariables false
theorem sz3 : szOf Try.prog 3 = some 1 := by kernel_rfl
theorem sz4 : szOf Try.prog 4 = some 1 := by kernel_rfl
theorem sz5 : szOf Try.prog 5 = some 1 := by kernel_rfl
theorem sz23 : szOf Try.prog 23 = some 1 := by kernel_rfl
theorem sz28 : szOf Try.prog 28 = some 1 := by kernel_rfl
theorem sz31 : szOf Try.prog 31 = some 1 := by kernel_rfl
theorem sz32 : szOf Try.prog 32 = some 5 := by kernel_rfl
theorem sz33 : szOf Try.prog 33 = some 10 := by kernel_rfl
theorem sz35 : szOf Try.prog 35 = some 5 := by kernel_rfl
theorem sz38 : szOf Try.prog 38 = some 64 := by kernel_rfl
theorem sz42 : szOf Try.prog 42 = some 3 := by kernel_rfl
theorem sz68 : szOf Try.prog 68 = some 3 := by kernel_rfl
theorem sz74 : szOf Try.prog 74 = some 4 := by kernel_rfl
theorem sz75 : szOf Try.prog 75 = some 1 := by kernel_rfl
theorem sz78 : szOf Try.prog 78 = some 1 := by kernel_rfl
theorem sz79 : szOf Try.prog 79 = some 1 := by kernel_rfl
theorem sz80 : szOf Try.prog 80 = some 1 := by kernel_rfl
theorem sz87 : szOf Try.prog 87 = some 65 := by kernel_rfl
theorem by5 : byOf Try.prog 5 = some 1 := by kernel_rfl
theorem by68 : byOf Try.prog 68 = some 24 := by kernel_rfl
theorem by78 : byOf Try.prog 78 = some 8 := by kernel_rfl
theorem by87 : byOf Try.prog 87 = some 72 := by kernel_rfl
theorem eqg38 : Program.eqGuardType Try.prog Try.prog.depth 38 = false := by kernel_rfl
theorem zr3 : zrOf Try.prog 3 = some (some (.int .i64 0)) := by kernel_rfl
theorem zr5 : zrOf Try.prog 5 = some (some (.int .u8 0)) := by kernel_rfl
theorem zr28 : zrOf Try.prog 28 = some (some (.nilIface)) := by kernel_rfl
theorem zr33 : zrOf Try.prog 33 = some (some (.agg #[.slice none 0 0, .slice none 0 0, .slice none 0 0, .slice none 0 0, .slice none 0 0, .slice none 0 0, .slice none 0 0, .slice none 0 0, .slice none 0 0, .slice none 0 0])) := by kernel_rfl
theorem zr35 : zrOf Try.prog 35 = some (some (.agg #[.int .i64 0, .int .i64 0, .int .i64 0, .int .u8 0, .slice none 0 0])) := by kernel_rfl
theorem zr38 : zrOf Try.prog 38 = some (some (.agg (Array.replicate 64 (.int .u8 0)))) := by kernel_rfl
theorem zr42 : zrOf Try.prog 42 = some (some (.agg #[.int .i64 0, .int .i64 0, .int .i64 0])) := by kernel_rfl
theorem zr68 : zrOf Try.prog 68 = some (some (.agg #[.int .i64 0, .int .i64 0, .int .i64 0])) := by kernel_rfl
theorem zr77 : zrOf Try.prog 77 = some (some (.agg #[.int .i64 0, .int .i64 0, .bool false, .bool false, .slice none 0 0])) := by kernel_rfl
theorem zr78 : zrOf Try.prog 78 = some (some (.pointer none)) := by kernel_rfl
theorem zr82 : zrOf Try.prog 82 = some (some (.agg #[.int .i64 0, .map none, .slice none 0 0])) := by kernel_rfl
theorem zr87 : zrOf Try.prog 87 = some (some (.agg #[.int .i64 0, .int .u8 0, .int .u8 0, .int .u8 0, .int .u8 0, .int .u8 0, .int .u8 0, .int .u8 0, .int .u8 0, .int .u8 0, .int .u8 0, .int .u8 0, .int .u8 0, .int .u8 0, .int .u8 0, .int .u8 0, .int .u8 0, .int .u8 0, .int .u8 0, .int .u8 0, .int .u8 0, .int .u8 0, .int .u8 0, .int .u8 0, .int .u8 0, .int .u8 0, .int .u8 0, .int .u8 0, .int .u8 0, .int .u8 0, .int .u8 0, .int .u8 0, .int .u8 0, .int .u8 0, .int .u8 0, .int .u8 0, .int .u8 0, .int .u8 0, .int .u8 0, .int .u8 0, .int .u8 0, .int .u8 0, .int .u8 0, .int .u8 0, .int .u8 0, .int .u8 0, .int .u8 0, .int .u8 0, .int .u8 0, .int .u8 0, .int .u8 0, .int .u8 0, .int .u8 0, .int .u8 0, .int .u8 0, .int .u8 0, .int .u8 0, .int .u8 0, .int .u8 0, .int .u8 0, .int .u8 0, .int .u8 0, .int .u8 0, .int .u8 0, .int .u8 0])) := by kernel_rfl
theorem fa35_0 (a : Addr) (H : Hp) (K : Value → Hp → Prop) : Lt Try.prog (Instr.fieldAt 35 (.pointer (some a)) 0) H K = K (.pointer (some (a.add 0))) H := by
  have h := @fieldAt_one Try.prog 35 _ 0 _ 1 Try.underlying35 rfl sz3 (by decide) a H K
  exact h
theorem fa35_1 (a : Addr) (H : Hp) (K : Value → Hp → Prop) : Lt Try.prog (Instr.fieldAt 35 (.pointer (some a)) 1) H K = K (.pointer (some (a.add 1))) H := by
  have h := @fieldAt_one Try.prog 35 _ 1 _ 1 Try.underlying35 rfl sz3 (by decide) a H K
  exact h
theorem fa35_2 (a : Addr) (H : Hp) (K : Value → Hp → Prop) : Lt Try.prog (Instr.fieldAt 35 (.pointer (some a)) 2) H K = K (.pointer (some (a.add 2))) H := by
  have h := @fieldAt_one Try.prog 35 _ 2 _ 1 Try.underlying35 rfl sz3 (by decide) a H K
  exact h
theorem fa35_3 (a : Addr) (H : Hp) (K : Value → Hp → Prop) : Lt Try.prog (Instr.fieldAt 35 (.pointer (some a)) 3) H K = K (.pointer (some (a.add 3))) H := by
  have h := @fieldAt_one Try.prog 35 _ 3 _ 1 Try.underlying35 rfl sz5 (by decide) a H K
  exact h
theorem fa35_4 (a : Addr) (H : Hp) (K : Value → Hp → Prop) : Lt Try.prog (Instr.fieldAt 35 (.pointer (some a)) 4) H K = K (.pointer (some (a.add 4))) H := by
  have h := @fieldAt_one Try.prog 35 _ 4 _ 1 Try.underlying35 rfl sz23 (by decide) a H K
  exact h
theorem fa42_2 (a : Addr) (H : Hp) (K : Value → Hp → Prop) : Lt Try.prog (Instr.fieldAt 42 (.pointer (some a)) 2) H K = K (.pointer (some (a.add 2))) H := by
  have h := @fieldAt_one Try.prog 42 _ 2 _ 1 Try.underlying42 rfl sz3 (by decide) a H K
  exact h
theorem fa68_0 (a : Addr) (H : Hp) (K : Value → Hp → Prop) : Lt Try.prog (Instr.fieldAt 68 (.pointer (some a)) 0) H K = K (.pointer (some (a.add 0))) H := by
  have h := @fieldAt_one Try.prog 68 _ 0 _ 1 Try.underlying68 rfl sz3 (by decide) a H K
  exact h
theorem fa68_1 (a : Addr) (H : Hp) (K : Value → Hp → Prop) : Lt Try.prog (Instr.fieldAt 68 (.pointer (some a)) 1) H K = K (.pointer (some (a.add 1))) H := by
  have h := @fieldAt_one Try.prog 68 _ 1 _ 1 Try.underlying68 rfl sz3 (by decide) a H K
  exact h
theorem fa68_2 (a : Addr) (H : Hp) (K : Value → Hp → Prop) : Lt Try.prog (Instr.fieldAt 68 (.pointer (some a)) 2) H K = K (.pointer (some (a.add 2))) H := by
  have h := @fieldAt_one Try.prog 68 _ 2 _ 1 Try.underlying68 rfl sz3 (by decide) a H K
  exact h
theorem fa74_0 (a : Addr) (H : Hp) (K : Value → Hp → Prop) : Lt Try.prog (Instr.fieldAt 74 (.pointer (some a)) 0) H K = K (.pointer (some (a.add 0))) H := by
  have h := @fieldAt_one Try.prog 74 _ 0 _ 1 Try.underlying74 rfl sz3 (by decide) a H K
  exact h
theorem fa74_1 (a : Addr) (H : Hp) (K : Value → Hp → Prop) : Lt Try.prog (Instr.fieldAt 74 (.pointer (some a)) 1) H K = K (.pointer (some (a.add 1))) H := by
  have h := @fieldAt_one Try.prog 74 _ 1 _ 1 Try.underlying74 rfl sz3 (by decide) a H K
  exact h
theorem fa74_2 (a : Addr) (H : Hp) (K : Value → Hp → Prop) : Lt Try.prog (Instr.fieldAt 74 (.pointer (some a)) 2) H K = K (.pointer (some (a.add 2))) H := by
  have h := @fieldAt_one Try.prog 74 _ 2 _ 1 Try.underlying74 rfl sz4 (by decide) a H K
  exact h
theorem fa74_3 (a : Addr) (H : Hp) (K : Value → Hp → Prop) : Lt Try.prog (Instr.fieldAt 74 (.pointer (some a)) 3) H K = K (.pointer (some (a.add 3))) H := by
  have h := @fieldAt_one Try.prog 74 _ 3 _ 1 Try.underlying74 rfl sz4 (by decide) a H K
  exact h
theorem fa77_0 (a : Addr) (H : Hp) (K : Value → Hp → Prop) : Lt Try.prog (Instr.fieldAt 77 (.pointer (some a)) 0) H K = K (.pointer (some (a.add 0))) H := by
  have h := @fieldAt_one Try.prog 77 _ 0 _ 4 Try.underlying77 rfl sz74 (by decide) a H K
  exact h
theorem fa77_1 (a : Addr) (H : Hp) (K : Value → Hp → Prop) : Lt Try.prog (Instr.fieldAt 77 (.pointer (some a)) 1) H K = K (.pointer (some (a.add 4))) H := by
  have h := @fieldAt_one Try.prog 77 _ 1 _ 1 Try.underlying77 rfl sz75 (by decide) a H K
  exact h
theorem fa82_0 (a : Addr) (H : Hp) (K : Value → Hp → Prop) : Lt Try.prog (Instr.fieldAt 82 (.pointer (some a)) 0) H K = K (.pointer (some (a.add 0))) H := by
  have h := @fieldAt_one Try.prog 82 _ 0 _ 1 Try.underlying82 rfl sz3 (by decide) a H K
  exact h
theorem fa82_1 (a : Addr) (H : Hp) (K : Value → Hp → Prop) : Lt Try.prog (Instr.fieldAt 82 (.pointer (some a)) 1) H K = K (.pointer (some (a.add 1))) H := by
  have h := @fieldAt_one Try.prog 82 _ 1 _ 1 Try.underlying82 rfl sz79 (by decide) a H K
  exact h
theorem fa82_2 (a : Addr) (H : Hp) (K : Value → Hp → Prop) : Lt Try.prog (Instr.fieldAt 82 (.pointer (some a)) 2) H K = K (.pointer (some (a.add 2))) H := by
  have h := @fieldAt_one Try.prog 82 _ 2 _ 1 Try.underlying82 rfl sz80 (by decide) a H K
  exact h
theorem fa87_0 (a : Addr) (H : Hp) (K : Value → Hp → Prop) : Lt Try.prog (Instr.fieldAt 87 (.pointer (some a)) 0) H K = K (.pointer (some (a.add 0))) H := by
  have h := @fieldAt_one Try.prog 87 _ 0 _ 1 Try.underlying87 rfl sz3 (by decide) a H K
  exact h
theorem fa87_1 (a : Addr) (H : Hp) (K : Value → Hp → Prop) : Lt Try.prog (Instr.fieldAt 87 (.pointer (some a)) 1) H K = K (.pointer (some (a.add 1))) H := by
  have h := @fieldAt_one Try.prog 87 _ 1 _ 64 Try.underlying87 rfl sz38 (by decide) a H K
  exact h
theorem bp68 (ps : Array (Nat × Value)) (H : Hp) (K : Value → Hp → Prop) : Lt Try.prog (Instr.build 68 ps) H K = orF (Instr.fill (#[(0, 1), (1, 1), (2, 1)][·]?) #[.int .i64 0, .int .i64 0, .int .i64 0] ps.toList) (fun c => K (.agg c) H) := by
  simp only [Instr.build, l_bind, l_zero, zr68, orF_some, l_und, Try.underlying68]
  simp [l_bind, l_pure, l_size, sz3, orF_some, l_map, Value.cells]
  cases Instr.fill _ _ _ <;> rfl
theorem bp77 (ps : Array (Nat × Value)) (H : Hp) (K : Value → Hp → Prop) : Lt Try.prog (Instr.build 77 ps) H K = orF (Instr.fill (#[(0, 4), (4, 1)][·]?) #[.int .i64 0, .int .i64 0, .bool false, .bool false, .slice none 0 0] ps.toList) (fun c => K (.agg c) H) := by
  simp only [Instr.build, l_bind, l_zero, zr77, orF_some, l_und, Try.underlying77]
  simp [l_bind, l_pure, l_size, sz74, sz75, orF_some, l_map, Value.cells]
  cases Instr.fill _ _ _ <;> rfl
theorem bp82 (ps : Array (Nat × Value)) (H : Hp) (K : Value → Hp → Prop) : Lt Try.prog (Instr.build 82 ps) H K = orF (Instr.fill (#[(0, 1), (1, 1), (2, 1)][·]?) #[.int .i64 0, .map none, .slice none 0 0] ps.toList) (fun c => K (.agg c) H) := by
  simp only [Instr.build, l_bind, l_zero, zr82, orF_some, l_und, Try.underlying82]
  simp [l_bind, l_pure, l_size, sz3, sz79, sz80, orF_some, l_map, Value.cells]
  cases Instr.fill _ _ _ <;> rfl
theorem bp87 (ps : Array (Nat × Value)) (H : Hp) (K : Value → Hp → Prop) : Lt Try.prog (Instr.build 87 ps) H K = orF (Instr.fill (#[(0, 1), (1, 64)][·]?) #[.int .i64 0, .int .u8 0, .int .u8 0, .int .u8 0, .int .u8 0, .int .u8 0, .int .u8 0, .int .u8 0, .int .u8 0, .int .u8 0, .int .u8 0, .int .u8 0, .int .u8 0, .int .u8 0, .int .u8 0, .int .u8 0, .int .u8 0, .int .u8 0, .int .u8 0, .int .u8 0, .int .u8 0, .int .u8 0, .int .u8 0, .int .u8 0, .int .u8 0, .int .u8 0, .int .u8 0, .int .u8 0, .int .u8 0, .int .u8 0, .int .u8 0, .int .u8 0, .int .u8 0, .int .u8 0, .int .u8 0, .int .u8 0, .int .u8 0, .int .u8 0, .int .u8 0, .int .u8 0, .int .u8 0, .int .u8 0, .int .u8 0, .int .u8 0, .int .u8 0, .int .u8 0, .int .u8 0, .int .u8 0, .int .u8 0, .int .u8 0, .int .u8 0, .int .u8 0, .int .u8 0, .int .u8 0, .int .u8 0, .int .u8 0, .int .u8 0, .int .u8 0, .int .u8 0, .int .u8 0, .int .u8 0, .int .u8 0, .int .u8 0, .int .u8 0, .int .u8 0] ps.toList) (fun c => K (.agg c) H) := by
  simp only [Instr.build, l_bind, l_zero, zr87, orF_some, l_und, Try.underlying87]
  simp [l_bind, l_pure, l_size, sz3, sz38, orF_some, l_map, Value.cells]
  cases Instr.fill _ _ _ <;> rfl
theorem bd8 : bodied Try.prog 8 = true := by kernel_rfl
theorem bd9 : bodied Try.prog 9 = true := by kernel_rfl
theorem bd10 : bodied Try.prog 10 = true := by kernel_rfl
theorem bd11 : bodied Try.prog 11 = true := by kernel_rfl
theorem bd12 : bodied Try.prog 12 = true := by kernel_rfl
theorem bd13 : bodied Try.prog 13 = true := by kernel_rfl
theorem bd14 : bodied Try.prog 14 = true := by kernel_rfl
theorem bd15 : bodied Try.prog 15 = true := by kernel_rfl
theorem bd16 : bodied Try.prog 16 = true := by kernel_rfl
theorem bd17 : bodied Try.prog 17 = true := by kernel_rfl
theorem bd18 : bodied Try.prog 18 = true := by kernel_rfl
theorem bd19 : bodied Try.prog 19 = true := by kernel_rfl
theorem bd21 : bodied Try.prog 21 = true := by kernel_rfl
theorem bd24 : bodied Try.prog 24 = true := by kernel_rfl
theorem bd30 : bodied Try.prog 30 = true := by kernel_rfl
theorem bd31 : bodied Try.prog 31 = true := by kernel_rfl
theorem bd32 : bodied Try.prog 32 = true := by kernel_rfl
theorem bd33 : bodied Try.prog 33 = true := by kernel_rfl
theorem bd34 : bodied Try.prog 34 = true := by kernel_rfl
theorem bd35 : bodied Try.prog 35 = true := by kernel_rfl
theorem bd36 : bodied Try.prog 36 = true := by kernel_rfl
theorem bd37 : bodied Try.prog 37 = true := by kernel_rfl
theorem bd38 : bodied Try.prog 38 = true := by kernel_rfl
theorem bd45 : bodied Try.prog 45 = true := by kernel_rfl
end Go.Proofs.Ytkmjncmdhinlgaa.HL
end
section
namespace Go.Proofs.Ytkmjncmdhinlgaa.HL
open Go
/-- From H to H' all known blocks outside S stand; the blocks of S' are of S, or were not known. -/
def Frm (H : Hp) (S : Nat → Prop) (H' : Hp) (S' : Nat → Prop) : Prop := (∀ b o, H b = some o → ¬ S b → H' b = some o) ∧ ∀ b, S' b → S b ∨ H b = none
theorem Frm.refl (H : Hp) (S : Nat → Prop) : Frm H S H S := ⟨fun _ _ h _ => h, fun _ h => .inl h⟩
theorem Frm.trans {H H1 H2 : Hp} {S S1 S2 : Nat → Prop} (h1 : Frm H S H1 S1) (h2 : Frm H1 S1 H2 S2) : Frm H S H2 S2 := by
  refine ⟨fun b o hb hn => ?_, fun b hb => ?_⟩
  · refine h2.1 b o (h1.1 b o hb hn) fun hs => ?_
    rcases h1.2 b hs with h | h
    · exact hn h
    · rw [h] at hb; cases hb
  · rcases h2.2 b hb with h | h
    · exact h1.2 b h
    · by_cases hs : S b
      · exact .inl hs
      · right
        cases ho : H b with
        | none => rfl
        | some o => rw [h1.1 b o ho hs] at h; cases h
theorem Frm.new {H H1 : Hp} {S S1 : Nat → Prop} (h : Frm H S H1 S1) {b : Nat} {o : Obj} (hb : H1 b = none) : Frm H S (H1.upd b o) S1 := by
  refine ⟨fun x o' hx hn => ?_, h.2⟩
  have := h.1 x o' hx hn
  rw [upd_ne _ _ (by intro e; subst e; rw [this] at hb; cases hb)]; exact this
theorem Frm.le {H0 H H' : Hp} {S S' : Nat → Prop} (h : Frm H S H' S') (hl : Le H0 H) (hs : ∀ b, S b → H0 b = none) : Le H0 H' := fun b o hb =>
  h.1 b o (hl b o hb) fun hS => by rw [hs b hS] at hb; cases hb
theorem Frm.sep {H0 H H' : Hp} {S S' : Nat → Prop} (h : Frm H S H' S') (hl : Le H0 H) (hs : ∀ b, S b → H0 b = none) : ∀ b, S' b → H0 b = none := fun b hb => by
  rcases h.2 b hb with h1 | h1
  · exact hs b h1
  · exact none_of_le hl h1
theorem Frm.stay {H H' : Hp} {S S' T : Nat → Prop} (h : Frm H S H' S') (hd : ∀ b, T b → ¬ S b) : ∀ b o, T b → H b = some o → H' b = some o := fun b o hb ho => h.1 b o ho (hd b hb)
theorem Frm.of_le {H H' : Hp} (S : Nat → Prop) (h : Le H H') : Frm H S H' S := ⟨fun b o hb _ => h b o hb, fun _ hb => .inl hb⟩
theorem OwnS.stay {H H' : Hp} {E : TypeId} {w : Nat} {v : Value} {n : Nat} {cs : List Value} {rs : Option Nat} (h : OwnS H E w v n cs rs) (k : ∀ b o, rs = some b → H b = some o → H' b = some o) : OwnS H' E w v n cs rs := by
  obtain ⟨h1, h2⟩ := h
  refine ⟨h1, h2.imp id ?_⟩
  rintro ⟨r, cap, c, h3, h4, h5, h6, h7, h8⟩
  exact ⟨r, cap, c, h3, k r _ h8 h4, h5, h6, h7, h8⟩
theorem OwnS.known {H : Hp} {E : TypeId} {w : Nat} {v : Value} {n : Nat} {cs : List Value} {rs : Option Nat} (h : OwnS H E w v n cs rs) : ∀ b, rs = some b → H b ≠ none := by
  obtain ⟨_, ⟨_, _, h3⟩ | ⟨r, cap, c, _, h4, _, _, _, h8⟩⟩ := h
  · intro b hb; rw [h3] at hb; cases hb
  · intro b hb; rw [h8] at hb; cases hb; rw [h4]; simp
theorem Grow.known {H H' : Hp} {rs : Option Nat} (h : Grow H rs H') : ∀ b o, H b = some o → rs ≠ some b → H' b = some o := by
  intro b o hb hn
  rcases h with rfl | ⟨r, o', hr, rfl⟩
  · exact hb
  · rw [upd_ne]
    · exact hb
    · intro e; subst e
      rcases hr with hr | hr
      · exact hn hr
      · rw [hr] at hb; cases hb
end Go.Proofs.Ytkmjncmdhinlgaa.HL
namespace Go.Proofs.Ytkmjncmdhinlgaa.HL
open Go
theorem OwnS.set {H : Hp} {E : TypeId} {k : IntKind} {r n cap : Nat} {l : List Int} {c : Array Value} (h : OwnS H E 1 (.slice (some ⟨r, 0, none⟩) n cap) n (l.map (Value.int k ·)) (some r)) (hc : H r = some (.cells c E)) (i : Nat) (hi : i < n) (y : Int) : OwnS (H.upd r (.cells (c.setIfInBounds i (.int k y)) E)) E 1 (.slice (some ⟨r, 0, none⟩) n cap) n ((l.set i y).map (Value.int k ·)) (some r) := by
  obtain ⟨h1, ⟨h2, _, _⟩ | ⟨r', cap', c', h3, h4, h5, h6, h7, h8⟩⟩ := h
  · cases h2
  · cases h3
    rw [hc] at h4; cases h4
    refine ⟨by simpa using h1, .inr ⟨r, cap, _, rfl, upd_same _ _ _, h5, by simpa using h6, ?_, rfl⟩⟩
    have e : (l.set i y).map (Value.int k ·) = (l.map (Value.int k ·)).set i (.int k y) := by rw [List.map_set]
    rw [e, ← h7]
    simp only [Array.toList_extract, List.extract_eq_take_drop, Array.toList_setIfInBounds, List.drop_zero, Nat.sub_zero, List.take_set]
end Go.Proofs.Ytkmjncmdhinlgaa.HL
end
section
namespace Go.Proofs.Ytkmjncmdhinlgaa.HL
open Go
set_option linter.unusedSimpArgs false
/-- A value of one type, or nil. -/
def ifV (T : TypeId) : Option Value → Value
  | none => .nilIface
  | some v => .iface T v
end Go.Proofs.Ytkmjncmdhinlgaa.HL
end
section
namespace Go.Proofs.Ytkmjncmdhinlgaa.HL
open Go
/-! ### two heaps side by side -/
def Hp.join (H F : Hp) : Hp := fun b => match H b with | some o => some o | none => F b
def Hp.apart (H F : Hp) : Prop := ∀ b, F b ≠ none → H b = none
theorem join_l {H F : Hp} {b : Nat} {o : Obj} (h : H b = some o) : H.join F b = some o := by simp [Hp.join, h]
theorem join_r {H F : Hp} {b : Nat} (h : H b = none) : H.join F b = F b := by simp [Hp.join, h]
theorem le_join (H F : Hp) : Le H (H.join F) := fun _ _ h => join_l h
theorem le_join_r {H F : Hp} (h : H.apart F) : Le F (H.join F) := fun b o hb => by
  rw [join_r (h b (by rw [hb]; simp))]; exact hb
theorem upd_join (H F : Hp) (b : Nat) (o : Obj) : (H.join F).upd b o = (H.upd b o).join F := by
  funext x
  by_cases e : x = b
  · subst e; simp [Hp.upd, Hp.join]
  · simp [Hp.upd, Hp.join, e]
theorem join_none {H F : Hp} {b : Nat} (h : H.join F b = none) : H b = none ∧ F b = none := by
  unfold Hp.join at h
  cases hh : H b with
  | some o => rw [hh] at h; cases h
  | none => rw [hh] at h; exact ⟨rfl, h⟩
theorem apart_known {H F : Hp} (h : H.apart F) {b : Nat} {o : Obj} (hb : H b = some o) : F b = none := by
  cases hf : F b with
  | none => rfl
  | some x => rw [h b (by rw [hf]; simp)] at hb; cases hb
theorem apart_upd {H F : Hp} (h : H.apart F) {b : Nat} (hb : F b = none) (o : Obj) : (H.upd b o).apart F := fun x hx => by
  rw [upd_ne _ _ (by intro e; subst e; exact hx hb)]; exact h x hx
theorem cell_join {H F : Hp} {a : Addr} {v : Value} (h : H.cell a = some v) : (H.join F).cell a = some v := by
  unfold Hp.cell at *
  cases hh : H a.block with
  | none => rw [hh] at h; cases h
  | some o => rw [hh] at h; rw [join_l hh]; exact h
theorem Ext.join {H H' F : Hp} {w w' : World} (hs : Sub (H.join F) w) (hd : H.apart F) (hx : Ext H w H' w') : H'.apart F ∧ Ext (H.join F) w (H'.join F) w' := by
  have hlt : ∀ b, F b ≠ none → b < w.heap.size := fun b hb => by
    cases hf : F b with
    | none => exact absurd hf hb
    | some o => exact hs.lt (le_join_r hd b o hf)
  have hd' : H'.apart F := fun b hb => by
    cases hc : H' b with
    | none => rfl
    | some x =>
      rcases hx.dom b (by rw [hc]; simp) with h | h
      · exact absurd (hd b hb) h
      · have := hlt b hb; omega
  refine ⟨hd', ⟨fun b o hb => ?_, hx.size, fun b hb hbn => hx.same b hb (join_none hbn).1, fun b hb => ?_, hx.os, hx.output, hx.tape⟩⟩
  · cases hc : H' b with
    | some x => rw [join_l hc] at hb; cases hb; exact hx.sub b _ hc
    | none =>
      rw [join_r hc] at hb
      have hn : F b ≠ none := by rw [hb]; simp
      rw [hx.same b (hlt b hn) (hd b hn)]
      exact hs b o (by rw [join_r (hd b hn)]; exact hb)
  · cases hc : H' b with
    | some x =>
      rcases hx.dom b (by rw [hc]; simp) with h | h
      · left
        cases hh : H b with
        | none => exact absurd hh h
        | some o => rw [join_l hh]; simp
      · exact .inr h
    | none =>
      rw [join_r hc] at hb
      left; rw [join_r (hd b hb)]; exact hb
theorem Lt_join {P : Program} {α : Type} (s : Sem α) {F : Hp} : ∀ {H : Hp} {K : α → Hp → Prop}, Lt P s H K → H.apart F → Lt P s (H.join F) (fun x H1 => ∃ H', H1 = H'.join F ∧ H'.apart F ∧ K x H') := by
  induction s with
  | pure a => exact fun h hr => ⟨_, rfl, hr, h⟩
  | load m a k ih => intro H K ⟨v, h1, h2⟩ hr; exact ⟨v, cell_join h1, ih _ h2 hr⟩
  | store m a v k ih =>
    intro H K ⟨o', h1, h2, h3, h4, h5⟩ hr
    refine ⟨o', join_l h1, h2, ?_, h4, ?_⟩
    · cases hc : H.cell a with
      | none => exact absurd hc h3
      | some u => rw [cell_join hc]; simp
    · rw [upd_join]; exact ih h5 (apart_upd hr (apart_known hr h1) _)
  | new o' k ih =>
    intro H K h hr r' hr'
    obtain ⟨h1, h2⟩ := join_none hr'
    rw [upd_join]; exact ih _ (h r' h1) (apart_upd hr h2 _)
  | shape r' k ih => intro H K ⟨o', h1, h2⟩ hr; exact ⟨o', join_l h1, ih _ h2 hr⟩
  | freeze a n k ih =>
    intro H K h hr
    rcases h with ⟨h1, h2⟩ | ⟨h1, o', h2, h3⟩
    · exact .inl ⟨h1, ih h2 hr⟩
    · refine .inr ⟨h1, o', join_l h2, ?_⟩
      rw [upd_join]; exact ih h3 (apart_upd hr (apart_known hr h2) _)
  | frozen a k ih => intro H K ⟨o', h1, h2⟩ hr; exact ⟨o', join_l h1, ih _ h2 hr⟩
  | getObj r' k ih => intro H K ⟨o', h1, h2, h3⟩ hr; exact ⟨o', join_l h1, h2, ih _ h3 hr⟩
  | setObj r' o' k ih =>
    intro H K ⟨o0, h1, h2, h3⟩ hr
    refine ⟨o0, join_l h1, h2, ?_⟩
    rw [upd_join]; exact ih h3 (apart_upd hr (apart_known hr h1) _)
  | choose q k ih => exact fun h hr => ⟨fun hf => ih _ (h.1 hf) hr, fun hf t => ih _ (h.2 hf t) hr⟩
  | sys c k ih => exact fun h _ => h.elim
  | program k ih => exact fun h hr => ih _ h hr
  | mark m k ih => exact fun h hr => ih h hr
  | halt h' => exact fun h _ => h.elim
theorem NextH_join {P : Program} {nx : Next} {H F : Hp} {R : Value → Hp → Prop} (h : NextH P nx H R) (hd : H.apart F) : NextH P nx (H.join F) (fun v H1 => ∃ H', H1 = H'.join F ∧ H'.apart F ∧ R v H') := by
  cases nx <;> simp only [NextH] at * <;> first
    | exact ⟨_, rfl, hd, h⟩
    | exact fun w hs => (h w (hs.le (le_join H F))).mono fun _ _ ⟨v, he, H', hR, hx⟩ => ⟨v, he, H'.join F, ⟨H', rfl, (hx.join hs hd).1, hR⟩, (hx.join hs hd).2⟩
    | exact fun w hs => (h w (hs.le (le_join H F))).mono fun v w' ⟨H', hR, hx⟩ => ⟨H'.join F, ⟨H', rfl, (hx.join hs hd).1, hR⟩, (hx.join hs hd).2⟩
    | exact h.elim
theorem ValH_join {P : Program} {g : Value} {args : Array Value} {H F : Hp} {R : Value → Hp → Prop} (h : ValH P g args H R) (hd : H.apart F) : ValH P g args (H.join F) (fun v H1 => ∃ H', H1 = H'.join F ∧ H'.apart F ∧ R v H') := by
  unfold ValH at *
  refine Lt_mono _ _ (Lt_join _ h hd) ?_
  rintro nx H1 ⟨H', rfl, hd', hn⟩
  exact NextH_join hn hd'
theorem ValH.mono {P : Program} {g : Value} {args : Array Value} {H : Hp} {R R' : Value → Hp → Prop} (h : ValH P g args H R) (hr : ∀ v H', R v H' → R' v H') : ValH P g args H R' :=
  Lt_mono _ _ h fun _ _ hn => hn.mono hr
/-- What is left of a heap beside another one. -/
def Hp.less (K H : Hp) : Hp := fun b => match H b with | some _ => none | none => K b
theorem less_apart (K H : Hp) : H.apart (K.less H) := fun b hb => by
  unfold Hp.less at hb
  cases h : H b with
  | none => rfl
  | some o => rw [h] at hb; exact absurd rfl hb
theorem less_none {K H : Hp} {b : Nat} (h : H b = none) : K.less H b = K b := by simp [Hp.less, h]
theorem join_less {K H : Hp} (h : Le H K) : H.join (K.less H) = K := by
  funext b
  cases hb : H b with
  | some o => rw [join_l hb, h b o hb]
  | none => rw [join_r hb, less_none hb]
/-- A function value is called on a heap that holds more: what is more stays. -/
theorem ValH.use {P : Program} {g : Value} {args : Array Value} {H K : Hp} {R : Value → Hp → Prop} (h : ValH P g args H R) (hl : Le H K) :
    ValH P g args K (fun v K' => ∃ H', R v H' ∧ Le H' K' ∧ ∀ b o, K b = some o → H b = none → K' b = some o ∧ H' b = none) := by
  have := ValH_join h (less_apart K H)
  rw [join_less hl] at this
  refine this.mono ?_
  rintro v K' ⟨H', rfl, hd, hR⟩
  refine ⟨H', hR, le_join _ _, fun b o hb hn => ?_⟩
  have h1 : K.less H b = some o := by rw [less_none hn]; exact hb
  have h2 : H' b = none := hd b (by rw [h1]; simp)
  exact ⟨by rw [join_r h2]; exact h1, h2⟩
theorem CallH.use {P : Program} {f : FuncId} {args : Array Value} {H K : Hp} {R : Value → Hp → Prop} (h : CallH P f args H R) (hl : Le H K) :
    CallH P f args K (fun v K' => ∃ H', R v H' ∧ Le H' K' ∧ ∀ b o, K b = some o → H b = none → K' b = some o ∧ H' b = none) := by
  have := NextH_join (nx := .enter f args) h (less_apart K H)
  rw [join_less hl] at this
  refine CallH.mono this ?_
  rintro v K' ⟨H', rfl, hd, hR⟩
  refine ⟨H', hR, le_join _ _, fun b o hb hn => ?_⟩
  have h1 : K.less H b = some o := by rw [less_none hn]; exact hb
  have h2 : H' b = none := hd b (by rw [h1]; simp)
  exact ⟨by rw [join_r h2]; exact h1, h2⟩
/-- What a function value that is ranged over does: it calls its yield function n times, each time with what T tells (the arguments, and new blocks that are handed over with them), and ends; or it ends behind a call that answered false. It looks at H0. -/
def Iter (P : Program) (g : Value) (H0 : Hp) (n : Nat) (T : Nat → List Value → Hp → Prop) : Prop :=
  ∀ (yf : Fn) (ya yb : Array Value) (J : Nat → Hp → Prop) (S : Hp → Prop) (H : Hp), (∀ i H, J i H → Le H0 H) →
    (∀ i, i < n → ∀ H, J i H → ∀ args F, T i args F → H.apart F → ValH P (.func yf ya yb) args.toArray (H.join F) (fun v H2 => ∃ H3, Le H3 H2 ∧ ((v = .bool true ∧ J (i + 1) H3) ∨ (v = .bool false ∧ S H3)))) →
    J 0 H → ValH P g #[.func yf ya yb] H (fun _ H2 => ∃ H3, Le H3 H2 ∧ (J n H3 ∨ S H3))
/-- A list of arguments, no new blocks. -/
def Tpure (xs : Nat → List Value) : Nat → List Value → Hp → Prop := fun i args F => args = xs i ∧ F = emptyHp
theorem join_empty (H : Hp) : H.join emptyHp = H := by
  funext b; unfold Hp.join; cases H b <;> rfl
theorem apart_empty (H : Hp) : H.apart emptyHp := fun _ h => absurd rfl h

def putAll (e : Env) : List (Nat × Value) → Env
  | [] => e
  | (t, v) :: r => putAll (e.put t v) r
theorem Lt_yield {P : Program} {l : Nat} {lp : Loop} {args : Array Value} {H : Hp} {K : Next → Hp → Prop} (h : H l = some (.loop lp)) (hn : args.size = lp.params.size)
    (hK : K (.round l lp.fn ((lp.params.zip args).foldl (fun tmps (t, a) => tmps.setIfInBounds t a) lp.tmps) lp.assign lp.body) H) : Lt P (Instr.yield l args) H K := by
  simp only [Instr.yield, Instr.getLoop, l_bind]
  refine ⟨_, h, rfl, ?_⟩
  simp only [l_pure', l_pure, hn, ne_eq, not_true, if_false]
  exact hK
theorem Rel.putAll {n B : Nat} {w : World} {H : Hp} {d : List Deferred} : ∀ {l : List (Nat × Value)} {e : Env} {tmps : Array Value}, Rel n B e { tmps, defers := d } w H → (∀ p ∈ l, p.1 < n) → Rel n B (HL.putAll e l) { tmps := l.foldl (fun tmps (t, a) => tmps.setIfInBounds t a) tmps, defers := d } w H
  | [], _, _, h, _ => h
  | (t, v) :: r, e, tmps, h, hl => by
    have h1 := h.put (d := some t) (fun u hu => by cases hu; exact hl (t, v) (by simp)) v
    exact Rel.putAll (l := r) h1 (fun p hp => hl p (by simp [hp]))

theorem CW_rangeFunc {P : Program} {n : Nat} {Q : Ex → Env → Hp → Prop} {e : Env} {H : Hp} {g : Operand} {params : Array Tmp} {assign body : Code} {gv : Value} (hg : ∀ r, ev e r g = gv)
    {H0 : Hp} {N : Nat} {T : Nat → List Value → Hp → Prop} (hit : Iter P gv H0 N T) (J : Nat → Hp → Prop) (hle : ∀ i H', J i H' → Le H0 H') (h0 : J 0 H) (hp : ∀ p ∈ params.toList, p < n)
    (round : ∀ l i, i < N → ∀ H', J i H' → ∀ args F, T i args F → H'.apart F → args.length = params.size ∧
      CW P n (some l) assign (fun x e1 H1 => x = .normal ∧ CW P n (some l) body (fun x e2 H2 => match x with | .normal => J (i + 1) H2 | x => Q x e H2) e1 H1) (putAll e (params.toList.zip args)) (H'.join F))
    (hend : ∀ H', J N H' → Q .normal e H') : CW P n none (.rangeFunc g params assign body) Q e H := by
  intro B a w hr hs
  refine CR_rangeFunc (fun fn => ?_)
  obtain ⟨l, hl⟩ : ∃ l, l = w.heap.size + 1 := ⟨_, rfl⟩
  obtain ⟨lp, hlp⟩ : ∃ lp, lp = loopObj fn a.tmps params assign body w.heap.size := ⟨_, rfl⟩
  obtain ⟨w2, hw2⟩ : ∃ w2, w2 = pushLoop w fn a params assign body := ⟨_, rfl⟩
  have hsz : w2.heap.size = w.heap.size + 2 := by rw [hw2]; simp [pushLoop]
  have hwl : w2.heap[l]? = some (.loop lp) := by
    rw [hw2, hl, hlp]
    simp only [pushLoop]
    have : w.heap.size + 1 = (w.heap.push (.deferred (some []))).size := by simp
    rw [this, Array.getElem?_push_size]
  have hwr : w2.heap[w.heap.size]? = some (.deferred (some [])) := by
    rw [hw2]
    simp only [pushLoop]
    rw [Array.getElem?_push_lt (by simp), Array.getElem_push_eq]
  have hwo : ∀ b, b < w.heap.size → w2.heap[b]? = w.heap[b]? := fun b hb => by
    rw [hw2]
    simp only [pushLoop]
    rw [Array.getElem?_push_lt (by simp; omega), Array.getElem_push_lt hb, Array.getElem?_eq_getElem hb]
  have hHn : ∀ b, w.heap.size ≤ b → H b = none := fun b hb => by
    cases hc : H b with
    | none => rfl
    | some o => have := hs.lt hc; omega
  have hHl : H l = none := hHn l (by omega)
  have hHr : H w.heap.size = none := hHn _ (Nat.le_refl _)
  have hne : w.heap.size ≠ l := by omega
  have hs2 : Sub (H.upd l (.loop lp)) w2 := fun b o hb => by
    by_cases ee : b = l
    · subst ee; rw [upd_same] at hb; cases hb; exact hwl
    · rw [upd_ne _ _ ee] at hb; rw [hwo b (hs.lt hb)]; exact hs b o hb
  have hx2 : w2.os = w.os ∧ w2.output = w.output ∧ w2.tape = w.tape := by rw [hw2]; exact ⟨rfl, rfl, rfl⟩
  have key := hit (.yield l) #[] #[] (fun i HH => ∃ HJ, HH = HJ.upd l (.loop lp) ∧ HJ l = none ∧ J i HJ)
    (fun HH => ∃ HJ x, HH = HJ.upd l (.loop { lp with state := .done, pending := Ex.jump x }) ∧ x ≠ .normal ∧ HJ l = none ∧ Q x e HJ)
    (H.upd l (.loop lp)) (by
      rintro i _ ⟨HJ, rfl, hn, hj⟩
      exact le_upd_of (hle i HJ hj) (none_of_le (hle i HJ hj) hn))
    (by
      rintro i hi _ ⟨HJ, rfl, hn, hj⟩ args F hT hd
      have hFl : F l = none := apart_known hd (upd_same _ _ _)
      have hdJ : HJ.apart F := fun b hb => by
        have := hd b hb
        by_cases ee : b = l
        · subst ee; exact hn
        · rwa [upd_ne _ _ ee] at this
      obtain ⟨hlen, hcw⟩ := round l i hi HJ hj args F hT hdJ
      rw [← upd_join]
      have hjn : (HJ.join F) l = none := by rw [join_r hn]; exact hFl
      show Lt P (Instr.yield l (#[] ++ args.toArray)) _ _
      refine Lt_yield (upd_same _ _ _) (by simp [hlen, hlp, loopObj]) ?_
      simp only [NextH]
      intro w5 hs5
      have hs5' : Sub (HJ.join F) w5 := fun b o hb => hs5 b o (by rw [upd_ne _ _ (by intro ee; subst ee; rw [hjn] at hb; cases hb)]; exact hb)
      have hl5 : w5.heap[l]? = some (.loop lp) := hs5 l _ (upd_same _ _ _)
      have hlt5 : l < w5.heap.size := hs5.lt (upd_same _ _ _)
      refine round_of_CR ?_
      rw [show lp.assign = assign from by rw [hlp]; rfl, show lp.body = body from by rw [hlp]; rfl]
      have hrel : Rel n 0 (putAll e (params.toList.zip args)) { tmps := (lp.params.zip (#[] ++ args.toArray)).foldl (fun tmps (t, a) => tmps.setIfInBounds t a) lp.tmps, defers := [] } w5 (HJ.join F) := by
        have h1 : Rel n 0 e { tmps := lp.tmps, defers := [] } w5 (HJ.join F) := ⟨Nat.zero_le _, by rw [hlp]; exact hr.size, by rw [hlp]; exact hr.tmps, [], rfl, .nil, fun _ h => by cases h⟩
        have h2 := Rel.putAll (l := params.toList.zip args) h1 (fun p hpp => hp p.1 (List.of_mem_zip hpp).1)
        have h3 : (lp.params.zip (#[] ++ args.toArray)).foldl (fun tmps (t, a) => tmps.setIfInBounds t a) lp.tmps = (params.toList.zip args).foldl (fun tmps (t, a) => tmps.setIfInBounds t a) lp.tmps := by
          rw [← Array.foldl_toList]; simp [hlp, loopObj]
        rw [h3]; exact h2
      refine (hcw 0 _ w5 hrel hs5').mono ?_
      rintro x a1 w6 ⟨e1, H6, ⟨rfl, hbody⟩, hr6, hx6⟩
      have hH6 : H6 l = none := by
        cases hc : H6 l with
        | none => rfl
        | some o =>
          rcases hx6.dom l (by rw [hc]; simp) with h | h
          · exact absurd hjn h
          · omega
      have hl6 : w6.heap[l]? = some (.loop lp) := by rw [hx6.same l hlt5 hjn]; exact hl5
      refine ⟨lp, hl6, by rw [hlp]; rfl, ?_⟩
      have hset : ∀ (w : World) (HH : Hp) (q : Loop), HH l = none → Sub HH w → Sub HH (setLoop w l q) := fun w HH q hq hsw b o hb => by
        have : b ≠ l := fun ee => by subst ee; rw [hq] at hb; cases hb
        simp only [setLoop]
        rw [Array.getElem?_setIfInBounds_ne (Ne.symm this)]; exact hsw b o hb
      have hr7 : Rel n 0 e1 a1 (setLoop w6 l { lp with state := .busy }) H6 := by
        refine ⟨Nat.zero_le _, hr6.size, hr6.tmps, ?_⟩
        obtain ⟨rs, m1, m2, m3⟩ := hr6.marks
        refine ⟨rs, m1, m2, fun r hrr => ⟨?_, (m3 r hrr).2⟩⟩
        have : r ≠ l := fun ee => by subst ee; rw [(m3 r hrr).1] at hl6; cases hl6
        simp only [setLoop]
        rw [Array.getElem?_setIfInBounds_ne (Ne.symm this)]; exact (m3 r hrr).1
      refine (hbody 0 a1 _ hr7 (hset w6 H6 _ hH6 hx6.sub)).mono ?_
      rintro x a2 w8 ⟨e2, H8, hq8, hr8, hx8⟩
      have hlt6 : l < (setLoop w6 l { lp with state := .busy }).heap.size := by
        simp only [setLoop, Array.size_setIfInBounds]; exact Nat.lt_of_lt_of_le hlt5 hx6.size
      have hl8 : w8.heap[l]? = some (.loop { lp with state := .busy }) := by
        rw [hx8.same l hlt6 hH6]
        simp only [setLoop]
        rw [Array.getElem?_setIfInBounds_self_of_lt (by simpa [setLoop] using hlt6)]
      have hH8 : H8 l = none := by
        cases hc : H8 l with
        | none => rfl
        | some o =>
          rcases hx8.dom l (by rw [hc]; simp) with h | h
          · exact absurd hH6 h
          · omega
      refine ⟨{ lp with state := .busy }, hl8, ?_⟩
      have hextw : Ext ((HJ.join F).upd l (.loop lp)) w5 (H8.upd l (.loop (afterRound { lp with state := .busy } x))) (setLoop w8 l (afterRound { lp with state := .busy } x)) := by
        refine ⟨fun b o hb => ?_, ?_, fun b hb hbn => ?_, fun b hb => ?_, ?_, ?_, ?_⟩
        · by_cases ee : b = l
          · subst ee
            rw [upd_same] at hb; cases hb
            simp only [setLoop]
            rw [Array.getElem?_setIfInBounds_self_of_lt (Nat.lt_of_lt_of_le hlt6 hx8.size)]
          · rw [upd_ne _ _ ee] at hb
            simp only [setLoop]
            rw [Array.getElem?_setIfInBounds_ne (Ne.symm ee)]; exact hx8.sub b o hb
        · have h1 := hx6.size
          have h2 := hx8.size
          simp only [setLoop, Array.size_setIfInBounds] at h2 ⊢; omega
        · have ee : b ≠ l := fun ee => by subst ee; rw [upd_same] at hbn; cases hbn
          rw [upd_ne _ _ ee] at hbn
          have h6n : H6 b = none := by
            cases hc : H6 b with
            | none => rfl
            | some o =>
              rcases hx6.dom b (by rw [hc]; simp) with h | h
              · exact absurd hbn h
              · omega
          have hb6 : b < (setLoop w6 l { lp with state := .busy }).heap.size := by
            simp only [setLoop, Array.size_setIfInBounds]; exact Nat.lt_of_lt_of_le hb hx6.size
          have h1 := hx8.same b hb6 h6n
          simp only [setLoop] at h1 ⊢
          rw [Array.getElem?_setIfInBounds_ne (Ne.symm ee)] at h1 ⊢
          rw [h1, hx6.same b hb hbn]
        · by_cases ee : b = l
          · subst ee; left; rw [upd_same]; simp
          · rw [upd_ne _ _ ee] at hb ⊢
            rcases hx8.dom b hb with h | h
            · exact hx6.dom b h
            · right
              have := hx6.size
              simp only [setLoop, Array.size_setIfInBounds] at h; omega
        · exact hx8.os.trans hx6.os
        · exact hx8.output.trans hx6.output
        · exact hx8.tape.trans hx6.tape
      refine ⟨H8.upd l (.loop (afterRound { lp with state := .busy } x)), ⟨_, Le.refl _, ?_⟩, hextw⟩
      cases x with
      | normal =>
        refine .inl ⟨rfl, H8, ?_, hH8, hq8⟩
        rw [hlp]; rfl
      | exit id => exact .inr ⟨rfl, H8, .exit id, by rw [hlp]; rfl, by simp, hH8, hq8⟩
      | ret => exact .inr ⟨rfl, H8, .ret, by rw [hlp]; rfl, by simp, hH8, hq8⟩)
    ⟨H, rfl, hHl, h0⟩
  obtain ⟨nx, w3, H3, hrun, hn, hx⟩ := Lt_sound _ _ _ w2 key hs2
  have hev : a.eval g = gv := by rw [hr.ev]; exact hg _
  refine ⟨nx, w3, by rw [hev, ← hl, ← hw2]; exact hrun, (hn.sound hx.sub).mono ?_⟩
  rintro v w4 ⟨H4, ⟨H5, hle5, hJS⟩, hx4⟩
  rw [← hl]
  have hx24 := (hx.trans hx4).forget hle5
  -- behind the loop
  have fin : ∀ (HJ : Hp) (q : Loop), H5 = HJ.upd l (.loop q) → HJ l = none → Rel n B e { a with defers := markOf w.heap.size :: a.defers } (setLoop w4 l { q with state := .exhausted }) HJ ∧ Ext H w HJ (setLoop w4 l { q with state := .exhausted }) := by
    rintro HJ q rfl hJl
    have hJr : HJ w.heap.size = none := by
      cases hc : HJ w.heap.size with
      | none => rfl
      | some o =>
        have h1 := hx24.dom w.heap.size (by rw [upd_ne _ _ hne, hc]; simp)
        rcases h1 with h | h
        · rw [upd_ne _ _ hne, hHr] at h; exact absurd rfl h
        · omega
    have hmk : w4.heap[w.heap.size]? = some (.deferred (some [])) := by
      rw [hx24.same _ (by omega) (by rw [upd_ne _ _ hne]; exact hHr)]; exact hwr
    have hext : Ext H w HJ (setLoop w4 l { q with state := .exhausted }) := by
      refine ⟨fun b o hb => ?_, ?_, fun b hb hbn => ?_, fun b hb => ?_, ?_, ?_, ?_⟩
      · have ee : b ≠ l := fun ee => by subst ee; rw [hJl] at hb; cases hb
        simp only [setLoop]
        rw [Array.getElem?_setIfInBounds_ne (Ne.symm ee)]
        exact hx24.sub b o (by rw [upd_ne _ _ ee]; exact hb)
      · have := hx24.size
        simp only [setLoop, Array.size_setIfInBounds]; omega
      · have ee : b ≠ l := by omega
        simp only [setLoop]
        rw [Array.getElem?_setIfInBounds_ne (Ne.symm ee), hx24.same b (by omega) (by rw [upd_ne _ _ ee]; exact hbn), hwo b hb]
      · have ee : b ≠ l := fun ee => by subst ee; exact hb hJl
        have h1 := hx24.dom b (by rw [upd_ne _ _ ee]; exact hb)
        rcases h1 with h | h
        · rw [upd_ne _ _ ee] at h; exact .inl h
        · right; omega
      · exact hx24.os.trans hx2.1
      · exact hx24.output.trans hx2.2.1
      · exact hx24.tape.trans hx2.2.2
    refine ⟨⟨?_, hr.size, hr.tmps, ?_⟩, hext⟩
    · exact Nat.le_trans hr.bound hext.size
    · obtain ⟨rs, m1, m2, m3⟩ := hr.marks
      have hlt : ∀ r ∈ rs, r < w.heap.size := fun r hrr => by
        rcases Nat.lt_or_ge r w.heap.size with h | h
        · exact h
        · have := (m3 r hrr).1; rw [Array.getElem?_eq_none h] at this; cases this
      refine ⟨w.heap.size :: rs, by simp [m1], List.nodup_cons.2 ⟨fun hm => Nat.lt_irrefl _ (hlt _ hm), m2⟩, fun r hrr => ?_⟩
      rcases List.mem_cons.1 hrr with rfl | hrr
      · refine ⟨?_, hJr, hr.bound⟩
        simp only [setLoop]
        rw [Array.getElem?_setIfInBounds_ne (Ne.symm hne)]; exact hmk
      · have hrl := hlt r hrr
        refine ⟨?_, ?_, (m3 r hrr).2.2⟩
        · have ee : r ≠ l := by omega
          simp only [setLoop]
          rw [Array.getElem?_setIfInBounds_ne (Ne.symm ee), hx24.same r (by omega) (by rw [upd_ne _ _ ee]; exact (m3 r hrr).2.1), hwo r hrl]
          exact (m3 r hrr).1
        · cases hc : HJ r with
          | none => rfl
          | some o =>
            have ee : r ≠ l := by omega
            rcases hx24.dom r (by rw [upd_ne _ _ ee, hc]; simp) with h | h
            · rw [upd_ne _ _ ee, (m3 r hrr).2.1] at h; exact absurd rfl h
            · omega
  have hl4 : ∀ (HJ : Hp) (q : Loop), H5 = HJ.upd l (.loop q) → w4.heap[l]? = some (.loop q) := fun HJ q hh => by
    subst hh; exact hx24.sub l _ (upd_same _ _ _)
  rcases hJS with ⟨HJ, hH5, hJl, hJ⟩ | ⟨HJ, x, hH5, hxn, hJl, hQ⟩
  · obtain ⟨h1, h2⟩ := fin HJ lp hH5 hJl
    refine ⟨lp, hl4 HJ lp hH5, by rw [hlp]; simp [loopObj], ?_⟩
    have : lp.pending = none := by rw [hlp]; rfl
    rw [this] at h1 h2 ⊢
    exact ⟨e, HJ, hend HJ hJ, h1, h2⟩
  · obtain ⟨h1, h2⟩ := fin HJ _ hH5 hJl
    refine ⟨_, hl4 HJ _ hH5, by simp, ?_⟩
    cases x with
    | normal => exact absurd rfl hxn
    | exit id => exact CR_exit ⟨e, HJ, hQ, h1, h2⟩
    | ret => exact CR_ret ⟨e, HJ, hQ, h1, h2⟩
theorem ValH_func {P : Program} {f : FuncId} {caps args : Array Value} {H : Hp} {R : Value → Hp → Prop} (hb : bodied P f = true) (h : CallH P f (args ++ caps) H R) : ValH P (.func (.func f) #[] caps) args H R := by
  unfold ValH
  rw [l_callV, l_callFunc f _ hb]
  simpa [NextH] using h
/-- An answer of a yield function. -/
theorem yes_no {v : Value} {A B : Prop} (h : (v = .bool true ∧ A) ∨ (v = .bool false ∧ B)) : ∃ t, v = .bool t ∧ (t = true → A) ∧ (t = false → B) := by
  rcases h with ⟨rfl, h⟩ | ⟨rfl, h⟩
  · exact ⟨true, rfl, fun _ => h, fun h => by cases h⟩
  · exact ⟨false, rfl, (fun h => by cases h), fun _ => h⟩
/-- The yield function is called on a heap that holds more; what is more stays. -/
theorem Iter.yield {P : Program} {y : Value} {args : List Value} {H F K : Hp} {A B : Hp → Prop} (h : ValH P y args.toArray (H.join F) (fun v H2 => ∃ H3, Le H3 H2 ∧ ((v = .bool true ∧ A H3) ∨ (v = .bool false ∧ B H3)))) (hl : Le (H.join F) K) :
    ValH P y args.toArray K (fun v K' => ∃ t H3, v = .bool t ∧ Le H3 K' ∧ (t = true → A H3) ∧ (t = false → B H3) ∧ ∀ b o, K b = some o → H b = none → F b = none → K' b = some o ∧ H3 b = none) := by
  refine (h.use hl).mono ?_
  rintro v K' ⟨H', ⟨H3, hl3, hc⟩, hl', hk⟩
  obtain ⟨t, rfl, h1, h2⟩ := yes_no hc
  refine ⟨t, H3, rfl, Le.trans hl3 hl', h1, h2, fun b o hb hn hf => ?_⟩
  have h4 := hk b o hb (by rw [join_r hn]; exact hf)
  exact ⟨h4.1, none_of_le hl3 h4.2⟩
theorem Iter.yield0 {P : Program} {y : Value} {args : List Value} {H K : Hp} {A B : Hp → Prop} (h : ValH P y args.toArray (H.join emptyHp) (fun v H2 => ∃ H3, Le H3 H2 ∧ ((v = .bool true ∧ A H3) ∨ (v = .bool false ∧ B H3)))) (hl : Le H K) :
    ValH P y args.toArray K (fun v K' => ∃ t H3, v = .bool t ∧ Le H3 K' ∧ (t = true → A H3) ∧ (t = false → B H3) ∧ ∀ b o, K b = some o → H b = none → K' b = some o ∧ H3 b = none) := by
  refine (Iter.yield h (by rw [join_empty]; exact hl)).mono ?_
  rintro v K' ⟨t, H3, h1, h2, h3, h4, h5⟩
  exact ⟨t, H3, h1, h2, h3, h4, fun b o hb hn => h5 b o hb hn rfl⟩
theorem join_le {H F K : Hp} (h : Le H K) (k : Le F K) : Le (H.join F) K := fun b o hb => by
  cases hc : H b with
  | some x => rw [join_l hc] at hb; cases hb; exact h b _ hc
  | none => rw [join_r hc] at hb; exact k b o hb
end Go.Proofs.Ytkmjncmdhinlgaa.HL
end
section
namespace Go.Proofs.Ytkmjncmdhinlgaa.HL
open Go
set_option linter.unusedSimpArgs false
/-- The value of a number among entries. -/
def getE : List MapEntry → Int → Option Value
  | [], _ => none
  | e :: es, k => match e.key with | .int _ a => if a = k then some e.val else getE es k | _ => none
/-- Entries of numbers, of which each is there once at most. -/
def IntKeys (es : List MapEntry) : Prop := ∀ e ∈ es, ∃ k, e.key = .int .i64 k
theorem findNow_int : ∀ (es : List MapEntry) (k : Int) (i : Nat), IntKeys es → ∃ r, Instr.findNow (.int .i64) (.int .i64 k) es i = some r ∧
    ((r = none ∧ getE es k = none) ∨ ∃ j v, r = some (i + j, v) ∧ getE es k = some v ∧ j < es.length ∧ (∃ e, es[j]? = some e ∧ e.key = .int .i64 k ∧ e.val = v) ∧ ∀ j', j' < j → ∀ e, es[j']? = some e → e.key ≠ .int .i64 k)
  | [], k, i, _ => ⟨none, rfl, .inl ⟨rfl, rfl⟩⟩
  | e :: es, k, i, h => by
    obtain ⟨a, ha⟩ := h e (by simp)
    have h' : IntKeys es := fun x hx => h x (by simp [hx])
    simp only [Instr.findNow, Instr.sameNow, ha, getE, if_true]
    by_cases hk : k = a
    · subst hk
      simp only [beq_self_eq_true, if_true]
      exact ⟨_, rfl, .inr ⟨0, e.val, rfl, rfl, by simp, ⟨e, rfl, ha, rfl⟩, fun j' hj => by omega⟩⟩
    · have hne : (k == a) = false := by simpa using hk
      have hne' : ¬ a = k := fun h => hk h.symm
      simp only [hne, hne', if_false]
      obtain ⟨r, h1, h2⟩ := findNow_int es k (i + 1) h'
      refine ⟨r, h1, ?_⟩
      rcases h2 with ⟨rfl, h3⟩ | ⟨j, v, rfl, h3, h4, ⟨e', h5, h6, h7⟩, h8⟩
      · exact .inl ⟨rfl, h3⟩
      · refine .inr ⟨j + 1, v, by rw [show i + 1 + j = i + (j + 1) by omega], h3, by simp; omega, ⟨e', by simpa using h5, h6, h7⟩, fun j' hj e'' he => ?_⟩
        match j', he with
        | 0, he => simp at he; subst he; rw [ha]; intro hc; injection hc with _ hc; exact hk hc.symm
        | j' + 1, he => exact h8 j' (by omega) e'' (by simpa using he)
section
variable {P : Program} {H : Hp}
theorem l_checkInt (t : TypeId) (hu : P.underlying t = some (.int .i64)) (b : Bool) (n : Nat) (k : Int) (K : Unit → Hp → Prop) : Lt P (Instr.checkKey b (n + 1) t (.int .i64 k)) H K = K () H := by
  simp only [Instr.checkKey, l_bind, l_und, hu, orF_some]; rfl
theorem Lt_lookup {t kt et : TypeId} (hu : P.underlying t = some (.map kt et)) (hk : P.underlying kt = some (.int .i64)) {z : Value} (hz : zrOf P et = some (some z)) {m : Nat} {es : Array MapEntry} {c : Nat} (hm : H m = some (.map es c)) (hi : IntKeys es.toList) {k : Int} {K : Value → Hp → Prop}
    (h : K ((getE es.toList k).getD z) H) : Lt P (Instr.lookup t (.map (some m)) (.int .i64 k) false) H K := by
  simp only [Instr.lookup, l_bind, l_und, hu, orF_some]
  refine ⟨_, hm, rfl, ?_⟩
  simp only [l_pure', l_pure, l_bind]
  rw [l_checkInt kt hk]
  simp only [Instr.findKey, l_bind, l_und, hk, orF_some]
  obtain ⟨r, h1, h2⟩ := findNow_int es.toList k 0 hi
  rw [h1]
  rcases h2 with ⟨rfl, h3⟩ | ⟨j, v, rfl, h3, _⟩
  · rw [h3] at h
    simp only [l_pure, l_bind, l_zero, hz, orF_some]
    exact h
  · rw [h3] at h
    simp only [l_pure, l_bind]
    exact h
theorem getE_push : ∀ (es : List MapEntry) (k : Int) (v : Value) (b : Nat) (x : Int), IntKeys es → getE es k = none → getE (es ++ [{ key := .int .i64 k, val := v, born := b }]) x = if x = k then some v else getE es x
  | [], k, v, b, x, _, _ => by
    simp only [List.nil_append, getE]
    by_cases e : x = k
    · subst e; simp
    · have e' : ¬ k = x := fun h => e h.symm
      simp [e, e']
  | e :: es, k, v, b, x, h, hn => by
    obtain ⟨a, ha⟩ := h e (by simp)
    have h' : IntKeys es := fun y hy => h y (by simp [hy])
    simp only [getE, ha] at hn
    simp only [List.cons_append, getE, ha]
    by_cases hk : a = k
    · rw [if_pos hk] at hn; cases hn
    · rw [if_neg hk] at hn
      rw [getE_push es k v b x h' hn]
      by_cases hx : a = x
      · subst hx; simp [hk]
      · simp [hx]
theorem getE_modify : ∀ (es : List MapEntry) (k : Int) (v : Value) (j : Nat) (x : Int), IntKeys es → (∃ e, es[j]? = some e ∧ e.key = .int .i64 k) → (∀ j', j' < j → ∀ e, es[j']? = some e → e.key ≠ .int .i64 k) →
    getE (es.modify j (fun e => { e with key := .int .i64 k, val := v })) x = if x = k then some v else getE es x
  | [], k, v, j, x, _, h, _ => by obtain ⟨e, h, _⟩ := h; simp at h
  | e :: es, k, v, 0, x, h, ⟨e', h1, h2⟩, _ => by
    simp at h1; subst h1
    simp only [List.modify_zero_cons, getE, h2]
    by_cases hx : x = k
    · subst hx; simp
    · have e' : ¬ k = x := fun h => hx h.symm
      simp [hx, e']
  | e :: es, k, v, j + 1, x, h, ⟨e', h1, h2⟩, h3 => by
    obtain ⟨a, ha⟩ := h e (by simp)
    have h' : IntKeys es := fun y hy => h y (by simp [hy])
    have hak : a ≠ k := fun hh => h3 0 (by omega) e rfl (by rw [ha, hh])
    simp only [List.modify_succ_cons, getE, ha]
    rw [getE_modify es k v j x h' ⟨e', by simpa using h1, h2⟩ (fun j' hj e'' he => h3 (j' + 1) (by omega) e'' (by simpa using he))]
    by_cases hx : a = x
    · subst hx; simp [hak]
    · simp [hx]
theorem keys_modify {es : List MapEntry} (h : IntKeys es) (k : Int) (v : Value) (j : Nat) : IntKeys (es.modify j (fun e => { e with key := .int .i64 k, val := v })) := by
  intro e he
  obtain ⟨i, hi⟩ := List.getElem?_of_mem he
  rw [List.getElem?_modify] at hi
  cases hh : es[i]? with
  | none => rw [hh] at hi; simp at hi
  | some y =>
    rw [hh] at hi
    by_cases e2 : j = i
    · simp [e2] at hi; exact ⟨k, by rw [← hi]⟩
    · simp [e2] at hi; exact h e (by rw [← hi]; exact List.mem_of_getElem? hh)
theorem Lt_mapUpdate {t kt et : TypeId} (hu : P.underlying t = some (.map kt et)) (hk : P.underlying kt = some (.int .i64)) {m : Nat} {es : Array MapEntry} {c : Nat} (hm : H m = some (.map es c)) (hi : IntKeys es.toList) {k : Int} {v : Value} {K : Unit → Hp → Prop}
    (h : ∀ (es' : Array MapEntry) (c' : Nat), IntKeys es'.toList → (∀ x, getE es'.toList x = if x = k then some v else getE es.toList x) → K () (H.upd m (.map es' c'))) : Lt P (Instr.mapUpdate t (.map (some m)) (.int .i64 k) v) H K := by
  simp only [Instr.mapUpdate, l_bind, l_und, hu, orF_some]
  refine ⟨_, hm, rfl, ?_⟩
  simp only [l_pure', l_pure, l_bind]
  rw [l_checkInt kt hk]
  simp only [Instr.findKey, l_bind, l_und, hk, orF_some]
  obtain ⟨r, h1, h2⟩ := findNow_int es.toList k 0 hi
  rw [h1]
  rcases h2 with ⟨rfl, h3⟩ | ⟨j, v', rfl, h3, hjl, ⟨e, h5, h6, h7⟩, h8⟩
  · simp only [l_pure]
    refine ⟨_, hm, rfl, ?_⟩
    refine h _ _ ?_ ?_
    · intro e he
      simp at he
      rcases he with he | rfl
      · exact hi e (by simpa using he)
      · exact ⟨k, rfl⟩
    · intro x
      simp only [Array.toList_push]
      exact getE_push es.toList k v c x hi h3
  · simp only [l_pure, l_bind, Nat.zero_add]
    have he : es[j]? = some e := by rw [← Array.getElem?_toList]; exact h5
    have hkt : Instr.keyThatStays (((es[j]?).map (·.key)).getD (.int .i64 k)) (.int .i64 k) = pure (.int .i64 k) := by
      rw [he]
      simp only [Option.map_some, Option.getD_some, h6, Instr.keyThatStays, Instr.sameBits, beq_self_eq_true, Bool.and_self, if_true]
    rw [hkt]
    simp only [l_pure]
    refine ⟨_, hm, rfl, ?_⟩
    refine h _ _ ?_ ?_
    · simp only [Array.toList_modify]; exact keys_modify hi k v j
    · intro x
      simp only [Array.toList_modify]
      exact getE_modify es.toList k v j x hi ⟨e, h5, h6⟩ h8
theorem Lt_makeMap {t : TypeId} {K : Value → Hp → Prop} (h : ∀ r, H r = none → K (.map (some r)) (H.upd r (.map #[] 0))) : Lt P (Instr.makeMap t none) H K := by
  simp only [Instr.makeMap, l_bind, l_new, l_pure]
  exact h
end
end Go.Proofs.Ytkmjncmdhinlgaa.HL
end
section
namespace Go.Proofs.Ytkmjncmdhinlgaa.HL
open Go
set_option linter.unusedSimpArgs false
/-- a sector -/
structure Sec where
  b : List Int
  h : b.length = 64
theorem Sec.ext {x y : Sec} (h : x.b = y.b) : x = y := by cases x; cases y; simp at h; subst h; rfl
instance : DecidableEq Sec := fun x y => if h : x.b = y.b then isTrue (Sec.ext h) else isFalse (fun e => h (by rw [e]))
instance : Inhabited Sec := ⟨⟨List.replicate 64 0, by simp⟩⟩
def Sec.zero : Sec := ⟨List.replicate 64 0, by simp⟩
abbrev Sec.c (x : Sec) : List Value := u8s x.b
abbrev Sec.v (x : Sec) : Value := .agg x.c.toArray
theorem Sec.len (x : Sec) : x.c.length = 64 := by simp [x.h]
theorem zero_v : Sec.zero.v = .agg (Array.replicate 64 (.int .u8 0)) := by
  simp only [Sec.v, Sec.c, Sec.zero]
  congr 1
/-- a write that waits -/
structure Wt where
  at_ : Int
  x : Sec
deriving Inhabited
abbrev Wt.c (w : Wt) : List Value := .int .i64 w.at_ :: w.x.c
theorem Wt.len (w : Wt) : w.c.length = 65 := by simp [w.x.h]
abbrev wts (l : List Wt) : List Value := l.flatMap Wt.c
theorem Wt.plain (w : Wt) : PlainL w.c := PlainL.cons (plain_int _ _) (PlainL.ints _ _)
structure Dv where
  size : Int
  sure : Int → Sec
  wait : List Wt
instance : Inhabited Dv := ⟨⟨0, fun _ => Sec.zero, []⟩⟩
structure St where
  steps : Int
  left : Int
  armed : Bool
  gone : Bool
  dv : List Dv
def torn (x old : Sec) (t : Int) : Sec := if h : 0 < t ∧ t < 64 then ⟨x.b.take t.toNat ++ old.b.drop t.toNat, by have := x.h; have := old.h; simp; omega⟩ else x
/-- behind so many of the writes that waited -/
def stN (kept : Nat → Option Int) (ws : List Wt) (s : Int → Sec) : Nat → (Int → Sec)
  | 0 => s
  | n + 1 => match kept n with
    | none => stN kept ws s n
    | some t => fun x => if x = (ws.getD n default).at_ then torn (ws.getD n default).x (stN kept ws s n (ws.getD n default).at_) t else stN kept ws s n x
def Dv.settle (d : Dv) (kept : Nat → Option Int) : Dv := ⟨d.size, stN kept d.wait d.sure d.wait.length, []⟩
def Dv.put (d : Dv) (w : Wt) : Dv := { d with wait := d.wait ++ [w] }
def MapS (es : Array MapEntry) (s : Int → Sec) : Prop := IntKeys es.toList ∧ ∀ k, (getE es.toList k).getD (.agg (Array.replicate 64 (.int .u8 0))) = (s k).v
theorem MapS.nil : MapS #[] (fun _ => Sec.zero) := ⟨fun e he => by simp at he, fun k => zero_v.symm⟩
theorem MapS.put {es es' : Array MapEntry} {s : Int → Sec} (h : MapS es s) {k : Int} {x : Sec} (h1 : IntKeys es'.toList) (h2 : ∀ y, getE es'.toList y = if y = k then some x.v else getE es.toList y) : MapS es' (fun y => if y = k then x else s y) := by
  refine ⟨h1, fun y => ?_⟩
  rw [h2]
  by_cases e : y = k
  · simp [e]
  · simp only [if_neg e]; exact h.2 y
/-- a step: what is then, and whether it is done -/
def St.step (s : St) : St × Bool :=
  if s.gone = true ∨ (s.armed = true ∧ s.left ≤ 0) then ({ s with gone := true }, false) else ({ s with left := IntKind.i64.wrap (s.left - 1), steps := IntKind.i64.wrap (s.steps + 1) }, true)
def St.has (s : St) (dev i : Int) : Bool := decide (0 ≤ dev ∧ dev < s.dv.length) && decide (0 ≤ i ∧ i < (s.dv.getD dev.toNat default).size)
def St.wr (s : St) (dev i : Int) (x : Sec) : St × Option Int :=
  if s.has dev i = true then (match s.step with | (t, true) => ({ t with dv := t.dv.set dev.toNat ((t.dv.getD dev.toNat default).put ⟨i, x⟩) }, none) | (t, false) => (t, some 3)) else (s, some 1)
def St.fl (s : St) (dev : Int) : St × Option Int :=
  if 0 ≤ dev ∧ dev < s.dv.length then (match s.step with | (t, true) => ({ t with dv := t.dv.set dev.toNat ((t.dv.getD dev.toNat default).settle (fun _ => some 0)) }, none) | (t, false) => (t, some 3)) else (s, some 1)
theorem step_dv (s : St) : s.step.1.dv = s.dv := by unfold St.step; split <;> rfl
/-- what is read: the last write that waits there, or what is sure -/
def lastW : List Wt → Int → Option Sec
  | [], _ => none
  | w :: r, i => match lastW r i with | some x => some x | none => if w.at_ = i then some w.x else none
def Dv.read (d : Dv) (i : Int) : Sec := (lastW d.wait i).getD (d.sure i)
end Go.Proofs.Ytkmjncmdhinlgaa.HL
end
section
namespace Go.Proofs.Ytkmjncmdhinlgaa.HL
open Go Go.Proofs
set_option linter.unusedSimpArgs false
set_option linter.unusedVariables false
attribute [local irreducible] Lt Lq CW OW TW CallH

abbrev errV : Option Int → Value := errVT 71
def errOk (o : Option Int) : Prop := ∀ k, o = some k → k ≠ 0 ∧ -9223372036854775808 ≤ k ∧ k ≤ 9223372036854775807
/-- a device, its map, its writes that wait; nothing else -/
def DvX (F : Hp) (b : Nat) (d : Dv) : Prop := ∃ m es c wv wrs, F b = some (.cells #[.int .i64 d.size, .map (some m), wv] 82) ∧ F m = some (.map es c) ∧ MapS es d.sure ∧ OwnS F 87 65 wv d.wait.length (wts d.wait) wrs ∧ ∀ x, F x ≠ none → x = b ∨ x = m ∨ wrs = some x
abbrev ptrV (b : Nat) : Value := .pointer (some ⟨b, 0, none⟩)
structure SX (F : Hp) (p : Nat) (s : St) (r cap : Nat) (bs : List Nat) (Fs : Nat → Hp) : Prop where
  hd : F p = some (.cells #[.int .i64 s.steps, .int .i64 s.left, .bool s.armed, .bool s.gone, .slice (some ⟨r, 0, none⟩) s.dv.length cap] 77)
  len : bs.length = s.dv.length
  own : OwnS F 78 1 (.slice (some ⟨r, 0, none⟩) s.dv.length cap) s.dv.length (bs.map ptrV) (some r)
  dev : ∀ i, i < s.dv.length → DvX (Fs i) (bs.getD i 0) (s.dv.getD i default)
  le : ∀ i, i < s.dv.length → Le (Fs i) F
  fp : ∀ i, i < s.dv.length → Fs i p = none ∧ Fs i r = none
  sep : ∀ i j, i < s.dv.length → j < s.dv.length → i ≠ j → ∀ x, Fs i x ≠ none → Fs j x = none
def SetX (F : Hp) (p : Nat) (s : St) : Prop := ∃ r cap bs Fs, SX F p s r cap bs Fs
def devV (s : St) (bs : List Nat) (dev : Int) : Value := if 0 ≤ dev ∧ dev < s.dv.length then ptrV (bs.getD dev.toNat 0) else .pointer none
theorem ptr_at {bs : List Nat} {c : Array Value} {o n : Nat} (h : ∀ j, j < n * 1 → c[o + j]? = (bs.map ptrV)[j]?) (hn : n = bs.length) (k : Nat) (hk : k < bs.length) : c[o + k]? = some (ptrV (bs.getD k 0)) := by
  rw [h k (by omega), List.getElem?_map, List.getElem?_eq_getElem hk]
  simp [List.getD_eq_getElem?_getD, List.getElem?_eq_getElem hk]
theorem SX.at {F : Hp} {p : Nat} {s : St} {r cap : Nat} {bs : List Nat} {Fs : Nat → Hp} (h : SX F p s r cap bs Fs) {k : Nat} (hk : k < s.dv.length) : ∃ c T f, F r = some (.cells c T f) ∧ c[k]? = some (ptrV (bs.getD k 0)) ∧ k < c.size := by
  obtain ⟨b, o, c, T, f, e, h1, h2, h3⟩ := h.own.holds.at (by omega)
  cases e
  refine ⟨c, T, f, h1, ?_, by omega⟩
  have := ptr_at h3 (by rw [h.len]) k (by rw [h.len]; exact hk)
  rwa [Nat.zero_add] at this
theorem DvX.blk {F : Hp} {b : Nat} {d : Dv} (h : DvX F b d) : ∃ m wv, F b = some (.cells #[.int .i64 d.size, .map (some m), wv] 82) := by
  obtain ⟨m, _, _, wv, _, h1, _⟩ := h; exact ⟨m, wv, h1⟩

set_option maxRecDepth 100000 in
set_option maxHeartbeats 1000000 in
theorem device_ok (H : Hp) (p : Nat) (s : St) (rd cap : Nat) (bs : List Nat) (Fs : Nat → Hp) (h : SX H p s rd cap bs Fs) (dev : Int) (hl : s.dv.length ≤ 1000) : CallH Try.prog 30 #[(.pointer (some ⟨p, 0, none⟩)), .int .i64 dev] H (fun v H' => v = devV s bs dev ∧ H' = H) := by
  refine CallH_enter (l := [_, _]) (rl := [.tmp 4]) (n := 27) Try.func30 rfl rfl rfl rfl rfl ?_
  simp only [envOf, Nat.reduceAdd]
  have hhd := h.hd
  refine CW_seq (fun K1 hK1 => ?_)
  refine CW_region ?_
  refine OW_as rfl ?_
  refine OW_nil ?_
  try simp only [Ex.thnH, Ex.inBlockH, ↓reduceIte, Nat.reduceEqDiff]
  refine hK1 _ _ ?_; try clear hK1 K1
  refine CW_seq (fun K2 hK2 => ?_)
  refine CW_seq (fun K3 hK3 => ?_)
  refine CW_region ?_
  refine OW_mv rfl ?_
  refine OW_opS (fun K hK r => ?_)
  simp only [x_bin, g_int, g_bool, g_string, g_pointer, g_slice, g_map, g_func, g_nilFunc, g_iface, g_nil_iface, g_nil_r, g_nil_l, eX, ↓reduceIte, Nat.reduceEqDiff, Int.reduceToNat]
  rw [e_eql _ _ _ _ (by simp)]
  rw [q_equal]
  first | rw [q_ptr_nil _ _ _ Try.underlying26] | rw [q_nil_ptr _ _ _ Try.underlying26]
  try simp only [eX, ↓reduceIte, Nat.reduceEqDiff, Int.reduceToNat]
  refine hK _ _ ?_; clear hK K
  refine OW_mv rfl ?_
  (first | refine OW_split (d := 7) rfl (fun g7 => ?_) (fun g7 => ?_) | skip)
  all_goals try (exfalso; exact cnA g7)
  all_goals (try simp only [decide_eq_true_eq, decide_eq_false_iff_not, Bool.not_eq_true, Bool.not_eq_false, Bool.and_eq_true, Bool.or_eq_true, Bool.or_eq_false_iff, Bool.not_eq_true, Bool.not_eq_eq_eq_not, Bool.not_true, Bool.not_false] at g7)
  all_goals
    try simp only [eX, ↓reduceIte, Nat.reduceEqDiff, Int.reduceToNat]
    first
    | refine OW_guardT rfl (lt_some (by decide)) rfl (fun K hK r => ?_)
      simp only [x_move, eX, ↓reduceIte, Nat.reduceEqDiff, Int.reduceToNat]
      refine hK _ _ ?_; clear hK K
    | refine OW_guardF rfl (lt_some (by decide)) rfl ?_
      simp only [eX, ↓reduceIte, Nat.reduceEqDiff, Int.reduceToNat]
    first
    | refine OW_guardT rfl (lt_some (by decide)) rfl (fun K hK r => ?_)
      simp (disch := (first | omega | decide)) only [x_bin, g_int, b_lss, dec_lt_t, dec_lt_f, dec_le_t, dec_le_f, dec_eq_t, dec_eq_f, Bool.not_true, Bool.not_false, eX, ↓reduceIte, Nat.reduceEqDiff, Int.reduceToNat]
      refine hK _ _ ?_; clear hK K
    | refine OW_guardF rfl (lt_some (by decide)) rfl ?_
      simp only [eX, ↓reduceIte, Nat.reduceEqDiff, Int.reduceToNat]
    refine OW_opS (fun K hK r => ?_)
    simp only [x_pick, l_asBool, HL.ite_bool, if_true, if_false, Bool.false_eq_true, eX, ↓reduceIte, Nat.reduceEqDiff, Int.reduceToNat]
    refine hK _ _ ?_; clear hK K
    refine OW_mv rfl ?_
    (first | refine OW_split (d := 11) rfl (fun g11 => ?_) (fun g11 => ?_) | skip)
    all_goals try (exfalso; exact cnA g11)
    all_goals (try simp only [decide_eq_true_eq, decide_eq_false_iff_not, Bool.not_eq_true, Bool.not_eq_false, Bool.and_eq_true, Bool.or_eq_true, Bool.or_eq_false_iff, Bool.not_eq_true, Bool.not_eq_eq_eq_not, Bool.not_true, Bool.not_false] at g11)
    all_goals
      try simp only [eX, ↓reduceIte, Nat.reduceEqDiff, Int.reduceToNat]
      first
      | refine OW_guardT rfl (lt_some (by decide)) rfl (fun K hK r => ?_)
        simp only [x_move, eX, ↓reduceIte, Nat.reduceEqDiff, Int.reduceToNat]
        refine hK _ _ ?_; clear hK K
      | refine OW_guardF rfl (lt_some (by decide)) rfl ?_
        simp only [eX, ↓reduceIte, Nat.reduceEqDiff, Int.reduceToNat]
      first
      | refine OW_guardT rfl (lt_some (by decide)) rfl (fun K hK r => ?_)
        simp only [x_move, eX, ↓reduceIte, Nat.reduceEqDiff, Int.reduceToNat]
        refine hK _ _ ?_; clear hK K
      | refine OW_guardF rfl (lt_some (by decide)) rfl ?_
        simp only [eX, ↓reduceIte, Nat.reduceEqDiff, Int.reduceToNat]
      first
      | refine OW_guardT rfl (lt_some (by decide)) rfl (fun K hK r => ?_)
        rw [x_nilCheck _ _ rfl]
        simp only [eX, ↓reduceIte, Nat.reduceEqDiff, Int.reduceToNat]
        refine hK _ _ ?_; clear hK K
      | refine OW_guardF rfl (lt_some (by decide)) rfl ?_
        simp only [eX, ↓reduceIte, Nat.reduceEqDiff, Int.reduceToNat]
      first
      | refine OW_guardT rfl (lt_some (by decide)) rfl (fun K hK r => ?_)
        simp only [x_fieldAddr, fa77_1, add_mk, Nat.reduceAdd, Nat.zero_add, eX, ↓reduceIte, Nat.reduceEqDiff, Int.reduceToNat]
        refine hK _ _ ?_; clear hK K
      | refine OW_guardF rfl (lt_some (by decide)) rfl ?_
        simp only [eX, ↓reduceIte, Nat.reduceEqDiff, Int.reduceToNat]
      first
      | refine OW_guardT rfl (lt_some (by decide)) rfl (fun K hK r => ?_)
        simp only [x_load, eX, ↓reduceIte, Nat.reduceEqDiff, Int.reduceToNat]
        refine Lt_loadAt1 Try.underlying75 rfl hbA ldA ?_
        try simp only [eX, ↓reduceIte, Nat.reduceEqDiff, Int.reduceToNat]
        refine hK _ _ ?_; clear hK K
      | refine OW_guardF rfl (lt_some (by decide)) rfl ?_
        simp only [eX, ↓reduceIte, Nat.reduceEqDiff, Int.reduceToNat]
      first
      | refine OW_guardT rfl (lt_some (by decide)) rfl (fun K hK r => ?_)
        simp only [x_builtin, l_len, List.map_toArray, List.map_cons, List.map_nil, i_len_slice _ _ Try.underlying75, eX, ↓reduceIte, Nat.reduceEqDiff, Int.reduceToNat]
        refine hK _ _ ?_; clear hK K
      | refine OW_guardF rfl (lt_some (by decide)) rfl ?_
        simp only [eX, ↓reduceIte, Nat.reduceEqDiff, Int.reduceToNat]
      first
      | refine OW_guardT rfl (lt_some (by decide)) rfl (fun K hK r => ?_)
        simp (disch := (first | omega | decide)) only [x_bin, g_int, b_geq, dec_lt_t, dec_lt_f, dec_le_t, dec_le_f, dec_eq_t, dec_eq_f, Bool.not_true, Bool.not_false, eX, ↓reduceIte, Nat.reduceEqDiff, Int.reduceToNat]
        refine hK _ _ ?_; clear hK K
      | refine OW_guardF rfl (lt_some (by decide)) rfl ?_
        simp only [eX, ↓reduceIte, Nat.reduceEqDiff, Int.reduceToNat]
      refine OW_opS (fun K hK r => ?_)
      simp only [x_pick, l_asBool, HL.ite_bool, if_true, if_false, Bool.false_eq_true, eX, ↓reduceIte, Nat.reduceEqDiff, Int.reduceToNat]
      refine hK _ _ ?_; clear hK K
      refine OW_nil ?_
      try simp only [Ex.thnH, Ex.inBlockH, ↓reduceIte, Nat.reduceEqDiff]
      refine hK3 _ _ ?_; try clear hK3 K3
      refine CW_cond (fun r => rfl) (fun c19 => ?_) (fun c19 => ?_)
      · first
        | (exfalso; exact cnA c19; done)
        | skip
          (try simp only [decide_eq_true_eq, decide_eq_false_iff_not, Bool.not_eq_true, Bool.not_eq_false, Bool.and_eq_true, Bool.or_eq_true, Bool.or_eq_false_iff, Bool.not_eq_true, Bool.not_eq_eq_eq_not, Bool.not_true, Bool.not_false] at c19)
          refine CW_seq (fun K4 hK4 => ?_)
          refine CW_region ?_
          refine OW_as rfl ?_
          refine OW_nil ?_
          try simp only [Ex.thnH, Ex.inBlockH, ↓reduceIte, Nat.reduceEqDiff]
          refine hK4 _ _ ?_; try clear hK4 K4
          refine CW_ret ?_
          try simp only [Ex.thnH, Ex.inBlockH, ↓reduceIte, Nat.reduceEqDiff]
          refine ⟨[_], ⟨rfl, trivial⟩, _, Le.refl _, ?_, rfl⟩
          show Value.pointer _ = _
          unfold devV; rw [if_neg (by omega)]
      · first
        | (exfalso; exact cnA c19; done)
        | skip
          (try simp only [decide_eq_true_eq, decide_eq_false_iff_not, Bool.not_eq_true, Bool.not_eq_false, Bool.and_eq_true, Bool.or_eq_true, Bool.or_eq_false_iff, Bool.not_eq_true, Bool.not_eq_eq_eq_not, Bool.not_true, Bool.not_false] at c19)
          have hin : 0 ≤ dev ∧ dev < s.dv.length := by omega
          obtain ⟨cc, T, f, hr, hat, hlt⟩ := h.at (k := dev.toNat) (by omega)
          refine CW_skip ?_
          try simp only [Ex.thnH, Ex.inBlockH, ↓reduceIte, Nat.reduceEqDiff]
          refine hK2 _ _ ?_; try clear hK2 K2
          refine CW_seq (fun K5 hK5 => ?_)
          refine CW_region ?_
          refine OW_mv rfl ?_
          refine OW_opS (fun K hK r => ?_)
          rw [x_nilCheck _ _ rfl]
          simp only [eX, ↓reduceIte, Nat.reduceEqDiff, Int.reduceToNat]
          refine hK _ _ ?_; clear hK K
          refine OW_opS (fun K hK r => ?_)
          simp only [x_fieldAddr, fa77_1, add_mk, Nat.reduceAdd, Nat.zero_add, eX, ↓reduceIte, Nat.reduceEqDiff, Int.reduceToNat]
          refine hK _ _ ?_; clear hK K
          refine OW_opS (fun K hK r => ?_)
          simp only [x_load, eX, ↓reduceIte, Nat.reduceEqDiff, Int.reduceToNat]
          refine Lt_loadAt1 Try.underlying75 rfl hbA ldA ?_
          try simp only [eX, ↓reduceIte, Nat.reduceEqDiff, Int.reduceToNat]
          refine hK _ _ ?_; clear hK K
          refine OW_mv rfl ?_
          refine OW_opS (fun K hK r => ?_)
          simp only [x_indexAddr, eX, ↓reduceIte, Nat.reduceEqDiff, Int.reduceToNat]
          refine Lt_indexS Try.underlying75 sz78 ixA ixA ?_
          try simp only [add_mk, Nat.mul_one, Nat.zero_add, Int.reduceToNat]
          try simp only [eX, ↓reduceIte, Nat.reduceEqDiff, Int.reduceToNat]
          refine hK _ _ ?_; clear hK K
          refine OW_opS (fun K hK r => ?_)
          simp only [x_load, eX, ↓reduceIte, Nat.reduceEqDiff, Int.reduceToNat]
          refine Lt_loadAt1 Try.underlying78 rfl hbA hat ?_
          refine hK _ _ ?_; clear hK K
          refine OW_as rfl ?_
          refine OW_nil ?_
          try simp only [Ex.thnH, Ex.inBlockH, ↓reduceIte, Nat.reduceEqDiff]
          refine hK5 _ _ ?_; try clear hK5 K5
          refine CW_ret ?_
          try simp only [Ex.thnH, Ex.inBlockH, ↓reduceIte, Nat.reduceEqDiff]
          refine ⟨[_], ⟨rfl, trivial⟩, _, Le.refl _, ?_, rfl⟩
          show ptrV _ = _
          unfold devV; rw [if_pos hin]

set_option maxRecDepth 100000 in
set_option maxHeartbeats 1000000 in
theorem has_nil (H : Hp) (i : Int) : CallH Try.prog 31 #[.pointer none, .int .i64 i] H (fun v H' => v = .bool false ∧ H' = H) := by
  refine CallH_enter (l := [_, _]) (rl := [.tmp 4]) (n := 19) Try.func31 rfl rfl rfl rfl rfl ?_
  simp only [envOf, Nat.reduceAdd]
  refine CW_seq (fun K1 hK1 => ?_)
  refine CW_region ?_
  refine OW_as rfl ?_
  refine OW_nil ?_
  try simp only [Ex.thnH, Ex.inBlockH, ↓reduceIte, Nat.reduceEqDiff]
  refine hK1 _ _ ?_; try clear hK1 K1
  refine CW_seq (fun K2 hK2 => ?_)
  refine CW_region ?_
  refine OW_mv rfl ?_
  refine OW_opS (fun K hK r => ?_)
  simp only [x_bin, g_int, g_bool, g_string, g_pointer, g_slice, g_map, g_func, g_nilFunc, g_iface, g_nil_iface, g_nil_r, g_nil_l, eX, ↓reduceIte, Nat.reduceEqDiff, Int.reduceToNat]
  rw [e_neq _ _ _ _ (by simp)]
  rw [q_equal]
  first | rw [q_ptr_nil _ _ _ Try.underlying78] | rw [q_nil_ptr _ _ _ Try.underlying78]
  try simp only [eX, ↓reduceIte, Nat.reduceEqDiff, Int.reduceToNat]
  refine hK _ _ ?_; clear hK K
  refine OW_mv rfl ?_
  (first | refine OW_split (d := 7) rfl (fun g7 => ?_) (fun g7 => ?_) | skip)
  all_goals try (exfalso; exact cnA g7)
  all_goals (try simp only [decide_eq_true_eq, decide_eq_false_iff_not, Bool.not_eq_true, Bool.not_eq_false, Bool.and_eq_true, Bool.or_eq_true, Bool.or_eq_false_iff, Bool.not_eq_true, Bool.not_eq_eq_eq_not, Bool.not_true, Bool.not_false] at g7)
  all_goals
    try simp only [eX, ↓reduceIte, Nat.reduceEqDiff, Int.reduceToNat]
    first
    | refine OW_guardT rfl (lt_some (by decide)) rfl (fun K hK r => ?_)
      simp only [x_move, eX, ↓reduceIte, Nat.reduceEqDiff, Int.reduceToNat]
      refine hK _ _ ?_; clear hK K
    | refine OW_guardF rfl (lt_some (by decide)) rfl ?_
      simp only [eX, ↓reduceIte, Nat.reduceEqDiff, Int.reduceToNat]
    first
    | refine OW_guardT rfl (lt_some (by decide)) rfl (fun K hK r => ?_)
      simp (disch := (first | omega | decide)) only [x_bin, g_int, b_geq, dec_lt_t, dec_lt_f, dec_le_t, dec_le_f, dec_eq_t, dec_eq_f, Bool.not_true, Bool.not_false, eX, ↓reduceIte, Nat.reduceEqDiff, Int.reduceToNat]
      refine hK _ _ ?_; clear hK K
    | refine OW_guardF rfl (lt_some (by decide)) rfl ?_
      simp only [eX, ↓reduceIte, Nat.reduceEqDiff, Int.reduceToNat]
    refine OW_opS (fun K hK r => ?_)
    simp only [x_pick, l_asBool, HL.ite_bool, if_true, if_false, Bool.false_eq_true, eX, ↓reduceIte, Nat.reduceEqDiff, Int.reduceToNat]
    refine hK _ _ ?_; clear hK K
    refine OW_mv rfl ?_
    (first | refine OW_split (d := 11) rfl (fun g11 => ?_) (fun g11 => ?_) | skip)
    all_goals try (exfalso; exact cnA g11)
    all_goals (try simp only [decide_eq_true_eq, decide_eq_false_iff_not, Bool.not_eq_true, Bool.not_eq_false, Bool.and_eq_true, Bool.or_eq_true, Bool.or_eq_false_iff, Bool.not_eq_true, Bool.not_eq_eq_eq_not, Bool.not_true, Bool.not_false] at g11)
    all_goals
      try simp only [eX, ↓reduceIte, Nat.reduceEqDiff, Int.reduceToNat]
      first
      | refine OW_guardT rfl (lt_some (by decide)) rfl (fun K hK r => ?_)
        simp only [x_move, eX, ↓reduceIte, Nat.reduceEqDiff, Int.reduceToNat]
        refine hK _ _ ?_; clear hK K
      | refine OW_guardF rfl (lt_some (by decide)) rfl ?_
        simp only [eX, ↓reduceIte, Nat.reduceEqDiff, Int.reduceToNat]
      first
      | refine OW_guardT rfl (lt_some (by decide)) rfl (fun K hK r => ?_)
        simp only [x_move, eX, ↓reduceIte, Nat.reduceEqDiff, Int.reduceToNat]
        refine hK _ _ ?_; clear hK K
      | refine OW_guardF rfl (lt_some (by decide)) rfl ?_
        simp only [eX, ↓reduceIte, Nat.reduceEqDiff, Int.reduceToNat]
      first
      | refine OW_guardT rfl (lt_some (by decide)) rfl (fun K hK r => ?_)
        rw [x_nilCheck _ _ rfl]
        simp only [eX, ↓reduceIte, Nat.reduceEqDiff, Int.reduceToNat]
        refine hK _ _ ?_; clear hK K
      | refine OW_guardF rfl (lt_some (by decide)) rfl ?_
        simp only [eX, ↓reduceIte, Nat.reduceEqDiff, Int.reduceToNat]
      first
      | refine OW_guardT rfl (lt_some (by decide)) rfl (fun K hK r => ?_)
        simp only [x_fieldAddr, fa82_0, add_mk, Nat.reduceAdd, Nat.zero_add, eX, ↓reduceIte, Nat.reduceEqDiff, Int.reduceToNat]
        refine hK _ _ ?_; clear hK K
      | refine OW_guardF rfl (lt_some (by decide)) rfl ?_
        simp only [eX, ↓reduceIte, Nat.reduceEqDiff, Int.reduceToNat]
      first
      | refine OW_guardT rfl (lt_some (by decide)) rfl (fun K hK r => ?_)
        simp only [x_load, eX, ↓reduceIte, Nat.reduceEqDiff, Int.reduceToNat]
        refine Lt_loadAt1 Try.underlying3 rfl hbA ldA ?_
        try simp only [eX, ↓reduceIte, Nat.reduceEqDiff, Int.reduceToNat]
        refine hK _ _ ?_; clear hK K
      | refine OW_guardF rfl (lt_some (by decide)) rfl ?_
        simp only [eX, ↓reduceIte, Nat.reduceEqDiff, Int.reduceToNat]
      first
      | refine OW_guardT rfl (lt_some (by decide)) rfl (fun K hK r => ?_)
        simp (disch := (first | omega | decide)) only [x_bin, g_int, b_lss, dec_lt_t, dec_lt_f, dec_le_t, dec_le_f, dec_eq_t, dec_eq_f, Bool.not_true, Bool.not_false, eX, ↓reduceIte, Nat.reduceEqDiff, Int.reduceToNat]
        refine hK _ _ ?_; clear hK K
      | refine OW_guardF rfl (lt_some (by decide)) rfl ?_
        simp only [eX, ↓reduceIte, Nat.reduceEqDiff, Int.reduceToNat]
      refine OW_opS (fun K hK r => ?_)
      simp only [x_pick, l_asBool, HL.ite_bool, if_true, if_false, Bool.false_eq_true, eX, ↓reduceIte, Nat.reduceEqDiff, Int.reduceToNat]
      refine hK _ _ ?_; clear hK K
      refine OW_as rfl ?_
      refine OW_nil ?_
      try simp only [Ex.thnH, Ex.inBlockH, ↓reduceIte, Nat.reduceEqDiff]
      refine hK2 _ _ ?_; try clear hK2 K2
      refine CW_ret ?_
      try simp only [Ex.thnH, Ex.inBlockH, ↓reduceIte, Nat.reduceEqDiff]
      first | exact ⟨[_], ⟨rfl, trivial⟩, _, Le.refl _, rfl, rfl⟩ | (exfalso; simp_all; done)

set_option maxRecDepth 100000 in
set_option maxHeartbeats 1000000 in
theorem has_ok (H : Hp) (b : Nat) (size : Int) (x y : Value) (hb : H b = some (.cells #[.int .i64 size, x, y] 82)) (i : Int) : CallH Try.prog 31 #[ptrV b, .int .i64 i] H (fun v H' => v = .bool (decide (0 ≤ i ∧ i < size)) ∧ H' = H) := by
  refine CallH_enter (l := [_, _]) (rl := [.tmp 4]) (n := 19) Try.func31 rfl rfl rfl rfl rfl ?_
  simp only [envOf, Nat.reduceAdd]
  refine CW_seq (fun K1 hK1 => ?_)
  refine CW_region ?_
  refine OW_as rfl ?_
  refine OW_nil ?_
  try simp only [Ex.thnH, Ex.inBlockH, ↓reduceIte, Nat.reduceEqDiff]
  refine hK1 _ _ ?_; try clear hK1 K1
  refine CW_seq (fun K2 hK2 => ?_)
  refine CW_region ?_
  refine OW_mv rfl ?_
  refine OW_opS (fun K hK r => ?_)
  simp only [x_bin, g_int, g_bool, g_string, g_pointer, g_slice, g_map, g_func, g_nilFunc, g_iface, g_nil_iface, g_nil_r, g_nil_l, eX, ↓reduceIte, Nat.reduceEqDiff, Int.reduceToNat]
  rw [e_neq _ _ _ _ (by simp)]
  rw [q_equal]
  first | rw [q_ptr_nil _ _ _ Try.underlying78] | rw [q_nil_ptr _ _ _ Try.underlying78]
  try simp only [eX, ↓reduceIte, Nat.reduceEqDiff, Int.reduceToNat]
  refine hK _ _ ?_; clear hK K
  refine OW_mv rfl ?_
  (first | refine OW_split (d := 7) rfl (fun g7 => ?_) (fun g7 => ?_) | skip)
  all_goals try (exfalso; exact cnA g7)
  all_goals (try simp only [decide_eq_true_eq, decide_eq_false_iff_not, Bool.not_eq_true, Bool.not_eq_false, Bool.and_eq_true, Bool.or_eq_true, Bool.or_eq_false_iff, Bool.not_eq_true, Bool.not_eq_eq_eq_not, Bool.not_true, Bool.not_false] at g7)
  all_goals
    try simp only [eX, ↓reduceIte, Nat.reduceEqDiff, Int.reduceToNat]
    first
    | refine OW_guardT rfl (lt_some (by decide)) rfl (fun K hK r => ?_)
      simp only [x_move, eX, ↓reduceIte, Nat.reduceEqDiff, Int.reduceToNat]
      refine hK _ _ ?_; clear hK K
    | refine OW_guardF rfl (lt_some (by decide)) rfl ?_
      simp only [eX, ↓reduceIte, Nat.reduceEqDiff, Int.reduceToNat]
    first
    | refine OW_guardT rfl (lt_some (by decide)) rfl (fun K hK r => ?_)
      simp (disch := (first | omega | decide)) only [x_bin, g_int, b_geq, dec_lt_t, dec_lt_f, dec_le_t, dec_le_f, dec_eq_t, dec_eq_f, Bool.not_true, Bool.not_false, eX, ↓reduceIte, Nat.reduceEqDiff, Int.reduceToNat]
      refine hK _ _ ?_; clear hK K
    | refine OW_guardF rfl (lt_some (by decide)) rfl ?_
      simp only [eX, ↓reduceIte, Nat.reduceEqDiff, Int.reduceToNat]
    refine OW_opS (fun K hK r => ?_)
    simp only [x_pick, l_asBool, HL.ite_bool, if_true, if_false, Bool.false_eq_true, eX, ↓reduceIte, Nat.reduceEqDiff, Int.reduceToNat]
    refine hK _ _ ?_; clear hK K
    refine OW_mv rfl ?_
    (first | refine OW_split (d := 11) rfl (fun g11 => ?_) (fun g11 => ?_) | skip)
    all_goals try (exfalso; exact cnA g11)
    all_goals (try simp only [decide_eq_true_eq, decide_eq_false_iff_not, Bool.not_eq_true, Bool.not_eq_false, Bool.and_eq_true, Bool.or_eq_true, Bool.or_eq_false_iff, Bool.not_eq_true, Bool.not_eq_eq_eq_not, Bool.not_true, Bool.not_false] at g11)
    all_goals
      try simp only [eX, ↓reduceIte, Nat.reduceEqDiff, Int.reduceToNat]
      first
      | refine OW_guardT rfl (lt_some (by decide)) rfl (fun K hK r => ?_)
        simp only [x_move, eX, ↓reduceIte, Nat.reduceEqDiff, Int.reduceToNat]
        refine hK _ _ ?_; clear hK K
      | refine OW_guardF rfl (lt_some (by decide)) rfl ?_
        simp only [eX, ↓reduceIte, Nat.reduceEqDiff, Int.reduceToNat]
      first
      | refine OW_guardT rfl (lt_some (by decide)) rfl (fun K hK r => ?_)
        simp only [x_move, eX, ↓reduceIte, Nat.reduceEqDiff, Int.reduceToNat]
        refine hK _ _ ?_; clear hK K
      | refine OW_guardF rfl (lt_some (by decide)) rfl ?_
        simp only [eX, ↓reduceIte, Nat.reduceEqDiff, Int.reduceToNat]
      first
      | refine OW_guardT rfl (lt_some (by decide)) rfl (fun K hK r => ?_)
        rw [x_nilCheck _ _ rfl]
        simp only [eX, ↓reduceIte, Nat.reduceEqDiff, Int.reduceToNat]
        refine hK _ _ ?_; clear hK K
      | refine OW_guardF rfl (lt_some (by decide)) rfl ?_
        simp only [eX, ↓reduceIte, Nat.reduceEqDiff, Int.reduceToNat]
      first
      | refine OW_guardT rfl (lt_some (by decide)) rfl (fun K hK r => ?_)
        simp only [x_fieldAddr, fa82_0, add_mk, Nat.reduceAdd, Nat.zero_add, eX, ↓reduceIte, Nat.reduceEqDiff, Int.reduceToNat]
        refine hK _ _ ?_; clear hK K
      | refine OW_guardF rfl (lt_some (by decide)) rfl ?_
        simp only [eX, ↓reduceIte, Nat.reduceEqDiff, Int.reduceToNat]
      first
      | refine OW_guardT rfl (lt_some (by decide)) rfl (fun K hK r => ?_)
        simp only [x_load, eX, ↓reduceIte, Nat.reduceEqDiff, Int.reduceToNat]
        refine Lt_loadAt1 Try.underlying3 rfl hbA ldA ?_
        try simp only [eX, ↓reduceIte, Nat.reduceEqDiff, Int.reduceToNat]
        refine hK _ _ ?_; clear hK K
      | refine OW_guardF rfl (lt_some (by decide)) rfl ?_
        simp only [eX, ↓reduceIte, Nat.reduceEqDiff, Int.reduceToNat]
      first
      | refine OW_guardT rfl (lt_some (by decide)) rfl (fun K hK r => ?_)
        simp (disch := (first | omega | decide)) only [x_bin, g_int, b_lss, dec_lt_t, dec_lt_f, dec_le_t, dec_le_f, dec_eq_t, dec_eq_f, Bool.not_true, Bool.not_false, eX, ↓reduceIte, Nat.reduceEqDiff, Int.reduceToNat]
        refine hK _ _ ?_; clear hK K
      | refine OW_guardF rfl (lt_some (by decide)) rfl ?_
        simp only [eX, ↓reduceIte, Nat.reduceEqDiff, Int.reduceToNat]
      refine OW_opS (fun K hK r => ?_)
      simp only [x_pick, l_asBool, HL.ite_bool, if_true, if_false, Bool.false_eq_true, eX, ↓reduceIte, Nat.reduceEqDiff, Int.reduceToNat]
      refine hK _ _ ?_; clear hK K
      refine OW_as rfl ?_
      refine OW_nil ?_
      try simp only [Ex.thnH, Ex.inBlockH, ↓reduceIte, Nat.reduceEqDiff]
      refine hK2 _ _ ?_; try clear hK2 K2
      refine CW_ret ?_
      try simp only [Ex.thnH, Ex.inBlockH, ↓reduceIte, Nat.reduceEqDiff]
      refine ⟨[_], ⟨rfl, trivial⟩, _, Le.refl _, ?_, rfl⟩
      show Value.bool _ = _
      congr 1
      first | (rw [Bool.eq_iff_iff]; simp only [decide_eq_true_eq]; omega) | (exact (decide_eq_true (by omega)).symm) | (exact (decide_eq_false (by omega)).symm) | (simp_all; done)

set_option maxRecDepth 100000 in
set_option maxHeartbeats 1000000 in
theorem step_ok (H : Hp) (p : Nat) (s : St) (x : Value) (hp : H p = some (.cells #[.int .i64 s.steps, .int .i64 s.left, .bool s.armed, .bool s.gone, x] 77)) : CallH Try.prog 32 #[(.pointer (some ⟨p, 0, none⟩))] H (fun v H' => v = errV (if s.step.2 = true then none else some 3) ∧ H' = H.upd p (.cells #[.int .i64 s.step.1.steps, .int .i64 s.step.1.left, .bool s.step.1.armed, .bool s.step.1.gone, x] 77)) := by
  refine CallH_enter (l := [_]) (rl := [.tmp 2]) (n := 38) Try.func32 rfl rfl rfl rfl rfl ?_
  simp only [envOf, Nat.reduceAdd]
  refine CW_seq (fun K1 hK1 => ?_)
  refine CW_region ?_
  refine OW_as rfl ?_
  refine OW_nil ?_
  try simp only [Ex.thnH, Ex.inBlockH, ↓reduceIte, Nat.reduceEqDiff]
  refine hK1 _ _ ?_; try clear hK1 K1
  refine CW_seq (fun K2 hK2 => ?_)
  refine CW_seq (fun K3 hK3 => ?_)
  refine CW_region ?_
  refine OW_mv rfl ?_
  refine OW_opS (fun K hK r => ?_)
  rw [x_nilCheck _ _ rfl]
  simp only [eX, ↓reduceIte, Nat.reduceEqDiff, Int.reduceToNat]
  refine hK _ _ ?_; clear hK K
  refine OW_opS (fun K hK r => ?_)
  simp only [x_fieldAddr, fa74_3, add_mk, Nat.reduceAdd, Nat.zero_add, eX, ↓reduceIte, Nat.reduceEqDiff, Int.reduceToNat]
  refine hK _ _ ?_; clear hK K
  refine OW_opS (fun K hK r => ?_)
  simp only [x_load, eX, ↓reduceIte, Nat.reduceEqDiff, Int.reduceToNat]
  refine Lt_loadAt1 Try.underlying4 rfl hbA ldA ?_
  try simp only [eX, ↓reduceIte, Nat.reduceEqDiff, Int.reduceToNat]
  refine hK _ _ ?_; clear hK K
  refine OW_mv rfl ?_
  (first | refine OW_split (d := 7) rfl (fun g7 => ?_) (fun g7 => ?_) | skip)
  all_goals try (exfalso; exact cnA g7)
  all_goals (try simp only [decide_eq_true_eq, decide_eq_false_iff_not, Bool.not_eq_true, Bool.not_eq_false, Bool.and_eq_true, Bool.or_eq_true, Bool.or_eq_false_iff, Bool.not_eq_true, Bool.not_eq_eq_eq_not, Bool.not_true, Bool.not_false] at g7)
  all_goals
    try simp only [eX, ↓reduceIte, Nat.reduceEqDiff, Int.reduceToNat]
    first
    | refine OW_guardT rfl (lt_some (by decide)) rfl (fun K hK r => ?_)
      simp only [x_move, eX, ↓reduceIte, Nat.reduceEqDiff, Int.reduceToNat]
      refine hK _ _ ?_; clear hK K
    | refine OW_guardF rfl (lt_some (by decide)) rfl ?_
      simp only [eX, ↓reduceIte, Nat.reduceEqDiff, Int.reduceToNat]
    first
    | refine OW_guardT rfl (lt_some (by decide)) rfl (fun K hK r => ?_)
      rw [x_nilCheck _ _ rfl]
      simp only [eX, ↓reduceIte, Nat.reduceEqDiff, Int.reduceToNat]
      refine hK _ _ ?_; clear hK K
    | refine OW_guardF rfl (lt_some (by decide)) rfl ?_
      simp only [eX, ↓reduceIte, Nat.reduceEqDiff, Int.reduceToNat]
    first
    | refine OW_guardT rfl (lt_some (by decide)) rfl (fun K hK r => ?_)
      simp only [x_fieldAddr, fa74_2, add_mk, Nat.reduceAdd, Nat.zero_add, eX, ↓reduceIte, Nat.reduceEqDiff, Int.reduceToNat]
      refine hK _ _ ?_; clear hK K
    | refine OW_guardF rfl (lt_some (by decide)) rfl ?_
      simp only [eX, ↓reduceIte, Nat.reduceEqDiff, Int.reduceToNat]
    first
    | refine OW_guardT rfl (lt_some (by decide)) rfl (fun K hK r => ?_)
      simp only [x_load, eX, ↓reduceIte, Nat.reduceEqDiff, Int.reduceToNat]
      refine Lt_loadAt1 Try.underlying4 rfl hbA ldA ?_
      try simp only [eX, ↓reduceIte, Nat.reduceEqDiff, Int.reduceToNat]
      refine hK _ _ ?_; clear hK K
    | refine OW_guardF rfl (lt_some (by decide)) rfl ?_
      simp only [eX, ↓reduceIte, Nat.reduceEqDiff, Int.reduceToNat]
    first
    | refine OW_guardT rfl (lt_some (by decide)) rfl (fun K hK r => ?_)
      simp only [x_move, eX, ↓reduceIte, Nat.reduceEqDiff, Int.reduceToNat]
      refine hK _ _ ?_; clear hK K
    | refine OW_guardF rfl (lt_some (by decide)) rfl ?_
      simp only [eX, ↓reduceIte, Nat.reduceEqDiff, Int.reduceToNat]
    (first | refine OW_split (d := 12) rfl (fun g12 => ?_) (fun g12 => ?_) | skip)
    all_goals try (exfalso; exact cnA g12)
    all_goals (try simp only [decide_eq_true_eq, decide_eq_false_iff_not, Bool.not_eq_true, Bool.not_eq_false, Bool.and_eq_true, Bool.or_eq_true, Bool.or_eq_false_iff, Bool.not_eq_true, Bool.not_eq_eq_eq_not, Bool.not_true, Bool.not_false] at g12)
    all_goals
      try simp only [eX, ↓reduceIte, Nat.reduceEqDiff, Int.reduceToNat]
      first
      | refine OW_guardT rfl (lt_some (by decide)) rfl (fun K hK r => ?_)
        simp only [x_move, eX, ↓reduceIte, Nat.reduceEqDiff, Int.reduceToNat]
        refine hK _ _ ?_; clear hK K
      | refine OW_guardF rfl (lt_some (by decide)) rfl ?_
        simp only [eX, ↓reduceIte, Nat.reduceEqDiff, Int.reduceToNat]
      first
      | refine OW_guardT rfl (lt_some (by decide)) rfl (fun K hK r => ?_)
        rw [x_nilCheck _ _ rfl]
        simp only [eX, ↓reduceIte, Nat.reduceEqDiff, Int.reduceToNat]
        refine hK _ _ ?_; clear hK K
      | refine OW_guardF rfl (lt_some (by decide)) rfl ?_
        simp only [eX, ↓reduceIte, Nat.reduceEqDiff, Int.reduceToNat]
      first
      | refine OW_guardT rfl (lt_some (by decide)) rfl (fun K hK r => ?_)
        simp only [x_fieldAddr, fa74_1, add_mk, Nat.reduceAdd, Nat.zero_add, eX, ↓reduceIte, Nat.reduceEqDiff, Int.reduceToNat]
        refine hK _ _ ?_; clear hK K
      | refine OW_guardF rfl (lt_some (by decide)) rfl ?_
        simp only [eX, ↓reduceIte, Nat.reduceEqDiff, Int.reduceToNat]
      first
      | refine OW_guardT rfl (lt_some (by decide)) rfl (fun K hK r => ?_)
        simp only [x_load, eX, ↓reduceIte, Nat.reduceEqDiff, Int.reduceToNat]
        refine Lt_loadAt1 Try.underlying3 rfl hbA ldA ?_
        try simp only [eX, ↓reduceIte, Nat.reduceEqDiff, Int.reduceToNat]
        refine hK _ _ ?_; clear hK K
      | refine OW_guardF rfl (lt_some (by decide)) rfl ?_
        simp only [eX, ↓reduceIte, Nat.reduceEqDiff, Int.reduceToNat]
      first
      | refine OW_guardT rfl (lt_some (by decide)) rfl (fun K hK r => ?_)
        simp (disch := (first | omega | decide)) only [x_bin, g_int, b_leq, dec_lt_t, dec_lt_f, dec_le_t, dec_le_f, dec_eq_t, dec_eq_f, Bool.not_true, Bool.not_false, eX, ↓reduceIte, Nat.reduceEqDiff, Int.reduceToNat]
        refine hK _ _ ?_; clear hK K
      | refine OW_guardF rfl (lt_some (by decide)) rfl ?_
        simp only [eX, ↓reduceIte, Nat.reduceEqDiff, Int.reduceToNat]
      first
      | refine OW_guardT rfl (lt_some (by decide)) rfl (fun K hK r => ?_)
        simp only [x_pick, l_asBool, HL.ite_bool, if_true, if_false, Bool.false_eq_true, eX, ↓reduceIte, Nat.reduceEqDiff, Int.reduceToNat]
        refine hK _ _ ?_; clear hK K
      | refine OW_guardF rfl (lt_some (by decide)) rfl ?_
        simp only [eX, ↓reduceIte, Nat.reduceEqDiff, Int.reduceToNat]
      refine OW_opS (fun K hK r => ?_)
      simp only [x_pick, l_asBool, HL.ite_bool, if_true, if_false, Bool.false_eq_true, eX, ↓reduceIte, Nat.reduceEqDiff, Int.reduceToNat]
      refine hK _ _ ?_; clear hK K
      refine OW_nil ?_
      try simp only [Ex.thnH, Ex.inBlockH, ↓reduceIte, Nat.reduceEqDiff]
      refine hK3 _ _ ?_; try clear hK3 K3
      refine CW_cond (fun r => rfl) (fun c19 => ?_) (fun c19 => ?_)
      · first
        | (exfalso; exact cnA c19; done)
        | skip
          (try simp only [decide_eq_true_eq, decide_eq_false_iff_not, Bool.not_eq_true, Bool.not_eq_false, Bool.and_eq_true, Bool.or_eq_true, Bool.or_eq_false_iff, Bool.not_eq_true, Bool.not_eq_eq_eq_not, Bool.not_true, Bool.not_false] at c19)
          refine CW_seq (fun K4 hK4 => ?_)
          refine CW_region ?_
          refine OW_mv rfl ?_
          refine OW_opS (fun K hK r => ?_)
          rw [x_nilCheck _ _ rfl]
          simp only [eX, ↓reduceIte, Nat.reduceEqDiff, Int.reduceToNat]
          refine hK _ _ ?_; clear hK K
          refine OW_opS (fun K hK r => ?_)
          simp only [x_fieldAddr, fa74_3, add_mk, Nat.reduceAdd, Nat.zero_add, eX, ↓reduceIte, Nat.reduceEqDiff, Int.reduceToNat]
          refine hK _ _ ?_; clear hK K
          refine OW_op rfl (lt_none) (fun K hK r => ?_)
          simp only [x_store, eX, ↓reduceIte, Nat.reduceEqDiff, Int.reduceToNat]
          refine Lt_storeAt1 sz4 hbA bdA plA fzA ?_
          try simp only [setL0, setL1, setL2, setL3, setL4, setL5, setL6, setL7, setL8, setL9]
          try simp only [eX, ↓reduceIte, Nat.reduceEqDiff, Int.reduceToNat]
          refine hK _ _ ?_; clear hK K
          refine OW_nil ?_
          try simp only [Ex.thnH, Ex.inBlockH, ↓reduceIte, Nat.reduceEqDiff]
          refine hK4 _ _ ?_; try clear hK4 K4
          refine CW_seq (fun K5 hK5 => ?_)
          refine CW_region ?_
          refine OW_opS (fun K hK r => ?_)
          simp only [x_makeInterface, i_makeInterface, Try.underlying71, orF_some, eX, ↓reduceIte, Nat.reduceEqDiff, Int.reduceToNat]
          refine hK _ _ ?_; clear hK K
          refine OW_as rfl ?_
          refine OW_nil ?_
          try simp only [Ex.thnH, Ex.inBlockH, ↓reduceIte, Nat.reduceEqDiff]
          refine hK5 _ _ ?_; try clear hK5 K5
          refine CW_ret ?_
          try simp only [Ex.thnH, Ex.inBlockH, ↓reduceIte, Nat.reduceEqDiff]
          have hs : s.step = ({ s with gone := true }, false) := by unfold St.step; rw [if_pos (by simp_all)]
          refine ⟨[_], ⟨rfl, trivial⟩, _, Le.refl _, ?_, ?_⟩
          · rw [hs]; rfl
          · rw [hs]
      · first
        | (exfalso; exact cnA c19; done)
        | skip
          (try simp only [decide_eq_true_eq, decide_eq_false_iff_not, Bool.not_eq_true, Bool.not_eq_false, Bool.and_eq_true, Bool.or_eq_true, Bool.or_eq_false_iff, Bool.not_eq_true, Bool.not_eq_eq_eq_not, Bool.not_true, Bool.not_false] at c19)
          refine CW_skip ?_
          try simp only [Ex.thnH, Ex.inBlockH, ↓reduceIte, Nat.reduceEqDiff]
          refine hK2 _ _ ?_; try clear hK2 K2
          refine CW_seq (fun K6 hK6 => ?_)
          refine CW_region ?_
          refine OW_mv rfl ?_
          refine OW_opS (fun K hK r => ?_)
          rw [x_nilCheck _ _ rfl]
          simp only [eX, ↓reduceIte, Nat.reduceEqDiff, Int.reduceToNat]
          refine hK _ _ ?_; clear hK K
          refine OW_opS (fun K hK r => ?_)
          simp only [x_fieldAddr, fa74_1, add_mk, Nat.reduceAdd, Nat.zero_add, eX, ↓reduceIte, Nat.reduceEqDiff, Int.reduceToNat]
          refine hK _ _ ?_; clear hK K
          refine OW_opS (fun K hK r => ?_)
          simp only [x_load, eX, ↓reduceIte, Nat.reduceEqDiff, Int.reduceToNat]
          refine Lt_loadAt1 Try.underlying3 rfl hbA ldA ?_
          try simp only [eX, ↓reduceIte, Nat.reduceEqDiff, Int.reduceToNat]
          refine hK _ _ ?_; clear hK K
          refine OW_opS (fun K hK r => ?_)
          simp (disch := (first | omega | decide)) only [x_bin, g_int, b_sub, wrap_i64, wrap_u64, wrap_u32, wrap_u8, eX, ↓reduceIte, Nat.reduceEqDiff, Int.reduceToNat]
          refine hK _ _ ?_; clear hK K
          refine OW_opS (fun K hK r => ?_)
          rw [x_nilCheck _ _ rfl]
          simp only [eX, ↓reduceIte, Nat.reduceEqDiff, Int.reduceToNat]
          refine hK _ _ ?_; clear hK K
          refine OW_opS (fun K hK r => ?_)
          simp only [x_fieldAddr, fa74_1, add_mk, Nat.reduceAdd, Nat.zero_add, eX, ↓reduceIte, Nat.reduceEqDiff, Int.reduceToNat]
          refine hK _ _ ?_; clear hK K
          refine OW_op rfl (lt_none) (fun K hK r => ?_)
          simp only [x_store, eX, ↓reduceIte, Nat.reduceEqDiff, Int.reduceToNat]
          refine Lt_storeAt1 sz3 hbA bdA plA fzA ?_
          try simp only [setL0, setL1, setL2, setL3, setL4, setL5, setL6, setL7, setL8, setL9]
          try simp only [eX, ↓reduceIte, Nat.reduceEqDiff, Int.reduceToNat]
          refine hK _ _ ?_; clear hK K
          refine OW_nil ?_
          try simp only [Ex.thnH, Ex.inBlockH, ↓reduceIte, Nat.reduceEqDiff]
          refine hK6 _ _ ?_; try clear hK6 K6
          refine CW_seq (fun K7 hK7 => ?_)
          refine CW_region ?_
          refine OW_mv rfl ?_
          refine OW_opS (fun K hK r => ?_)
          rw [x_nilCheck _ _ rfl]
          simp only [eX, ↓reduceIte, Nat.reduceEqDiff, Int.reduceToNat]
          refine hK _ _ ?_; clear hK K
          refine OW_opS (fun K hK r => ?_)
          simp only [x_fieldAddr, fa74_0, add_mk, Nat.reduceAdd, Nat.zero_add, eX, ↓reduceIte, Nat.reduceEqDiff, Int.reduceToNat]
          refine hK _ _ ?_; clear hK K
          refine OW_opS (fun K hK r => ?_)
          simp only [x_load, eX, ↓reduceIte, Nat.reduceEqDiff, Int.reduceToNat]
          refine Lt_loadAt1 Try.underlying3 rfl hbA ldA ?_
          try simp only [eX, ↓reduceIte, Nat.reduceEqDiff, Int.reduceToNat]
          refine hK _ _ ?_; clear hK K
          refine OW_opS (fun K hK r => ?_)
          simp (disch := (first | omega | decide)) only [x_bin, g_int, b_add, wrap_i64, wrap_u64, wrap_u32, wrap_u8, eX, ↓reduceIte, Nat.reduceEqDiff, Int.reduceToNat]
          refine hK _ _ ?_; clear hK K
          refine OW_opS (fun K hK r => ?_)
          rw [x_nilCheck _ _ rfl]
          simp only [eX, ↓reduceIte, Nat.reduceEqDiff, Int.reduceToNat]
          refine hK _ _ ?_; clear hK K
          refine OW_opS (fun K hK r => ?_)
          simp only [x_fieldAddr, fa74_0, add_mk, Nat.reduceAdd, Nat.zero_add, eX, ↓reduceIte, Nat.reduceEqDiff, Int.reduceToNat]
          refine hK _ _ ?_; clear hK K
          refine OW_op rfl (lt_none) (fun K hK r => ?_)
          simp only [x_store, eX, ↓reduceIte, Nat.reduceEqDiff, Int.reduceToNat]
          refine Lt_storeAt1 sz3 hbA bdA plA fzA ?_
          try simp only [setL0, setL1, setL2, setL3, setL4, setL5, setL6, setL7, setL8, setL9]
          try simp only [eX, ↓reduceIte, Nat.reduceEqDiff, Int.reduceToNat]
          refine hK _ _ ?_; clear hK K
          refine OW_nil ?_
          try simp only [Ex.thnH, Ex.inBlockH, ↓reduceIte, Nat.reduceEqDiff]
          refine hK7 _ _ ?_; try clear hK7 K7
          refine CW_seq (fun K8 hK8 => ?_)
          refine CW_region ?_
          refine OW_as rfl ?_
          refine OW_nil ?_
          try simp only [Ex.thnH, Ex.inBlockH, ↓reduceIte, Nat.reduceEqDiff]
          refine hK8 _ _ ?_; try clear hK8 K8
          refine CW_ret ?_
          try simp only [Ex.thnH, Ex.inBlockH, ↓reduceIte, Nat.reduceEqDiff]
          have hs : s.step = ({ s with left := IntKind.i64.wrap (s.left - 1), steps := IntKind.i64.wrap (s.steps + 1) }, true) := by unfold St.step; rw [if_neg (by simp_all)]
          refine ⟨[_], ⟨rfl, trivial⟩, _, Le.refl _, ?_, ?_⟩
          · rw [hs]; rfl
          · rw [hs]

end Go.Proofs.Ytkmjncmdhinlgaa.HL
end
section
namespace Go.Proofs.Ytkmjncmdhinlgaa.HL
open Go
set_option linter.unusedSimpArgs false
structure Rw where
  a : Option Addr
  n : Nat
  cap : Nat
  rs : Option Nat
deriving Inhabited
abbrev Rw.v (r : Rw) : Value := .slice r.a r.n r.cap
abbrev rvs (L : List Rw) : List Value := L.map Rw.v
def mkB (i t : Nat) : Int := IntKind.u8.wrap (31 * (i : Int) + 3 * (t : Int) + 1)
def mks (i n : Nat) : List Int := (List.range n).map (mkB i)
theorem mks_len (i n : Nat) : (mks i n).length = n := by simp [mks]
theorem mks_succ (i n : Nat) : mks i (n + 1) = mks i n ++ [mkB i n] := by simp [mks, List.range_succ]
theorem mks_get (i n t : Nat) (h : t < n) : (mks i n).getD t 0 = mkB i t := by
  simp [mks, List.getD_eq_getElem?_getD, List.getElem?_map, List.getElem?_range h]
theorem mks_take (i : Nat) {n m : Nat} (h : m ≤ n) : (mks i n).take m = mks i m := by
  simp [mks, ← List.map_take, List.take_range, Nat.min_eq_left h]
/-- an element of a list of rows -/
abbrev rw_ (L : List Rw) (i : Nat) : Rw := L.getD i default
def RowsC (E : TypeId) (H : Hp) (L : List Rw) (C : Nat → List Int) : Prop := ∀ i, i < L.length → OwnS H E 1 (rw_ L i).v (rw_ L i).n (u8s (C i)) (rw_ L i).rs
def RDis (L : List Rw) : Prop := ∀ i j, i < L.length → j < L.length → i ≠ j → ∀ r, (rw_ L i).rs = some r → (rw_ L j).rs ≠ some r
def rown (L : List Rw) (b : Nat) : Prop := ∃ i, i < L.length ∧ (rw_ L i).rs = some b
def MC (L : List Rw) (C : Nat → List Int) (k j : Nat) : Prop := ∀ i t, i < L.length → t < (rw_ L i).n → (i < k ∨ (i = k ∧ t < j)) → (C i).getD t 0 = mkB i t
theorem OwnS.len8 {H : Hp} {E : TypeId} {v : Value} {n : Nat} {l : List Int} {rs : Option Nat} (h : OwnS H E 1 v n (u8s l) rs) : l.length = n := by have := h.1; simp at this; omega
/-- A row that isn't empty: its block. -/
theorem RowsC.row {E : TypeId} {H : Hp} {L : List Rw} {C : Nat → List Int} (h : RowsC E H L C) {k : Nat} (hk : k < L.length) (hn : 0 < (rw_ L k).n) :
    ∃ r c, (rw_ L k).a = some ⟨r, 0, none⟩ ∧ (rw_ L k).rs = some r ∧ H r = some (.cells c E) ∧ (rw_ L k).n ≤ c.size ∧ (c.extract 0 (rw_ L k).n).toList = u8s (C k) := by
  obtain ⟨_, ⟨_, h0, _⟩ | ⟨r, cap, c, e1, e2, e3, e4, e5, e6⟩⟩ := h k hk
  · omega
  · injection e1 with e1 _ e7
    exact ⟨r, c, e1, e6, e2, by omega, by simpa using e5⟩
theorem RowsC.set {E : TypeId} {H : Hp} {L : List Rw} {C : Nat → List Int} (h : RowsC E H L C) (hd : RDis L) {k t : Nat} (hk : k < L.length) (ht : t < (rw_ L k).n) (x : Int) {r : Nat} {c : Array Value}
    (ha : (rw_ L k).a = some ⟨r, 0, none⟩) (hr : (rw_ L k).rs = some r) (hc : H r = some (.cells c E)) : RowsC E (H.upd r (.cells (c.setIfInBounds t (.int .u8 x)) E)) L (fun i => if i = k then (C k).set t x else C i) := by
  intro i hi
  by_cases e : i = k
  · subst e
    simp only [if_true]
    have h1 := h i hi
    rw [hr] at h1 ⊢
    have h2 : (rw_ L i).v = .slice (some ⟨r, 0, none⟩) (rw_ L i).n (rw_ L i).cap := by simp only [Rw.v, ha]
    rw [h2] at h1 ⊢
    exact h1.set hc t ht x
  · simp only [if_neg e]
    exact (h i hi).upd (hd k i hk hi (Ne.symm e) r hr)
theorem MC.set {L : List Rw} {C : Nat → List Int} {k j : Nat} (h : MC L C k j) (hj : j < (C k).length) : MC L (fun i => if i = k then (C k).set j (mkB k j) else C i) k (j + 1) := by
  intro i t hi ht hc
  by_cases e : i = k
  · subst e
    simp only [if_true]
    by_cases e2 : t = j
    · subst e2
      simp [List.getD_eq_getElem?_getD, List.getElem?_set_self hj]
    · have := h i t hi ht (by omega)
      rw [← this]
      simp [List.getD_eq_getElem?_getD, List.getElem?_set_ne (Ne.symm e2)]
  · simp only [if_neg e]
    exact h i t hi ht (by omega)
theorem MC.next {L : List Rw} {C : Nat → List Int} {k : Nat} (h : MC L C k (rw_ L k).n) : MC L C (k + 1) 0 := by
  intro i t hi ht hc
  refine h i t hi ht ?_
  rcases hc with hc | hc
  · by_cases e : i = k
    · subst e; exact .inr ⟨rfl, ht⟩
    · exact .inl (by omega)
  · omega
theorem MC.all {E : TypeId} {H : Hp} {L : List Rw} {C : Nat → List Int} (h : RowsC E H L C) (hm : MC L C L.length 0) : RowsC E H L (fun i => mks i (rw_ L i).n) := by
  intro i hi
  have h1 := h i hi
  have e : C i = mks i (rw_ L i).n := by
    apply List.ext_getElem?
    intro t
    by_cases ht : t < (rw_ L i).n
    · have h2 := hm i t hi ht (.inl hi)
      have h3 : t < (C i).length := by rw [h1.len8]; exact ht
      have h4 : t < (mks i (rw_ L i).n).length := by rw [mks_len]; exact ht
      have h5 := mks_get i (rw_ L i).n t ht
      rw [List.getElem?_eq_getElem h3, List.getElem?_eq_getElem h4]
      have g : ∀ (l : List Int) (h : t < l.length), l.getD t 0 = l[t] := fun l h => by simp [List.getD_eq_getElem?_getD, List.getElem?_eq_getElem h]
      rw [g _ h3] at h2
      rw [g _ h4] at h5
      rw [h2, h5]
    · rw [List.getElem?_eq_none (by rw [h1.len8]; omega), List.getElem?_eq_none (by rw [mks_len]; omega)]
  simp only [← e]; exact h1
abbrev mksOf (X : List Rw) : Nat → List Int := fun i => mks i (rw_ X i).n
theorem rw_set {X : List Rw} {k : Nat} {y : Rw} (hk : k < X.length) (i : Nat) : rw_ (X.set k y) i = if i = k then y else rw_ X i := by
  by_cases e : i = k
  · subst e; simp [List.getD_eq_getElem?_getD, List.getElem?_set_self hk]
  · rw [if_neg e]; simp [List.getD_eq_getElem?_getD, List.getElem?_set_ne (Ne.symm e)]
theorem Holds.le' {H H' : Hp} {w n cap : Nat} {a : Option Addr} {cs : List Value} (h : Holds H w (.slice a n cap) n cs) (k : ∀ A o, a = some A → H A.block = some o → H' A.block = some o) : Holds H' w (.slice a n cap) n cs := by
  obtain ⟨h1, h2 | ⟨b, o, cap', c, T, f, e, h4, h5⟩⟩ := h
  · exact ⟨h1, .inl h2⟩
  · cases e
    exact ⟨h1, .inr ⟨b, o, _, c, T, f, rfl, k _ _ rfl h4, h5⟩⟩
/-- What stands of the rows while they are grown: rows behind k as they were, row k longer by t, rows ahead by 10. -/
def gext (k t i : Nat) : Nat := if i < k then 10 else if i = k then t else 0
structure GI (E : TypeId) (H0 H : Hp) (L X : List Rw) (k t : Nat) : Prop where
  len : X.length = L.length
  rows : RowsC E H X (mksOf X)
  dis : RDis X
  ns : ∀ i, i < L.length → (rw_ X i).n = (rw_ L i).n + gext k t i
  old : ∀ i, i < L.length → Holds H 1 (rw_ L i).v (rw_ L i).n (u8s (mks i (rw_ L i).n))
  eq : ∀ i, i < L.length → gext k t i = 0 → rw_ X i = rw_ L i
  fresh : ∀ i, i < L.length → ∀ r, (rw_ X i).rs = some r → (rw_ L i).rs = some r ∨ H0 r = none
  frame : ∀ b o, H0 b = some o → ¬ rown L b → H b = some o
  kn : ∀ b, H b = none → H0 b = none
theorem Grow.none {H H' : Hp} {rs : Option Nat} (h : Grow H rs H') : ∀ b, H' b = none → H b = none := by
  intro b hb
  rcases h with rfl | ⟨r, o, _, rfl⟩
  · exact hb
  · by_cases e : b = r
    · subst e; rw [upd_same] at hb; cases hb
    · rwa [upd_ne _ _ e] at hb
theorem Holds.pref {H : Hp} {E : TypeId} {v : Value} {n m : Nat} {i : Nat} {r : Nat} {cap : Nat} (h : OwnS H E 1 v n (u8s (mks i n)) (some r)) (hm : m ≤ n) : Holds H 1 (.slice (some ⟨r, 0, none⟩) m cap) m (u8s (mks i m)) := by
  obtain ⟨_, ⟨_, _, h0⟩ | ⟨r', cap', c, e1, e2, e3, e4, e5, e6⟩⟩ := h
  · cases h0
  · cases e6
    refine ⟨by simp [mks_len], .inr ⟨r, 0, cap, c, E, _, rfl, e2, by omega, ?_⟩⟩
    have : (c.extract 0 m).toList = (u8s (mks i n)).take m := by
      rw [← e5]; simp [Array.toList_extract, List.extract_eq_take_drop, List.take_take, Nat.min_eq_left hm]
    simp only [Nat.zero_add, Nat.mul_one]
    rw [this, u8s, ← List.map_take, mks_take i hm]
theorem GI.grow {E : TypeId} {H0 H H' : Hp} {L X : List Rw} {k t : Nat} (g : GI E H0 H L X k t) (hk : k < L.length) (hL : ∀ i, i < L.length → (rw_ L i).n = 0 ∨ ∃ r, (rw_ L i).a = some ⟨r, 0, none⟩ ∧ (rw_ L i).rs = some r)
    (hdL : RDis L) (hkn : ∀ i, i < L.length → ∀ r, (rw_ L i).rs = some r → H0 r ≠ none) {a' : Option Addr} {cap' : Nat} {rs' : Option Nat} (hg : Grow H (rw_ X k).rs H') (ho : OwnS H' E 1 (.slice a' ((rw_ X k).n + 1) cap') ((rw_ X k).n + 1) (u8s (mks k (rw_ X k).n) ++ [.int .u8 (mkB k (rw_ X k).n)]) rs')
    (hr : ∀ r, rs' = some r → (rw_ X k).rs = some r ∨ H r = none) : GI E H0 H' L (X.set k ⟨a', (rw_ X k).n + 1, cap', rs'⟩) k (t + 1) := by
  have hkx : k < X.length := by rw [g.len]; exact hk
  have ho' : OwnS H' E 1 (.slice a' ((rw_ X k).n + 1) cap') ((rw_ X k).n + 1) (u8s (mks k ((rw_ X k).n + 1))) rs' := by
    rw [mks_succ, u8s, List.map_append]; exact ho
  -- blocks of other rows stand
  have stay : ∀ i, i < L.length → i ≠ k → ∀ b o, (rw_ X i).rs = some b → H b = some o → H' b = some o := fun i hi hik b o hb hbo =>
    hg.known b o hbo (fun e => g.dis k i hkx (by rw [g.len]; exact hi) (Ne.symm hik) b e hb)
  refine ⟨by simp [g.len], ?_, ?_, ?_, ?_, ?_, ?_, ?_, fun b hb => g.kn b (hg.none b hb)⟩
  · intro i hi
    have hi' : i < L.length := by simp [g.len] at hi; exact hi
    simp only [mksOf, rw_set hkx]
    by_cases e : i = k
    · subst e; simp only [if_true]; exact ho'
    · simp only [if_neg e]; exact (g.rows i (by rw [g.len]; exact hi')).stay (stay i hi' e)
  · intro i j hi hj hij r
    have hi' : i < L.length := by simp [g.len] at hi; exact hi
    have hj' : j < L.length := by simp [g.len] at hj; exact hj
    rw [rw_set hkx, rw_set hkx]
    by_cases e : i = k
    · subst e
      rw [if_pos rfl, if_neg (Ne.symm hij)]
      intro h1 h2
      rcases hr r h1 with h3 | h3
      · exact g.dis i j hkx (by rw [g.len]; exact hj') hij r h3 h2
      · exact (g.rows j (by rw [g.len]; exact hj')).known r h2 h3
    · rw [if_neg e]
      by_cases e2 : j = k
      · subst e2
        rw [if_pos rfl]
        intro h1 h2
        rcases hr r h2 with h3 | h3
        · exact g.dis i j (by rw [g.len]; exact hi') hkx hij r h1 h3
        · exact (g.rows i (by rw [g.len]; exact hi')).known r h1 h3
      · rw [if_neg e2]
        exact g.dis i j (by rw [g.len]; exact hi') (by rw [g.len]; exact hj') hij r
  · intro i hi
    rw [rw_set hkx]
    by_cases e : i = k
    · subst e; rw [if_pos rfl]
      have := g.ns i hi
      simp only [gext, Nat.lt_irrefl, if_false, if_true] at this ⊢; omega
    · rw [if_neg e]
      have := g.ns i hi
      simp only [gext, e, if_false] at this ⊢; exact this
  · intro i hi
    have hold := g.old i hi
    rcases hL i hi with h0 | ⟨r, ha, hrs⟩
    · have e0 : mks i (rw_ L i).n = [] := by rw [h0]; rfl
      refine ⟨by rw [e0, h0]; rfl, .inl ⟨(rw_ L i).a, (rw_ L i).cap, ?_, h0⟩⟩
      rw [Rw.v, h0]
    · by_cases e : i = k
      · subst e
        by_cases e2 : rs' = some r
        · rw [e2] at ho'
          have hle : (rw_ L i).n ≤ (rw_ X i).n + 1 := by have := g.ns i hi; omega
          have := Holds.pref (cap := (rw_ L i).cap) ho' hle
          rw [Rw.v, ha]; exact this
        · rw [Rw.v] at hold ⊢
          refine hold.le' ?_
          intro A o hA hAo
          rw [ha] at hA; cases hA
          rcases hg with rfl | ⟨r2, o2, h2, rfl⟩
          · exact hAo
          · rw [upd_ne _ _ ?_]; exact hAo
            intro e3
            simp only at e3
            subst e3
            -- the block that was changed is r: so it is the new slice's
            obtain ⟨_, ⟨_, h5, _⟩ | ⟨r4, _, _, _, h6, _, _, _, h7⟩⟩ := ho'
            · omega
            · rcases hr r4 h7 with h8 | h8
              · rcases h2 with h2 | h2
                · rw [h2] at h8; cases h8; exact e2 h7
                · rw [h2] at hAo; cases hAo
              · by_cases e5 : r4 = r
                · subst e5; exact e2 h7
                · rw [upd_ne _ _ e5, h8] at h6; cases h6
      · rw [Rw.v] at hold ⊢
        refine hold.le' ?_
        intro A o hA hAo
        rw [ha] at hA; cases hA
        refine hg.known _ _ hAo (fun e2 => ?_)
        rcases g.fresh k hk r e2 with h3 | h3
        · exact hdL k i hk hi (Ne.symm e) r h3 hrs
        · exact hkn i hi r hrs h3
  · intro i hi h0
    rw [rw_set hkx]
    by_cases e : i = k
    · subst e; simp [gext] at h0
    · rw [if_neg e]
      refine g.eq i hi ?_
      simpa [gext, e] using h0
  · intro i hi r
    rw [rw_set hkx]
    by_cases e : i = k
    · subst e; rw [if_pos rfl]
      intro h1
      rcases hr r h1 with h3 | h3
      · exact g.fresh i hi r h3
      · exact .inr (g.kn r h3)
    · rw [if_neg e]; exact g.fresh i hi r
  · intro b o hb hn
    refine hg.known b o (g.frame b o hb hn) (fun e => ?_)
    rcases g.fresh k hk b e with h3 | h3
    · exact hn ⟨k, hk, h3⟩
    · rw [hb] at h3; cases h3
theorem GI.next {E : TypeId} {H0 H : Hp} {L X : List Rw} {k : Nat} (g : GI E H0 H L X k 10) : GI E H0 H L X (k + 1) 0 := by
  have e : ∀ i, gext (k + 1) 0 i = gext k 10 i := fun i => by
    unfold gext
    by_cases h : i < k
    · rw [if_pos h, if_pos (by omega)]
    · by_cases h2 : i = k
      · rw [if_pos (by omega), if_neg h, if_pos h2]
      · rw [if_neg (by omega), if_neg h, if_neg h2]; simp
  exact ⟨g.len, g.rows, g.dis, fun i hi => by rw [e]; exact g.ns i hi, g.old, fun i hi h => g.eq i hi (by rw [← e]; exact h), g.fresh, g.frame, g.kn⟩
theorem GI.keep {E : TypeId} {H0 H H' : Hp} {L X : List Rw} {k t : Nat} (g : GI E H0 H L X k t) (hs : ∀ b o, H b = some o → (rown L b ∨ rown X b ∨ H0 b ≠ none) → H' b = some o)
    (hL : ∀ i, i < L.length → (rw_ L i).n = 0 ∨ ∃ r, (rw_ L i).a = some ⟨r, 0, none⟩ ∧ (rw_ L i).rs = some r) (hk : ∀ b, H' b = none → H b = none) : GI E H0 H' L X k t := by
  refine ⟨g.len, fun i hi => (g.rows i hi).stay (fun b o hb ho => hs b o ho (.inr (.inl ⟨i, hi, hb⟩))), g.dis, g.ns, fun i hi => ?_, g.eq, g.fresh, fun b o hb hn => hs b o (g.frame b o hb hn) (.inr (.inr (by rw [hb]; simp))), fun b hb => g.kn b (hk b hb)⟩
  rcases hL i hi with h0 | ⟨r, ha, hrs⟩
  · have e0 : mks i (rw_ L i).n = [] := by rw [h0]; rfl
    refine ⟨by rw [e0, h0]; rfl, .inl ⟨(rw_ L i).a, (rw_ L i).cap, ?_, h0⟩⟩
    rw [Rw.v, h0]
  · have hold := g.old i hi
    rw [Rw.v] at hold ⊢
    refine hold.le' ?_
    intro A o hA hAo
    rw [ha] at hA; cases hA
    exact hs _ _ hAo (.inl ⟨i, hi, hrs⟩)
theorem GI.start {E : TypeId} {H0 H : Hp} {L : List Rw} (h : RowsC E H L (mksOf L)) (hd : RDis L) (hf : ∀ b o, H0 b = some o → ¬ rown L b → H b = some o) : GI E H0 H L L 0 0 := by
  have hkn : ∀ b, H b = none → H0 b = none := fun b hb => by
    cases ho : H0 b with
    | none => rfl
    | some o =>
      by_cases e : rown L b
      · obtain ⟨i, hi, h1⟩ := e
        exact absurd hb ((h i hi).known b h1)
      · rw [hf b o ho e] at hb; cases hb
  refine ⟨rfl, h, hd, fun i _ => by simp [gext], fun i hi => (h i hi).holds, fun _ _ _ => rfl, fun i _ r hr => .inl hr, hf, hkn⟩
theorem upd_none {H : Hp} {x b : Nat} {o : Obj} (h : H.upd x o b = none) : H b = none := by
  by_cases e : b = x
  · subst e; rw [upd_same] at h; cases h
  · rwa [upd_ne _ _ e] at h
/-- a new block beside it -/
theorem GI.new {E : TypeId} {H0 H : Hp} {L X : List Rw} {k t : Nat} (g : GI E H0 H L X k t) (hL : ∀ i, i < L.length → (rw_ L i).n = 0 ∨ ∃ r, (rw_ L i).a = some ⟨r, 0, none⟩ ∧ (rw_ L i).rs = some r) {b : Nat} (hb : H b = none) (o : Obj) : GI E H0 (H.upd b o) L X k t :=
  g.keep (fun x o' hx _ => (upd_ne _ _ (ne_of_none hx hb)).trans hx) hL (fun _ h => upd_none h)
theorem RowsC.form {E : TypeId} {H : Hp} {L : List Rw} {C : Nat → List Int} (h : RowsC E H L C) : ∀ i, i < L.length → (rw_ L i).n = 0 ∨ ∃ r, (rw_ L i).a = some ⟨r, 0, none⟩ ∧ (rw_ L i).rs = some r := by
  intro i hi
  by_cases e : (rw_ L i).n = 0
  · exact .inl e
  · obtain ⟨r, c, h1, h2, _⟩ := h.row hi (by omega)
    exact .inr ⟨r, h1, h2⟩
theorem Lt_indexSof {P : Program} {H : Hp} {t e : TypeId} (hu : P.underlying t = some (.slice e)) {m : Nat} (hs : szOf P e = some m) {a : Option Addr} {b o n cap : Nat} (ha : a = some ⟨b, o, none⟩) {k : IntKind} {i : Int} (h0 : 0 ≤ i) (h1 : i < n) {K : Value → Hp → Prop}
    (h : K (.pointer (some ⟨b, o + i.toNat * m, none⟩)) H) : Lt P (Instr.indexAt t (.slice a n cap) (.int k i)) H K := by
  subst ha
  refine Lt_indexS hu hs h0 h1 ?_
  rw [add_mk]; exact h
end Go.Proofs.Ytkmjncmdhinlgaa.HL
end
section
namespace Go.Proofs.Ytkmjncmdhinlgaa.HL
open Go Go.Proofs
set_option linter.unusedSimpArgs false
set_option linter.unusedVariables false
attribute [local irreducible] Lt Lq CW OW TW CallH



theorem foldl_put : ∀ (l : List Value) (k off : Nat) (c : Array Value), (l.zipIdx k).foldl (fun cs (p : Value × Nat) => cs.setIfInBounds (off + p.2) p.1) c = putCells c (off + k) l
  | [], _, _, _ => rfl
  | v :: r, k, off, c => by
    simp only [List.zipIdx_cons, List.foldl_cons, putCells]
    rw [foldl_put r (k + 1) off]; rfl
theorem fill_many {place : Nat → Option (Nat × Nat)} {c : Array Value} {i off n : Nat} {v : Value} {l : List Value} {r : List (Nat × Value)} (hp : place i = some (off, n)) (hv : v.cells = l.toArray) (hn : l.length = n) (ho : off + n ≤ c.size) : Instr.fill place c ((i, v) :: r) = Instr.fill place (putCells c off l) r := by
  simp only [Instr.fill, hp, hv]
  rw [if_neg (by simp; omega)]
  congr 1
  rw [← Array.foldl_toList, Array.toList_zipIdx]
  exact foldl_put l 0 off c
theorem put_one {a : Value} {z l : List Value} (h : z.length = l.length) : putCells (a :: z).toArray 1 l = (a :: l).toArray := by
  apply Array.ext'
  rw [putCells_toList l _ 1 (by simp; omega)]
  rw [List.drop_eq_nil_of_le (by simp; omega)]; simp
theorem bw_ok (H : Hp) (K : Value → Hp → Prop) (i : Int) (x : Sec) : Lt Try.prog (Instr.build 87 #[(0, .int .i64 i), (1, .agg x.c.toArray)]) H K = K (.agg (Wt.c ⟨i, x⟩).toArray) H := by
  rw [bp87]
  rw [fill_one rfl rfl (by simp)]
  rw [fill_many (l := x.c) (n := 64) rfl rfl x.len (by simp), fill_nil, orF_some]
  simp only [List.setIfInBounds_toArray, List.set_cons_zero]
  rw [put_one (by rw [x.len]; rfl)]
theorem wt_holds {H : Hp} {b : Nat} {w : Wt} (hb : H b = some (.cells w.c.toArray 87)) : Holds H 65 (.slice (some ⟨b, 0, none⟩) 1 1) 1 w.c := by
  refine ⟨by rw [Wt.len], .inr ⟨b, 0, 1, _, _, _, rfl, hb, by simp [Sec.h], ?_⟩⟩
  rw [Array.toList_extract, List.extract_eq_take_drop]
  exact List.take_of_length_le (by rw [List.drop_zero, Wt.len]; omega)
theorem SX.mono {F K : Hp} {p : Nat} {s : St} {r cap : Nat} {bs : List Nat} {Fs : Nat → Hp} (h : SX F p s r cap bs Fs) (k : Le F K) : SX K p s r cap bs Fs :=
  ⟨k _ _ h.hd, h.len, h.own.le k, h.dev, fun i hi => Le.trans (h.le i hi) k, h.fp, h.sep⟩
theorem SX.ne {F : Hp} {p : Nat} {s : St} {r cap : Nat} {bs : List Nat} {Fs : Nat → Hp} (h : SX F p s r cap bs Fs) : r ≠ p := by
  obtain ⟨_, ⟨h0, _, _⟩ | ⟨r', cc, c, h1, h2, _⟩⟩ := h.own
  · cases h0
  · injection h1 with h1 _ _
    injection h1 with h1
    injection h1 with h1 _ _
    subst h1
    intro e; subst e
    rw [h.hd] at h2; injection h2 with h2; injection h2 with _ h2; revert h2; decide
/-- the set behind a change of one device, and of its head -/
theorem SX.put2 {F K : Hp} {p : Nat} {s t : St} {r cap : Nat} {bs : List Nat} {Fs : Nat → Hp} (h : SX F p s r cap bs Fs) {i : Nat} (hi : i < s.dv.length) {Fi : Hp} {d : Dv} (hd : DvX Fi (bs.getD i 0) d) (ht : t.dv = s.dv.set i d)
    (hK : K p = some (.cells #[.int .i64 t.steps, .int .i64 t.left, .bool t.armed, .bool t.gone, .slice (some ⟨r, 0, none⟩) s.dv.length cap] 77)) (hle : Le Fi K) (hkeep : ∀ x o, F x = some o → Fs i x = none → x ≠ p → K x = some o) (hnew : ∀ x, Fi x ≠ none → Fs i x ≠ none ∨ F x = none) : ∃ Fs', SX K p t r cap bs Fs' ∧ Fs' = (fun j => if j = i then Fi else Fs j) := by
  have hl : t.dv.length = s.dv.length := by rw [ht]; simp
  have hFp : ∀ x, F x ≠ none → Fs i x = none → Fi x = none := fun x hx hn => by
    cases hc : Fi x with
    | none => rfl
    | some o => rcases hnew x (by rw [hc]; simp) with h1 | h1
                · exact absurd hn h1
                · exact absurd h1 hx
  have hr : F r ≠ none := h.own.known r rfl
  refine ⟨fun j => if j = i then Fi else Fs j, ⟨by rw [hl]; exact hK, by rw [hl]; exact h.len, ?_, ?_, ?_, ?_, ?_⟩, rfl⟩
  · rw [hl]; exact h.own.stay (fun b o hb ho => by cases hb; exact hkeep r o ho (h.fp i hi).2 h.ne)
  · intro j hj
    rw [hl] at hj
    by_cases e : j = i
    · subst e; simp only [if_true]; rw [ht]; simpa [List.getD_eq_getElem?_getD, List.getElem?_set_self hi] using hd
    · simp only [if_neg e]; rw [ht]
      have := h.dev j hj
      simpa [List.getD_eq_getElem?_getD, List.getElem?_set_ne (Ne.symm e)] using this
  · intro j hj
    rw [hl] at hj
    by_cases e : j = i
    · subst e; simp only [if_true]; exact hle
    · simp only [if_neg e]
      intro x o hx
      refine hkeep x o (h.le j hj x o hx) (h.sep j i hj hi e x (by rw [hx]; simp)) (fun e2 => by subst e2; rw [(h.fp j hj).1] at hx; cases hx)
  · intro j hj
    rw [hl] at hj
    by_cases e : j = i
    · subst e; simp only [if_true]
      exact ⟨hFp p (by rw [h.hd]; simp) (h.fp j hj).1, hFp r hr (h.fp j hj).2⟩
    · simp only [if_neg e]; exact h.fp j hj
  · intro j k hj hk hjk x hx
    rw [hl] at hj hk
    by_cases e : j = i
    · subst e
      simp only [if_true] at hx
      simp only [if_neg (Ne.symm hjk)]
      rcases hnew x hx with h1 | h1
      · exact h.sep j k hj hk hjk x h1
      · exact none_of_le (h.le k hk) h1
    · simp only [if_neg e] at hx
      by_cases e2 : k = i
      · subst e2
        simp only [if_true]
        refine hFp x ?_ (h.sep j k hj hk hjk x hx)
        cases hc : Fs j x with
        | none => exact absurd hc hx
        | some o => rw [h.le j hj x o hc]; simp
      · simp only [if_neg e2]; exact h.sep j k hj hk hjk x hx
theorem SX.put {F K : Hp} {p : Nat} {s t : St} {r cap : Nat} {bs : List Nat} {Fs : Nat → Hp} (h : SX F p s r cap bs Fs) {i : Nat} (hi : i < s.dv.length) {Fi : Hp} {d : Dv} (hd : DvX Fi (bs.getD i 0) d) (ht : t.dv = s.dv.set i d)
    (hK : K p = some (.cells #[.int .i64 t.steps, .int .i64 t.left, .bool t.armed, .bool t.gone, .slice (some ⟨r, 0, none⟩) s.dv.length cap] 77)) (hle : Le Fi K) (hkeep : ∀ x o, F x = some o → Fs i x = none → x ≠ p → K x = some o) (hnew : ∀ x, Fi x ≠ none → Fs i x ≠ none ∨ F x = none) : SetX K p t := by
  obtain ⟨Fs', h', _⟩ := h.put2 hi hd ht hK hle hkeep hnew
  exact ⟨r, cap, bs, Fs', h'⟩
/-- the set behind a change of its head -/
theorem SX.head {F K : Hp} {p : Nat} {s t : St} {r cap : Nat} {bs : List Nat} {Fs : Nat → Hp} (h : SX F p s r cap bs Fs) (ht : t.dv = s.dv)
    (hK : K p = some (.cells #[.int .i64 t.steps, .int .i64 t.left, .bool t.armed, .bool t.gone, .slice (some ⟨r, 0, none⟩) s.dv.length cap] 77)) (hkeep : ∀ x o, F x = some o → x ≠ p → K x = some o) : SX K p t r cap bs Fs := by
  refine ⟨by rw [ht]; exact hK, by rw [ht]; exact h.len, by rw [ht]; exact h.own.stay (fun b o hb ho => by cases hb; exact hkeep r o ho h.ne), by rw [ht]; exact h.dev, ?_, by rw [ht]; exact h.fp, by rw [ht]; exact h.sep⟩
  rw [ht]
  exact fun i hi x o hx => hkeep x o (h.le i hi x o hx) (fun e => by subst e; rw [(h.fp i hi).1] at hx; cases hx)
theorem DvX.put {K : Hp} {b m : Nat} {d : Dv} {w : Wt} {es : Array MapEntry} {c : Nat} {wv' : Value} {wrs' : Option Nat} (hb : K b = some (.cells #[.int .i64 d.size, .map (some m), wv'] 82)) (hm : K m = some (.map es c)) (hs : MapS es d.sure) (ho : OwnS K 87 65 wv' (d.wait.length + 1) (wts d.wait ++ w.c) wrs') :
    ∃ Fi, DvX Fi b (d.put w) ∧ Le Fi K ∧ ∀ x, Fi x ≠ none → x = b ∨ x = m ∨ wrs' = some x := by
  refine ⟨fun x => if x = b ∨ x = m ∨ wrs' = some x then K x else none, ⟨m, es, c, wv', wrs', by simpa [Dv.put] using hb, by simpa using hm, hs, ?_, fun x hx => ?_⟩, fun x o hx => ?_, fun x hx => ?_⟩
  · have e : wts (d.put w).wait = wts d.wait ++ w.c := by simp [Dv.put, wts]
    have e2 : (d.put w).wait.length = d.wait.length + 1 := by simp [Dv.put]
    rw [e, e2]
    exact ho.stay (fun b o hb ho => by simp [hb, ho])
  · by_cases h : x = b ∨ x = m ∨ wrs' = some x
    · exact h
    · simp [h] at hx
  · by_cases h : x = b ∨ x = m ∨ wrs' = some x
    · simpa [h] using hx
    · simp [h] at hx
  · by_cases h : x = b ∨ x = m ∨ wrs' = some x
    · exact h
    · simp [h] at hx


theorem has_dev (H : Hp) (p : Nat) (s : St) (rd cap : Nat) (bs : List Nat) (Fs : Nat → Hp) (h : SX H p s rd cap bs Fs) (dev i : Int) : CallH Try.prog 31 #[devV s bs dev, .int .i64 i] H (fun v H' => v = .bool (s.has dev i) ∧ H' = H) := by
  unfold devV St.has
  by_cases hin : 0 ≤ dev ∧ dev < s.dv.length
  · rw [if_pos hin]
    obtain ⟨m, wv, hb⟩ := (h.dev dev.toNat (by omega)).blk
    refine (has_ok H _ _ _ _ (h.le dev.toNat (by omega) _ _ hb) i).mono ?_
    rintro v H' ⟨rfl, rfl⟩
    exact ⟨by simp [hin], rfl⟩
  · rw [if_neg hin]
    refine (has_nil H i).mono ?_
    rintro v H' ⟨rfl, rfl⟩
    exact ⟨by simp [hin], rfl⟩

set_option maxRecDepth 100000 in
set_option maxHeartbeats 4000000 in
theorem write_ok (H : Hp) (p : Nat) (s : St) (rd cap : Nat) (bs : List Nat) (Fs : Nat → Hp) (h : SX H p s rd cap bs Fs) (hl : s.dv.length ≤ 1000) (hw : ∀ i, (s.dv.getD i default).wait.length ≤ 1000000) (dev i : Int) (x : Sec) : CallH Try.prog 11 #[(.pointer (some ⟨p, 0, none⟩)), .int .i64 dev, .int .i64 i, x.v] H (fun v H' => v = errV (s.wr dev i x).2 ∧ SetX H' p (s.wr dev i x).1) := by
  refine CallH_enter (l := [_, _, _, _]) (rl := [.tmp 8]) (n := 43) Try.func11 rfl rfl rfl rfl rfl ?_
  simp only [envOf, Nat.reduceAdd]
  refine CW_seq (fun K1 hK1 => ?_)
  refine CW_region ?_
  refine OW_opS (fun K hK r => ?_)
  simp only [x_box, Value.cells, eX, ↓reduceIte, Nat.reduceEqDiff, Int.reduceToNat]
  intro b7 hb7
  have f7_H : H b7 = none := none_of_le lhA hb7
  have h7 := h.mono (le_upd H b7 (.cells x.c.toArray 38) hb7)
  have k7p := h7.hd
  try simp only [eX, ↓reduceIte, Nat.reduceEqDiff, Int.reduceToNat]
  refine hK _ _ ?_; clear hK K
  refine OW_as rfl ?_
  refine OW_nil ?_
  try simp only [Ex.thnH, Ex.inBlockH, ↓reduceIte, Nat.reduceEqDiff]
  refine hK1 _ _ ?_; try clear hK1 K1
  refine CW_seq (fun K2 hK2 => ?_)
  refine CW_region ?_
  refine OW_mv rfl ?_
  refine OW_mv rfl ?_
  refine OW_opS (fun K hK r => ?_)
  simp only [x_callF _ bd30, List.map_toArray, List.map_cons, List.map_nil, eX, ↓reduceIte, Nat.reduceEqDiff, Int.reduceToNat]
  refine (device_ok _ p s rd cap bs Fs h7 dev hl).mono ?_
  rintro v H' ⟨rfl, rfl⟩
  try simp only [eX, ↓reduceIte, Nat.reduceEqDiff, Int.reduceToNat]
  refine hK _ _ ?_; clear hK K
  refine OW_as rfl ?_
  refine OW_nil ?_
  try simp only [Ex.thnH, Ex.inBlockH, ↓reduceIte, Nat.reduceEqDiff]
  refine hK2 _ _ ?_; try clear hK2 K2
  refine CW_seq (fun K3 hK3 => ?_)
  refine CW_block ?_
  refine CW_seq (fun K4 hK4 => ?_)
  refine CW_region ?_
  refine OW_mv rfl ?_
  refine OW_opS (fun K hK r => ?_)
  simp only [x_bin, g_int, g_bool, g_string, g_pointer, g_slice, g_map, g_func, g_nilFunc, g_iface, g_nil_iface, g_nil_r, g_nil_l, eX, ↓reduceIte, Nat.reduceEqDiff, Int.reduceToNat]
  rw [e_eql _ _ _ _ (by simp)]
  rw [q_equal]
  first | rw [q_ptr_nil _ _ _ Try.underlying26] | rw [q_nil_ptr _ _ _ Try.underlying26]
  try simp only [eX, ↓reduceIte, Nat.reduceEqDiff, Int.reduceToNat]
  refine hK _ _ ?_; clear hK K
  refine OW_as rfl ?_
  refine OW_nil ?_
  try simp only [Ex.thnH, Ex.inBlockH, ↓reduceIte, Nat.reduceEqDiff]
  refine hK4 _ _ ?_; try clear hK4 K4
  refine CW_cond (fun r => rfl) (fun c14 => ?_) (fun c14 => ?_)
  · first
    | (exfalso; exact cnA c14; done)
    | skip
      (try simp only [decide_eq_true_eq, decide_eq_false_iff_not, Bool.not_eq_true, Bool.not_eq_false, Bool.and_eq_true, Bool.or_eq_true, Bool.or_eq_false_iff, Bool.not_eq_true, Bool.not_eq_eq_eq_not, Bool.not_true, Bool.not_false] at c14)
      refine CW_seq (fun K5 hK5 => ?_)
      refine CW_region ?_
      refine OW_opS (fun K hK r => ?_)
      simp only [x_makeInterface, i_makeInterface, Try.underlying71, orF_some, eX, ↓reduceIte, Nat.reduceEqDiff, Int.reduceToNat]
      refine hK _ _ ?_; clear hK K
      refine OW_as rfl ?_
      refine OW_nil ?_
      try simp only [Ex.thnH, Ex.inBlockH, ↓reduceIte, Nat.reduceEqDiff]
      refine hK5 _ _ ?_; try clear hK5 K5
      refine CW_ret ?_
      try simp only [Ex.thnH, Ex.inBlockH, ↓reduceIte, Nat.reduceEqDiff]
      skip
  · first
    | (exfalso; exact cnA c14; done)
    | skip
      (try simp only [decide_eq_true_eq, decide_eq_false_iff_not, Bool.not_eq_true, Bool.not_eq_false, Bool.and_eq_true, Bool.or_eq_true, Bool.or_eq_false_iff, Bool.not_eq_true, Bool.not_eq_eq_eq_not, Bool.not_true, Bool.not_false] at c14)
      refine CW_seq (fun K6 hK6 => ?_)
      refine CW_region ?_
      refine OW_mv rfl ?_
      refine OW_mv rfl ?_
      refine OW_opS (fun K hK r => ?_)
      simp only [x_callF _ bd31, List.map_toArray, List.map_cons, List.map_nil, eX, ↓reduceIte, Nat.reduceEqDiff, Int.reduceToNat]
      refine (has_dev _ p s rd cap bs Fs h7 dev i).mono ?_
      rintro v H' ⟨rfl, rfl⟩
      try simp only [eX, ↓reduceIte, Nat.reduceEqDiff, Int.reduceToNat]
      refine hK _ _ ?_; clear hK K
      refine OW_opS (fun K hK r => ?_)
      simp only [x_un, u_not, eX, ↓reduceIte, Nat.reduceEqDiff, Int.reduceToNat]
      refine hK _ _ ?_; clear hK K
      refine OW_as rfl ?_
      refine OW_nil ?_
      try simp only [Ex.thnH, Ex.inBlockH, ↓reduceIte, Nat.reduceEqDiff]
      refine hK6 _ _ ?_; try clear hK6 K6
      refine CW_cond (fun r => rfl) (fun c18 => ?_) (fun c18 => ?_)
      · first
        | (exfalso; exact cnA c18; done)
        | skip
          (try simp only [decide_eq_true_eq, decide_eq_false_iff_not, Bool.not_eq_true, Bool.not_eq_false, Bool.and_eq_true, Bool.or_eq_true, Bool.or_eq_false_iff, Bool.not_eq_true, Bool.not_eq_eq_eq_not, Bool.not_true, Bool.not_false] at c18)
          have hno : s.has dev i = false := by simpa using c18
          refine CW_seq (fun K7 hK7 => ?_)
          refine CW_region ?_
          refine OW_opS (fun K hK r => ?_)
          simp only [x_makeInterface, i_makeInterface, Try.underlying71, orF_some, eX, ↓reduceIte, Nat.reduceEqDiff, Int.reduceToNat]
          refine hK _ _ ?_; clear hK K
          refine OW_as rfl ?_
          refine OW_nil ?_
          try simp only [Ex.thnH, Ex.inBlockH, ↓reduceIte, Nat.reduceEqDiff]
          refine hK7 _ _ ?_; try clear hK7 K7
          refine CW_ret ?_
          try simp only [Ex.thnH, Ex.inBlockH, ↓reduceIte, Nat.reduceEqDiff]
          refine ⟨[_], ⟨rfl, trivial⟩, _, Le.refl _, ?_, ?_⟩
          · show _ = errV _
            unfold St.wr; rw [if_neg (by rw [hno]; simp)]; rfl
          · unfold St.wr; rw [if_neg (by rw [hno]; simp)]; exact ⟨rd, cap, bs, Fs, h7⟩
      · first
        | (exfalso; exact cnA c18; done)
        | skip
          (try simp only [decide_eq_true_eq, decide_eq_false_iff_not, Bool.not_eq_true, Bool.not_eq_false, Bool.and_eq_true, Bool.or_eq_true, Bool.or_eq_false_iff, Bool.not_eq_true, Bool.not_eq_eq_eq_not, Bool.not_true, Bool.not_false] at c18)
          have hyes : s.has dev i = true := by simpa using c18
          have hin : 0 ≤ dev ∧ dev < s.dv.length := by unfold St.has at hyes; simp at hyes; omega
          have hk : dev.toNat < s.dv.length := by omega
          have hdv : devV s bs dev = ptrV (bs.getD dev.toNat 0) := by unfold devV; rw [if_pos hin]
          rw [hdv]
          obtain ⟨b, hbd⟩ : ∃ b, b = bs.getD dev.toNat 0 := ⟨_, rfl⟩
          rw [← hbd]
          obtain ⟨m, es, c, wv, wrs, hb0, hm0, hms, how, hdom⟩ := hbd ▸ h.dev dev.toNat hk
          have hle := h.le dev.toNat hk
          have hfp := h.fp dev.toNat hk
          have hbp : b ≠ p := fun e => by rw [e, hfp.1] at hb0; cases hb0
          have hmp : m ≠ p := fun e => by rw [e, hfp.1] at hm0; cases hm0
          have hb7' : b ≠ b7 := ne_of_none (hle _ _ hb0) hb7
          have hm7' : m ≠ b7 := ne_of_none (hle _ _ hm0) hb7
          have hp7 : p ≠ b7 := ne_of_none h.hd hb7
          have kb := hle _ _ hb0
          have km := hle _ _ hm0
          obtain ⟨wa, wcp, rfl⟩ := how.holds.form
          refine CW_skip ?_
          try simp only [Ex.thnH, Ex.inBlockH, ↓reduceIte, Nat.reduceEqDiff]
          refine hK3 _ _ ?_; try clear hK3 K3
          refine CW_seq (fun K8 hK8 => ?_)
          refine CW_seq (fun K9 hK9 => ?_)
          refine CW_region ?_
          refine OW_mv rfl ?_
          refine OW_opS (fun K hK r => ?_)
          rw [x_nilCheck _ _ rfl]
          simp only [eX, ↓reduceIte, Nat.reduceEqDiff, Int.reduceToNat]
          refine hK _ _ ?_; clear hK K
          refine OW_opS (fun K hK r => ?_)
          simp only [x_fieldAddr, fa77_0, add_mk, Nat.reduceAdd, Nat.zero_add, eX, ↓reduceIte, Nat.reduceEqDiff, Int.reduceToNat]
          refine hK _ _ ?_; clear hK K
          refine OW_opS (fun K hK r => ?_)
          simp only [x_callF _ bd32, List.map_toArray, List.map_cons, List.map_nil, eX, ↓reduceIte, Nat.reduceEqDiff, Int.reduceToNat]
          refine (step_ok _ p s _ h7.hd).mono ?_
          rintro v H' ⟨rfl, rfl⟩
          try simp only [eX, ↓reduceIte, Nat.reduceEqDiff, Int.reduceToNat]
          refine hK _ _ ?_; clear hK K
          refine OW_as rfl ?_
          refine OW_nil ?_
          try simp only [Ex.thnH, Ex.inBlockH, ↓reduceIte, Nat.reduceEqDiff]
          refine hK9 _ _ ?_; try clear hK9 K9
          refine CW_seq (fun K10 hK10 => ?_)
          refine CW_region ?_
          refine OW_mv rfl ?_
          refine OW_opS (fun K hK r => ?_)
          simp only [x_bin, g_int, g_bool, g_string, g_pointer, g_slice, g_map, g_func, g_nilFunc, g_err, g_iface, g_nil_iface, g_nil_r, g_nil_l, eX, ↓reduceIte, Nat.reduceEqDiff, Int.reduceToNat]
          first | rw [b_err_neq _ _ Try.underlying28] | (rw [e_neq _ _ _ _ (by simp), q_equal]; first | rw [q_iface_nil _ _ _ Try.underlying28] | rw [q_nil_iface _ _ _ Try.underlying28] | rw [q_nil_nil _ _ _ Try.underlying28])
          try simp only [eX, ↓reduceIte, Nat.reduceEqDiff, Int.reduceToNat]
          refine hK _ _ ?_; clear hK K
          refine OW_nil ?_
          try simp only [Ex.thnH, Ex.inBlockH, ↓reduceIte, Nat.reduceEqDiff]
          refine hK10 _ _ ?_; try clear hK10 K10
          refine CW_cond (fun r => rfl) (fun c29 => ?_) (fun c29 => ?_)
          · first
            | (exfalso; exact cnA c29; done)
            | skip
              (try simp only [decide_eq_true_eq, decide_eq_false_iff_not, Bool.not_eq_true, Bool.not_eq_false, Bool.and_eq_true, Bool.or_eq_true, Bool.or_eq_false_iff, Bool.not_eq_true, Bool.not_eq_eq_eq_not, Bool.not_true, Bool.not_false] at c29)
              have hst : s.step.2 = false := by cases hc : s.step.2 with
                | false => rfl
                | true => rw [hc] at c29; simp at c29
              refine CW_seq (fun K11 hK11 => ?_)
              refine CW_region ?_
              refine OW_mv rfl ?_
              refine OW_as rfl ?_
              refine OW_nil ?_
              try simp only [Ex.thnH, Ex.inBlockH, ↓reduceIte, Nat.reduceEqDiff]
              refine hK11 _ _ ?_; try clear hK11 K11
              refine CW_ret ?_
              try simp only [Ex.thnH, Ex.inBlockH, ↓reduceIte, Nat.reduceEqDiff]
              have hwr : s.wr dev i x = (s.step.1, some 3) := by
                unfold St.wr; rw [if_pos hyes]
                generalize hq : s.step = q at *
                obtain ⟨t, bb⟩ := q
                simp only at hst; subst hst; rfl
              refine ⟨[_], ⟨rfl, trivial⟩, _, Le.refl _, ?_, ?_⟩
              · rw [hwr, hst]; rfl
              · rw [hwr]; exact ⟨rd, cap, bs, Fs, h7.head (step_dv s) (upd_same _ _ _) (fun z o hz hzp => (upd_ne _ _ hzp).trans hz)⟩
          · first
            | (exfalso; exact cnA c29; done)
            | skip
              (try simp only [decide_eq_true_eq, decide_eq_false_iff_not, Bool.not_eq_true, Bool.not_eq_false, Bool.and_eq_true, Bool.or_eq_true, Bool.or_eq_false_iff, Bool.not_eq_true, Bool.not_eq_eq_eq_not, Bool.not_true, Bool.not_false] at c29)
              have hst : s.step.2 = true := by cases hc : s.step.2 with
                | true => rfl
                | false => rw [hc] at c29; simp at c29
              have hwl := hw dev.toNat
              refine CW_skip ?_
              try simp only [Ex.thnH, Ex.inBlockH, ↓reduceIte, Nat.reduceEqDiff]
              refine hK8 _ _ ?_; try clear hK8 K8
              refine CW_seq (fun K12 hK12 => ?_)
              obtain ⟨R9, hR9⟩ : ∃ R : Hp, R = (emptyHp.upd b (.cells #[.int .i64 (s.dv.getD dev.toNat default).size, .map (some m), .slice wa (s.dv.getD dev.toNat default).wait.length wcp] 82)).upd b7 (.cells x.c.toArray 38) := ⟨_, rfl⟩
              refine CW_drawR [0, 0, 0, 0, 1, 0, 1, 0, 2, 2, 0, 0, 3] [0, 1, 2, 3, 4, 5, 6, 7, 8, 9, 10, 11, 12] R9 (by kernel_rfl) (by kernel_rfl) (by subst hR9; exact le_put (le_put (le_empty _) hbA) hbA) (fun lR9 => ?_)
              apply TW_pure rfl (lt_some (by decide)) rfl
              · intro r
                simp only [x_move, eX, ↓reduceIte, Nat.reduceEqDiff]
                exact ⟨rfl, Le.refl _⟩
              simp only [eX, ↓reduceIte, Nat.reduceEqDiff, Int.reduceToNat]
              apply TW_pure rfl (lt_some (by decide)) rfl
              · intro r
                simp only [x_move, eX, ↓reduceIte, Nat.reduceEqDiff]
                exact ⟨rfl, Le.refl _⟩
              simp only [eX, ↓reduceIte, Nat.reduceEqDiff, Int.reduceToNat]
              apply TW_pure rfl (lt_some (by decide)) rfl
              · intro r
                rw [x_nilCheck _ _ rfl]
                exact ⟨rfl, Le.refl _⟩
              simp only [eX, ↓reduceIte, Nat.reduceEqDiff, Int.reduceToNat]
              apply TW_pure rfl (lt_some (by decide)) rfl
              · intro r
                simp only [x_fieldAddr, fa82_2, add_mk, Nat.reduceAdd, Nat.zero_add, eX, ↓reduceIte, Nat.reduceEqDiff]
                exact ⟨rfl, Le.refl _⟩
              simp only [eX, ↓reduceIte, Nat.reduceEqDiff, Int.reduceToNat]
              apply TW_look rfl (lt_some (by decide)) rfl
              · intro r
                simp only [x_load, eX, ↓reduceIte, Nat.reduceEqDiff]
                refine Lt_loadAt1 Try.underlying80 rfl hbA ldA ?_
                exact ⟨rfl, Le.refl _⟩
              simp only [eX, ↓reduceIte, Nat.reduceEqDiff, Int.reduceToNat]
              apply TW_pure rfl (lt_some (by decide)) rfl
              · intro r
                simp only [x_move, eX, ↓reduceIte, Nat.reduceEqDiff]
                exact ⟨rfl, Le.refl _⟩
              simp only [eX, ↓reduceIte, Nat.reduceEqDiff, Int.reduceToNat]
              apply TW_look rfl (lt_some (by decide)) rfl
              · intro r
                simp only [x_load, eX, ↓reduceIte, Nat.reduceEqDiff]
                refine Lt_loadAll Try.underlying38 rfl sz38 hbA (by simp [x.h]) ?_
                exact ⟨rfl, Le.refl _⟩
              simp only [eX, ↓reduceIte, Nat.reduceEqDiff, Int.reduceToNat]
              apply TW_pure rfl (lt_some (by decide)) rfl
              · intro r
                simp only [x_build, List.map_toArray, List.map_cons, List.map_nil, eX, ↓reduceIte, Nat.reduceEqDiff]
                rw [bw_ok]
                exact ⟨rfl, Le.refl _⟩
              simp only [eX, ↓reduceIte, Nat.reduceEqDiff, Int.reduceToNat]
              refine TW_chain rfl (lt_some (by decide)) rfl (fun K hK r => ?_)
              simp only [x_buildSlice, List.map_toArray, List.map_cons, List.map_nil, eX, ↓reduceIte, Nat.reduceEqDiff, Int.reduceToNat]
              refine Lt_buildSlice (vs := [.agg (Wt.c ⟨i, x⟩).toArray]) Try.underlying80 sz87 zr87 rfl (fun v hv => by simp at hv; subst hv; show (Wt.c ⟨i, x⟩).toArray.size = 65; simp [Sec.h]) (by first | decide | (simp; done)) ?_
              simp only [List.flatMap_cons, List.flatMap_nil, Value.cells, List.append_nil]
              intro b39 hb39
              have n39b : b ≠ b39 := ne_of_none hbA hb39
              have n39b7 : b7 ≠ b39 := ne_of_none hbA hb39
              have n39p : p ≠ b39 := ne_of_none hbA hb39
              have f39_R9 : R9 b39 = none := none_of_le lR9 hb39
              refine hK _ _ leA ?_; clear hK K
              refine TW_chain rfl (lt_some (by decide)) rfl (fun K hK r => ?_)
              simp only [x_builtin, l_append, List.map_toArray, List.map_cons, List.map_nil, eX, ↓reduceIte, Nat.reduceEqDiff, Int.reduceToNat]
              have how40 : OwnS ((H.upd b7 (.cells x.c.toArray 38)).upd p (.cells #[.int .i64 s.step.1.steps, .int .i64 s.step.1.left, .bool s.step.1.armed, .bool s.step.1.gone, .slice (some ⟨rd, 0, none⟩) s.dv.length cap] 77)) 87 65 (.slice wa (s.dv.getD dev.toNat default).wait.length wcp) (s.dv.getD dev.toNat default).wait.length (wts (s.dv.getD dev.toNat default).wait) wrs := (how.le hle).stay (fun z o hz ho => by
                have hzp : z ≠ p := fun e => by subst e; have := how.known z hz; rw [hfp.1] at this; exact this rfl
                rw [upd_ne _ _ hzp, upd_ne _ _ (ne_of_none ho hb7)]; exact ho)
              refine Lt_append Try.underlying80 Try.underlying80 (by simp) sz87 by87 (by decide) zr87 rfl _ (n := (s.dv.getD dev.toNat default).wait.length) (m := 1) (ds := Wt.c ⟨i, x⟩) (how40.make hb39) (fun Kx => len_slice _ _ _ Kx) (fun Kx => first_slice (w := 65) (n := 1) (cs := Wt.c ⟨i, x⟩) (wt_holds (w := ⟨i, x⟩) hbA) Kx) (by rw [Wt.len]) (Wt.plain _) (by omega) ?_
              intro v40 H40 rs40 hg40 ho40 hr40
              obtain ⟨wa40, wc40, rfl⟩ := ho40.holds.form
              have hwb : wrs ≠ some b := fun e => by
                obtain ⟨_, ⟨_, _, h0⟩ | ⟨r', cc, c', _, h2, _, _, _, h3⟩⟩ := how
                · rw [e] at h0; cases h0
                · rw [e] at h3; cases h3; rw [hb0] at h2; injection h2 with h2; injection h2 with _ h2; revert h2; decide
              have hw7 : wrs ≠ some b7 := fun e => how.known b7 e (none_of_le hle hb7)
              have hwp : wrs ≠ some p := fun e => how.known p e hfp.1
              have hwm : wrs ≠ some m := fun e => by
                obtain ⟨_, ⟨_, _, h0⟩ | ⟨r', cc, c', _, h2, _, _, _, h3⟩⟩ := how
                · rw [e] at h0; cases h0
                · rw [e] at h3; cases h3; rw [hm0] at h2; cases h2
              have hbm : b ≠ m := fun e => by rw [e, hm0] at hb0; cases hb0
              have kb40 := hg40.known b _ hbA hwb
              have k740 := hg40.known b7 _ hbA hw7
              have kp40 := hg40.known p _ hbA hwp
              have lR40 : Le R9 H40 := by rw [hR9]; exact le_put (le_put (le_empty _) kb40) k740
              have keep40 : ∀ x o, H x = some o → Fs dev.toNat x = none → x ≠ p → H40 x = some o := fun z o hz hn hzp => hg40.known z o ((upd_ne _ _ (ne_of_none ((upd_ne _ _ hzp).trans ((upd_ne _ _ (ne_of_none hz hb7)).trans hz)) hb39)).trans ((upd_ne _ _ hzp).trans ((upd_ne _ _ (ne_of_none hz hb7)).trans hz))) (fun e => how.known z e hn)
              have km40 : H40 m = some (.map es c) := hg40.known m _ ((upd_ne _ _ (ne_of_none ((upd_ne _ _ hmp).trans ((upd_ne _ _ hm7').trans km)) hb39)).trans ((upd_ne _ _ hmp).trans ((upd_ne _ _ hm7').trans km))) hwm
              refine hK _ _ leA ?_; clear hK K
              apply TW_pure rfl (lt_some (by decide)) rfl
              · intro r
                rw [x_nilCheck _ _ rfl]
                exact ⟨rfl, Le.refl _⟩
              simp only [eX, ↓reduceIte, Nat.reduceEqDiff, Int.reduceToNat]
              apply TW_pure rfl (lt_some (by decide)) rfl
              · intro r
                simp only [x_fieldAddr, fa82_2, add_mk, Nat.reduceAdd, Nat.zero_add, eX, ↓reduceIte, Nat.reduceEqDiff]
                exact ⟨rfl, Le.refl _⟩
              simp only [eX, ↓reduceIte, Nat.reduceEqDiff, Int.reduceToNat]
              refine TW_last rfl (lt_none) rfl (fun K hK r => ?_)
              simp only [x_store, eX, ↓reduceIte, Nat.reduceEqDiff, Int.reduceToNat]
              refine Lt_storeAt1 sz80 hbA bdA plA fzA ?_
              try simp only [setL0, setL1, setL2, setL3, setL4, setL5, setL6, setL7, setL8, setL9]
              try simp only [eX, ↓reduceIte, Nat.reduceEqDiff, Int.reduceToNat]
              refine hK _ _ ?_; clear hK K
              refine TW_nil ?_
              try simp only [Ex.thnH, Ex.inBlockH, ↓reduceIte, Nat.reduceEqDiff]
              refine hK12 _ _ ?_; try clear hK12 K12
              refine CW_seq (fun K13 hK13 => ?_)
              refine CW_region ?_
              refine OW_as rfl ?_
              refine OW_nil ?_
              try simp only [Ex.thnH, Ex.inBlockH, ↓reduceIte, Nat.reduceEqDiff]
              refine hK13 _ _ ?_; try clear hK13 K13
              refine CW_ret ?_
              try simp only [Ex.thnH, Ex.inBlockH, ↓reduceIte, Nat.reduceEqDiff]
              have hwr : s.wr dev i x = ({ s.step.1 with dv := s.dv.set dev.toNat ((s.dv.getD dev.toNat default).put ⟨i, x⟩) }, none) := by
                unfold St.wr; rw [if_pos hyes]
                have hdq := step_dv s
                generalize hq : s.step = q at *
                obtain ⟨t, bb⟩ := q
                simp only at hst hdq; subst hst; rw [← hdq]
              obtain ⟨Fi, hFi, hlFi, hdFi⟩ := DvX.put (w := ⟨i, x⟩) (K := H40.upd b (.cells #[.int .i64 (s.dv.getD dev.toNat default).size, .map (some m), .slice wa40 ((s.dv.getD dev.toNat default).wait.length + 1) wc40] 82)) (upd_same _ _ _) ((upd_ne _ _ (Ne.symm hbm)).trans km40) hms (ho40.upd (fun e => by
                rcases hr40 b e with h1 | h1
                · exact hwb h1
                · have h2 := upd_none h1
                  rw [upd_ne _ _ hbp, upd_ne _ _ hb7', kb] at h2; cases h2))
              have hbF : Fs dev.toNat b ≠ none := by rw [hb0]; simp
              have hmF : Fs dev.toNat m ≠ none := by rw [hm0]; simp
              refine ⟨[_], ⟨rfl, trivial⟩, _, Le.refl _, ?_, ?_⟩
              · rw [hwr]; rfl
              · rw [hwr]
                refine h.put hk (hbd ▸ hFi) rfl ((upd_ne _ _ (Ne.symm hbp)).trans kp40) hlFi (fun z o hz hn hzp => (upd_ne _ _ (fun e => by subst e; exact hbF hn)).trans (keep40 z o hz hn hzp)) (fun z hz => ?_)
                rcases hdFi z hz with rfl | rfl | h1
                · exact .inl hbF
                · exact .inl hmF
                · rcases hr40 z h1 with h2 | h2
                  · exact .inl (how.known z h2)
                  · have h3 := upd_none h2
                    by_cases e : z = p
                    · subst e; rw [upd_same] at h3; cases h3
                    · rw [upd_ne _ _ e] at h3
                      exact .inr (upd_none h3)

end Go.Proofs.Ytkmjncmdhinlgaa.HL
end
section
namespace Go.Proofs.Ytkmjncmdhinlgaa.HL
open Go Go.Proofs
set_option linter.unusedSimpArgs false
set_option linter.unusedVariables false
attribute [local irreducible] Lt Lq CW OW TW CallH


theorem PlainL.drop {l : List Value} (h : PlainL l) (n : Nat) : PlainL (l.drop n) := fun v hv => h v (List.mem_of_mem_drop hv)
theorem wt_x (w : Wt) : (w.c.toArray).extract 1 (1 + 64) = w.x.c.toArray := by
  apply Array.ext'
  rw [Array.toList_extract, List.extract_eq_take_drop]
  show ((w.x.c).take 64) = _
  exact List.take_of_length_le (by rw [Sec.len]; omega)
theorem wt_at (w : Wt) : (w.c.toArray)[0]? = some (.int .i64 w.at_) := rfl
theorem torn_cells (x old : Sec) (t : Int) (h : 0 < t ∧ t < 64) : putCells x.c.toArray t.toNat (old.c.drop t.toNat) = (torn x old t).c.toArray := by
  apply Array.ext'
  have hl : (old.c.drop t.toNat).length = 64 - t.toNat := by rw [List.length_drop, Sec.len]
  rw [putCells_toList (old.c.drop t.toNat) x.c.toArray t.toNat (by rw [hl]; simp only [List.size_toArray, Sec.len]; omega), hl]
  unfold torn
  rw [dif_pos h]
  have e0 : List.drop (t.toNat + (64 - t.toNat)) (u8s x.b) = [] := List.drop_eq_nil_of_le (by rw [List.length_map, x.h]; omega)
  simp only [Sec.c, u8s, List.map_append, List.map_take, List.map_drop] at e0 ⊢
  rw [e0, List.append_nil]
theorem torn_not (x old : Sec) (t : Int) (h : ¬ (0 < t ∧ t < 64)) : torn x old t = x := by unfold torn; rw [dif_neg h]
theorem stN_none {kept : Nat → Option Int} {ws : List Wt} {s : Int → Sec} {n : Nat} (h : kept n = none) : stN kept ws s (n + 1) = stN kept ws s n := by simp only [stN, h]
theorem stN_some {kept : Nat → Option Int} {ws : List Wt} {s : Int → Sec} {n : Nat} {t : Int} (h : kept n = some t) : stN kept ws s (n + 1) = fun x => if x = (ws.getD n default).at_ then torn (ws.getD n default).x (stN kept ws s n (ws.getD n default).at_) t else stN kept ws s n x := by simp only [stN, h]
theorem sec_holds {H : Hp} {b : Nat} {x : Sec} {T : TypeId} (hb : H b = some (.cells x.c.toArray T)) {t : Nat} (ht : t ≤ 64) (cap : Nat) : Holds H 1 (.slice (some ⟨b, t, none⟩) (64 - t) cap) (64 - t) (x.c.drop t) := by
  refine ⟨by rw [List.length_drop, Sec.len]; omega, .inr ⟨b, t, _, _, _, _, rfl, hb, by simp only [List.size_toArray, Sec.len]; omega, ?_⟩⟩
  rw [Array.toList_extract, List.extract_eq_take_drop]
  exact List.take_of_length_le (by rw [List.length_drop, Sec.len]; omega)
theorem DvX.facts {F : Hp} {b : Nat} {d : Dv} (h : DvX F b d) : ∃ mb es c wv wrs, F b = some (.cells #[.int .i64 d.size, .map (some mb), wv] 82) ∧ F mb = some (.map es c) ∧ MapS es d.sure ∧ OwnS F 87 65 wv d.wait.length (wts d.wait) wrs ∧ b ≠ mb ∧ wrs ≠ some b ∧ wrs ≠ some mb := by
  obtain ⟨mb, es, c, wv, wrs, h1, h2, h3, h4, _⟩ := h
  refine ⟨mb, es, c, wv, wrs, h1, h2, h3, h4, (fun e => by rw [e, h2] at h1; cases h1), (fun e => ?_), (fun e => ?_)⟩
  · obtain ⟨_, ⟨_, _, h0⟩ | ⟨r', cc, c', _, g2, _, _, _, g3⟩⟩ := h4
    · rw [e] at h0; cases h0
    · rw [e] at g3; cases g3; rw [h1] at g2; injection g2 with g2; injection g2 with _ g2; revert g2; decide
  · obtain ⟨_, ⟨_, _, h0⟩ | ⟨r', cc, c', _, g2, _, _, _, g3⟩⟩ := h4
    · rw [e] at h0; cases h0
    · rw [e] at g3; cases g3; rw [h2] at g2; cases g2

set_option maxRecDepth 100000 in
set_option maxHeartbeats 8000000 in
theorem settle_ok (H : Hp) (b : Nat) (d : Dv) (F G : Hp) (hd : DvX F b d) (hF : Le F H) (hG : Le G H) (hdis : ∀ x, F x ≠ none → G x = none) (gf : Fn) (ga gb : Array Value) (kept : Nat → Option Int) (hg : ∀ K, Le G K → ∀ n : Nat, n < d.wait.length → ValH Try.prog (.func gf ga gb) #[.int .i64 n] K (fun v K' => v = .tuple #[.int .i64 ((kept n).getD 0), .bool (kept n).isSome] ∧ K' = K)) (hl : d.wait.length ≤ 1000000) :
  CallH Try.prog 33 #[ptrV b, .func gf ga gb] H (fun _ H' => ∃ F', DvX F' b (d.settle kept) ∧ Le F' H' ∧ (∀ x, F' x ≠ none → F x ≠ none) ∧ ∀ x o, H x = some o → F x = none → H' x = some o) := by
  refine CallH_enter (l := [_, _]) (rl := []) (n := 59) Try.func33 rfl rfl rfl rfl rfl ?_
  simp only [envOf, Nat.reduceAdd]
  obtain ⟨mb, es, c, wv, wrs, hb0, hm0, hms, how, hbm, hwb, hwm⟩ := hd.facts
  obtain ⟨wa, wcp, rfl⟩ := how.holds.form
  have kb := hF _ _ hb0
  have km := hF _ _ hm0
  have gm : G mb = none := hdis mb (by rw [hm0]; simp)
  refine CW_seq (fun K1 hK1 => ?_)
  refine CW_seq (fun K2 hK2 => ?_)
  refine CW_region ?_
  refine OW_mv rfl ?_
  refine OW_opS (fun K hK r => ?_)
  rw [x_nilCheck _ _ rfl]
  simp only [eX, ↓reduceIte, Nat.reduceEqDiff, Int.reduceToNat]
  refine hK _ _ ?_; clear hK K
  refine OW_opS (fun K hK r => ?_)
  simp only [x_fieldAddr, fa82_2, add_mk, Nat.reduceAdd, Nat.zero_add, eX, ↓reduceIte, Nat.reduceEqDiff, Int.reduceToNat]
  refine hK _ _ ?_; clear hK K
  refine OW_opS (fun K hK r => ?_)
  simp only [x_load, eX, ↓reduceIte, Nat.reduceEqDiff, Int.reduceToNat]
  refine Lt_loadAt1 Try.underlying80 rfl hbA ldA ?_
  try simp only [eX, ↓reduceIte, Nat.reduceEqDiff, Int.reduceToNat]
  refine hK _ _ ?_; clear hK K
  refine OW_opS (fun K hK r => ?_)
  simp only [x_builtin, l_len, List.map_toArray, List.map_cons, List.map_nil, i_len_slice _ _ Try.underlying80, eX, ↓reduceIte, Nat.reduceEqDiff, Int.reduceToNat]
  refine hK _ _ ?_; clear hK K
  refine OW_mv rfl ?_
  refine OW_nil ?_
  try simp only [Ex.thnH, Ex.inBlockH, ↓reduceIte, Nat.reduceEqDiff]
  refine hK2 _ _ ?_; try clear hK2 K2
  refine CW_block ?_
  refine CW_loop (fun m e H_ => ∃ (k : Nat) (es' : Array MapEntry) (c' : Nat), k ≤ d.wait.length ∧ m = d.wait.length - k ∧ MapS es' (stN kept d.wait d.sure k) ∧ H_ mb = some (.map es' c') ∧ (∀ x o, H x = some o → x ≠ mb → H_ x = some o) ∧ Env.has [(0, ptrV b), (1, .func gf ga gb), (13, .slice wa d.wait.length wcp), (14, .int .i64 d.wait.length), (15, .int .i64 k)] e) (d.wait.length) ?_ ?_
  · skip
    exact ⟨0, es, c, by omega, by omega, hms, km, (fun x o hx _ => hx), rfl, rfl, rfl, rfl, rfl, trivial⟩
  intro m_ e_ H_ hI_
  obtain ⟨k, es', c', hk, rfl, hms', km', hkp, he⟩ := hI_
  refine CW_env he.sub ?_; clear he e_
  have kb' := hkp b _ kb hbm
  have how_ : OwnS H_ 87 65 (.slice wa d.wait.length wcp) d.wait.length (wts d.wait) wrs := (how.le hF).stay (fun z o hz ho => hkp z o ho (fun e => hwm (by rw [hz, e])))
  have hG_ : Le G H_ := fun x o hx => hkp x o (hG x o hx) (fun e => by rw [e, gm] at hx; cases hx)
  have hi0 := hms'.1
  refine CW_seq (fun K3 hK3 => ?_)
  refine CW_region ?_
  refine OW_opS (fun K hK r => ?_)
  simp (disch := (first | omega | decide)) only [x_bin, g_int, b_lss, dec_lt_t, dec_lt_f, dec_le_t, dec_le_f, dec_eq_t, dec_eq_f, Bool.not_true, Bool.not_false, eX, ↓reduceIte, Nat.reduceEqDiff, Int.reduceToNat]
  refine hK _ _ ?_; clear hK K
  refine OW_nil ?_
  try simp only [Ex.thnH, Ex.inBlockH, ↓reduceIte, Nat.reduceEqDiff]
  refine hK3 _ _ ?_; try clear hK3 K3
  refine CW_seq (fun K4 hK4 => ?_)
  refine CW_cond (fun r => rfl) (fun c16 => ?_) (fun c16 => ?_)
  · first
    | (exfalso; exact cnA c16; done)
    | skip
      (try simp only [decide_eq_true_eq, decide_eq_false_iff_not, Bool.not_eq_true, Bool.not_eq_false, Bool.and_eq_true, Bool.or_eq_true, Bool.or_eq_false_iff, Bool.not_eq_true, Bool.not_eq_eq_eq_not, Bool.not_true, Bool.not_false] at c16)
      obtain ⟨bw, ow, cw, Tw, Fw, ew, hbw, hsw, atw⟩ := how_.holds.at (by omega)
      refine CW_skip ?_
      try simp only [Ex.thnH, Ex.inBlockH, ↓reduceIte, Nat.reduceEqDiff]
      refine hK4 _ _ ?_; try clear hK4 K4
      refine CW_seq (fun K5 hK5 => ?_)
      refine CW_block ?_
      refine CW_seq (fun K6 hK6 => ?_)
      refine CW_region ?_
      refine OW_mv rfl ?_
      refine OW_opS (fun K hK r => ?_)
      simp only [x_indexAddr, eX, ↓reduceIte, Nat.reduceEqDiff, Int.reduceToNat]
      refine Lt_indexSof Try.underlying80 sz87 ew ixA ixA ?_
      try simp only [Int.toNat_natCast]
      refine hK _ _ ?_; clear hK K
      refine OW_opS (fun K hK r => ?_)
      simp only [x_load, eX, ↓reduceIte, Nat.reduceEqDiff, Int.reduceToNat]
      refine Lt_loadAtA Try.underlying87 rfl sz87 hbw (by omega) ?_
      rw [ext_at Wt.len atw rfl k (by omega) hsw]
      refine hK _ _ ?_; clear hK K
      refine OW_opS (fun K hK r => ?_)
      simp only [x_alloc, zr87, orF_some, Value.cells, eX, ↓reduceIte, Nat.reduceEqDiff, Int.reduceToNat]
      intro b5 hb5
      try have n5_b : b ≠ b5 := ne_of_none hbA hb5
      try have n5_mb : mb ≠ b5 := ne_of_none hbA hb5
      have f5_H_ : H_ b5 = none := none_of_le lhA hb5
      try simp only [eX, ↓reduceIte, Nat.reduceEqDiff, Int.reduceToNat]
      refine hK _ _ ?_; clear hK K
      refine OW_as rfl ?_
      refine OW_op rfl (lt_none) (fun K hK r => ?_)
      simp only [x_store, eX, ↓reduceIte, Nat.reduceEqDiff, Int.reduceToNat]
      refine Lt_storeAll sz87 (by simp [Sec.h]) hbA (by simp [Sec.h]) (Wt.plain _) (by decide) ?_
      refine hK _ _ ?_; clear hK K
      refine OW_nil ?_
      try simp only [Ex.thnH, Ex.inBlockH, ↓reduceIte, Nat.reduceEqDiff]
      refine hK6 _ _ ?_; try clear hK6 K6
      refine CW_seq (fun K7 hK7 => ?_)
      refine CW_region ?_
      refine OW_mv rfl ?_
      refine OW_mv rfl ?_
      refine OW_opS (fun K hK r => ?_)
      simp only [x_call, List.map_toArray, List.map_cons, List.map_nil, eX, ↓reduceIte, Nat.reduceEqDiff, Int.reduceToNat]
      show ValH _ _ _ _ _
      refine (hg _ (by exact le_upd_of hG_ (none_of_le hG_ hb5)) k (by omega)).mono ?_
      rintro v H' ⟨rfl, hq⟩
      have hq := hq.symm
      subst hq
      try simp only [eX, ↓reduceIte, Nat.reduceEqDiff, Int.reduceToNat]
      refine hK _ _ ?_; clear hK K
      refine OW_mv rfl ?_
      refine OW_opS (fun K hK r => ?_)
      simp only [x_extract, i_extract, List.getElem?_toArray, List.getElem?_cons_zero, List.getElem?_cons_succ, orF_some, eX, ↓reduceIte, Nat.reduceEqDiff, Int.reduceToNat]
      refine hK _ _ ?_; clear hK K
      refine OW_opS (fun K hK r => ?_)
      simp only [x_extract, i_extract, List.getElem?_toArray, List.getElem?_cons_zero, List.getElem?_cons_succ, orF_some, eX, ↓reduceIte, Nat.reduceEqDiff, Int.reduceToNat]
      refine hK _ _ ?_; clear hK K
      refine OW_as rfl ?_
      refine OW_as rfl ?_
      refine OW_nil ?_
      try simp only [Ex.thnH, Ex.inBlockH, ↓reduceIte, Nat.reduceEqDiff]
      refine hK7 _ _ ?_; try clear hK7 K7
      refine CW_seq (fun K8 hK8 => ?_)
      refine CW_seq (fun K9 hK9 => ?_)
      refine CW_region ?_
      refine OW_mv rfl ?_
      refine OW_opS (fun K hK r => ?_)
      simp only [x_un, u_not, eX, ↓reduceIte, Nat.reduceEqDiff, Int.reduceToNat]
      refine hK _ _ ?_; clear hK K
      refine OW_nil ?_
      try simp only [Ex.thnH, Ex.inBlockH, ↓reduceIte, Nat.reduceEqDiff]
      refine hK9 _ _ ?_; try clear hK9 K9
      refine CW_cond (fun r => rfl) (fun c27 => ?_) (fun c27 => ?_)
      · first
        | (exfalso; exact cnA c27; done)
        | skip
          have hkt : kept k = none := by cases hc : kept k with
            | none => rfl
            | some t => rw [hc] at c27; simp at c27
          refine CW_exit ?_
          try simp only [Ex.thnH, Ex.inBlockH, ↓reduceIte, Nat.reduceEqDiff]
          refine hK5 _ _ ?_; try clear hK5 K5
          refine CW_region ?_
          refine OW_opS (fun K hK r => ?_)
          simp (disch := (first | omega | decide)) only [x_bin, g_int, b_add, wrap_i64, wrap_u64, wrap_u32, wrap_u8, eX, ↓reduceIte, Nat.reduceEqDiff, Int.reduceToNat]
          refine hK _ _ ?_; clear hK K
          refine OW_mv rfl ?_
          refine OW_nil ?_
          try simp only [Ex.thnH, Ex.inBlockH, ↓reduceIte, Nat.reduceEqDiff]
          first
          | (refine ⟨d.wait.length - (k + 1), by omega, k + 1, es', c', by omega, rfl, ?_, hbA, ?_, rfl, rfl, rfl, rfl, rfl, trivial⟩
             · rw [stN_none (by first | assumption | (simpa using c27))]; exact hms'
             · exact fun z o hz hn => (show Le H_ _ from lhA) z o (hkp z o hz hn))
          | (refine ⟨d.wait.length - (k + 1), by omega, k + 1, es9, c9, by omega, rfl, ?_, upd_same _ _ _, ?_, rfl, rfl, rfl, rfl, rfl, trivial⟩
             · rw [stN_some hkt]
               first
               | exact hms'.put h91 h92
               | (rw [torn_not _ _ _ htr]; exact hms'.put h91 h92)
             · exact fun z o hz hn => (upd_ne _ _ hn).trans ((show Le H_ _ from lhA) z o (hkp z o hz hn)))
      · first
        | (exfalso; exact cnA c27; done)
        | skip
          obtain ⟨t, hkt⟩ : ∃ t, kept k = some t := by cases hc : kept k with
            | none => rw [hc] at c27; simp at c27
            | some t => exact ⟨t, rfl⟩
          simp only [hkt, Option.getD_some]
          clear c27
          refine CW_skip ?_
          try simp only [Ex.thnH, Ex.inBlockH, ↓reduceIte, Nat.reduceEqDiff]
          refine hK8 _ _ ?_; try clear hK8 K8
          refine CW_seq (fun K10 hK10 => ?_)
          refine CW_region ?_
          refine OW_opS (fun K hK r => ?_)
          simp only [x_fieldAddr, fa87_1, add_mk, Nat.reduceAdd, Nat.zero_add, eX, ↓reduceIte, Nat.reduceEqDiff, Int.reduceToNat]
          refine hK _ _ ?_; clear hK K
          refine OW_opS (fun K hK r => ?_)
          simp only [x_load, eX, ↓reduceIte, Nat.reduceEqDiff, Int.reduceToNat]
          refine Lt_loadAtA Try.underlying38 rfl sz38 hbA (by simp [Sec.h]) ?_
          rw [wt_x]
          refine hK _ _ ?_; clear hK K
          refine OW_opS (fun K hK r => ?_)
          simp only [x_alloc, zr38, orF_some, Value.cells, eX, ↓reduceIte, Nat.reduceEqDiff, Int.reduceToNat]
          intro b8 hb8
          try have n8_b : b ≠ b8 := ne_of_none hbA hb8
          try have n8_mb : mb ≠ b8 := ne_of_none hbA hb8
          try have n8_b5 : b5 ≠ b8 := ne_of_none hbA hb8
          have f8_H_ : H_ b8 = none := none_of_le lhA hb8
          try simp only [eX, ↓reduceIte, Nat.reduceEqDiff, Int.reduceToNat]
          refine hK _ _ ?_; clear hK K
          refine OW_op rfl (lt_none) (fun K hK r => ?_)
          simp only [x_store, eX, ↓reduceIte, Nat.reduceEqDiff, Int.reduceToNat]
          refine Lt_storeAll sz38 (by simp [Sec.h]) hbA (by simp [Sec.h]) (PlainL.ints _ _) (by decide) ?_
          refine hK _ _ ?_; clear hK K
          refine OW_nil ?_
          try simp only [Ex.thnH, Ex.inBlockH, ↓reduceIte, Nat.reduceEqDiff]
          refine hK10 _ _ ?_; try clear hK10 K10
          refine CW_seq (fun K11 hK11 => ?_)
          refine CW_seq (fun K12 hK12 => ?_)
          refine CW_region ?_
          refine OW_mv rfl ?_
          refine OW_opS (fun K hK r => ?_)
          simp (disch := (first | omega | decide)) only [x_bin, g_int, b_gtr, dec_lt_t, dec_lt_f, dec_le_t, dec_le_f, dec_eq_t, dec_eq_f, Bool.not_true, Bool.not_false, eX, ↓reduceIte, Nat.reduceEqDiff, Int.reduceToNat]
          refine hK _ _ ?_; clear hK K
          refine OW_mv rfl ?_
          (first | refine OW_split (d := 32) rfl (fun g32 => ?_) (fun g32 => ?_) | skip)
          all_goals try (exfalso; exact cnA g32)
          all_goals (try simp only [decide_eq_true_eq, decide_eq_false_iff_not, Bool.not_eq_true, Bool.not_eq_false, Bool.and_eq_true, Bool.or_eq_true, Bool.or_eq_false_iff, Bool.not_eq_true, Bool.not_eq_eq_eq_not, Bool.not_true, Bool.not_false] at g32)
          all_goals
            try simp only [eX, ↓reduceIte, Nat.reduceEqDiff, Int.reduceToNat]
            first
            | refine OW_guardT rfl (lt_some (by decide)) rfl (fun K hK r => ?_)
              simp only [x_move, eX, ↓reduceIte, Nat.reduceEqDiff, Int.reduceToNat]
              refine hK _ _ ?_; clear hK K
            | refine OW_guardF rfl (lt_some (by decide)) rfl ?_
              simp only [eX, ↓reduceIte, Nat.reduceEqDiff, Int.reduceToNat]
            first
            | refine OW_guardT rfl (lt_some (by decide)) rfl (fun K hK r => ?_)
              simp (disch := (first | omega | decide)) only [x_bin, g_int, b_lss, dec_lt_t, dec_lt_f, dec_le_t, dec_le_f, dec_eq_t, dec_eq_f, Bool.not_true, Bool.not_false, eX, ↓reduceIte, Nat.reduceEqDiff, Int.reduceToNat]
              refine hK _ _ ?_; clear hK K
            | refine OW_guardF rfl (lt_some (by decide)) rfl ?_
              simp only [eX, ↓reduceIte, Nat.reduceEqDiff, Int.reduceToNat]
            refine OW_opS (fun K hK r => ?_)
            simp only [x_pick, l_asBool, HL.ite_bool, if_true, if_false, Bool.false_eq_true, eX, ↓reduceIte, Nat.reduceEqDiff, Int.reduceToNat]
            refine hK _ _ ?_; clear hK K
            refine OW_nil ?_
            try simp only [Ex.thnH, Ex.inBlockH, ↓reduceIte, Nat.reduceEqDiff]
            refine hK12 _ _ ?_; try clear hK12 K12
            refine CW_cond (fun r => rfl) (fun c35 => ?_) (fun c35 => ?_)
            · first
              | (exfalso; exact cnA c35; done)
              | skip
                (try simp only [decide_eq_true_eq, decide_eq_false_iff_not, Bool.not_eq_true, Bool.not_eq_false, Bool.and_eq_true, Bool.or_eq_true, Bool.or_eq_false_iff, Bool.not_eq_true, Bool.not_eq_eq_eq_not, Bool.not_true, Bool.not_false] at c35)
                have htr : 0 < t ∧ t < 64 := by omega
                refine CW_seq (fun K13 hK13 => ?_)
                refine CW_drawE [0, 0, 0, 1, 0, 1, 1, 4, 3] [0, 1, 2, 3, 4, 5, 6, 7, 8] (by kernel_rfl) (by kernel_rfl) (fun R7 hR7 => ?_)
                apply TW_pure rfl (lt_some (by decide)) rfl
                · intro r
                  simp only [x_move, eX, ↓reduceIte, Nat.reduceEqDiff]
                  exact ⟨rfl, Le.refl _⟩
                simp only [eX, ↓reduceIte, Nat.reduceEqDiff, Int.reduceToNat]
                apply TW_pure rfl (lt_some (by decide)) rfl
                · intro r
                  rw [x_nilCheck _ _ rfl]
                  exact ⟨rfl, Le.refl _⟩
                simp only [eX, ↓reduceIte, Nat.reduceEqDiff, Int.reduceToNat]
                apply TW_pure rfl (lt_some (by decide)) rfl
                · intro r
                  simp only [x_fieldAddr, fa82_1, add_mk, Nat.reduceAdd, Nat.zero_add, eX, ↓reduceIte, Nat.reduceEqDiff]
                  exact ⟨rfl, Le.refl _⟩
                simp only [eX, ↓reduceIte, Nat.reduceEqDiff, Int.reduceToNat]
                apply TW_look rfl (lt_some (by decide)) rfl
                · intro r
                  simp only [x_load, eX, ↓reduceIte, Nat.reduceEqDiff]
                  refine Lt_loadAt1 Try.underlying79 rfl hbA ldA ?_
                  exact ⟨rfl, Le.refl _⟩
                simp only [eX, ↓reduceIte, Nat.reduceEqDiff, Int.reduceToNat]
                apply TW_pure rfl (lt_some (by decide)) rfl
                · intro r
                  simp only [x_fieldAddr, fa87_0, add_mk, Nat.reduceAdd, Nat.zero_add, eX, ↓reduceIte, Nat.reduceEqDiff]
                  exact ⟨rfl, Le.refl _⟩
                simp only [eX, ↓reduceIte, Nat.reduceEqDiff, Int.reduceToNat]
                apply TW_look rfl (lt_some (by decide)) rfl
                · intro r
                  simp only [x_load, eX, ↓reduceIte, Nat.reduceEqDiff]
                  refine Lt_loadAt1 Try.underlying3 rfl hbA (wt_at (d.wait.getD k default)) ?_
                  exact ⟨rfl, Le.refl _⟩
                simp only [eX, ↓reduceIte, Nat.reduceEqDiff, Int.reduceToNat]
                apply TW_look rfl (lt_some (by decide)) rfl
                · intro r
                  simp only [x_lookup, eX, ↓reduceIte, Nat.reduceEqDiff]
                  refine Lt_lookup Try.underlying79 Try.underlying3 zr38 hbA hi0 ?_
                  rw [hms'.2]
                  exact ⟨rfl, Le.refl _⟩
                simp only [eX, ↓reduceIte, Nat.reduceEqDiff, Int.reduceToNat]
                refine TW_make rfl (lt_some (by decide)) rfl (fun K hK r => ?_)
                simp only [x_alloc, zr38, orF_some, Value.cells, eX, ↓reduceIte, Nat.reduceEqDiff, Int.reduceToNat]
                intro b9 hb9
                try have n9_b : b ≠ b9 := ne_of_none hbA hb9
                try have n9_mb : mb ≠ b9 := ne_of_none hbA hb9
                try have n9_b5 : b5 ≠ b9 := ne_of_none hbA hb9
                try have n9_b8 : b8 ≠ b9 := ne_of_none hbA hb9
                have f9_H_ : H_ b9 = none := none_of_le lhA hb9
                have f9_R7 : R7 b9 = none := none_of_le lhA hb9
                try simp only [eX, ↓reduceIte, Nat.reduceEqDiff, Int.reduceToNat]
                refine hK _ _ ?_; clear hK K
                refine TW_last rfl (lt_none) rfl (fun K hK r => ?_)
                simp only [x_store, eX, ↓reduceIte, Nat.reduceEqDiff, Int.reduceToNat]
                refine Lt_storeAll sz38 (by simp [Sec.h]) hbA (by simp [Sec.h]) (PlainL.ints _ _) (by decide) ?_
                refine hK _ _ ?_; clear hK K
                refine TW_nil ?_
                try simp only [Ex.thnH, Ex.inBlockH, ↓reduceIte, Nat.reduceEqDiff]
                refine hK13 _ _ ?_; try clear hK13 K13
                refine CW_drawO [0, 0, 0, 0, 3] [0, 1, 2, 3, 4] emptyHp (by kernel_rfl) (by kernel_rfl) (le_empty _) ?_
                apply TW_pure rfl (lt_some (by decide)) rfl
                · intro r
                  simp only [x_move, eX, ↓reduceIte, Nat.reduceEqDiff]
                  exact ⟨rfl, Le.refl _⟩
                simp only [eX, ↓reduceIte, Nat.reduceEqDiff, Int.reduceToNat]
                apply TW_pure rfl (lt_some (by decide)) rfl
                · intro r
                  simp only [x_slice, Option.map_some, Option.map_none, eX, ↓reduceIte, Nat.reduceEqDiff]
                  refine Lt_sliceA Try.underlying38 sz5 bound_none bound_none (bound_some (by omega)) (by omega) (by omega) (by omega) (by simp) ?_
                  rw [if_neg (show ¬ 64 = t.toNat by omega)]
                  simp only [add_mk, Nat.mul_one, Nat.zero_add]
                  exact ⟨rfl, Le.refl _⟩
                simp only [eX, ↓reduceIte, Nat.reduceEqDiff, Int.reduceToNat]
                apply TW_pure rfl (lt_some (by decide)) rfl
                · intro r
                  simp only [x_move, eX, ↓reduceIte, Nat.reduceEqDiff]
                  exact ⟨rfl, Le.refl _⟩
                simp only [eX, ↓reduceIte, Nat.reduceEqDiff, Int.reduceToNat]
                apply TW_pure rfl (lt_some (by decide)) rfl
                · intro r
                  simp only [x_slice, Option.map_some, Option.map_none, eX, ↓reduceIte, Nat.reduceEqDiff]
                  refine Lt_sliceA Try.underlying38 sz5 bound_none bound_none (bound_some (by omega)) (by omega) (by omega) (by omega) (by simp) ?_
                  rw [if_neg (show ¬ 64 = t.toNat by omega)]
                  simp only [add_mk, Nat.mul_one, Nat.zero_add]
                  exact ⟨rfl, Le.refl _⟩
                simp only [eX, ↓reduceIte, Nat.reduceEqDiff, Int.reduceToNat]
                refine TW_last rfl (lt_some (by decide)) rfl (fun K hK r => ?_)
                simp only [x_builtin, l_copy, List.map_toArray, List.map_cons, List.map_nil, eX, ↓reduceIte, Nat.reduceEqDiff, Int.reduceToNat]
                have hmin : Nat.min (64 - t.toNat) (64 - t.toNat) = 64 - t.toNat := Nat.min_self _
                refine Lt_copy (w := 1) (cs := (stN kept d.wait d.sure k (d.wait.getD k default).at_).c.drop t.toNat) Try.underlying31 sz5 _ hbA (by simp only [List.size_toArray, Sec.len]; omega) (len_slice _ _ _) (fun Kx => ?_) (by rw [hmin, List.length_drop, Sec.len, Nat.mul_one]) (PlainL.drop (PlainL.ints _ _) _) (by decide) ?_
                · rw [hmin]
                  refine (first_holds (sec_holds (x := stN kept d.wait d.sure k (d.wait.getD k default).at_) hbA (t := t.toNat) (by omega) _) (Nat.le_refl _) Kx).trans ?_
                  rw [Nat.mul_one, List.take_of_length_le (by rw [List.length_drop, Sec.len]; omega)]
                rw [torn_cells _ _ _ htr]
                refine hK _ _ ?_; clear hK K
                refine TW_nil ?_
                try simp only [Ex.thnH, Ex.inBlockH, ↓reduceIte, Nat.reduceEqDiff]
                refine hK11 _ _ ?_; try clear hK11 K11
                refine CW_drawE [0, 0, 0, 1, 0, 1, 1, 3] [0, 1, 2, 3, 4, 5, 6, 7] (by kernel_rfl) (by kernel_rfl) (fun R9 hR9 => ?_)
                apply TW_pure rfl (lt_some (by decide)) rfl
                · intro r
                  simp only [x_move, eX, ↓reduceIte, Nat.reduceEqDiff]
                  exact ⟨rfl, Le.refl _⟩
                simp only [eX, ↓reduceIte, Nat.reduceEqDiff, Int.reduceToNat]
                apply TW_pure rfl (lt_some (by decide)) rfl
                · intro r
                  rw [x_nilCheck _ _ rfl]
                  exact ⟨rfl, Le.refl _⟩
                simp only [eX, ↓reduceIte, Nat.reduceEqDiff, Int.reduceToNat]
                apply TW_pure rfl (lt_some (by decide)) rfl
                · intro r
                  simp only [x_fieldAddr, fa82_1, add_mk, Nat.reduceAdd, Nat.zero_add, eX, ↓reduceIte, Nat.reduceEqDiff]
                  exact ⟨rfl, Le.refl _⟩
                simp only [eX, ↓reduceIte, Nat.reduceEqDiff, Int.reduceToNat]
                apply TW_look rfl (lt_some (by decide)) rfl
                · intro r
                  simp only [x_load, eX, ↓reduceIte, Nat.reduceEqDiff]
                  refine Lt_loadAt1 Try.underlying79 rfl hbA ldA ?_
                  exact ⟨rfl, Le.refl _⟩
                simp only [eX, ↓reduceIte, Nat.reduceEqDiff, Int.reduceToNat]
                apply TW_pure rfl (lt_some (by decide)) rfl
                · intro r
                  simp only [x_fieldAddr, fa87_0, add_mk, Nat.reduceAdd, Nat.zero_add, eX, ↓reduceIte, Nat.reduceEqDiff]
                  exact ⟨rfl, Le.refl _⟩
                simp only [eX, ↓reduceIte, Nat.reduceEqDiff, Int.reduceToNat]
                apply TW_look rfl (lt_some (by decide)) rfl
                · intro r
                  simp only [x_load, eX, ↓reduceIte, Nat.reduceEqDiff]
                  refine Lt_loadAt1 Try.underlying3 rfl hbA (wt_at (d.wait.getD k default)) ?_
                  exact ⟨rfl, Le.refl _⟩
                simp only [eX, ↓reduceIte, Nat.reduceEqDiff, Int.reduceToNat]
                apply TW_look rfl (lt_some (by decide)) rfl
                · intro r
                  simp only [x_load, eX, ↓reduceIte, Nat.reduceEqDiff]
                  refine Lt_loadAll Try.underlying38 rfl sz38 hbA (by simp [Sec.h]) ?_
                  exact ⟨rfl, Le.refl _⟩
                simp only [eX, ↓reduceIte, Nat.reduceEqDiff, Int.reduceToNat]
                refine TW_last rfl (lt_none) rfl (fun K hK r => ?_)
                simp only [x_mapUpdate, eX, ↓reduceIte, Nat.reduceEqDiff, Int.reduceToNat]
                refine Lt_mapUpdate Try.underlying79 Try.underlying3 hbA hi0 ?_
                intro es9 c9 h91 h92
                refine hK _ _ ?_; clear hK K
                refine TW_nil ?_
                try simp only [Ex.thnH, Ex.inBlockH, ↓reduceIte, Nat.reduceEqDiff]
                refine hK5 _ _ ?_; try clear hK5 K5
                refine CW_region ?_
                refine OW_opS (fun K hK r => ?_)
                simp (disch := (first | omega | decide)) only [x_bin, g_int, b_add, wrap_i64, wrap_u64, wrap_u32, wrap_u8, eX, ↓reduceIte, Nat.reduceEqDiff, Int.reduceToNat]
                refine hK _ _ ?_; clear hK K
                refine OW_mv rfl ?_
                refine OW_nil ?_
                try simp only [Ex.thnH, Ex.inBlockH, ↓reduceIte, Nat.reduceEqDiff]
                first
                | (refine ⟨d.wait.length - (k + 1), by omega, k + 1, es', c', by omega, rfl, ?_, hbA, ?_, rfl, rfl, rfl, rfl, rfl, trivial⟩
                   · rw [stN_none (by first | assumption | (simpa using c27))]; exact hms'
                   · exact fun z o hz hn => (show Le H_ _ from lhA) z o (hkp z o hz hn))
                | (refine ⟨d.wait.length - (k + 1), by omega, k + 1, es9, c9, by omega, rfl, ?_, upd_same _ _ _, ?_, rfl, rfl, rfl, rfl, rfl, trivial⟩
                   · rw [stN_some hkt]
                     first
                     | exact hms'.put h91 h92
                     | (rw [torn_not _ _ _ htr]; exact hms'.put h91 h92)
                   · exact fun z o hz hn => (upd_ne _ _ hn).trans ((show Le H_ _ from lhA) z o (hkp z o hz hn)))
            · first
              | (exfalso; exact cnA c35; done)
              | skip
                (try simp only [decide_eq_true_eq, decide_eq_false_iff_not, Bool.not_eq_true, Bool.not_eq_false, Bool.and_eq_true, Bool.or_eq_true, Bool.or_eq_false_iff, Bool.not_eq_true, Bool.not_eq_eq_eq_not, Bool.not_true, Bool.not_false] at c35)
                have htr : ¬ (0 < t ∧ t < 64) := by omega
                refine CW_skip ?_
                try simp only [Ex.thnH, Ex.inBlockH, ↓reduceIte, Nat.reduceEqDiff]
                refine hK11 _ _ ?_; try clear hK11 K11
                refine CW_drawE [0, 0, 0, 1, 0, 1, 1, 3] [0, 1, 2, 3, 4, 5, 6, 7] (by kernel_rfl) (by kernel_rfl) (fun R9 hR9 => ?_)
                apply TW_pure rfl (lt_some (by decide)) rfl
                · intro r
                  simp only [x_move, eX, ↓reduceIte, Nat.reduceEqDiff]
                  exact ⟨rfl, Le.refl _⟩
                simp only [eX, ↓reduceIte, Nat.reduceEqDiff, Int.reduceToNat]
                apply TW_pure rfl (lt_some (by decide)) rfl
                · intro r
                  rw [x_nilCheck _ _ rfl]
                  exact ⟨rfl, Le.refl _⟩
                simp only [eX, ↓reduceIte, Nat.reduceEqDiff, Int.reduceToNat]
                apply TW_pure rfl (lt_some (by decide)) rfl
                · intro r
                  simp only [x_fieldAddr, fa82_1, add_mk, Nat.reduceAdd, Nat.zero_add, eX, ↓reduceIte, Nat.reduceEqDiff]
                  exact ⟨rfl, Le.refl _⟩
                simp only [eX, ↓reduceIte, Nat.reduceEqDiff, Int.reduceToNat]
                apply TW_look rfl (lt_some (by decide)) rfl
                · intro r
                  simp only [x_load, eX, ↓reduceIte, Nat.reduceEqDiff]
                  refine Lt_loadAt1 Try.underlying79 rfl hbA ldA ?_
                  exact ⟨rfl, Le.refl _⟩
                simp only [eX, ↓reduceIte, Nat.reduceEqDiff, Int.reduceToNat]
                apply TW_pure rfl (lt_some (by decide)) rfl
                · intro r
                  simp only [x_fieldAddr, fa87_0, add_mk, Nat.reduceAdd, Nat.zero_add, eX, ↓reduceIte, Nat.reduceEqDiff]
                  exact ⟨rfl, Le.refl _⟩
                simp only [eX, ↓reduceIte, Nat.reduceEqDiff, Int.reduceToNat]
                apply TW_look rfl (lt_some (by decide)) rfl
                · intro r
                  simp only [x_load, eX, ↓reduceIte, Nat.reduceEqDiff]
                  refine Lt_loadAt1 Try.underlying3 rfl hbA (wt_at (d.wait.getD k default)) ?_
                  exact ⟨rfl, Le.refl _⟩
                simp only [eX, ↓reduceIte, Nat.reduceEqDiff, Int.reduceToNat]
                apply TW_look rfl (lt_some (by decide)) rfl
                · intro r
                  simp only [x_load, eX, ↓reduceIte, Nat.reduceEqDiff]
                  refine Lt_loadAll Try.underlying38 rfl sz38 hbA (by simp [Sec.h]) ?_
                  exact ⟨rfl, Le.refl _⟩
                simp only [eX, ↓reduceIte, Nat.reduceEqDiff, Int.reduceToNat]
                refine TW_last rfl (lt_none) rfl (fun K hK r => ?_)
                simp only [x_mapUpdate, eX, ↓reduceIte, Nat.reduceEqDiff, Int.reduceToNat]
                refine Lt_mapUpdate Try.underlying79 Try.underlying3 hbA hi0 ?_
                intro es9 c9 h91 h92
                refine hK _ _ ?_; clear hK K
                refine TW_nil ?_
                try simp only [Ex.thnH, Ex.inBlockH, ↓reduceIte, Nat.reduceEqDiff]
                refine hK5 _ _ ?_; try clear hK5 K5
                refine CW_region ?_
                refine OW_opS (fun K hK r => ?_)
                simp (disch := (first | omega | decide)) only [x_bin, g_int, b_add, wrap_i64, wrap_u64, wrap_u32, wrap_u8, eX, ↓reduceIte, Nat.reduceEqDiff, Int.reduceToNat]
                refine hK _ _ ?_; clear hK K
                refine OW_mv rfl ?_
                refine OW_nil ?_
                try simp only [Ex.thnH, Ex.inBlockH, ↓reduceIte, Nat.reduceEqDiff]
                first
                | (refine ⟨d.wait.length - (k + 1), by omega, k + 1, es', c', by omega, rfl, ?_, hbA, ?_, rfl, rfl, rfl, rfl, rfl, trivial⟩
                   · rw [stN_none (by first | assumption | (simpa using c27))]; exact hms'
                   · exact fun z o hz hn => (show Le H_ _ from lhA) z o (hkp z o hz hn))
                | (refine ⟨d.wait.length - (k + 1), by omega, k + 1, es9, c9, by omega, rfl, ?_, upd_same _ _ _, ?_, rfl, rfl, rfl, rfl, rfl, trivial⟩
                   · rw [stN_some hkt]
                     first
                     | exact hms'.put h91 h92
                     | (rw [torn_not _ _ _ htr]; exact hms'.put h91 h92)
                   · exact fun z o hz hn => (upd_ne _ _ hn).trans ((show Le H_ _ from lhA) z o (hkp z o hz hn)))
  · first
    | (exfalso; exact cnA c16; done)
    | skip
      (try simp only [decide_eq_true_eq, decide_eq_false_iff_not, Bool.not_eq_true, Bool.not_eq_false, Bool.and_eq_true, Bool.or_eq_true, Bool.or_eq_false_iff, Bool.not_eq_true, Bool.not_eq_eq_eq_not, Bool.not_true, Bool.not_false] at c16)
      have hkn : k = d.wait.length := by omega
      refine CW_exit ?_
      try simp only [Ex.thnH, Ex.inBlockH, ↓reduceIte, Nat.reduceEqDiff]
      refine hK1 _ _ ?_; try clear hK1 K1
      refine CW_region ?_
      refine OW_mv rfl ?_
      refine OW_opS (fun K hK r => ?_)
      rw [x_nilCheck _ _ rfl]
      simp only [eX, ↓reduceIte, Nat.reduceEqDiff, Int.reduceToNat]
      refine hK _ _ ?_; clear hK K
      refine OW_opS (fun K hK r => ?_)
      simp only [x_fieldAddr, fa82_2, add_mk, Nat.reduceAdd, Nat.zero_add, eX, ↓reduceIte, Nat.reduceEqDiff, Int.reduceToNat]
      refine hK _ _ ?_; clear hK K
      refine OW_op rfl (lt_none) (fun K hK r => ?_)
      simp only [x_store, eX, ↓reduceIte, Nat.reduceEqDiff, Int.reduceToNat]
      refine Lt_storeAt1 sz80 hbA bdA plA fzA ?_
      try simp only [setL0, setL1, setL2, setL3, setL4, setL5, setL6, setL7, setL8, setL9]
      try simp only [eX, ↓reduceIte, Nat.reduceEqDiff, Int.reduceToNat]
      refine hK _ _ ?_; clear hK K
      refine OW_nil ?_
      try simp only [Ex.thnH, Ex.inBlockH, ↓reduceIte, Nat.reduceEqDiff]
      have es9 : MapS es' (stN kept d.wait d.sure d.wait.length) := hkn ▸ hms'
      have kmf : (H_.upd b (.cells #[.int .i64 d.size, .map (some mb), .slice none 0 0] 82)) mb = some (.map es' c') := (upd_ne _ _ (Ne.symm hbm)).trans km'
      refine ⟨[], trivial, _, Le.refl _, fun x => if x = b ∨ x = mb then (H_.upd b (.cells #[.int .i64 d.size, .map (some mb), .slice none 0 0] 82)) x else none, ⟨mb, es', c', .slice none 0 0, none, by simp [upd_same, Dv.settle], by simpa using kmf, es9, OwnS.nil _ _ _, fun x hx => ?_⟩, fun x o hx => ?_, fun x hx => ?_, fun x o hx hn => ?_⟩
      · by_cases h : x = b ∨ x = mb
        · exact h.imp id .inl
        · simp [h] at hx
      · by_cases h : x = b ∨ x = mb
        · simpa [h] using hx
        · simp [h] at hx
      · by_cases h : x = b ∨ x = mb
        · rcases h with rfl | rfl
          · rw [hb0]; simp
          · rw [hm0]; simp
        · simp [h] at hx
      · exact (upd_ne _ _ (fun e => by subst e; rw [hb0] at hn; cases hn)).trans (hkp x o hx (fun e => by subst e; rw [hm0] at hn; cases hn))

end Go.Proofs.Ytkmjncmdhinlgaa.HL
end
section
namespace Go.Proofs.Ytkmjncmdhinlgaa.HL
open Go Go.Proofs
set_option linter.unusedSimpArgs false
set_option linter.unusedVariables false
attribute [local irreducible] Lt Lq CW OW TW CallH


/-- what a crash keeps -/
structure Kp where
  dev : Int
  n : Int
  tear : Int
deriving Inhabited, DecidableEq
abbrev Kp.c (k : Kp) : List Value := [.int .i64 k.dev, .int .i64 k.n, .int .i64 k.tear]
theorem Kp.len (k : Kp) : k.c.length = 3 := rfl
abbrev kps (l : List Kp) : List Value := l.flatMap Kp.c
def keepOf (l : List Kp) (dev n : Int) : Option Int := (l.find? (fun k => decide (k.dev = dev) && decide (k.n = n))).map Kp.tear
theorem find_at {α : Type} [Inhabited α] (P : α → Bool) : ∀ (l : List α) (k : Nat), k < l.length → P (l.getD k default) = true → (∀ j, j < k → P (l.getD j default) = false) → l.find? P = some (l.getD k default)
  | [], k, h, _, _ => absurd h (by simp)
  | x :: r, 0, _, h1, _ => by simp at h1 ⊢; simp [List.find?, h1]
  | x :: r, k + 1, h, h1, h2 => by
    have h0 : P x = false := h2 0 (by omega)
    simp only [List.find?, h0]
    rw [find_at P r k (by simpa using h) (by simpa using h1) (fun j hj => by simpa using h2 (j + 1) (by omega))]
    simp
theorem find_no {α : Type} [Inhabited α] (P : α → Bool) (l : List α) (h : ∀ j, j < l.length → P (l.getD j default) = false) : l.find? P = none := by
  rw [List.find?_eq_none]
  intro x hx
  obtain ⟨j, hj, rfl⟩ := List.mem_iff_getElem.1 hx
  have := h j hj
  rw [List.getD_eq_getElem?_getD, List.getElem?_eq_getElem hj] at this
  simpa using this
def St.crK (s : St) (l : List Kp) (k : Nat) : St := { s with dv := s.dv.mapIdx (fun i d => if i < k then d.settle (fun n => keepOf l i n) else d) }
def St.cr (s : St) (l : List Kp) : St := { s with armed := false, gone := false, dv := s.dv.mapIdx (fun i d => d.settle (fun n => keepOf l i n)) }
theorem St.crK_len (s : St) (l : List Kp) (k : Nat) : (s.crK l k).dv.length = s.dv.length := by simp [St.crK]
theorem St.crK_at (s : St) (l : List Kp) (k : Nat) (hk : k < s.dv.length) : (s.crK l k).dv.getD k default = s.dv.getD k default := by
  simp [St.crK, List.getD_eq_getElem?_getD, List.getElem?_mapIdx, List.getElem?_eq_getElem hk]
theorem St.crK_zero (s : St) (l : List Kp) : s.crK l 0 = s := by
  have : s.dv.mapIdx (fun i d => if i < 0 then d.settle (fun n => keepOf l i n) else d) = s.dv := by
    apply List.ext_getElem?
    intro i; rw [List.getElem?_mapIdx]; cases s.dv[i]? <;> simp
  cases s; simp only [St.crK] at this ⊢; rw [this]
theorem St.crK_next (s : St) (l : List Kp) (k : Nat) (hk : k < s.dv.length) : (s.crK l (k + 1)).dv = (s.crK l k).dv.set k ((s.dv.getD k default).settle (fun n => keepOf l k n)) := by
  apply List.ext_getElem?
  intro i
  by_cases e : i = k
  · subst e
    rw [List.getElem?_set_self (by rw [St.crK_len]; exact hk)]
    simp [St.crK, List.getElem?_mapIdx, List.getD_eq_getElem?_getD, List.getElem?_eq_getElem hk]
  · rw [List.getElem?_set_ne (Ne.symm e)]
    simp only [St.crK, List.getElem?_mapIdx]
    cases s.dv[i]? with
    | none => rfl
    | some d =>
      simp only [Option.map_some]
      by_cases h : i < k
      · rw [if_pos h, if_pos (by omega)]
      · rw [if_neg h, if_neg (by omega)]
theorem St.crK_all (s : St) (l : List Kp) : (s.crK l s.dv.length).dv = (s.cr l).dv := by
  apply List.ext_getElem?
  intro i
  simp only [St.crK, St.cr, List.getElem?_mapIdx]
  rcases Nat.lt_or_ge i s.dv.length with h | h
  · rw [List.getElem?_eq_getElem h]; simp [h]
  · rw [List.getElem?_eq_none h]; rfl

set_option maxRecDepth 100000 in
set_option maxHeartbeats 1000000 in
theorem crash11_ok (H : Hp) (bd bn : Nat) (dev n : Int) (k : Kp) (hd : H bd = some (.cells #[.int .i64 dev] 3)) (hn : H bn = some (.cells #[.int .i64 n] 3)) : CallH Try.prog 37 #[.agg k.c.toArray, .pointer (some ⟨bd, 0, none⟩), .pointer (some ⟨bn, 0, none⟩)] H (fun v H' => v = .bool (decide (k.dev = dev) && decide (k.n = n)) ∧ H' = H) := by
  refine CallH_enter (l := [_, _, _]) (rl := [.tmp 4]) (n := 15) Try.func37 rfl rfl rfl rfl rfl ?_
  simp only [envOf, Nat.reduceAdd]
  refine CW_seq (fun K1 hK1 => ?_)
  refine CW_region ?_
  refine OW_opS (fun K hK r => ?_)
  simp only [x_box, Value.cells, eX, ↓reduceIte, Nat.reduceEqDiff, Int.reduceToNat]
  intro b3 hb3
  try have n3_bd : bd ≠ b3 := ne_of_none hbA hb3
  try have n3_bn : bn ≠ b3 := ne_of_none hbA hb3
  have f3_H : H b3 = none := none_of_le lhA hb3
  try simp only [eX, ↓reduceIte, Nat.reduceEqDiff, Int.reduceToNat]
  refine hK _ _ ?_; clear hK K
  refine OW_as rfl ?_
  refine OW_nil ?_
  try simp only [Ex.thnH, Ex.inBlockH, ↓reduceIte, Nat.reduceEqDiff]
  refine hK1 _ _ ?_; try clear hK1 K1
  refine CW_seq (fun K2 hK2 => ?_)
  refine CW_region ?_
  refine OW_opS (fun K hK r => ?_)
  simp only [x_fieldAddr, fa68_0, add_mk, Nat.reduceAdd, Nat.zero_add, eX, ↓reduceIte, Nat.reduceEqDiff, Int.reduceToNat]
  refine hK _ _ ?_; clear hK K
  refine OW_opS (fun K hK r => ?_)
  simp only [x_load, eX, ↓reduceIte, Nat.reduceEqDiff, Int.reduceToNat]
  refine Lt_loadAt1 Try.underlying3 rfl hbA ldA ?_
  try simp only [eX, ↓reduceIte, Nat.reduceEqDiff, Int.reduceToNat]
  refine hK _ _ ?_; clear hK K
  refine OW_opS (fun K hK r => ?_)
  simp only [x_load, eX, ↓reduceIte, Nat.reduceEqDiff, Int.reduceToNat]
  refine Lt_loadAt1 Try.underlying3 rfl hbA ldA ?_
  try simp only [eX, ↓reduceIte, Nat.reduceEqDiff, Int.reduceToNat]
  refine hK _ _ ?_; clear hK K
  refine OW_opS (fun K hK r => ?_)
  simp (disch := (first | omega | decide)) only [x_bin, g_int, b_eql, dec_lt_t, dec_lt_f, dec_le_t, dec_le_f, dec_eq_t, dec_eq_f, Bool.not_true, Bool.not_false, eX, ↓reduceIte, Nat.reduceEqDiff, Int.reduceToNat]
  refine hK _ _ ?_; clear hK K
  refine OW_mv rfl ?_
  (first | refine OW_split (d := 9) rfl (fun g9 => ?_) (fun g9 => ?_) | skip)
  all_goals try (exfalso; exact cnA g9)
  all_goals (try simp only [decide_eq_true_eq, decide_eq_false_iff_not, Bool.not_eq_true, Bool.not_eq_false, Bool.and_eq_true, Bool.or_eq_true, Bool.or_eq_false_iff, Bool.not_eq_true, Bool.not_eq_eq_eq_not, Bool.not_true, Bool.not_false] at g9)
  all_goals
    try simp only [eX, ↓reduceIte, Nat.reduceEqDiff, Int.reduceToNat]
    first
    | refine OW_guardT rfl (lt_some (by decide)) rfl (fun K hK r => ?_)
      simp only [x_fieldAddr, fa68_1, add_mk, Nat.reduceAdd, Nat.zero_add, eX, ↓reduceIte, Nat.reduceEqDiff, Int.reduceToNat]
      refine hK _ _ ?_; clear hK K
    | refine OW_guardF rfl (lt_some (by decide)) rfl ?_
      simp only [eX, ↓reduceIte, Nat.reduceEqDiff, Int.reduceToNat]
    first
    | refine OW_guardT rfl (lt_some (by decide)) rfl (fun K hK r => ?_)
      simp only [x_load, eX, ↓reduceIte, Nat.reduceEqDiff, Int.reduceToNat]
      refine Lt_loadAt1 Try.underlying3 rfl hbA ldA ?_
      try simp only [eX, ↓reduceIte, Nat.reduceEqDiff, Int.reduceToNat]
      refine hK _ _ ?_; clear hK K
    | refine OW_guardF rfl (lt_some (by decide)) rfl ?_
      simp only [eX, ↓reduceIte, Nat.reduceEqDiff, Int.reduceToNat]
    first
    | refine OW_guardT rfl (lt_some (by decide)) rfl (fun K hK r => ?_)
      simp only [x_load, eX, ↓reduceIte, Nat.reduceEqDiff, Int.reduceToNat]
      refine Lt_loadAt1 Try.underlying3 rfl hbA ldA ?_
      try simp only [eX, ↓reduceIte, Nat.reduceEqDiff, Int.reduceToNat]
      refine hK _ _ ?_; clear hK K
    | refine OW_guardF rfl (lt_some (by decide)) rfl ?_
      simp only [eX, ↓reduceIte, Nat.reduceEqDiff, Int.reduceToNat]
    first
    | refine OW_guardT rfl (lt_some (by decide)) rfl (fun K hK r => ?_)
      simp (disch := (first | omega | decide)) only [x_bin, g_int, b_eql, dec_lt_t, dec_lt_f, dec_le_t, dec_le_f, dec_eq_t, dec_eq_f, Bool.not_true, Bool.not_false, eX, ↓reduceIte, Nat.reduceEqDiff, Int.reduceToNat]
      refine hK _ _ ?_; clear hK K
    | refine OW_guardF rfl (lt_some (by decide)) rfl ?_
      simp only [eX, ↓reduceIte, Nat.reduceEqDiff, Int.reduceToNat]
    refine OW_opS (fun K hK r => ?_)
    simp only [x_pick, l_asBool, HL.ite_bool, if_true, if_false, Bool.false_eq_true, eX, ↓reduceIte, Nat.reduceEqDiff, Int.reduceToNat]
    refine hK _ _ ?_; clear hK K
    refine OW_as rfl ?_
    refine OW_nil ?_
    try simp only [Ex.thnH, Ex.inBlockH, ↓reduceIte, Nat.reduceEqDiff]
    refine hK2 _ _ ?_; try clear hK2 K2
    refine CW_ret ?_
    try simp only [Ex.thnH, Ex.inBlockH, ↓reduceIte, Nat.reduceEqDiff]
    refine ⟨[_], ⟨rfl, trivial⟩, H, lhA, ?_, rfl⟩
    show Value.bool _ = _
    congr 1
    by_cases hdd : k.dev = dev <;> simp_all

set_option maxRecDepth 100000 in
set_option maxHeartbeats 1000000 in
theorem index_ok (H : Hp) (a : Option Addr) (cap : Nat) (l : List Kp) (hv : Holds H 3 (.slice a l.length cap) l.length (kps l)) (gf : Fn) (ga gb : Array Value) (P : Kp → Bool) (hP : ∀ k, ValH Try.prog (.func gf ga gb) #[.agg k.c.toArray] H (fun v H' => v = .bool (P k) ∧ H' = H)) (hl : l.length ≤ 1000) :
  CallH Try.prog 36 #[.slice a l.length cap, .func gf ga gb] H (fun v H' => H' = H ∧ ∃ ix : Int, v = .int .i64 ix ∧ ((∃ k : Nat, k < l.length ∧ ix = (k : Int) ∧ P (l.getD k default) = true ∧ ∀ j, j < k → P (l.getD j default) = false) ∨ (ix = -1 ∧ ∀ j, j < l.length → P (l.getD j default) = false))) := by
  refine CallH_enter (l := [_, _]) (rl := [.tmp 4]) (n := 19) Try.func36 rfl rfl rfl rfl rfl ?_
  simp only [envOf, Nat.reduceAdd]
  refine CW_seq (fun K1 hK1 => ?_)
  refine CW_region ?_
  refine OW_as rfl ?_
  refine OW_nil ?_
  try simp only [Ex.thnH, Ex.inBlockH, ↓reduceIte, Nat.reduceEqDiff]
  refine hK1 _ _ ?_; try clear hK1 K1
  refine CW_seq (fun K2 hK2 => ?_)
  refine CW_seq (fun K3 hK3 => ?_)
  refine CW_region ?_
  refine OW_mv rfl ?_
  refine OW_opS (fun K hK r => ?_)
  simp only [x_builtin, l_len, List.map_toArray, List.map_cons, List.map_nil, i_len_slice _ _ Try.underlying44, eX, ↓reduceIte, Nat.reduceEqDiff, Int.reduceToNat]
  refine hK _ _ ?_; clear hK K
  refine OW_mv rfl ?_
  refine OW_nil ?_
  try simp only [Ex.thnH, Ex.inBlockH, ↓reduceIte, Nat.reduceEqDiff]
  refine hK3 _ _ ?_; try clear hK3 K3
  refine CW_block ?_
  refine CW_loop (fun m e H_ => ∃ k : Nat, k ≤ l.length ∧ m = l.length - k ∧ (∀ j, j < k → P (l.getD j default) = false) ∧ H_ = H ∧ Env.has [(0, .slice a l.length cap), (1, .func gf ga gb), (7, .int .i64 l.length), (8, .int .i64 k)] e) (l.length) ?_ ?_
  · skip
    exact ⟨0, by omega, by omega, (fun j hj => absurd hj (by omega)), rfl, rfl, rfl, rfl, rfl, trivial⟩
  intro m_ e_ H_ hI_
  obtain ⟨k, hk, rfl, hno, hH_, he⟩ := hI_
  have hH_ := hH_.symm; subst hH_
  refine CW_env he.sub ?_; clear he e_
  refine CW_seq (fun K4 hK4 => ?_)
  refine CW_region ?_
  refine OW_opS (fun K hK r => ?_)
  simp (disch := (first | omega | decide)) only [x_bin, g_int, b_lss, dec_lt_t, dec_lt_f, dec_le_t, dec_le_f, dec_eq_t, dec_eq_f, Bool.not_true, Bool.not_false, eX, ↓reduceIte, Nat.reduceEqDiff, Int.reduceToNat]
  refine hK _ _ ?_; clear hK K
  refine OW_nil ?_
  try simp only [Ex.thnH, Ex.inBlockH, ↓reduceIte, Nat.reduceEqDiff]
  refine hK4 _ _ ?_; try clear hK4 K4
  refine CW_seq (fun K5 hK5 => ?_)
  refine CW_cond (fun r => rfl) (fun c9 => ?_) (fun c9 => ?_)
  · first
    | (exfalso; exact cnA c9; done)
    | skip
      (try simp only [decide_eq_true_eq, decide_eq_false_iff_not, Bool.not_eq_true, Bool.not_eq_false, Bool.and_eq_true, Bool.or_eq_true, Bool.or_eq_false_iff, Bool.not_eq_true, Bool.not_eq_eq_eq_not, Bool.not_true, Bool.not_false] at c9)
      obtain ⟨bw, ow, cw, Tw, Fw, ew, hbw, hsw, atw⟩ := hv.at (by omega)
      refine CW_skip ?_
      try simp only [Ex.thnH, Ex.inBlockH, ↓reduceIte, Nat.reduceEqDiff]
      refine hK5 _ _ ?_; try clear hK5 K5
      refine CW_seq (fun K6 hK6 => ?_)
      refine CW_block ?_
      refine CW_seq (fun K7 hK7 => ?_)
      refine CW_region ?_
      refine OW_mv rfl ?_
      refine OW_as rfl ?_
      refine OW_nil ?_
      try simp only [Ex.thnH, Ex.inBlockH, ↓reduceIte, Nat.reduceEqDiff]
      refine hK7 _ _ ?_; try clear hK7 K7
      refine CW_seq (fun K8 hK8 => ?_)
      refine CW_region ?_
      refine OW_mv rfl ?_
      refine OW_mv rfl ?_
      refine OW_mv rfl ?_
      refine OW_opS (fun K hK r => ?_)
      simp only [x_indexAddr, eX, ↓reduceIte, Nat.reduceEqDiff, Int.reduceToNat]
      refine Lt_indexSof Try.underlying44 sz68 ew ixA ixA ?_
      try simp only [Int.toNat_natCast]
      refine hK _ _ ?_; clear hK K
      refine OW_opS (fun K hK r => ?_)
      simp only [x_load, eX, ↓reduceIte, Nat.reduceEqDiff, Int.reduceToNat]
      refine Lt_loadAtA Try.underlying68 rfl sz68 hbw (by omega) ?_
      rw [ext_at Kp.len atw rfl k (by omega) hsw]
      refine hK _ _ ?_; clear hK K
      refine OW_opS (fun K hK r => ?_)
      simp only [x_call, List.map_toArray, List.map_cons, List.map_nil, eX, ↓reduceIte, Nat.reduceEqDiff, Int.reduceToNat]
      show ValH _ _ _ _ _
      refine (hP (l.getD k default)).mono ?_
      rintro v H' ⟨rfl, hq⟩
      have hq := hq.symm
      subst hq
      try simp only [eX, ↓reduceIte, Nat.reduceEqDiff, Int.reduceToNat]
      refine hK _ _ ?_; clear hK K
      refine OW_nil ?_
      try simp only [Ex.thnH, Ex.inBlockH, ↓reduceIte, Nat.reduceEqDiff]
      refine hK8 _ _ ?_; try clear hK8 K8
      refine CW_cond (fun r => rfl) (fun c16 => ?_) (fun c16 => ?_)
      · first
        | (exfalso; exact cnA c16; done)
        | skip
          (try simp only [decide_eq_true_eq, decide_eq_false_iff_not, Bool.not_eq_true, Bool.not_eq_false, Bool.and_eq_true, Bool.or_eq_true, Bool.or_eq_false_iff, Bool.not_eq_true, Bool.not_eq_eq_eq_not, Bool.not_true, Bool.not_false] at c16)
          refine CW_seq (fun K9 hK9 => ?_)
          refine CW_region ?_
          refine OW_mv rfl ?_
          refine OW_as rfl ?_
          refine OW_nil ?_
          try simp only [Ex.thnH, Ex.inBlockH, ↓reduceIte, Nat.reduceEqDiff]
          refine hK9 _ _ ?_; try clear hK9 K9
          refine CW_ret ?_
          try simp only [Ex.thnH, Ex.inBlockH, ↓reduceIte, Nat.reduceEqDiff]
          exact ⟨[_], ⟨rfl, trivial⟩, _, Le.refl _, rfl, _, rfl, .inl ⟨k, by omega, rfl, c16, hno⟩⟩
      · first
        | (exfalso; exact cnA c16; done)
        | skip
          (try simp only [decide_eq_true_eq, decide_eq_false_iff_not, Bool.not_eq_true, Bool.not_eq_false, Bool.and_eq_true, Bool.or_eq_true, Bool.or_eq_false_iff, Bool.not_eq_true, Bool.not_eq_eq_eq_not, Bool.not_true, Bool.not_false] at c16)
          refine CW_skip ?_
          try simp only [Ex.thnH, Ex.inBlockH, ↓reduceIte, Nat.reduceEqDiff]
          refine hK6 _ _ ?_; try clear hK6 K6
          refine CW_region ?_
          refine OW_opS (fun K hK r => ?_)
          simp (disch := (first | omega | decide)) only [x_bin, g_int, b_add, wrap_i64, wrap_u64, wrap_u32, wrap_u8, eX, ↓reduceIte, Nat.reduceEqDiff, Int.reduceToNat]
          refine hK _ _ ?_; clear hK K
          refine OW_mv rfl ?_
          refine OW_nil ?_
          try simp only [Ex.thnH, Ex.inBlockH, ↓reduceIte, Nat.reduceEqDiff]
          refine ⟨l.length - (k + 1), by omega, k + 1, by omega, rfl, (fun j hj => ?_), rfA, rfl, rfl, rfl, rfl, trivial⟩
          by_cases e : j = k
          · subst e; exact c16
          · exact hno j (by omega)
  · first
    | (exfalso; exact cnA c9; done)
    | skip
      (try simp only [decide_eq_true_eq, decide_eq_false_iff_not, Bool.not_eq_true, Bool.not_eq_false, Bool.and_eq_true, Bool.or_eq_true, Bool.or_eq_false_iff, Bool.not_eq_true, Bool.not_eq_eq_eq_not, Bool.not_true, Bool.not_false] at c9)
      have hkn : k = l.length := by omega
      refine CW_exit ?_
      try simp only [Ex.thnH, Ex.inBlockH, ↓reduceIte, Nat.reduceEqDiff]
      refine hK2 _ _ ?_; try clear hK2 K2
      refine CW_seq (fun K10 hK10 => ?_)
      refine CW_region ?_
      refine OW_as rfl ?_
      refine OW_nil ?_
      try simp only [Ex.thnH, Ex.inBlockH, ↓reduceIte, Nat.reduceEqDiff]
      refine hK10 _ _ ?_; try clear hK10 K10
      refine CW_ret ?_
      try simp only [Ex.thnH, Ex.inBlockH, ↓reduceIte, Nat.reduceEqDiff]
      subst hkn
      exact ⟨[_], ⟨rfl, trivial⟩, _, Le.refl _, rfl, _, rfl, .inr ⟨rfl, hno⟩⟩

set_option maxRecDepth 100000 in
set_option maxHeartbeats 1000000 in
theorem crash1_ok (H : Hp) (kc bd : Nat) (a : Option Addr) (cap : Nat) (l : List Kp) (dev : Int) (n : Int) (hkc : H kc = some (.cells #[.slice a l.length cap] 44)) (hbd : H bd = some (.cells #[.int .i64 dev] 3)) (hv : Holds H 3 (.slice a l.length cap) l.length (kps l)) (hl : l.length ≤ 1000) :
  CallH Try.prog 35 #[.int .i64 n, .pointer (some ⟨kc, 0, none⟩), .pointer (some ⟨bd, 0, none⟩)] H (fun v H' => v = .tuple #[.int .i64 ((keepOf l dev n).getD 0), .bool (keepOf l dev n).isSome] ∧ H' = H) := by
  refine CallH_enter (l := [_, _, _]) (rl := [.tmp 4, .tmp 5]) (n := 17) Try.func35 rfl rfl rfl rfl rfl ?_
  simp only [envOf, Nat.reduceAdd]
  refine CW_seq (fun K1 hK1 => ?_)
  refine CW_region ?_
  refine OW_opS (fun K hK r => ?_)
  simp only [x_box, Value.cells, eX, ↓reduceIte, Nat.reduceEqDiff, Int.reduceToNat]
  intro b3 hb3
  try have n3_kc : kc ≠ b3 := ne_of_none hbA hb3
  try have n3_bd : bd ≠ b3 := ne_of_none hbA hb3
  have f3_H : H b3 = none := none_of_le lhA hb3
  try simp only [eX, ↓reduceIte, Nat.reduceEqDiff, Int.reduceToNat]
  refine hK _ _ ?_; clear hK K
  refine OW_as rfl ?_
  refine OW_as rfl ?_
  refine OW_nil ?_
  try simp only [Ex.thnH, Ex.inBlockH, ↓reduceIte, Nat.reduceEqDiff]
  refine hK1 _ _ ?_; try clear hK1 K1
  refine CW_seq (fun K2 hK2 => ?_)
  refine CW_region ?_
  refine OW_opS (fun K hK r => ?_)
  simp only [x_load, eX, ↓reduceIte, Nat.reduceEqDiff, Int.reduceToNat]
  refine Lt_loadAt1 Try.underlying44 rfl hbA ldA ?_
  try simp only [eX, ↓reduceIte, Nat.reduceEqDiff, Int.reduceToNat]
  refine hK _ _ ?_; clear hK K
  refine OW_opS (fun K hK r => ?_)
  simp only [x_makeFunc, List.map_toArray, List.map_cons, List.map_nil, eX, ↓reduceIte, Nat.reduceEqDiff, Int.reduceToNat]
  refine hK _ _ ?_; clear hK K
  refine OW_opS (fun K hK r => ?_)
  simp only [x_callF _ bd36, List.map_toArray, List.map_cons, List.map_nil, eX, ↓reduceIte, Nat.reduceEqDiff, Int.reduceToNat]
  refine (index_ok _ a cap l (hv.le lhA) _ _ _ (fun k => decide (k.dev = dev) && decide (k.n = n)) (fun k => ValH_func bd37 (crash11_ok _ bd b3 dev n k hbA hbA)) hl).mono ?_
  rintro v9 H' ⟨hq, ix, rfl, hix⟩
  have hq := hq.symm
  subst hq
  try simp only [eX, ↓reduceIte, Nat.reduceEqDiff, Int.reduceToNat]
  refine hK _ _ ?_; clear hK K
  refine OW_as rfl ?_
  refine OW_nil ?_
  try simp only [Ex.thnH, Ex.inBlockH, ↓reduceIte, Nat.reduceEqDiff]
  refine hK2 _ _ ?_; try clear hK2 K2
  refine CW_seq (fun K3 hK3 => ?_)
  refine CW_seq (fun K4 hK4 => ?_)
  refine CW_region ?_
  refine OW_mv rfl ?_
  refine OW_opS (fun K hK r => ?_)
  simp (disch := (first | omega | decide)) only [x_bin, g_int, b_lss, dec_lt_t, dec_lt_f, dec_le_t, dec_le_f, dec_eq_t, dec_eq_f, Bool.not_true, Bool.not_false, eX, ↓reduceIte, Nat.reduceEqDiff, Int.reduceToNat]
  refine hK _ _ ?_; clear hK K
  refine OW_nil ?_
  try simp only [Ex.thnH, Ex.inBlockH, ↓reduceIte, Nat.reduceEqDiff]
  refine hK4 _ _ ?_; try clear hK4 K4
  refine CW_cond (fun r => rfl) (fun c11 => ?_) (fun c11 => ?_)
  · first
    | (exfalso; exact cnA c11; done)
    | skip
      (try simp only [decide_eq_true_eq, decide_eq_false_iff_not, Bool.not_eq_true, Bool.not_eq_false, Bool.and_eq_true, Bool.or_eq_true, Bool.or_eq_false_iff, Bool.not_eq_true, Bool.not_eq_eq_eq_not, Bool.not_true, Bool.not_false] at c11)
      have hko : keepOf l dev n = none := by
        rcases hix with ⟨k, hk, rfl, hy, hno⟩ | ⟨rfl, hno⟩
        · omega
        · unfold keepOf; rw [find_no _ _ hno]; rfl
      refine CW_seq (fun K5 hK5 => ?_)
      refine CW_region ?_
      refine OW_as rfl ?_
      refine OW_as rfl ?_
      refine OW_nil ?_
      try simp only [Ex.thnH, Ex.inBlockH, ↓reduceIte, Nat.reduceEqDiff]
      refine hK5 _ _ ?_; try clear hK5 K5
      refine CW_ret ?_
      try simp only [Ex.thnH, Ex.inBlockH, ↓reduceIte, Nat.reduceEqDiff]
      rw [hko]
      exact ⟨[_, _], ⟨rfl, rfl, trivial⟩, H, lhA, rfl, rfl⟩
  · first
    | (exfalso; exact cnA c11; done)
    | skip
      (try simp only [decide_eq_true_eq, decide_eq_false_iff_not, Bool.not_eq_true, Bool.not_eq_false, Bool.and_eq_true, Bool.or_eq_true, Bool.or_eq_false_iff, Bool.not_eq_true, Bool.not_eq_eq_eq_not, Bool.not_true, Bool.not_false] at c11)
      obtain ⟨k, hk, rfl, hy, hno⟩ : ∃ k : Nat, k < l.length ∧ ix = (k : Int) ∧ (fun k : Kp => decide (k.dev = dev) && decide (k.n = n)) (l.getD k default) = true ∧ ∀ j, j < k → (fun k : Kp => decide (k.dev = dev) && decide (k.n = n)) (l.getD j default) = false := by
        rcases hix with h | ⟨rfl, _⟩
        · exact h
        · omega
      have hko : keepOf l dev n = some (l.getD k default).tear := by unfold keepOf; rw [find_at _ _ k hk hy hno]; rfl
      obtain ⟨bw, ow, cw, Tw, Fw, ew, hbw, hsw, atw⟩ := hv.at (by omega)
      refine CW_skip ?_
      try simp only [Ex.thnH, Ex.inBlockH, ↓reduceIte, Nat.reduceEqDiff]
      refine hK3 _ _ ?_; try clear hK3 K3
      refine CW_seq (fun K6 hK6 => ?_)
      refine CW_region ?_
      refine OW_opS (fun K hK r => ?_)
      simp only [x_load, eX, ↓reduceIte, Nat.reduceEqDiff, Int.reduceToNat]
      refine Lt_loadAt1 Try.underlying44 rfl hbA ldA ?_
      try simp only [eX, ↓reduceIte, Nat.reduceEqDiff, Int.reduceToNat]
      refine hK _ _ ?_; clear hK K
      refine OW_mv rfl ?_
      refine OW_opS (fun K hK r => ?_)
      simp only [x_indexAddr, eX, ↓reduceIte, Nat.reduceEqDiff, Int.reduceToNat]
      refine Lt_indexSof Try.underlying44 sz68 ew ixA ixA ?_
      try simp only [Int.toNat_natCast]
      refine hK _ _ ?_; clear hK K
      refine OW_opS (fun K hK r => ?_)
      simp only [x_fieldAddr, fa68_2, add_mk, Nat.reduceAdd, Nat.zero_add, eX, ↓reduceIte, Nat.reduceEqDiff, Int.reduceToNat]
      refine hK _ _ ?_; clear hK K
      refine OW_opS (fun K hK r => ?_)
      simp only [x_load, eX, ↓reduceIte, Nat.reduceEqDiff, Int.reduceToNat]
      refine Lt_loadAt1 Try.underlying3 rfl ((upd_ne _ _ (ne_of_none hbw f3_H)).trans hbw) (v := .int .i64 (l.getD k default).tear) (by first | exact cell_at Kp.len atw rfl k hk 2 (by decide) | (rw [cell_at Kp.len atw rfl k hk 2 (by decide)]; rfl)) ?_
      refine hK _ _ ?_; clear hK K
      refine OW_as rfl ?_
      refine OW_as rfl ?_
      refine OW_nil ?_
      try simp only [Ex.thnH, Ex.inBlockH, ↓reduceIte, Nat.reduceEqDiff]
      refine hK6 _ _ ?_; try clear hK6 K6
      refine CW_ret ?_
      try simp only [Ex.thnH, Ex.inBlockH, ↓reduceIte, Nat.reduceEqDiff]
      rw [hko]
      exact ⟨[_, _], ⟨rfl, rfl, trivial⟩, H, lhA, rfl, rfl⟩

end Go.Proofs.Ytkmjncmdhinlgaa.HL
end
section
namespace Go.Proofs.Ytkmjncmdhinlgaa.HL
open Go Go.Proofs
set_option linter.unusedSimpArgs false
set_option linter.unusedVariables false
attribute [local irreducible] Lt Lq CW OW TW CallH

set_option maxRecDepth 100000 in
set_option maxHeartbeats 8000000 in
theorem crash_ok (H : Hp) (p : Nat) (s : St) (rd cap : Nat) (bs : List Nat) (Fs : Nat → Hp) (h : SX H p s rd cap bs Fs) (hl : s.dv.length ≤ 1000) (hw : ∀ i, (s.dv.getD i default).wait.length ≤ 1000000) (G : Hp) (hG : Le G H) (hGp : G p = none) (hGd : ∀ i, i < s.dv.length → ∀ x, Fs i x ≠ none → G x = none) (a : Option Addr) (kcap : Nat) (l : List Kp) (hkv : Holds G 3 (.slice a l.length kcap) l.length (kps l)) (hkl : l.length ≤ 1000) : CallH Try.prog 14 #[(.pointer (some ⟨p, 0, none⟩)), .slice a l.length kcap] H (fun v H' => SetX H' p (s.cr l)) := by
  refine CallH_enter (l := [_, _]) (rl := []) (n := 30) Try.func14 rfl rfl rfl rfl rfl ?_
  simp only [envOf, Nat.reduceAdd]
  refine CW_seq (fun K1 hK1 => ?_)
  refine CW_region ?_
  refine OW_opS (fun K hK r => ?_)
  simp only [x_box, Value.cells, eX, ↓reduceIte, Nat.reduceEqDiff, Int.reduceToNat]
  intro b3 hb3
  have hpb3 : p ≠ b3 := ne_of_none h.hd hb3
  have hG3 : G b3 = none := none_of_le hG hb3
  have h3 := h.mono (le_upd H b3 (.cells #[.slice a l.length kcap] 44) hb3)
  have h3p := h3.hd
  have hF3 : ∀ i, i < s.dv.length → Fs i b3 = none := fun i hi => none_of_le (h.le i hi) hb3
  try simp only [eX, ↓reduceIte, Nat.reduceEqDiff, Int.reduceToNat]
  refine hK _ _ ?_; clear hK K
  refine OW_nil ?_
  try simp only [Ex.thnH, Ex.inBlockH, ↓reduceIte, Nat.reduceEqDiff]
  refine hK1 _ _ ?_; try clear hK1 K1
  refine CW_seq (fun K2 hK2 => ?_)
  refine CW_seq (fun K3 hK3 => ?_)
  refine CW_region ?_
  refine OW_mv rfl ?_
  refine OW_opS (fun K hK r => ?_)
  simp only [x_bin, g_int, g_bool, g_string, g_pointer, g_slice, g_map, g_func, g_nilFunc, g_iface, g_nil_iface, g_nil_r, g_nil_l, eX, ↓reduceIte, Nat.reduceEqDiff, Int.reduceToNat]
  rw [e_eql _ _ _ _ (by simp)]
  rw [q_equal]
  first | rw [q_ptr_nil _ _ _ Try.underlying26] | rw [q_nil_ptr _ _ _ Try.underlying26]
  try simp only [eX, ↓reduceIte, Nat.reduceEqDiff, Int.reduceToNat]
  refine hK _ _ ?_; clear hK K
  refine OW_nil ?_
  try simp only [Ex.thnH, Ex.inBlockH, ↓reduceIte, Nat.reduceEqDiff]
  refine hK3 _ _ ?_; try clear hK3 K3
  refine CW_cond (fun r => rfl) (fun c7 => ?_) (fun c7 => ?_)
  · first
    | (exfalso; exact cnA c7; done)
    | skip
      (try simp only [decide_eq_true_eq, decide_eq_false_iff_not, Bool.not_eq_true, Bool.not_eq_false, Bool.and_eq_true, Bool.or_eq_true, Bool.or_eq_false_iff, Bool.not_eq_true, Bool.not_eq_eq_eq_not, Bool.not_true, Bool.not_false] at c7)
      refine CW_ret ?_
      try simp only [Ex.thnH, Ex.inBlockH, ↓reduceIte, Nat.reduceEqDiff]
      skip
  · first
    | (exfalso; exact cnA c7; done)
    | skip
      (try simp only [decide_eq_true_eq, decide_eq_false_iff_not, Bool.not_eq_true, Bool.not_eq_false, Bool.and_eq_true, Bool.or_eq_true, Bool.or_eq_false_iff, Bool.not_eq_true, Bool.not_eq_eq_eq_not, Bool.not_true, Bool.not_false] at c7)
      refine CW_skip ?_
      try simp only [Ex.thnH, Ex.inBlockH, ↓reduceIte, Nat.reduceEqDiff]
      refine hK2 _ _ ?_; try clear hK2 K2
      refine CW_seq (fun K4 hK4 => ?_)
      refine CW_seq (fun K5 hK5 => ?_)
      refine CW_region ?_
      refine OW_mv rfl ?_
      refine OW_opS (fun K hK r => ?_)
      rw [x_nilCheck _ _ rfl]
      simp only [eX, ↓reduceIte, Nat.reduceEqDiff, Int.reduceToNat]
      refine hK _ _ ?_; clear hK K
      refine OW_opS (fun K hK r => ?_)
      simp only [x_fieldAddr, fa77_1, add_mk, Nat.reduceAdd, Nat.zero_add, eX, ↓reduceIte, Nat.reduceEqDiff, Int.reduceToNat]
      refine hK _ _ ?_; clear hK K
      refine OW_opS (fun K hK r => ?_)
      simp only [x_load, eX, ↓reduceIte, Nat.reduceEqDiff, Int.reduceToNat]
      refine Lt_loadAt1 Try.underlying75 rfl hbA ldA ?_
      try simp only [eX, ↓reduceIte, Nat.reduceEqDiff, Int.reduceToNat]
      refine hK _ _ ?_; clear hK K
      refine OW_opS (fun K hK r => ?_)
      simp only [x_builtin, l_len, List.map_toArray, List.map_cons, List.map_nil, i_len_slice _ _ Try.underlying75, eX, ↓reduceIte, Nat.reduceEqDiff, Int.reduceToNat]
      refine hK _ _ ?_; clear hK K
      refine OW_mv rfl ?_
      refine OW_nil ?_
      try simp only [Ex.thnH, Ex.inBlockH, ↓reduceIte, Nat.reduceEqDiff]
      refine hK5 _ _ ?_; try clear hK5 K5
      refine CW_block ?_
      refine CW_loop (fun m e H_ => ∃ (k : Nat) (Fk : Nat → Hp), k ≤ s.dv.length ∧ m = s.dv.length - k ∧ SX H_ p (s.crK l k) rd cap bs Fk ∧ (∀ i, i < s.dv.length → ∀ x, Fk i x ≠ none → (G.upd b3 (.cells #[.slice a l.length kcap] 44)) x = none) ∧ Le (G.upd b3 (.cells #[.slice a l.length kcap] 44)) H_ ∧ Env.has [(0, (.pointer (some ⟨p, 0, none⟩))), (3, .pointer (some ⟨b3, 0, none⟩)), (11, .slice (some ⟨rd, 0, none⟩) s.dv.length cap), (12, .int .i64 s.dv.length), (13, .int .i64 k)] e) (s.dv.length) ?_ ?_
      · skip
        refine ⟨0, Fs, by omega, by omega, by rw [St.crK_zero]; exact h3, (fun i hi x hx => ?_), ?_, rfl, rfl, rfl, rfl, rfl, trivial⟩
        · rw [upd_ne _ _ (fun e => by subst e; exact hx (hF3 i hi))]; exact hGd i hi x hx
        · exact le_put (Le.trans hG (le_upd _ _ _ hb3)) (upd_same _ _ _)
      intro m_ e_ H_ hI_
      obtain ⟨k, Fk, hk, rfl, hS, hap, hleG, he⟩ := hI_
      refine CW_env he.sub ?_; clear he e_
      have hk3 := hleG b3 _ (upd_same _ _ _)
      refine CW_seq (fun K6 hK6 => ?_)
      refine CW_region ?_
      refine OW_opS (fun K hK r => ?_)
      simp (disch := (first | omega | decide)) only [x_bin, g_int, b_lss, dec_lt_t, dec_lt_f, dec_le_t, dec_le_f, dec_eq_t, dec_eq_f, Bool.not_true, Bool.not_false, eX, ↓reduceIte, Nat.reduceEqDiff, Int.reduceToNat]
      refine hK _ _ ?_; clear hK K
      refine OW_nil ?_
      try simp only [Ex.thnH, Ex.inBlockH, ↓reduceIte, Nat.reduceEqDiff]
      refine hK6 _ _ ?_; try clear hK6 K6
      refine CW_seq (fun K7 hK7 => ?_)
      refine CW_cond (fun r => rfl) (fun c14 => ?_) (fun c14 => ?_)
      · first
        | (exfalso; exact cnA c14; done)
        | skip
          (try simp only [decide_eq_true_eq, decide_eq_false_iff_not, Bool.not_eq_true, Bool.not_eq_false, Bool.and_eq_true, Bool.or_eq_true, Bool.or_eq_false_iff, Bool.not_eq_true, Bool.not_eq_eq_eq_not, Bool.not_true, Bool.not_false] at c14)
          have hks : k < s.dv.length := by omega
          obtain ⟨cc, T, f, hr, hat, hlt⟩ := hS.at (k := k) (by rw [St.crK_len]; exact hks)
          refine CW_skip ?_
          try simp only [Ex.thnH, Ex.inBlockH, ↓reduceIte, Nat.reduceEqDiff]
          refine hK7 _ _ ?_; try clear hK7 K7
          refine CW_seq (fun K8 hK8 => ?_)
          refine CW_block ?_
          refine CW_seq (fun K9 hK9 => ?_)
          refine CW_region ?_
          refine OW_mv rfl ?_
          refine OW_opS (fun K hK r => ?_)
          simp only [x_indexAddr, eX, ↓reduceIte, Nat.reduceEqDiff, Int.reduceToNat]
          refine Lt_indexS Try.underlying75 sz78 ixA ixA ?_
          try simp only [add_mk, Nat.mul_one, Nat.zero_add, Int.reduceToNat]
          try simp only [eX, ↓reduceIte, Nat.reduceEqDiff, Int.reduceToNat]
          refine hK _ _ ?_; clear hK K
          refine OW_opS (fun K hK r => ?_)
          simp only [x_load, eX, ↓reduceIte, Nat.reduceEqDiff, Int.reduceToNat]
          refine Lt_loadAt1 Try.underlying78 rfl hbA hat ?_
          refine hK _ _ ?_; clear hK K
          refine OW_opS (fun K hK r => ?_)
          simp only [x_alloc, zr3, orF_some, Value.cells, eX, ↓reduceIte, Nat.reduceEqDiff, Int.reduceToNat]
          intro b4 hb4
          try have n4_b3 : b3 ≠ b4 := ne_of_none hbA hb4
          try simp only [eX, ↓reduceIte, Nat.reduceEqDiff, Int.reduceToNat]
          refine hK _ _ ?_; clear hK K
          refine OW_op rfl (lt_none) (fun K hK r => ?_)
          simp only [x_store, eX, ↓reduceIte, Nat.reduceEqDiff, Int.reduceToNat]
          refine Lt_storeAt1 sz3 hbA bdA plA fzA ?_
          try simp only [setL0, setL1, setL2, setL3, setL4, setL5, setL6, setL7, setL8, setL9]
          try simp only [eX, ↓reduceIte, Nat.reduceEqDiff, Int.reduceToNat]
          refine hK _ _ ?_; clear hK K
          refine OW_as rfl ?_
          refine OW_nil ?_
          try simp only [Ex.thnH, Ex.inBlockH, ↓reduceIte, Nat.reduceEqDiff]
          refine hK9 _ _ ?_; try clear hK9 K9
          refine CW_region ?_
          refine OW_mv rfl ?_
          refine OW_opS (fun K hK r => ?_)
          simp only [x_makeFunc, List.map_toArray, List.map_cons, List.map_nil, eX, ↓reduceIte, Nat.reduceEqDiff, Int.reduceToNat]
          refine hK _ _ ?_; clear hK K
          refine OW_opS (fun K hK r => ?_)
          simp only [x_callF _ bd33, List.map_toArray, List.map_cons, List.map_nil, eX, ↓reduceIte, Nat.reduceEqDiff, Int.reduceToNat]
          have hdk := hS.dev k (by rw [St.crK_len]; exact hks)
          rw [St.crK_at _ _ _ hks] at hdk
          have hfpk := hS.fp k (by rw [St.crK_len]; exact hks)
          have hlek := hS.le k (by rw [St.crK_len]; exact hks)
          have hFb4 : ∀ x, Fk k x ≠ none → x ≠ b4 := fun x hx e => by subst e; exact hx (none_of_le hlek hb4)
          have hpb4 : p ≠ b4 := ne_of_none hS.hd hb4
          have hGb4 : (G.upd b3 (.cells #[.slice a l.length kcap] 44)) b4 = none := none_of_le hleG hb4
          refine (settle_ok _ _ _ (Fk k) ((G.upd b3 (.cells #[.slice a l.length kcap] 44)).upd b4 (.cells #[.int .i64 (k : Int)] 3)) hdk (Le.trans hlek (le_upd _ _ _ hb4)) (le_put (Le.trans hleG (le_upd _ _ _ hb4)) (upd_same _ _ _)) (fun x hx => (upd_ne _ _ (hFb4 x hx)).trans (hap k hks x hx)) (.func 35) #[] #[.pointer (some ⟨b3, 0, none⟩), .pointer (some ⟨b4, 0, none⟩)] (fun n => keepOf l k n) (fun KK hKK n hn => ValH_func bd35 (crash1_ok KK b3 b4 a kcap l k n (hKK b3 _ ((upd_ne _ _ (ne_of_none (upd_same _ _ _) hGb4)).trans (upd_same _ _ _))) (hKK b4 _ (upd_same _ _ _)) (hkv.le (Le.trans (Le.trans (le_upd _ _ _ hG3) (le_upd _ _ _ hGb4)) hKK)) hkl)) (hw _)).mono ?_
          rintro v20 H20 ⟨F', hdF, hlF, hdom, hkp⟩
          have hkp4 : ∀ x o, H_ x = some o → Fk k x = none → H20 x = some o := fun x o hx hn => hkp x o ((upd_ne _ _ (ne_of_none hx hb4)).trans hx) hn
          obtain ⟨Fk', hS', hFk'⟩ := hS.put2 (t := s.crK l (k + 1)) (i := k) (by rw [St.crK_len]; exact hks) hdF (St.crK_next s l k hks) (by have := hkp4 p _ hS.hd hfpk.1; rw [this]; rfl) hlF (fun z o hz hn hzp => hkp4 z o hz hn) (fun z hz => .inl (hdom z hz))
          have hap' : ∀ i, i < s.dv.length → ∀ x, Fk' i x ≠ none → (G.upd b3 (.cells #[.slice a l.length kcap] 44)) x = none := fun i hi x hx => by
            subst hFk'
            by_cases e : i = k
            · subst e; simp only [if_true] at hx; exact hap i hi x (hdom x hx)
            · simp only [if_neg e] at hx; exact hap i hi x hx
          have hleG' : Le (G.upd b3 (.cells #[.slice a l.length kcap] 44)) H20 := fun z o hz => hkp4 z o (hleG z o hz) (by
            cases hc : Fk k z with
            | none => rfl
            | some u => rw [hap k hks z (by rw [hc]; simp)] at hz; cases hz)
          try simp only [eX, ↓reduceIte, Nat.reduceEqDiff, Int.reduceToNat]
          refine hK _ _ ?_; clear hK K
          refine OW_nil ?_
          try simp only [Ex.thnH, Ex.inBlockH, ↓reduceIte, Nat.reduceEqDiff]
          refine hK8 _ _ ?_; try clear hK8 K8
          refine CW_region ?_
          refine OW_opS (fun K hK r => ?_)
          simp (disch := (first | omega | decide)) only [x_bin, g_int, b_add, wrap_i64, wrap_u64, wrap_u32, wrap_u8, eX, ↓reduceIte, Nat.reduceEqDiff, Int.reduceToNat]
          refine hK _ _ ?_; clear hK K
          refine OW_mv rfl ?_
          refine OW_nil ?_
          try simp only [Ex.thnH, Ex.inBlockH, ↓reduceIte, Nat.reduceEqDiff]
          refine ⟨s.dv.length - (k + 1), by omega, k + 1, Fk', by omega, rfl, hS', hap', hleG', rfl, rfl, rfl, rfl, rfl, trivial⟩
      · first
        | (exfalso; exact cnA c14; done)
        | skip
          (try simp only [decide_eq_true_eq, decide_eq_false_iff_not, Bool.not_eq_true, Bool.not_eq_false, Bool.and_eq_true, Bool.or_eq_true, Bool.or_eq_false_iff, Bool.not_eq_true, Bool.not_eq_eq_eq_not, Bool.not_true, Bool.not_false] at c14)
          have hkn : k = s.dv.length := by omega
          have hSp := hS.hd
          refine CW_exit ?_
          try simp only [Ex.thnH, Ex.inBlockH, ↓reduceIte, Nat.reduceEqDiff]
          refine hK4 _ _ ?_; try clear hK4 K4
          refine CW_region ?_
          refine OW_mv rfl ?_
          refine OW_mv rfl ?_
          refine OW_opS (fun K hK r => ?_)
          rw [x_nilCheck _ _ rfl]
          simp only [eX, ↓reduceIte, Nat.reduceEqDiff, Int.reduceToNat]
          refine hK _ _ ?_; clear hK K
          refine OW_opS (fun K hK r => ?_)
          simp only [x_fieldAddr, fa77_0, add_mk, Nat.reduceAdd, Nat.zero_add, eX, ↓reduceIte, Nat.reduceEqDiff, Int.reduceToNat]
          refine hK _ _ ?_; clear hK K
          refine OW_opS (fun K hK r => ?_)
          simp only [x_fieldAddr, fa74_2, add_mk, Nat.reduceAdd, Nat.zero_add, eX, ↓reduceIte, Nat.reduceEqDiff, Int.reduceToNat]
          refine hK _ _ ?_; clear hK K
          refine OW_op rfl (lt_none) (fun K hK r => ?_)
          simp only [x_store, eX, ↓reduceIte, Nat.reduceEqDiff, Int.reduceToNat]
          refine Lt_storeAt1 sz4 hbA bdA plA fzA ?_
          try simp only [setL0, setL1, setL2, setL3, setL4, setL5, setL6, setL7, setL8, setL9]
          try simp only [eX, ↓reduceIte, Nat.reduceEqDiff, Int.reduceToNat]
          refine hK _ _ ?_; clear hK K
          refine OW_opS (fun K hK r => ?_)
          rw [x_nilCheck _ _ rfl]
          simp only [eX, ↓reduceIte, Nat.reduceEqDiff, Int.reduceToNat]
          refine hK _ _ ?_; clear hK K
          refine OW_opS (fun K hK r => ?_)
          simp only [x_fieldAddr, fa77_0, add_mk, Nat.reduceAdd, Nat.zero_add, eX, ↓reduceIte, Nat.reduceEqDiff, Int.reduceToNat]
          refine hK _ _ ?_; clear hK K
          refine OW_opS (fun K hK r => ?_)
          simp only [x_fieldAddr, fa74_3, add_mk, Nat.reduceAdd, Nat.zero_add, eX, ↓reduceIte, Nat.reduceEqDiff, Int.reduceToNat]
          refine hK _ _ ?_; clear hK K
          refine OW_op rfl (lt_none) (fun K hK r => ?_)
          simp only [x_store, eX, ↓reduceIte, Nat.reduceEqDiff, Int.reduceToNat]
          refine Lt_storeAt1 sz4 hbA bdA plA fzA ?_
          try simp only [setL0, setL1, setL2, setL3, setL4, setL5, setL6, setL7, setL8, setL9]
          try simp only [eX, ↓reduceIte, Nat.reduceEqDiff, Int.reduceToNat]
          refine hK _ _ ?_; clear hK K
          refine OW_nil ?_
          try simp only [Ex.thnH, Ex.inBlockH, ↓reduceIte, Nat.reduceEqDiff]
          have hcr : (s.cr l).dv = (s.crK l k).dv := by rw [hkn, St.crK_all]
          have hln : (s.crK l k).dv.length = s.dv.length := St.crK_len _ _ _
          refine ⟨[], trivial, _, Le.refl _, rd, cap, bs, Fk, hS.head hcr (by rw [hln]; exact upd_same _ _ _) (fun z o hz hzp => (upd_ne _ _ hzp).trans hz)⟩

end Go.Proofs.Ytkmjncmdhinlgaa.HL
end
