/- Parts of the proof, one behind the other: HLApi, HLFrame, HLFrame2, HLShort, S15Ty, HLOwn, HLIf, HLIter, HLMap, Md02, V10, Md04, V30. -/
import Derived.Carry
import Derived.ChangeOld
import Derived.OpenShut
import Derived.ChangeSlices
import Derived.Test.YtigofhhonnbkmaaProg
import Derived.KernelRfl
import Derived.Test.YtigofhhonnbkmaaX1
set_option linter.unusedSimpArgs false
set_option linter.unusedVariables false
section
namespace Go.Proofs.Ytigofhhonnbkmaa.HL
open Go

theorem flat_at {α : Type} {f : α → List Value} {wd : Nat} (hw : ∀ a, (f a).length = wd) (L : List α) (i : Nat) (hi : i < L.length) (j : Nat) (hj : j < wd) : (L.flatMap f)[i * wd + j]? = (f L[i])[j]? := by
  induction L generalizing i with
  | nil => simp at hi
  | cons x r ih =>
    cases i with
    | zero => rw [List.flatMap_cons, Nat.zero_mul, Nat.zero_add, List.getElem?_append_left (by rw [hw]; exact hj)]; rfl
    | succ i =>
      rw [List.flatMap_cons, List.getElem?_append_right (by rw [hw, Nat.succ_mul]; omega), hw]
      have e : (i + 1) * wd + j - wd = i * wd + j := by rw [Nat.succ_mul]; omega
      rw [e, ih i (by simpa using hi)]; rfl
/-- An element's cells, one by one, and all. -/
theorem cell_at {α : Type} [Inhabited α] {f : α → List Value} {wd : Nat} (hw : ∀ a, (f a).length = wd) {L : List α} {c : Array Value} {o n : Nat} (h : ∀ j, j < n * wd → c[o + j]? = (L.flatMap f)[j]?) (hn : n = L.length) (i : Nat) (hi : i < L.length) (j : Nat) (hj : j < wd) :
    c[o + i * wd + j]? = (f (L.getD i default))[j]? := by
  have e : i * wd + j < n * wd := by
    have := Nat.mul_le_mul_right wd (show i + 1 ≤ n by omega)
    rw [Nat.succ_mul] at this; omega
  rw [Nat.add_assoc, h _ e, flat_at hw L i hi j hj, List.getD_eq_getElem?_getD, List.getElem?_eq_getElem hi]; rfl
theorem ext_at {α : Type} [Inhabited α] {f : α → List Value} {wd : Nat} (hw : ∀ a, (f a).length = wd) {L : List α} {c : Array Value} {o n : Nat} (h : ∀ j, j < n * wd → c[o + j]? = (L.flatMap f)[j]?) (hn : n = L.length) (i : Nat) (hi : i < L.length) (hs : o + n * wd ≤ c.size) :
    c.extract (o + i * wd) (o + i * wd + wd) = (f (L.getD i default)).toArray := by
  apply Array.ext'
  apply List.ext_getElem?
  intro j
  have h1 := Nat.mul_le_mul_right wd (show i + 1 ≤ n by omega)
  rw [Nat.succ_mul] at h1
  rw [Array.toList_extract, List.extract_eq_take_drop]
  by_cases hj : j < wd
  · rw [List.getElem?_take_of_lt (by omega), List.getElem?_drop, Array.getElem?_toList, cell_at hw h hn i hi j hj]
  · rw [List.getElem?_eq_none (by simp; omega), List.getElem?_eq_none (by simp [hw]; omega)]
theorem take_eq_step {α : Type} [Inhabited α] {L M : List α} {k : Nat} (h : L.take k = M.take k) (hl : k < L.length) (hm : k < M.length) (e : L.getD k default = M.getD k default) : L.take (k + 1) = M.take (k + 1) := by
  rw [List.take_succ_eq_append_getElem hl, List.take_succ_eq_append_getElem hm, h]
  simp only [List.getD_eq_getElem?_getD, List.getElem?_eq_getElem hl, List.getElem?_eq_getElem hm, Option.getD_some] at e
  rw [e]
/-- api.Write -/
structure Wr where
  t : Int
  k : Int
  v : Int
  dead : Bool
deriving DecidableEq, Inhabited
abbrev Wr.c (w : Wr) : List Value := [.int .i64 w.t, .int .i64 w.k, .int .i64 w.v, .bool w.dead]
def wrK : List CK := [some .i64, some .i64, some .i64, none]
theorem Wr.inj {a b : Wr} : a.c = b.c ↔ a = b := by
  obtain ⟨t, k, v, d⟩ := a
  obtain ⟨t', k', v', d'⟩ := b
  simp [Wr.c]
theorem Wr.len (w : Wr) : w.c.length = 4 := rfl
def Wr.ok (w : Wr) : Prop := (-9223372036854775808 ≤ w.t ∧ w.t ≤ 9223372036854775807) ∧ (-9223372036854775808 ≤ w.k ∧ w.k ≤ 9223372036854775807) ∧ (-9223372036854775808 ≤ w.v ∧ w.v ≤ 9223372036854775807)
theorem Wr.eqV {a b : Wr} : Go.Proofs.Ytigofhhonnbkmaa.HL.eqV a.c b.c = decide (a = b) := eqV_of Wr.inj
abbrev wrs (L : List Wr) : List Value := L.flatMap Wr.c
/-- 'append' of a known slice to an empty one of the call's own. -/
theorem Lt_appendNew {P : Program} {H : Hp} {t1 E : TypeId} {w by_ : Nat} {z : Value} (hu : P.underlying t1 = some (.slice E)) (hw : szOf P E = some w) (hby : byOf P E = some by_) (hby0 : 0 < by_)
    (hz : zrOf P E = some (some z)) (hzw : z.cells.size = w) (ty : TypeId) {b : Nat} {x : Value} {m : Nat} {ds : List Value} (hb : H b = some (.cells #[] E)) (hx : Holds H w x m ds) (hp : PlainL ds)
    (hroom : (4 * m + 2000) * by_ ≤ 281474976710656) {K : Value → Hp → Prop}
    (h : ∀ v' H' rs', Grow H (some b) H' → OwnS H' E w v' m ds rs' → (∀ r, rs' = some r → r = b ∨ H r = none) → K v' H') : Lt P (Builtin.append_ #[t1, t1] ty #[.slice (some ⟨b, 0, none⟩) 0 0, x]) H K := by
  refine Lt_append hu hu (by simp) hw hby hby0 hz hzw ty (n := 0) (m := m) (cs := []) (ds := ds) (rs := some b) ⟨by simp, .inr ⟨b, 0, #[], rfl, hb, Nat.le_refl _, by simp, by simp, rfl⟩⟩ (fun K => len_holds hx K) (fun K => first_slice hx K) hx.1 hp (by simpa using hroom) ?_
  intro v' H' rs' hg ho hr
  refine h v' H' rs' hg (by simpa using ho) fun r e => ?_
  rcases hr r e with h1 | h1
  · cases h1; exact .inl rfl
  · exact .inr h1
/-- 'append' of one number that stands in a block of one cell. -/
theorem Lt_append1 {P : Program} {H : Hp} {t1 E : TypeId} {by_ : Nat} {z : Value} (hu : P.underlying t1 = some (.slice E)) (hw : szOf P E = some 1) (hby : byOf P E = some by_) (hby0 : 0 < by_)
    (hz : zrOf P E = some (some z)) (hzw : z.cells.size = 1) (ty : TypeId) {v : Value} {n : Nat} {cs : List Value} {rs : Option Nat} (hv : OwnS H E 1 v n cs rs) {b : Nat} {x : Value} (hb : H b = some (.cells #[x] E)) (hp : plainCell x = true)
    (hroom : (4 * (n + 1) + 2000) * by_ ≤ 281474976710656) {K : Value → Hp → Prop}
    (h : ∀ v' H' rs', Grow H rs H' → OwnS H' E 1 v' (n + 1) (cs ++ [x]) rs' → (∀ r, rs' = some r → rs = some r ∨ H r = none) → K v' H') : Lt P (Builtin.append_ #[t1, t1] ty #[v, .slice (some ⟨b, 0, none⟩) 1 1]) H K := by
  have hx : Holds H 1 (.slice (some ⟨b, 0, none⟩) 1 1) 1 [x] := ⟨rfl, .inr ⟨b, 0, 1, _, _, _, rfl, hb, by simp, by simp⟩⟩
  exact Lt_append hu hu (by simp) hw hby hby0 hz hzw ty (n := n) (m := 1) (cs := cs) (ds := [x]) (rs := rs) hv (fun K => len_holds hx K) (fun K => first_slice hx K) rfl (PlainL.cons hp PlainL.nil) hroom h
end Go.Proofs.Ytigofhhonnbkmaa.HL
end
section
namespace Go.Proofs.Ytigofhhonnbkmaa.HL
open Go Go.RowKit Go.ChangeShapes Go.WideShapes

/-- The whole heap that there is. -/
def oldH (w : World) : Hp := fun b => w.heap[b]?
theorem oldH_sub (w : World) : Sub (oldH w) w := fun _ _ h => h
theorem calls_of_old {P : Program} {f : FuncId} {args : Array Value} {w : World}
    (h : CallH P f args (oldH w) (fun v H' => v = .bool true ∧ Le (oldH w) H')) : Calls P f args w fun e w' => e = .returned (.bool true) ∧ Below w.heap.size w w' := by
  refine (h w (oldH_sub w)).mono fun e w' ⟨v, he, H', ⟨hv, hl⟩, hx⟩ => ⟨by rw [he, hv], hx.os, hx.tape, hx.output, hx.size, fun k hk => ?_⟩
  have h1 : w.heap[k]? = some w.heap[k] := by simp [hk]
  rw [h1]; exact hx.sub _ _ (hl _ _ h1)

theorem i64_of_wf {n : Int} (h : (Lit.int .i64 n).wf = true) : -9223372036854775808 ≤ n ∧ n ≤ 9223372036854775807 := by
  simp [Lit.wf, IntKind.min, IntKind.max, IntKind.signed, IntKind.bits] at h
  omega

section
variable {H : Type} {enc : TypeId × Value → H} {P : Program} {w : World} {base : Nat} {spare : Nat → Bool} {held : Bool} {fuel : Nat} {t : TypeId} {cs : List Value} {x : DataW H × List MemPlace}

theorem val_of_agg {r : Reach} {b0 : Nat} {v : Value} (ht : (∃ fs, P.underlying t = some (.struct fs)) ∨ ∃ n e, P.underlying t = some (.array n e)) (h : Value.okWide P w r b0 t v) : v = .agg v.cells := by
  unfold Value.okWide at h
  rcases ht with ⟨fs, ht⟩ | ⟨n, e, ht⟩ <;> rw [ht] at h <;> obtain ⟨c, rfl, _⟩ := h <;> rfl

theorem open_ints_slice {e : TypeId} {k : IntKind} (ht : P.underlying t = some (.slice e)) (he : P.underlying e = some (.int k)) (hc : P.cellsOf e = 1)
    (h : DataW.trod enc P w base spare held fuel t cs = some x) : ∃ (a : Option Addr) (len cap : Nat) (L : List Int), cs = [.slice a len cap] ∧ Holds (oldH w) 1 (.slice a len cap) len (L.map (.int k ·)) ∧ L.length = len ∧ len ≤ maxLen ∧ ∀ z ∈ L, (Lit.int k z).wf = true := by
  rcases open_ints ht he hc h with ⟨rfl, _⟩ | ⟨a, len, cap, zs, rfl, _, hl, hm, hz, _, hcell, hw⟩
  · exact ⟨none, 0, 0, [], rfl, ⟨by simp, .inl ⟨none, 0, rfl, rfl⟩⟩, rfl, by decide, by simp⟩
  · have hzl : len ≤ zs.length := by rw [hz]; split <;> omega
    have hTl : (zs.take len).length = len := by simp; omega
    refine ⟨some a, len, cap, zs.take len, rfl, ⟨by simp; omega, ?_⟩, hTl, by omega, fun z hz' => hw z (List.mem_of_mem_take hz')⟩
    by_cases h0 : len = 0
    · subst h0; exact .inl ⟨some a, cap, rfl, rfl⟩
    · right
      obtain ⟨b, o, sp⟩ := a
      have hc0 := hcell 0 (by omega)
      cases hb : w.heap[b]? with
      | none => simp [World.cell?, Addr.add, hb] at hc0
      | some ob =>
        cases ob with
        | cells c T f =>
          have hsp : sp = none := by
            cases sp with
            | none => rfl
            | some q => simp [World.cell?, Addr.add, hb] at hc0
          subst hsp
          have hcell' : ∀ i, i < zs.length → c[o + i]? = some (.int k (zs.getD i 0)) := by
            intro i hi
            have := hcell i hi
            rcases Nat.eq_zero_or_pos i with h0' | h0'
            · subst h0'; simpa [World.cell?, Addr.add, hb] using this
            · have hne : i ≠ 0 := by omega
              simpa [World.cell?, Addr.add, hb, hne] using this
          have hsz : o + len ≤ c.size := by
            have := hcell' (len - 1) (by omega)
            have := (Array.getElem?_eq_some_iff.1 this).1
            omega
          refine ⟨b, o, cap, c, T, f, rfl, hb, by omega, ?_⟩
          apply List.ext_getElem?
          intro i
          rw [Nat.mul_one, Array.toList_extract, List.extract_eq_take_drop]
          by_cases hi : i < len
          · rw [List.getElem?_take_of_lt (by omega), List.getElem?_drop]
            have h2 : i < zs.length := by omega
            have h1 := hcell' i h2
            simp only [Array.getElem?_toList, h1, List.getElem?_map, List.getElem?_take_of_lt hi]
            simp [h2]
          · rw [List.getElem?_eq_none (by simp; omega), List.getElem?_eq_none (by simp; omega)]
        | _ => simp [World.cell?, Addr.add, hb] at hc0

theorem open_field {fs : Array Field} (ht : P.underlying t = some (.struct fs)) (h : DataW.trod enc P w base spare held fuel t cs = some x) (i : Nat) {f : Field} (hf : fs[i]? = some f) :
    ∃ y n, DataW.trod enc P w base spare held n f.type ((cs.drop f.offset).take (P.cellsOf f.type)) = some y := by
  obtain ⟨xs, n, _, _, hl, hx, hi⟩ := DataW.trod_struct ht h
  have h1 := hi i f hf
  have hlt : i < fs.size := (Array.getElem?_eq_some_iff.1 hf).1
  rw [List.getElem?_eq_getElem (by omega)] at h1
  exact ⟨_, n, h1⟩
theorem struct_len {fs : Array Field} (ht : P.underlying t = some (.struct fs)) (h : DataW.trod enc P w base spare held fuel t cs = some x) : cs.length = P.cellsOf t := by
  obtain ⟨xs, n, _, _, hl, _⟩ := DataW.trod_struct ht h
  exact hl
theorem cells_of_list {v : Value} {l : List Value} (h : v.cells.toList = l) : v.cells = l.toArray := by rw [← h]
/-! ### arguments of a kind -/
variable {r : Reach} {b0 : Nat} {v : Value} {d : DataW H} {ps : List MemPlace}
/-- A field's cells. -/
theorem field_cells {fs : Array Field} (ht : P.underlying t = some (.struct fs)) (h : DataW.trod enc P w base spare held fuel t cs = some x) (i : Nat) {f : Field} (hf : fs[i]? = some f) {o n : Nat} (ho : f.offset = o) (hn : P.cellsOf f.type = n) :
    ∃ y m, DataW.trod enc P w base spare held m f.type ((cs.drop o).take n) = some y := by
  have := open_field ht h i hf
  rw [ho, hn] at this; exact this
theorem int_cell {k : IntKind} {i : Nat} (ht : P.underlying t = some (.int k)) (h : DataW.trod enc P w base spare held fuel t ((cs.drop i).take 1) = some x) : ∃ z, cs[i]? = some (.int k z) ∧ (Lit.int k z).wf = true := by
  obtain ⟨z, h1, _, h2⟩ := DataW.trod_int ht h
  refine ⟨z, ?_, h2⟩
  have h5 : ((cs.drop i).take 1)[0]? = some (.int k z) := by rw [h1]; rfl
  rw [List.getElem?_take_of_lt (by omega), List.getElem?_drop] at h5
  simpa using h5
end
end Go.Proofs.Ytigofhhonnbkmaa.HL
end
section
namespace Go.Proofs.Ytigofhhonnbkmaa.HL
open Go Go.ChangeShapes Go.WideShapes
variable {P : Program} {H : Type} {enc : TypeId × Value → H} {w : World} {base : Nat} {spare : Nat → Bool} {held : Bool} {r : Reach} {b0 : Nat} {t : TypeId} {v : Value} {d : DataW H} {ps : List MemPlace}
end Go.Proofs.Ytigofhhonnbkmaa.HL
end
section
namespace Go.Proofs.Ytigofhhonnbkmaa.HL
open Go
/-- environments, and what comes behind an operation -/
theorem eX :
    (∀ (e : Env) (r : Nat → Value) (t : Nat), ev e r (.tmp t) = (e.get t).getD (r t)) ∧ (∀ (e : Env) (r : Nat → Value) (v : Value), ev e r (.const v) = v) ∧
    (∀ (e : Env) (r : Nat → Value) (k : Nat), ev e r (.global k) = .pointer (some ⟨k, 0, none⟩)) ∧ (∀ (e : Env) (r : Nat → Value) (k : Nat), ev e r (.func k) = .func (.func k) #[] #[]) ∧
    (∀ t : Nat, Env.get [] t = none) ∧ (∀ (e : Env) (k t : Nat) (v : Value), Env.get ((k, v) :: e) t = if t = k then some v else Env.get e t) ∧ (∀ v u : Value, (some v).getD u = v) ∧
    (∀ (P : Program) (v : Value) (H : Hp) (R : Value → Hp → Prop), NextH P (.value v) H R = R v H) ∧ (∀ (e : Env) (t : Nat) (v : Value), Env.putO e (some t) v = e.put t v) ∧ (∀ (e : Env) (v : Value), Env.putO e none v = e) ∧
    (∀ (t : Nat) (v : Value), Env.put [] t v = [(t, v)]) ∧ (∀ (e : Env) (k t : Nat) (u v : Value), Env.put ((k, u) :: e) t v = if t = k then (k, v) :: e else (k, u) :: Env.put e t v) ∧
    (∀ (H : Hp) (b : Nat) (o o' : Obj), (H.upd b o).upd b o' = H.upd b o') ∧ (∀ (P : Program) (f : FuncId) (args : Array Value) (H : Hp) (R : Value → Hp → Prop), NextH P (.enter f args) H R = CallH P f args H R) :=
  ⟨fun _ _ _ => rfl, fun _ _ _ => rfl, fun _ _ _ => rfl, fun _ _ _ => rfl, fun _ => rfl, fun _ _ _ _ => rfl, fun _ _ => rfl, fun _ _ _ _ => rfl, fun _ _ _ => rfl, fun _ _ => rfl, fun _ _ => rfl, fun _ _ _ _ _ => rfl, fun _ _ _ _ => upd_upd _ _ _ _, fun _ _ _ _ _ => rfl⟩
section
variable {P : Program} {n : Nat} {ops : Array Oper} {Q : Env → Hp → Prop} {d : Nat} {op : Op} {ty : TypeId} {p : String} {af : Array Edge} {rest : List Oper} {e : Env} {H : Hp}
theorem OW_opS (h : ∀ K : Env → Hp → Prop, (∀ e H, OW P n ops Q rest e H → K e H) → ∀ r, Lt P (execOp (ev e r) ⟨some d, op, ty, p, af, none⟩) H (fun nx H' => NextH P nx H' (fun v H'' => K (e.putO (some d) v) H''))) (hd : noDefer ⟨some d, op, ty, p, af, none⟩ = true := by rfl) (ht : d < n := by decide) :
    OW P n ops Q (⟨some d, op, ty, p, af, none⟩ :: rest) e H := OW_op hd (lt_some ht) h
/-- What an operand is, where it is known. -/
def evO (e : Env) : Operand → Option Value
  | .tmp t => e.get t
  | .const v => some v
  | _ => none
theorem evO_ev {e : Env} {x : Operand} {v : Value} (h : evO e x = some v) (r : Nat → Value) : ev e r x = v := by
  cases x with
  | tmp t => simp only [evO] at h; simp only [ev, h, Option.getD_some]
  | const c => simp only [evO, Option.some.injEq] at h; subst h; rfl
  | _ => simp [evO] at h
theorem OW_mv {x : Operand} {v : Value} (hv : evO e x = some v) (h : OW P n ops Q rest (e.put d v) H) (hd : noDefer ⟨some d, .move x, ty, p, af, none⟩ = true := by rfl) (ht : d < n := by decide) : OW P n ops Q (⟨some d, .move x, ty, p, af, none⟩ :: rest) e H :=
  OW_op hd (lt_some ht) fun K hK r => by
    rw [x_move, evO_ev hv r]
    exact hK _ _ h
theorem OW_as {x : Operand} {v : Value} (hv : evO e x = some v) (h : OW P n ops Q rest (e.put d v) H) (hd : noDefer ⟨some d, .assign x, ty, p, af, none⟩ = true := by rfl) (ht : d < n := by decide) : OW P n ops Q (⟨some d, .assign x, ty, p, af, none⟩ :: rest) e H :=
  OW_op hd (lt_some ht) fun K hK r => by
    rw [x_assign, evO_ev hv r]
    exact hK _ _ h
end
end Go.Proofs.Ytigofhhonnbkmaa.HL
end
section
namespace Go.Proofs.Ytigofhhonnbkmaa.HL
open Go Go.Proofs Go.Proofs.Ytigofhhonnbkmaa.HL
set_option linter.unusedSimpArgs false
set_option linter.unusedVariables false
theorem sz3 : szOf Try.prog 3 = some 1 := by kernel_rfl
theorem sz4 : szOf Try.prog 4 = some 1 := by kernel_rfl
theorem sz5 : szOf Try.prog 5 = some 1 := by kernel_rfl
theorem sz22 : szOf Try.prog 22 = some 1 := by kernel_rfl
theorem sz24 : szOf Try.prog 24 = some 6 := by kernel_rfl
theorem sz27 : szOf Try.prog 27 = some 6 := by kernel_rfl
theorem sz30 : szOf Try.prog 30 = some 64 := by kernel_rfl
theorem sz32 : szOf Try.prog 32 = some 1 := by kernel_rfl
theorem sz80 : szOf Try.prog 80 = some 1 := by kernel_rfl
theorem sz89 : szOf Try.prog 89 = some 3 := by kernel_rfl
theorem sz111 : szOf Try.prog 111 = some 4 := by kernel_rfl
theorem sz112 : szOf Try.prog 112 = some 1 := by kernel_rfl
theorem sz115 : szOf Try.prog 115 = some 1 := by kernel_rfl
theorem sz116 : szOf Try.prog 116 = some 1 := by kernel_rfl
theorem sz117 : szOf Try.prog 117 = some 1 := by kernel_rfl
theorem sz130 : szOf Try.prog 130 = some 65 := by kernel_rfl
theorem by3 : byOf Try.prog 3 = some 8 := by kernel_rfl
theorem by5 : byOf Try.prog 5 = some 1 := by kernel_rfl
theorem by115 : byOf Try.prog 115 = some 8 := by kernel_rfl
theorem by130 : byOf Try.prog 130 = some 72 := by kernel_rfl
theorem eqg30 : Program.eqGuardType Try.prog Try.prog.depth 30 = false := by kernel_rfl
theorem zr3 : zrOf Try.prog 3 = some (some (.int .i64 0)) := by kernel_rfl
theorem zr5 : zrOf Try.prog 5 = some (some (.int .u8 0)) := by kernel_rfl
theorem zr27 : zrOf Try.prog 27 = some (some (.agg #[.int .i64 0, .int .i64 0, .int .i64 0, .int .i64 0, .int .i64 0, .slice none 0 0])) := by kernel_rfl
theorem zr30 : zrOf Try.prog 30 = some (some (.agg (Array.replicate 64 (.int .u8 0)))) := by kernel_rfl
theorem zr32 : zrOf Try.prog 32 = some (some (.nilIface)) := by kernel_rfl
theorem zr38 : zrOf Try.prog 38 = some (some (.int .i64 0)) := by kernel_rfl
theorem zr82 : zrOf Try.prog 82 = some (some (.agg #[.slice none 0 0])) := by kernel_rfl
theorem zr89 : zrOf Try.prog 89 = some (some (.agg #[.int .i64 0, .int .i64 0, .slice none 0 0])) := by kernel_rfl
theorem zr102 : zrOf Try.prog 102 = some (some (.agg #[.int .i64 0, .int .i64 0, .slice none 0 0])) := by kernel_rfl
theorem zr114 : zrOf Try.prog 114 = some (some (.agg #[.int .i64 0, .int .i64 0, .bool false, .bool false, .slice none 0 0])) := by kernel_rfl
theorem zr115 : zrOf Try.prog 115 = some (some (.pointer none)) := by kernel_rfl
theorem zr119 : zrOf Try.prog 119 = some (some (.agg #[.int .i64 0, .map none, .slice none 0 0])) := by kernel_rfl
theorem zr121 : zrOf Try.prog 121 = some (some (.pointer none)) := by kernel_rfl
theorem zr130 : zrOf Try.prog 130 = some (some (.agg #[.int .i64 0, .int .u8 0, .int .u8 0, .int .u8 0, .int .u8 0, .int .u8 0, .int .u8 0, .int .u8 0, .int .u8 0, .int .u8 0, .int .u8 0, .int .u8 0, .int .u8 0, .int .u8 0, .int .u8 0, .int .u8 0, .int .u8 0, .int .u8 0, .int .u8 0, .int .u8 0, .int .u8 0, .int .u8 0, .int .u8 0, .int .u8 0, .int .u8 0, .int .u8 0, .int .u8 0, .int .u8 0, .int .u8 0, .int .u8 0, .int .u8 0, .int .u8 0, .int .u8 0, .int .u8 0, .int .u8 0, .int .u8 0, .int .u8 0, .int .u8 0, .int .u8 0, .int .u8 0, .int .u8 0, .int .u8 0, .int .u8 0, .int .u8 0, .int .u8 0, .int .u8 0, .int .u8 0, .int .u8 0, .int .u8 0, .int .u8 0, .int .u8 0, .int .u8 0, .int .u8 0, .int .u8 0, .int .u8 0, .int .u8 0, .int .u8 0, .int .u8 0, .int .u8 0, .int .u8 0, .int .u8 0, .int .u8 0, .int .u8 0, .int .u8 0, .int .u8 0])) := by kernel_rfl
theorem zr153 : zrOf Try.prog 153 = some (some (.agg #[.slice none 0 0, .bool false])) := by kernel_rfl
theorem fa24_0 (a : Addr) (H : Hp) (K : Value → Hp → Prop) : Lt Try.prog (Instr.fieldAt 24 (.pointer (some a)) 0) H K = K (.pointer (some (a.add 0))) H := by
  have h := @fieldAt_one Try.prog 24 _ 0 _ 1 Try.underlying24 rfl sz3 (by decide) a H K
  exact h
theorem fa24_1 (a : Addr) (H : Hp) (K : Value → Hp → Prop) : Lt Try.prog (Instr.fieldAt 24 (.pointer (some a)) 1) H K = K (.pointer (some (a.add 1))) H := by
  have h := @fieldAt_one Try.prog 24 _ 1 _ 1 Try.underlying24 rfl sz3 (by decide) a H K
  exact h
theorem fa24_2 (a : Addr) (H : Hp) (K : Value → Hp → Prop) : Lt Try.prog (Instr.fieldAt 24 (.pointer (some a)) 2) H K = K (.pointer (some (a.add 2))) H := by
  have h := @fieldAt_one Try.prog 24 _ 2 _ 1 Try.underlying24 rfl sz3 (by decide) a H K
  exact h
theorem fa24_3 (a : Addr) (H : Hp) (K : Value → Hp → Prop) : Lt Try.prog (Instr.fieldAt 24 (.pointer (some a)) 3) H K = K (.pointer (some (a.add 3))) H := by
  have h := @fieldAt_one Try.prog 24 _ 3 _ 1 Try.underlying24 rfl sz3 (by decide) a H K
  exact h
theorem fa24_4 (a : Addr) (H : Hp) (K : Value → Hp → Prop) : Lt Try.prog (Instr.fieldAt 24 (.pointer (some a)) 4) H K = K (.pointer (some (a.add 4))) H := by
  have h := @fieldAt_one Try.prog 24 _ 4 _ 1 Try.underlying24 rfl sz3 (by decide) a H K
  exact h
theorem fa24_5 (a : Addr) (H : Hp) (K : Value → Hp → Prop) : Lt Try.prog (Instr.fieldAt 24 (.pointer (some a)) 5) H K = K (.pointer (some (a.add 5))) H := by
  have h := @fieldAt_one Try.prog 24 _ 5 _ 1 Try.underlying24 rfl sz22 (by decide) a H K
  exact h
theorem fa27_0 (a : Addr) (H : Hp) (K : Value → Hp → Prop) : Lt Try.prog (Instr.fieldAt 27 (.pointer (some a)) 0) H K = K (.pointer (some (a.add 0))) H := by
  have h := @fieldAt_one Try.prog 27 _ 0 _ 1 Try.underlying27 rfl sz3 (by decide) a H K
  exact h
theorem fa27_1 (a : Addr) (H : Hp) (K : Value → Hp → Prop) : Lt Try.prog (Instr.fieldAt 27 (.pointer (some a)) 1) H K = K (.pointer (some (a.add 1))) H := by
  have h := @fieldAt_one Try.prog 27 _ 1 _ 1 Try.underlying27 rfl sz3 (by decide) a H K
  exact h
theorem fa27_2 (a : Addr) (H : Hp) (K : Value → Hp → Prop) : Lt Try.prog (Instr.fieldAt 27 (.pointer (some a)) 2) H K = K (.pointer (some (a.add 2))) H := by
  have h := @fieldAt_one Try.prog 27 _ 2 _ 1 Try.underlying27 rfl sz3 (by decide) a H K
  exact h
theorem fa27_3 (a : Addr) (H : Hp) (K : Value → Hp → Prop) : Lt Try.prog (Instr.fieldAt 27 (.pointer (some a)) 3) H K = K (.pointer (some (a.add 3))) H := by
  have h := @fieldAt_one Try.prog 27 _ 3 _ 1 Try.underlying27 rfl sz3 (by decide) a H K
  exact h
theorem fa27_4 (a : Addr) (H : Hp) (K : Value → Hp → Prop) : Lt Try.prog (Instr.fieldAt 27 (.pointer (some a)) 4) H K = K (.pointer (some (a.add 4))) H := by
  have h := @fieldAt_one Try.prog 27 _ 4 _ 1 Try.underlying27 rfl sz3 (by decide) a H K
  exact h
theorem fa27_5 (a : Addr) (H : Hp) (K : Value → Hp → Prop) : Lt Try.prog (Instr.fieldAt 27 (.pointer (some a)) 5) H K = K (.pointer (some (a.add 5))) H := by
  have h := @fieldAt_one Try.prog 27 _ 5 _ 1 Try.underlying27 rfl sz22 (by decide) a H K
  exact h
theorem fa82_0 (a : Addr) (H : Hp) (K : Value → Hp → Prop) : Lt Try.prog (Instr.fieldAt 82 (.pointer (some a)) 0) H K = K (.pointer (some (a.add 0))) H := by
  have h := @fieldAt_one Try.prog 82 _ 0 _ 1 Try.underlying82 rfl sz80 (by decide) a H K
  exact h
theorem fa89_0 (a : Addr) (H : Hp) (K : Value → Hp → Prop) : Lt Try.prog (Instr.fieldAt 89 (.pointer (some a)) 0) H K = K (.pointer (some (a.add 0))) H := by
  have h := @fieldAt_one Try.prog 89 _ 0 _ 1 Try.underlying89 rfl sz3 (by decide) a H K
  exact h
theorem fa89_1 (a : Addr) (H : Hp) (K : Value → Hp → Prop) : Lt Try.prog (Instr.fieldAt 89 (.pointer (some a)) 1) H K = K (.pointer (some (a.add 1))) H := by
  have h := @fieldAt_one Try.prog 89 _ 1 _ 1 Try.underlying89 rfl sz3 (by decide) a H K
  exact h
theorem fa89_2 (a : Addr) (H : Hp) (K : Value → Hp → Prop) : Lt Try.prog (Instr.fieldAt 89 (.pointer (some a)) 2) H K = K (.pointer (some (a.add 2))) H := by
  have h := @fieldAt_one Try.prog 89 _ 2 _ 1 Try.underlying89 rfl sz80 (by decide) a H K
  exact h
theorem fa102_0 (a : Addr) (H : Hp) (K : Value → Hp → Prop) : Lt Try.prog (Instr.fieldAt 102 (.pointer (some a)) 0) H K = K (.pointer (some (a.add 0))) H := by
  have h := @fieldAt_one Try.prog 102 _ 0 _ 1 Try.underlying102 rfl sz3 (by decide) a H K
  exact h
theorem fa102_1 (a : Addr) (H : Hp) (K : Value → Hp → Prop) : Lt Try.prog (Instr.fieldAt 102 (.pointer (some a)) 1) H K = K (.pointer (some (a.add 1))) H := by
  have h := @fieldAt_one Try.prog 102 _ 1 _ 1 Try.underlying102 rfl sz3 (by decide) a H K
  exact h
theorem fa102_2 (a : Addr) (H : Hp) (K : Value → Hp → Prop) : Lt Try.prog (Instr.fieldAt 102 (.pointer (some a)) 2) H K = K (.pointer (some (a.add 2))) H := by
  have h := @fieldAt_one Try.prog 102 _ 2 _ 1 Try.underlying102 rfl sz80 (by decide) a H K
  exact h
theorem fa111_0 (a : Addr) (H : Hp) (K : Value → Hp → Prop) : Lt Try.prog (Instr.fieldAt 111 (.pointer (some a)) 0) H K = K (.pointer (some (a.add 0))) H := by
  have h := @fieldAt_one Try.prog 111 _ 0 _ 1 Try.underlying111 rfl sz3 (by decide) a H K
  exact h
theorem fa111_1 (a : Addr) (H : Hp) (K : Value → Hp → Prop) : Lt Try.prog (Instr.fieldAt 111 (.pointer (some a)) 1) H K = K (.pointer (some (a.add 1))) H := by
  have h := @fieldAt_one Try.prog 111 _ 1 _ 1 Try.underlying111 rfl sz3 (by decide) a H K
  exact h
theorem fa111_2 (a : Addr) (H : Hp) (K : Value → Hp → Prop) : Lt Try.prog (Instr.fieldAt 111 (.pointer (some a)) 2) H K = K (.pointer (some (a.add 2))) H := by
  have h := @fieldAt_one Try.prog 111 _ 2 _ 1 Try.underlying111 rfl sz4 (by decide) a H K
  exact h
theorem fa111_3 (a : Addr) (H : Hp) (K : Value → Hp → Prop) : Lt Try.prog (Instr.fieldAt 111 (.pointer (some a)) 3) H K = K (.pointer (some (a.add 3))) H := by
  have h := @fieldAt_one Try.prog 111 _ 3 _ 1 Try.underlying111 rfl sz4 (by decide) a H K
  exact h
theorem fa114_0 (a : Addr) (H : Hp) (K : Value → Hp → Prop) : Lt Try.prog (Instr.fieldAt 114 (.pointer (some a)) 0) H K = K (.pointer (some (a.add 0))) H := by
  have h := @fieldAt_one Try.prog 114 _ 0 _ 4 Try.underlying114 rfl sz111 (by decide) a H K
  exact h
theorem fa114_1 (a : Addr) (H : Hp) (K : Value → Hp → Prop) : Lt Try.prog (Instr.fieldAt 114 (.pointer (some a)) 1) H K = K (.pointer (some (a.add 4))) H := by
  have h := @fieldAt_one Try.prog 114 _ 1 _ 1 Try.underlying114 rfl sz112 (by decide) a H K
  exact h
theorem fa119_0 (a : Addr) (H : Hp) (K : Value → Hp → Prop) : Lt Try.prog (Instr.fieldAt 119 (.pointer (some a)) 0) H K = K (.pointer (some (a.add 0))) H := by
  have h := @fieldAt_one Try.prog 119 _ 0 _ 1 Try.underlying119 rfl sz3 (by decide) a H K
  exact h
theorem fa119_1 (a : Addr) (H : Hp) (K : Value → Hp → Prop) : Lt Try.prog (Instr.fieldAt 119 (.pointer (some a)) 1) H K = K (.pointer (some (a.add 1))) H := by
  have h := @fieldAt_one Try.prog 119 _ 1 _ 1 Try.underlying119 rfl sz116 (by decide) a H K
  exact h
theorem fa119_2 (a : Addr) (H : Hp) (K : Value → Hp → Prop) : Lt Try.prog (Instr.fieldAt 119 (.pointer (some a)) 2) H K = K (.pointer (some (a.add 2))) H := by
  have h := @fieldAt_one Try.prog 119 _ 2 _ 1 Try.underlying119 rfl sz117 (by decide) a H K
  exact h
theorem fa124_1 (a : Addr) (H : Hp) (K : Value → Hp → Prop) : Lt Try.prog (Instr.fieldAt 124 (.pointer (some a)) 1) H K = K (.pointer (some (a.add 1))) H := by
  have h := @fieldAt_one Try.prog 124 _ 1 _ 1 Try.underlying124 rfl sz32 (by decide) a H K
  exact h
theorem fa130_0 (a : Addr) (H : Hp) (K : Value → Hp → Prop) : Lt Try.prog (Instr.fieldAt 130 (.pointer (some a)) 0) H K = K (.pointer (some (a.add 0))) H := by
  have h := @fieldAt_one Try.prog 130 _ 0 _ 1 Try.underlying130 rfl sz3 (by decide) a H K
  exact h
theorem fa130_1 (a : Addr) (H : Hp) (K : Value → Hp → Prop) : Lt Try.prog (Instr.fieldAt 130 (.pointer (some a)) 1) H K = K (.pointer (some (a.add 1))) H := by
  have h := @fieldAt_one Try.prog 130 _ 1 _ 64 Try.underlying130 rfl sz30 (by decide) a H K
  exact h
theorem fa153_0 (a : Addr) (H : Hp) (K : Value → Hp → Prop) : Lt Try.prog (Instr.fieldAt 153 (.pointer (some a)) 0) H K = K (.pointer (some (a.add 0))) H := by
  have h := @fieldAt_one Try.prog 153 _ 0 _ 1 Try.underlying153 rfl sz80 (by decide) a H K
  exact h
theorem fa153_1 (a : Addr) (H : Hp) (K : Value → Hp → Prop) : Lt Try.prog (Instr.fieldAt 153 (.pointer (some a)) 1) H K = K (.pointer (some (a.add 1))) H := by
  have h := @fieldAt_one Try.prog 153 _ 1 _ 1 Try.underlying153 rfl sz4 (by decide) a H K
  exact h
theorem bp27 (ps : Array (Nat × Value)) (H : Hp) (K : Value → Hp → Prop) : Lt Try.prog (Instr.build 27 ps) H K = orF (Instr.fill (#[(0, 1), (1, 1), (2, 1), (3, 1), (4, 1), (5, 1)][·]?) #[.int .i64 0, .int .i64 0, .int .i64 0, .int .i64 0, .int .i64 0, .slice none 0 0] ps.toList) (fun c => K (.agg c) H) := by
  simp only [Instr.build, l_bind, l_zero, zr27, orF_some, l_und, Try.underlying27]
  simp [l_bind, l_pure, l_size, sz3, sz22, orF_some, l_map, Value.cells]
  cases Instr.fill _ _ _ <;> rfl
theorem bp82 (ps : Array (Nat × Value)) (H : Hp) (K : Value → Hp → Prop) : Lt Try.prog (Instr.build 82 ps) H K = orF (Instr.fill (#[(0, 1)][·]?) #[.slice none 0 0] ps.toList) (fun c => K (.agg c) H) := by
  simp only [Instr.build, l_bind, l_zero, zr82, orF_some, l_und, Try.underlying82]
  simp [l_bind, l_pure, l_size, sz80, orF_some, l_map, Value.cells]
  cases Instr.fill _ _ _ <;> rfl
theorem bp89 (ps : Array (Nat × Value)) (H : Hp) (K : Value → Hp → Prop) : Lt Try.prog (Instr.build 89 ps) H K = orF (Instr.fill (#[(0, 1), (1, 1), (2, 1)][·]?) #[.int .i64 0, .int .i64 0, .slice none 0 0] ps.toList) (fun c => K (.agg c) H) := by
  simp only [Instr.build, l_bind, l_zero, zr89, orF_some, l_und, Try.underlying89]
  simp [l_bind, l_pure, l_size, sz3, sz80, orF_some, l_map, Value.cells]
  cases Instr.fill _ _ _ <;> rfl
theorem bp102 (ps : Array (Nat × Value)) (H : Hp) (K : Value → Hp → Prop) : Lt Try.prog (Instr.build 102 ps) H K = orF (Instr.fill (#[(0, 1), (1, 1), (2, 1)][·]?) #[.int .i64 0, .int .i64 0, .slice none 0 0] ps.toList) (fun c => K (.agg c) H) := by
  simp only [Instr.build, l_bind, l_zero, zr102, orF_some, l_und, Try.underlying102]
  simp [l_bind, l_pure, l_size, sz3, sz80, orF_some, l_map, Value.cells]
  cases Instr.fill _ _ _ <;> rfl
theorem bp114 (ps : Array (Nat × Value)) (H : Hp) (K : Value → Hp → Prop) : Lt Try.prog (Instr.build 114 ps) H K = orF (Instr.fill (#[(0, 4), (4, 1)][·]?) #[.int .i64 0, .int .i64 0, .bool false, .bool false, .slice none 0 0] ps.toList) (fun c => K (.agg c) H) := by
  simp only [Instr.build, l_bind, l_zero, zr114, orF_some, l_und, Try.underlying114]
  simp [l_bind, l_pure, l_size, sz111, sz112, orF_some, l_map, Value.cells]
  cases Instr.fill _ _ _ <;> rfl
theorem bp119 (ps : Array (Nat × Value)) (H : Hp) (K : Value → Hp → Prop) : Lt Try.prog (Instr.build 119 ps) H K = orF (Instr.fill (#[(0, 1), (1, 1), (2, 1)][·]?) #[.int .i64 0, .map none, .slice none 0 0] ps.toList) (fun c => K (.agg c) H) := by
  simp only [Instr.build, l_bind, l_zero, zr119, orF_some, l_und, Try.underlying119]
  simp [l_bind, l_pure, l_size, sz3, sz116, sz117, orF_some, l_map, Value.cells]
  cases Instr.fill _ _ _ <;> rfl
theorem bp130 (ps : Array (Nat × Value)) (H : Hp) (K : Value → Hp → Prop) : Lt Try.prog (Instr.build 130 ps) H K = orF (Instr.fill (#[(0, 1), (1, 64)][·]?) #[.int .i64 0, .int .u8 0, .int .u8 0, .int .u8 0, .int .u8 0, .int .u8 0, .int .u8 0, .int .u8 0, .int .u8 0, .int .u8 0, .int .u8 0, .int .u8 0, .int .u8 0, .int .u8 0, .int .u8 0, .int .u8 0, .int .u8 0, .int .u8 0, .int .u8 0, .int .u8 0, .int .u8 0, .int .u8 0, .int .u8 0, .int .u8 0, .int .u8 0, .int .u8 0, .int .u8 0, .int .u8 0, .int .u8 0, .int .u8 0, .int .u8 0, .int .u8 0, .int .u8 0, .int .u8 0, .int .u8 0, .int .u8 0, .int .u8 0, .int .u8 0, .int .u8 0, .int .u8 0, .int .u8 0, .int .u8 0, .int .u8 0, .int .u8 0, .int .u8 0, .int .u8 0, .int .u8 0, .int .u8 0, .int .u8 0, .int .u8 0, .int .u8 0, .int .u8 0, .int .u8 0, .int .u8 0, .int .u8 0, .int .u8 0, .int .u8 0, .int .u8 0, .int .u8 0, .int .u8 0, .int .u8 0, .int .u8 0, .int .u8 0, .int .u8 0, .int .u8 0] ps.toList) (fun c => K (.agg c) H) := by
  simp only [Instr.build, l_bind, l_zero, zr130, orF_some, l_und, Try.underlying130]
  simp [l_bind, l_pure, l_size, sz3, sz30, orF_some, l_map, Value.cells]
  cases Instr.fill _ _ _ <;> rfl
theorem bp153 (ps : Array (Nat × Value)) (H : Hp) (K : Value → Hp → Prop) : Lt Try.prog (Instr.build 153 ps) H K = orF (Instr.fill (#[(0, 1), (1, 1)][·]?) #[.slice none 0 0, .bool false] ps.toList) (fun c => K (.agg c) H) := by
  simp only [Instr.build, l_bind, l_zero, zr153, orF_some, l_und, Try.underlying153]
  simp [l_bind, l_pure, l_size, sz4, sz80, orF_some, l_map, Value.cells]
  cases Instr.fill _ _ _ <;> rfl
theorem bd7 : bodied Try.prog 7 = true := by kernel_rfl
theorem bd8 : bodied Try.prog 8 = true := by kernel_rfl
theorem bd9 : bodied Try.prog 9 = true := by kernel_rfl
theorem bd10 : bodied Try.prog 10 = true := by kernel_rfl
theorem bd11 : bodied Try.prog 11 = true := by kernel_rfl
theorem bd12 : bodied Try.prog 12 = true := by kernel_rfl
theorem bd13 : bodied Try.prog 13 = true := by kernel_rfl
theorem bd14 : bodied Try.prog 14 = true := by kernel_rfl
theorem bd15 : bodied Try.prog 15 = true := by kernel_rfl
theorem bd16 : bodied Try.prog 16 = true := by kernel_rfl
theorem bd19 : bodied Try.prog 19 = true := by kernel_rfl
theorem bd21 : bodied Try.prog 21 = true := by kernel_rfl
theorem bd22 : bodied Try.prog 22 = true := by kernel_rfl
theorem bd24 : bodied Try.prog 24 = true := by kernel_rfl
theorem bd30 : bodied Try.prog 30 = true := by kernel_rfl
theorem bd32 : bodied Try.prog 32 = true := by kernel_rfl
theorem bd33 : bodied Try.prog 33 = true := by kernel_rfl
theorem bd34 : bodied Try.prog 34 = true := by kernel_rfl
theorem bd35 : bodied Try.prog 35 = true := by kernel_rfl
theorem bd36 : bodied Try.prog 36 = true := by kernel_rfl
theorem bd37 : bodied Try.prog 37 = true := by kernel_rfl
theorem bd38 : bodied Try.prog 38 = true := by kernel_rfl
theorem bd39 : bodied Try.prog 39 = true := by kernel_rfl
theorem bd40 : bodied Try.prog 40 = true := by kernel_rfl
theorem bd41 : bodied Try.prog 41 = true := by kernel_rfl
theorem bd42 : bodied Try.prog 42 = true := by kernel_rfl
theorem bd43 : bodied Try.prog 43 = true := by kernel_rfl
theorem bd44 : bodied Try.prog 44 = true := by kernel_rfl
theorem bd45 : bodied Try.prog 45 = true := by kernel_rfl
theorem bd46 : bodied Try.prog 46 = true := by kernel_rfl
theorem bd47 : bodied Try.prog 47 = true := by kernel_rfl
theorem bd52 : bodied Try.prog 52 = true := by kernel_rfl
theorem bd53 : bodied Try.prog 53 = true := by kernel_rfl
theorem bd55 : bodied Try.prog 55 = true := by kernel_rfl
theorem bd56 : bodied Try.prog 56 = true := by kernel_rfl
theorem bd57 : bodied Try.prog 57 = true := by kernel_rfl
theorem bd61 : bodied Try.prog 61 = true := by kernel_rfl
theorem bd65 : bodied Try.prog 65 = true := by kernel_rfl
theorem bd67 : bodied Try.prog 67 = true := by kernel_rfl
theorem bd68 : bodied Try.prog 68 = true := by kernel_rfl
theorem bd69 : bodied Try.prog 69 = true := by kernel_rfl
theorem bd70 : bodied Try.prog 70 = true := by kernel_rfl
theorem bd71 : bodied Try.prog 71 = true := by kernel_rfl
theorem bd72 : bodied Try.prog 72 = true := by kernel_rfl
theorem bd75 : bodied Try.prog 75 = true := by kernel_rfl
theorem bd77 : bodied Try.prog 77 = true := by kernel_rfl
theorem bd78 : bodied Try.prog 78 = true := by kernel_rfl
theorem bd79 : bodied Try.prog 79 = true := by kernel_rfl
theorem bd80 : bodied Try.prog 80 = true := by kernel_rfl
end Go.Proofs.Ytigofhhonnbkmaa.HL
end
section
namespace Go.Proofs.Ytigofhhonnbkmaa.HL
open Go
/-- From H to H' all known blocks outside S stand; the blocks of S' are of S, or were not known. -/
def Frm (H : Hp) (S : Nat → Prop) (H' : Hp) (S' : Nat → Prop) : Prop := (∀ b o, H b = some o → ¬ S b → H' b = some o) ∧ ∀ b, S' b → S b ∨ H b = none
theorem Frm.refl (H : Hp) (S : Nat → Prop) : Frm H S H S := ⟨fun _ _ h _ => h, fun _ h => .inl h⟩
theorem Frm.trans {H H1 H2 : Hp} {S S1 S2 : Nat → Prop} (h1 : Frm H S H1 S1) (h2 : Frm H1 S1 H2 S2) : Frm H S H2 S2 := by
  refine ⟨fun b o hb hn => ?_, fun b hb => ?_⟩
  · refine h2.1 b o (h1.1 b o hb hn) fun hs => ?_
    rcases h1.2 b hs with h | h
    · exact hn h
    · rw [h] at hb; cases hb
  · rcases h2.2 b hb with h | h
    · exact h1.2 b h
    · by_cases hs : S b
      · exact .inl hs
      · right
        cases ho : H b with
        | none => rfl
        | some o => rw [h1.1 b o ho hs] at h; cases h
theorem Frm.new {H H1 : Hp} {S S1 : Nat → Prop} (h : Frm H S H1 S1) {b : Nat} {o : Obj} (hb : H1 b = none) : Frm H S (H1.upd b o) S1 := by
  refine ⟨fun x o' hx hn => ?_, h.2⟩
  have := h.1 x o' hx hn
  rw [upd_ne _ _ (by intro e; subst e; rw [this] at hb; cases hb)]; exact this
theorem Frm.le {H0 H H' : Hp} {S S' : Nat → Prop} (h : Frm H S H' S') (hl : Le H0 H) (hs : ∀ b, S b → H0 b = none) : Le H0 H' := fun b o hb =>
  h.1 b o (hl b o hb) fun hS => by rw [hs b hS] at hb; cases hb
theorem Frm.sep {H0 H H' : Hp} {S S' : Nat → Prop} (h : Frm H S H' S') (hl : Le H0 H) (hs : ∀ b, S b → H0 b = none) : ∀ b, S' b → H0 b = none := fun b hb => by
  rcases h.2 b hb with h1 | h1
  · exact hs b h1
  · exact none_of_le hl h1
theorem Frm.stay {H H' : Hp} {S S' T : Nat → Prop} (h : Frm H S H' S') (hd : ∀ b, T b → ¬ S b) : ∀ b o, T b → H b = some o → H' b = some o := fun b o hb ho => h.1 b o ho (hd b hb)
theorem Frm.of_le {H H' : Hp} (S : Nat → Prop) (h : Le H H') : Frm H S H' S := ⟨fun b o hb _ => h b o hb, fun _ hb => .inl hb⟩
theorem OwnS.stay {H H' : Hp} {E : TypeId} {w : Nat} {v : Value} {n : Nat} {cs : List Value} {rs : Option Nat} (h : OwnS H E w v n cs rs) (k : ∀ b o, rs = some b → H b = some o → H' b = some o) : OwnS H' E w v n cs rs := by
  obtain ⟨h1, h2⟩ := h
  refine ⟨h1, h2.imp id ?_⟩
  rintro ⟨r, cap, c, h3, h4, h5, h6, h7, h8⟩
  exact ⟨r, cap, c, h3, k r _ h8 h4, h5, h6, h7, h8⟩
theorem OwnS.known {H : Hp} {E : TypeId} {w : Nat} {v : Value} {n : Nat} {cs : List Value} {rs : Option Nat} (h : OwnS H E w v n cs rs) : ∀ b, rs = some b → H b ≠ none := by
  obtain ⟨_, ⟨_, _, h3⟩ | ⟨r, cap, c, _, h4, _, _, _, h8⟩⟩ := h
  · intro b hb; rw [h3] at hb; cases hb
  · intro b hb; rw [h8] at hb; cases hb; rw [h4]; simp
theorem Grow.known {H H' : Hp} {rs : Option Nat} (h : Grow H rs H') : ∀ b o, H b = some o → rs ≠ some b → H' b = some o := by
  intro b o hb hn
  rcases h with rfl | ⟨r, o', hr, rfl⟩
  · exact hb
  · rw [upd_ne]
    · exact hb
    · intro e; subst e
      rcases hr with hr | hr
      · exact hn hr
      · rw [hr] at hb; cases hb
end Go.Proofs.Ytigofhhonnbkmaa.HL
namespace Go.Proofs.Ytigofhhonnbkmaa.HL
open Go
theorem OwnS.set {H : Hp} {E : TypeId} {k : IntKind} {r n cap : Nat} {l : List Int} {c : Array Value} (h : OwnS H E 1 (.slice (some ⟨r, 0, none⟩) n cap) n (l.map (Value.int k ·)) (some r)) (hc : H r = some (.cells c E)) (i : Nat) (hi : i < n) (y : Int) : OwnS (H.upd r (.cells (c.setIfInBounds i (.int k y)) E)) E 1 (.slice (some ⟨r, 0, none⟩) n cap) n ((l.set i y).map (Value.int k ·)) (some r) := by
  obtain ⟨h1, ⟨h2, _, _⟩ | ⟨r', cap', c', h3, h4, h5, h6, h7, h8⟩⟩ := h
  · cases h2
  · cases h3
    rw [hc] at h4; cases h4
    refine ⟨by simpa using h1, .inr ⟨r, cap, _, rfl, upd_same _ _ _, h5, by simpa using h6, ?_, rfl⟩⟩
    have e : (l.set i y).map (Value.int k ·) = (l.map (Value.int k ·)).set i (.int k y) := by rw [List.map_set]
    rw [e, ← h7]
    simp only [Array.toList_extract, List.extract_eq_take_drop, Array.toList_setIfInBounds, List.drop_zero, Nat.sub_zero, List.take_set]
end Go.Proofs.Ytigofhhonnbkmaa.HL
end
section
namespace Go.Proofs.Ytigofhhonnbkmaa.HL
open Go
set_option linter.unusedSimpArgs false
/-- A value of one type, or nil. -/
def ifV (T : TypeId) : Option Value → Value
  | none => .nilIface
  | some v => .iface T v
end Go.Proofs.Ytigofhhonnbkmaa.HL
end
section
namespace Go.Proofs.Ytigofhhonnbkmaa.HL
open Go
/-! ### two heaps side by side -/
def Hp.join (H F : Hp) : Hp := fun b => match H b with | some o => some o | none => F b
def Hp.apart (H F : Hp) : Prop := ∀ b, F b ≠ none → H b = none
theorem join_l {H F : Hp} {b : Nat} {o : Obj} (h : H b = some o) : H.join F b = some o := by simp [Hp.join, h]
theorem join_r {H F : Hp} {b : Nat} (h : H b = none) : H.join F b = F b := by simp [Hp.join, h]
theorem le_join (H F : Hp) : Le H (H.join F) := fun _ _ h => join_l h
theorem le_join_r {H F : Hp} (h : H.apart F) : Le F (H.join F) := fun b o hb => by
  rw [join_r (h b (by rw [hb]; simp))]; exact hb
theorem upd_join (H F : Hp) (b : Nat) (o : Obj) : (H.join F).upd b o = (H.upd b o).join F := by
  funext x
  by_cases e : x = b
  · subst e; simp [Hp.upd, Hp.join]
  · simp [Hp.upd, Hp.join, e]
theorem join_none {H F : Hp} {b : Nat} (h : H.join F b = none) : H b = none ∧ F b = none := by
  unfold Hp.join at h
  cases hh : H b with
  | some o => rw [hh] at h; cases h
  | none => rw [hh] at h; exact ⟨rfl, h⟩
theorem apart_known {H F : Hp} (h : H.apart F) {b : Nat} {o : Obj} (hb : H b = some o) : F b = none := by
  cases hf : F b with
  | none => rfl
  | some x => rw [h b (by rw [hf]; simp)] at hb; cases hb
theorem apart_upd {H F : Hp} (h : H.apart F) {b : Nat} (hb : F b = none) (o : Obj) : (H.upd b o).apart F := fun x hx => by
  rw [upd_ne _ _ (by intro e; subst e; exact hx hb)]; exact h x hx
theorem cell_join {H F : Hp} {a : Addr} {v : Value} (h : H.cell a = some v) : (H.join F).cell a = some v := by
  unfold Hp.cell at *
  cases hh : H a.block with
  | none => rw [hh] at h; cases h
  | some o => rw [hh] at h; rw [join_l hh]; exact h
theorem Ext.join {H H' F : Hp} {w w' : World} (hs : Sub (H.join F) w) (hd : H.apart F) (hx : Ext H w H' w') : H'.apart F ∧ Ext (H.join F) w (H'.join F) w' := by
  have hlt : ∀ b, F b ≠ none → b < w.heap.size := fun b hb => by
    cases hf : F b with
    | none => exact absurd hf hb
    | some o => exact hs.lt (le_join_r hd b o hf)
  have hd' : H'.apart F := fun b hb => by
    cases hc : H' b with
    | none => rfl
    | some x =>
      rcases hx.dom b (by rw [hc]; simp) with h | h
      · exact absurd (hd b hb) h
      · have := hlt b hb; omega
  refine ⟨hd', ⟨fun b o hb => ?_, hx.size, fun b hb hbn => hx.same b hb (join_none hbn).1, fun b hb => ?_, hx.os, hx.output, hx.tape⟩⟩
  · cases hc : H' b with
    | some x => rw [join_l hc] at hb; cases hb; exact hx.sub b _ hc
    | none =>
      rw [join_r hc] at hb
      have hn : F b ≠ none := by rw [hb]; simp
      rw [hx.same b (hlt b hn) (hd b hn)]
      exact hs b o (by rw [join_r (hd b hn)]; exact hb)
  · cases hc : H' b with
    | some x =>
      rcases hx.dom b (by rw [hc]; simp) with h | h
      · left
        cases hh : H b with
        | none => exact absurd hh h
        | some o => rw [join_l hh]; simp
      · exact .inr h
    | none =>
      rw [join_r hc] at hb
      left; rw [join_r (hd b hb)]; exact hb
theorem Lt_join {P : Program} {α : Type} (s : Sem α) {F : Hp} : ∀ {H : Hp} {K : α → Hp → Prop}, Lt P s H K → H.apart F → Lt P s (H.join F) (fun x H1 => ∃ H', H1 = H'.join F ∧ H'.apart F ∧ K x H') := by
  induction s with
  | pure a => exact fun h hr => ⟨_, rfl, hr, h⟩
  | load m a k ih => intro H K ⟨v, h1, h2⟩ hr; exact ⟨v, cell_join h1, ih _ h2 hr⟩
  | store m a v k ih =>
    intro H K ⟨o', h1, h2, h3, h4, h5⟩ hr
    refine ⟨o', join_l h1, h2, ?_, h4, ?_⟩
    · cases hc : H.cell a with
      | none => exact absurd hc h3
      | some u => rw [cell_join hc]; simp
    · rw [upd_join]; exact ih h5 (apart_upd hr (apart_known hr h1) _)
  | new o' k ih =>
    intro H K h hr r' hr'
    obtain ⟨h1, h2⟩ := join_none hr'
    rw [upd_join]; exact ih _ (h r' h1) (apart_upd hr h2 _)
  | shape r' k ih => intro H K ⟨o', h1, h2⟩ hr; exact ⟨o', join_l h1, ih _ h2 hr⟩
  | freeze a n k ih =>
    intro H K h hr
    rcases h with ⟨h1, h2⟩ | ⟨h1, o', h2, h3⟩
    · exact .inl ⟨h1, ih h2 hr⟩
    · refine .inr ⟨h1, o', join_l h2, ?_⟩
      rw [upd_join]; exact ih h3 (apart_upd hr (apart_known hr h2) _)
  | frozen a k ih => intro H K ⟨o', h1, h2⟩ hr; exact ⟨o', join_l h1, ih _ h2 hr⟩
  | getObj r' k ih => intro H K ⟨o', h1, h2, h3⟩ hr; exact ⟨o', join_l h1, h2, ih _ h3 hr⟩
  | setObj r' o' k ih =>
    intro H K ⟨o0, h1, h2, h3⟩ hr
    refine ⟨o0, join_l h1, h2, ?_⟩
    rw [upd_join]; exact ih h3 (apart_upd hr (apart_known hr h1) _)
  | choose q k ih => exact fun h hr => ⟨fun hf => ih _ (h.1 hf) hr, fun hf t => ih _ (h.2 hf t) hr⟩
  | sys c k ih => exact fun h _ => h.elim
  | program k ih => exact fun h hr => ih _ h hr
  | mark m k ih => exact fun h hr => ih h hr
  | halt h' => exact fun h _ => h.elim
theorem NextH_join {P : Program} {nx : Next} {H F : Hp} {R : Value → Hp → Prop} (h : NextH P nx H R) (hd : H.apart F) : NextH P nx (H.join F) (fun v H1 => ∃ H', H1 = H'.join F ∧ H'.apart F ∧ R v H') := by
  cases nx <;> simp only [NextH] at * <;> first
    | exact ⟨_, rfl, hd, h⟩
    | exact fun w hs => (h w (hs.le (le_join H F))).mono fun _ _ ⟨v, he, H', hR, hx⟩ => ⟨v, he, H'.join F, ⟨H', rfl, (hx.join hs hd).1, hR⟩, (hx.join hs hd).2⟩
    | exact fun w hs => (h w (hs.le (le_join H F))).mono fun v w' ⟨H', hR, hx⟩ => ⟨H'.join F, ⟨H', rfl, (hx.join hs hd).1, hR⟩, (hx.join hs hd).2⟩
    | exact h.elim
theorem ValH_join {P : Program} {g : Value} {args : Array Value} {H F : Hp} {R : Value → Hp → Prop} (h : ValH P g args H R) (hd : H.apart F) : ValH P g args (H.join F) (fun v H1 => ∃ H', H1 = H'.join F ∧ H'.apart F ∧ R v H') := by
  unfold ValH at *
  refine Lt_mono _ _ (Lt_join _ h hd) ?_
  rintro nx H1 ⟨H', rfl, hd', hn⟩
  exact NextH_join hn hd'
theorem ValH.mono {P : Program} {g : Value} {args : Array Value} {H : Hp} {R R' : Value → Hp → Prop} (h : ValH P g args H R) (hr : ∀ v H', R v H' → R' v H') : ValH P g args H R' :=
  Lt_mono _ _ h fun _ _ hn => hn.mono hr
/-- What is left of a heap beside another one. -/
def Hp.less (K H : Hp) : Hp := fun b => match H b with | some _ => none | none => K b
theorem less_apart (K H : Hp) : H.apart (K.less H) := fun b hb => by
  unfold Hp.less at hb
  cases h : H b with
  | none => rfl
  | some o => rw [h] at hb; exact absurd rfl hb
theorem less_none {K H : Hp} {b : Nat} (h : H b = none) : K.less H b = K b := by simp [Hp.less, h]
theorem join_less {K H : Hp} (h : Le H K) : H.join (K.less H) = K := by
  funext b
  cases hb : H b with
  | some o => rw [join_l hb, h b o hb]
  | none => rw [join_r hb, less_none hb]
/-- A function value is called on a heap that holds more: what is more stays. -/
theorem ValH.use {P : Program} {g : Value} {args : Array Value} {H K : Hp} {R : Value → Hp → Prop} (h : ValH P g args H R) (hl : Le H K) :
    ValH P g args K (fun v K' => ∃ H', R v H' ∧ Le H' K' ∧ ∀ b o, K b = some o → H b = none → K' b = some o ∧ H' b = none) := by
  have := ValH_join h (less_apart K H)
  rw [join_less hl] at this
  refine this.mono ?_
  rintro v K' ⟨H', rfl, hd, hR⟩
  refine ⟨H', hR, le_join _ _, fun b o hb hn => ?_⟩
  have h1 : K.less H b = some o := by rw [less_none hn]; exact hb
  have h2 : H' b = none := hd b (by rw [h1]; simp)
  exact ⟨by rw [join_r h2]; exact h1, h2⟩
theorem CallH.use {P : Program} {f : FuncId} {args : Array Value} {H K : Hp} {R : Value → Hp → Prop} (h : CallH P f args H R) (hl : Le H K) :
    CallH P f args K (fun v K' => ∃ H', R v H' ∧ Le H' K' ∧ ∀ b o, K b = some o → H b = none → K' b = some o ∧ H' b = none) := by
  have := NextH_join (nx := .enter f args) h (less_apart K H)
  rw [join_less hl] at this
  refine CallH.mono this ?_
  rintro v K' ⟨H', rfl, hd, hR⟩
  refine ⟨H', hR, le_join _ _, fun b o hb hn => ?_⟩
  have h1 : K.less H b = some o := by rw [less_none hn]; exact hb
  have h2 : H' b = none := hd b (by rw [h1]; simp)
  exact ⟨by rw [join_r h2]; exact h1, h2⟩
/-- What a function value that is ranged over does: it calls its yield function n times, each time with what T tells (the arguments, and new blocks that are handed over with them), and ends; or it ends behind a call that answered false. It looks at H0. -/
def Iter (P : Program) (g : Value) (H0 : Hp) (n : Nat) (T : Nat → List Value → Hp → Prop) : Prop :=
  ∀ (yf : Fn) (ya yb : Array Value) (J : Nat → Hp → Prop) (S : Hp → Prop) (H : Hp), (∀ i H, J i H → Le H0 H) →
    (∀ i, i < n → ∀ H, J i H → ∀ args F, T i args F → H.apart F → ValH P (.func yf ya yb) args.toArray (H.join F) (fun v H2 => ∃ H3, Le H3 H2 ∧ ((v = .bool true ∧ J (i + 1) H3) ∨ (v = .bool false ∧ S H3)))) →
    J 0 H → ValH P g #[.func yf ya yb] H (fun _ H2 => ∃ H3, Le H3 H2 ∧ (J n H3 ∨ S H3))
/-- A list of arguments, no new blocks. -/
def Tpure (xs : Nat → List Value) : Nat → List Value → Hp → Prop := fun i args F => args = xs i ∧ F = emptyHp
theorem join_empty (H : Hp) : H.join emptyHp = H := by
  funext b; unfold Hp.join; cases H b <;> rfl
theorem apart_empty (H : Hp) : H.apart emptyHp := fun _ h => absurd rfl h

def putAll (e : Env) : List (Nat × Value) → Env
  | [] => e
  | (t, v) :: r => putAll (e.put t v) r
theorem Lt_yield {P : Program} {l : Nat} {lp : Loop} {args : Array Value} {H : Hp} {K : Next → Hp → Prop} (h : H l = some (.loop lp)) (hn : args.size = lp.params.size)
    (hK : K (.round l lp.fn ((lp.params.zip args).foldl (fun tmps (t, a) => tmps.setIfInBounds t a) lp.tmps) lp.assign lp.body) H) : Lt P (Instr.yield l args) H K := by
  simp only [Instr.yield, Instr.getLoop, l_bind]
  refine ⟨_, h, rfl, ?_⟩
  simp only [l_pure', l_pure, hn, ne_eq, not_true, if_false]
  exact hK
theorem Rel.putAll {n B : Nat} {w : World} {H : Hp} {d : List Deferred} : ∀ {l : List (Nat × Value)} {e : Env} {tmps : Array Value}, Rel n B e { tmps, defers := d } w H → (∀ p ∈ l, p.1 < n) → Rel n B (HL.putAll e l) { tmps := l.foldl (fun tmps (t, a) => tmps.setIfInBounds t a) tmps, defers := d } w H
  | [], _, _, h, _ => h
  | (t, v) :: r, e, tmps, h, hl => by
    have h1 := h.put (d := some t) (fun u hu => by cases hu; exact hl (t, v) (by simp)) v
    exact Rel.putAll (l := r) h1 (fun p hp => hl p (by simp [hp]))

theorem CW_rangeFunc {P : Program} {n : Nat} {Q : Ex → Env → Hp → Prop} {e : Env} {H : Hp} {g : Operand} {params : Array Tmp} {assign body : Code} {gv : Value} (hg : ∀ r, ev e r g = gv)
    {H0 : Hp} {N : Nat} {T : Nat → List Value → Hp → Prop} (hit : Iter P gv H0 N T) (J : Nat → Hp → Prop) (hle : ∀ i H', J i H' → Le H0 H') (h0 : J 0 H) (hp : ∀ p ∈ params.toList, p < n)
    (round : ∀ l i, i < N → ∀ H', J i H' → ∀ args F, T i args F → H'.apart F → args.length = params.size ∧
      CW P n (some l) assign (fun x e1 H1 => x = .normal ∧ CW P n (some l) body (fun x e2 H2 => match x with | .normal => J (i + 1) H2 | x => Q x e H2) e1 H1) (putAll e (params.toList.zip args)) (H'.join F))
    (hend : ∀ H', J N H' → Q .normal e H') : CW P n none (.rangeFunc g params assign body) Q e H := by
  intro B a w hr hs
  refine CR_rangeFunc (fun fn => ?_)
  obtain ⟨l, hl⟩ : ∃ l, l = w.heap.size + 1 := ⟨_, rfl⟩
  obtain ⟨lp, hlp⟩ : ∃ lp, lp = loopObj fn a.tmps params assign body w.heap.size := ⟨_, rfl⟩
  obtain ⟨w2, hw2⟩ : ∃ w2, w2 = pushLoop w fn a params assign body := ⟨_, rfl⟩
  have hsz : w2.heap.size = w.heap.size + 2 := by rw [hw2]; simp [pushLoop]
  have hwl : w2.heap[l]? = some (.loop lp) := by
    rw [hw2, hl, hlp]
    simp only [pushLoop]
    have : w.heap.size + 1 = (w.heap.push (.deferred (some []))).size := by simp
    rw [this, Array.getElem?_push_size]
  have hwr : w2.heap[w.heap.size]? = some (.deferred (some [])) := by
    rw [hw2]
    simp only [pushLoop]
    rw [Array.getElem?_push_lt (by simp), Array.getElem_push_eq]
  have hwo : ∀ b, b < w.heap.size → w2.heap[b]? = w.heap[b]? := fun b hb => by
    rw [hw2]
    simp only [pushLoop]
    rw [Array.getElem?_push_lt (by simp; omega), Array.getElem_push_lt hb, Array.getElem?_eq_getElem hb]
  have hHn : ∀ b, w.heap.size ≤ b → H b = none := fun b hb => by
    cases hc : H b with
    | none => rfl
    | some o => have := hs.lt hc; omega
  have hHl : H l = none := hHn l (by omega)
  have hHr : H w.heap.size = none := hHn _ (Nat.le_refl _)
  have hne : w.heap.size ≠ l := by omega
  have hs2 : Sub (H.upd l (.loop lp)) w2 := fun b o hb => by
    by_cases ee : b = l
    · subst ee; rw [upd_same] at hb; cases hb; exact hwl
    · rw [upd_ne _ _ ee] at hb; rw [hwo b (hs.lt hb)]; exact hs b o hb
  have hx2 : w2.os = w.os ∧ w2.output = w.output ∧ w2.tape = w.tape := by rw [hw2]; exact ⟨rfl, rfl, rfl⟩
  have key := hit (.yield l) #[] #[] (fun i HH => ∃ HJ, HH = HJ.upd l (.loop lp) ∧ HJ l = none ∧ J i HJ)
    (fun HH => ∃ HJ x, HH = HJ.upd l (.loop { lp with state := .done, pending := Ex.jump x }) ∧ x ≠ .normal ∧ HJ l = none ∧ Q x e HJ)
    (H.upd l (.loop lp)) (by
      rintro i _ ⟨HJ, rfl, hn, hj⟩
      exact le_upd_of (hle i HJ hj) (none_of_le (hle i HJ hj) hn))
    (by
      rintro i hi _ ⟨HJ, rfl, hn, hj⟩ args F hT hd
      have hFl : F l = none := apart_known hd (upd_same _ _ _)
      have hdJ : HJ.apart F := fun b hb => by
        have := hd b hb
        by_cases ee : b = l
        · subst ee; exact hn
        · rwa [upd_ne _ _ ee] at this
      obtain ⟨hlen, hcw⟩ := round l i hi HJ hj args F hT hdJ
      rw [← upd_join]
      have hjn : (HJ.join F) l = none := by rw [join_r hn]; exact hFl
      show Lt P (Instr.yield l (#[] ++ args.toArray)) _ _
      refine Lt_yield (upd_same _ _ _) (by simp [hlen, hlp, loopObj]) ?_
      simp only [NextH]
      intro w5 hs5
      have hs5' : Sub (HJ.join F) w5 := fun b o hb => hs5 b o (by rw [upd_ne _ _ (by intro ee; subst ee; rw [hjn] at hb; cases hb)]; exact hb)
      have hl5 : w5.heap[l]? = some (.loop lp) := hs5 l _ (upd_same _ _ _)
      have hlt5 : l < w5.heap.size := hs5.lt (upd_same _ _ _)
      refine round_of_CR ?_
      rw [show lp.assign = assign from by rw [hlp]; rfl, show lp.body = body from by rw [hlp]; rfl]
      have hrel : Rel n 0 (putAll e (params.toList.zip args)) { tmps := (lp.params.zip (#[] ++ args.toArray)).foldl (fun tmps (t, a) => tmps.setIfInBounds t a) lp.tmps, defers := [] } w5 (HJ.join F) := by
        have h1 : Rel n 0 e { tmps := lp.tmps, defers := [] } w5 (HJ.join F) := ⟨Nat.zero_le _, by rw [hlp]; exact hr.size, by rw [hlp]; exact hr.tmps, [], rfl, .nil, fun _ h => by cases h⟩
        have h2 := Rel.putAll (l := params.toList.zip args) h1 (fun p hpp => hp p.1 (List.of_mem_zip hpp).1)
        have h3 : (lp.params.zip (#[] ++ args.toArray)).foldl (fun tmps (t, a) => tmps.setIfInBounds t a) lp.tmps = (params.toList.zip args).foldl (fun tmps (t, a) => tmps.setIfInBounds t a) lp.tmps := by
          rw [← Array.foldl_toList]; simp [hlp, loopObj]
        rw [h3]; exact h2
      refine (hcw 0 _ w5 hrel hs5').mono ?_
      rintro x a1 w6 ⟨e1, H6, ⟨rfl, hbody⟩, hr6, hx6⟩
      have hH6 : H6 l = none := by
        cases hc : H6 l with
        | none => rfl
        | some o =>
          rcases hx6.dom l (by rw [hc]; simp) with h | h
          · exact absurd hjn h
          · omega
      have hl6 : w6.heap[l]? = some (.loop lp) := by rw [hx6.same l hlt5 hjn]; exact hl5
      refine ⟨lp, hl6, by rw [hlp]; rfl, ?_⟩
      have hset : ∀ (w : World) (HH : Hp) (q : Loop), HH l = none → Sub HH w → Sub HH (setLoop w l q) := fun w HH q hq hsw b o hb => by
        have : b ≠ l := fun ee => by subst ee; rw [hq] at hb; cases hb
        simp only [setLoop]
        rw [Array.getElem?_setIfInBounds_ne (Ne.symm this)]; exact hsw b o hb
      have hr7 : Rel n 0 e1 a1 (setLoop w6 l { lp with state := .busy }) H6 := by
        refine ⟨Nat.zero_le _, hr6.size, hr6.tmps, ?_⟩
        obtain ⟨rs, m1, m2, m3⟩ := hr6.marks
        refine ⟨rs, m1, m2, fun r hrr => ⟨?_, (m3 r hrr).2⟩⟩
        have : r ≠ l := fun ee => by subst ee; rw [(m3 r hrr).1] at hl6; cases hl6
        simp only [setLoop]
        rw [Array.getElem?_setIfInBounds_ne (Ne.symm this)]; exact (m3 r hrr).1
      refine (hbody 0 a1 _ hr7 (hset w6 H6 _ hH6 hx6.sub)).mono ?_
      rintro x a2 w8 ⟨e2, H8, hq8, hr8, hx8⟩
      have hlt6 : l < (setLoop w6 l { lp with state := .busy }).heap.size := by
        simp only [setLoop, Array.size_setIfInBounds]; exact Nat.lt_of_lt_of_le hlt5 hx6.size
      have hl8 : w8.heap[l]? = some (.loop { lp with state := .busy }) := by
        rw [hx8.same l hlt6 hH6]
        simp only [setLoop]
        rw [Array.getElem?_setIfInBounds_self_of_lt (by simpa [setLoop] using hlt6)]
      have hH8 : H8 l = none := by
        cases hc : H8 l with
        | none => rfl
        | some o =>
          rcases hx8.dom l (by rw [hc]; simp) with h | h
          · exact absurd hH6 h
          · omega
      refine ⟨{ lp with state := .busy }, hl8, ?_⟩
      have hextw : Ext ((HJ.join F).upd l (.loop lp)) w5 (H8.upd l (.loop (afterRound { lp with state := .busy } x))) (setLoop w8 l (afterRound { lp with state := .busy } x)) := by
        refine ⟨fun b o hb => ?_, ?_, fun b hb hbn => ?_, fun b hb => ?_, ?_, ?_, ?_⟩
        · by_cases ee : b = l
          · subst ee
            rw [upd_same] at hb; cases hb
            simp only [setLoop]
            rw [Array.getElem?_setIfInBounds_self_of_lt (Nat.lt_of_lt_of_le hlt6 hx8.size)]
          · rw [upd_ne _ _ ee] at hb
            simp only [setLoop]
            rw [Array.getElem?_setIfInBounds_ne (Ne.symm ee)]; exact hx8.sub b o hb
        · have h1 := hx6.size
          have h2 := hx8.size
          simp only [setLoop, Array.size_setIfInBounds] at h2 ⊢; omega
        · have ee : b ≠ l := fun ee => by subst ee; rw [upd_same] at hbn; cases hbn
          rw [upd_ne _ _ ee] at hbn
          have h6n : H6 b = none := by
            cases hc : H6 b with
            | none => rfl
            | some o =>
              rcases hx6.dom b (by rw [hc]; simp) with h | h
              · exact absurd hbn h
              · omega
          have hb6 : b < (setLoop w6 l { lp with state := .busy }).heap.size := by
            simp only [setLoop, Array.size_setIfInBounds]; exact Nat.lt_of_lt_of_le hb hx6.size
          have h1 := hx8.same b hb6 h6n
          simp only [setLoop] at h1 ⊢
          rw [Array.getElem?_setIfInBounds_ne (Ne.symm ee)] at h1 ⊢
          rw [h1, hx6.same b hb hbn]
        · by_cases ee : b = l
          · subst ee; left; rw [upd_same]; simp
          · rw [upd_ne _ _ ee] at hb ⊢
            rcases hx8.dom b hb with h | h
            · exact hx6.dom b h
            · right
              have := hx6.size
              simp only [setLoop, Array.size_setIfInBounds] at h; omega
        · exact hx8.os.trans hx6.os
        · exact hx8.output.trans hx6.output
        · exact hx8.tape.trans hx6.tape
      refine ⟨H8.upd l (.loop (afterRound { lp with state := .busy } x)), ⟨_, Le.refl _, ?_⟩, hextw⟩
      cases x with
      | normal =>
        refine .inl ⟨rfl, H8, ?_, hH8, hq8⟩
        rw [hlp]; rfl
      | exit id => exact .inr ⟨rfl, H8, .exit id, by rw [hlp]; rfl, by simp, hH8, hq8⟩
      | ret => exact .inr ⟨rfl, H8, .ret, by rw [hlp]; rfl, by simp, hH8, hq8⟩)
    ⟨H, rfl, hHl, h0⟩
  obtain ⟨nx, w3, H3, hrun, hn, hx⟩ := Lt_sound _ _ _ w2 key hs2
  have hev : a.eval g = gv := by rw [hr.ev]; exact hg _
  refine ⟨nx, w3, by rw [hev, ← hl, ← hw2]; exact hrun, (hn.sound hx.sub).mono ?_⟩
  rintro v w4 ⟨H4, ⟨H5, hle5, hJS⟩, hx4⟩
  rw [← hl]
  have hx24 := (hx.trans hx4).forget hle5
  -- behind the loop
  have fin : ∀ (HJ : Hp) (q : Loop), H5 = HJ.upd l (.loop q) → HJ l = none → Rel n B e { a with defers := markOf w.heap.size :: a.defers } (setLoop w4 l { q with state := .exhausted }) HJ ∧ Ext H w HJ (setLoop w4 l { q with state := .exhausted }) := by
    rintro HJ q rfl hJl
    have hJr : HJ w.heap.size = none := by
      cases hc : HJ w.heap.size with
      | none => rfl
      | some o =>
        have h1 := hx24.dom w.heap.size (by rw [upd_ne _ _ hne, hc]; simp)
        rcases h1 with h | h
        · rw [upd_ne _ _ hne, hHr] at h; exact absurd rfl h
        · omega
    have hmk : w4.heap[w.heap.size]? = some (.deferred (some [])) := by
      rw [hx24.same _ (by omega) (by rw [upd_ne _ _ hne]; exact hHr)]; exact hwr
    have hext : Ext H w HJ (setLoop w4 l { q with state := .exhausted }) := by
      refine ⟨fun b o hb => ?_, ?_, fun b hb hbn => ?_, fun b hb => ?_, ?_, ?_, ?_⟩
      · have ee : b ≠ l := fun ee => by subst ee; rw [hJl] at hb; cases hb
        simp only [setLoop]
        rw [Array.getElem?_setIfInBounds_ne (Ne.symm ee)]
        exact hx24.sub b o (by rw [upd_ne _ _ ee]; exact hb)
      · have := hx24.size
        simp only [setLoop, Array.size_setIfInBounds]; omega
      · have ee : b ≠ l := by omega
        simp only [setLoop]
        rw [Array.getElem?_setIfInBounds_ne (Ne.symm ee), hx24.same b (by omega) (by rw [upd_ne _ _ ee]; exact hbn), hwo b hb]
      · have ee : b ≠ l := fun ee => by subst ee; exact hb hJl
        have h1 := hx24.dom b (by rw [upd_ne _ _ ee]; exact hb)
        rcases h1 with h | h
        · rw [upd_ne _ _ ee] at h; exact .inl h
        · right; omega
      · exact hx24.os.trans hx2.1
      · exact hx24.output.trans hx2.2.1
      · exact hx24.tape.trans hx2.2.2
    refine ⟨⟨?_, hr.size, hr.tmps, ?_⟩, hext⟩
    · exact Nat.le_trans hr.bound hext.size
    · obtain ⟨rs, m1, m2, m3⟩ := hr.marks
      have hlt : ∀ r ∈ rs, r < w.heap.size := fun r hrr => by
        rcases Nat.lt_or_ge r w.heap.size with h | h
        · exact h
        · have := (m3 r hrr).1; rw [Array.getElem?_eq_none h] at this; cases this
      refine ⟨w.heap.size :: rs, by simp [m1], List.nodup_cons.2 ⟨fun hm => Nat.lt_irrefl _ (hlt _ hm), m2⟩, fun r hrr => ?_⟩
      rcases List.mem_cons.1 hrr with rfl | hrr
      · refine ⟨?_, hJr, hr.bound⟩
        simp only [setLoop]
        rw [Array.getElem?_setIfInBounds_ne (Ne.symm hne)]; exact hmk
      · have hrl := hlt r hrr
        refine ⟨?_, ?_, (m3 r hrr).2.2⟩
        · have ee : r ≠ l := by omega
          simp only [setLoop]
          rw [Array.getElem?_setIfInBounds_ne (Ne.symm ee), hx24.same r (by omega) (by rw [upd_ne _ _ ee]; exact (m3 r hrr).2.1), hwo r hrl]
          exact (m3 r hrr).1
        · cases hc : HJ r with
          | none => rfl
          | some o =>
            have ee : r ≠ l := by omega
            rcases hx24.dom r (by rw [upd_ne _ _ ee, hc]; simp) with h | h
            · rw [upd_ne _ _ ee, (m3 r hrr).2.1] at h; exact absurd rfl h
            · omega
  have hl4 : ∀ (HJ : Hp) (q : Loop), H5 = HJ.upd l (.loop q) → w4.heap[l]? = some (.loop q) := fun HJ q hh => by
    subst hh; exact hx24.sub l _ (upd_same _ _ _)
  rcases hJS with ⟨HJ, hH5, hJl, hJ⟩ | ⟨HJ, x, hH5, hxn, hJl, hQ⟩
  · obtain ⟨h1, h2⟩ := fin HJ lp hH5 hJl
    refine ⟨lp, hl4 HJ lp hH5, by rw [hlp]; simp [loopObj], ?_⟩
    have : lp.pending = none := by rw [hlp]; rfl
    rw [this] at h1 h2 ⊢
    exact ⟨e, HJ, hend HJ hJ, h1, h2⟩
  · obtain ⟨h1, h2⟩ := fin HJ _ hH5 hJl
    refine ⟨_, hl4 HJ _ hH5, by simp, ?_⟩
    cases x with
    | normal => exact absurd rfl hxn
    | exit id => exact CR_exit ⟨e, HJ, hQ, h1, h2⟩
    | ret => exact CR_ret ⟨e, HJ, hQ, h1, h2⟩
theorem ValH_func {P : Program} {f : FuncId} {caps args : Array Value} {H : Hp} {R : Value → Hp → Prop} (hb : bodied P f = true) (h : CallH P f (args ++ caps) H R) : ValH P (.func (.func f) #[] caps) args H R := by
  unfold ValH
  rw [l_callV, l_callFunc f _ hb]
  simpa [NextH] using h
/-- An answer of a yield function. -/
theorem yes_no {v : Value} {A B : Prop} (h : (v = .bool true ∧ A) ∨ (v = .bool false ∧ B)) : ∃ t, v = .bool t ∧ (t = true → A) ∧ (t = false → B) := by
  rcases h with ⟨rfl, h⟩ | ⟨rfl, h⟩
  · exact ⟨true, rfl, fun _ => h, fun h => by cases h⟩
  · exact ⟨false, rfl, (fun h => by cases h), fun _ => h⟩
/-- The yield function is called on a heap that holds more; what is more stays. -/
theorem Iter.yield {P : Program} {y : Value} {args : List Value} {H F K : Hp} {A B : Hp → Prop} (h : ValH P y args.toArray (H.join F) (fun v H2 => ∃ H3, Le H3 H2 ∧ ((v = .bool true ∧ A H3) ∨ (v = .bool false ∧ B H3)))) (hl : Le (H.join F) K) :
    ValH P y args.toArray K (fun v K' => ∃ t H3, v = .bool t ∧ Le H3 K' ∧ (t = true → A H3) ∧ (t = false → B H3) ∧ ∀ b o, K b = some o → H b = none → F b = none → K' b = some o ∧ H3 b = none) := by
  refine (h.use hl).mono ?_
  rintro v K' ⟨H', ⟨H3, hl3, hc⟩, hl', hk⟩
  obtain ⟨t, rfl, h1, h2⟩ := yes_no hc
  refine ⟨t, H3, rfl, Le.trans hl3 hl', h1, h2, fun b o hb hn hf => ?_⟩
  have h4 := hk b o hb (by rw [join_r hn]; exact hf)
  exact ⟨h4.1, none_of_le hl3 h4.2⟩
theorem Iter.yield0 {P : Program} {y : Value} {args : List Value} {H K : Hp} {A B : Hp → Prop} (h : ValH P y args.toArray (H.join emptyHp) (fun v H2 => ∃ H3, Le H3 H2 ∧ ((v = .bool true ∧ A H3) ∨ (v = .bool false ∧ B H3)))) (hl : Le H K) :
    ValH P y args.toArray K (fun v K' => ∃ t H3, v = .bool t ∧ Le H3 K' ∧ (t = true → A H3) ∧ (t = false → B H3) ∧ ∀ b o, K b = some o → H b = none → K' b = some o ∧ H3 b = none) := by
  refine (Iter.yield h (by rw [join_empty]; exact hl)).mono ?_
  rintro v K' ⟨t, H3, h1, h2, h3, h4, h5⟩
  exact ⟨t, H3, h1, h2, h3, h4, fun b o hb hn => h5 b o hb hn rfl⟩
end Go.Proofs.Ytigofhhonnbkmaa.HL
end
section
namespace Go.Proofs.Ytigofhhonnbkmaa.HL
open Go
set_option linter.unusedSimpArgs false
/-- The value of a number among entries. -/
def getE : List MapEntry → Int → Option Value
  | [], _ => none
  | e :: es, k => match e.key with | .int _ a => if a = k then some e.val else getE es k | _ => none
/-- Entries of numbers, of which each is there once at most. -/
def IntKeys (es : List MapEntry) : Prop := ∀ e ∈ es, ∃ k, e.key = .int .i64 k
theorem findNow_int : ∀ (es : List MapEntry) (k : Int) (i : Nat), IntKeys es → ∃ r, Instr.findNow (.int .i64) (.int .i64 k) es i = some r ∧
    ((r = none ∧ getE es k = none) ∨ ∃ j v, r = some (i + j, v) ∧ getE es k = some v ∧ j < es.length ∧ (∃ e, es[j]? = some e ∧ e.key = .int .i64 k ∧ e.val = v) ∧ ∀ j', j' < j → ∀ e, es[j']? = some e → e.key ≠ .int .i64 k)
  | [], k, i, _ => ⟨none, rfl, .inl ⟨rfl, rfl⟩⟩
  | e :: es, k, i, h => by
    obtain ⟨a, ha⟩ := h e (by simp)
    have h' : IntKeys es := fun x hx => h x (by simp [hx])
    simp only [Instr.findNow, Instr.sameNow, ha, getE, if_true]
    by_cases hk : k = a
    · subst hk
      simp only [beq_self_eq_true, if_true]
      exact ⟨_, rfl, .inr ⟨0, e.val, rfl, rfl, by simp, ⟨e, rfl, ha, rfl⟩, fun j' hj => by omega⟩⟩
    · have hne : (k == a) = false := by simpa using hk
      have hne' : ¬ a = k := fun h => hk h.symm
      simp only [hne, hne', if_false]
      obtain ⟨r, h1, h2⟩ := findNow_int es k (i + 1) h'
      refine ⟨r, h1, ?_⟩
      rcases h2 with ⟨rfl, h3⟩ | ⟨j, v, rfl, h3, h4, ⟨e', h5, h6, h7⟩, h8⟩
      · exact .inl ⟨rfl, h3⟩
      · refine .inr ⟨j + 1, v, by rw [show i + 1 + j = i + (j + 1) by omega], h3, by simp; omega, ⟨e', by simpa using h5, h6, h7⟩, fun j' hj e'' he => ?_⟩
        match j', he with
        | 0, he => simp at he; subst he; rw [ha]; intro hc; injection hc with _ hc; exact hk hc.symm
        | j' + 1, he => exact h8 j' (by omega) e'' (by simpa using he)
section
variable {P : Program} {H : Hp}
theorem l_checkInt (t : TypeId) (hu : P.underlying t = some (.int .i64)) (b : Bool) (n : Nat) (k : Int) (K : Unit → Hp → Prop) : Lt P (Instr.checkKey b (n + 1) t (.int .i64 k)) H K = K () H := by
  simp only [Instr.checkKey, l_bind, l_und, hu, orF_some]; rfl
theorem Lt_lookup {t kt et : TypeId} (hu : P.underlying t = some (.map kt et)) (hk : P.underlying kt = some (.int .i64)) {z : Value} (hz : zrOf P et = some (some z)) {m : Nat} {es : Array MapEntry} {c : Nat} (hm : H m = some (.map es c)) (hi : IntKeys es.toList) {k : Int} {K : Value → Hp → Prop}
    (h : K ((getE es.toList k).getD z) H) : Lt P (Instr.lookup t (.map (some m)) (.int .i64 k) false) H K := by
  simp only [Instr.lookup, l_bind, l_und, hu, orF_some]
  refine ⟨_, hm, rfl, ?_⟩
  simp only [l_pure', l_pure, l_bind]
  rw [l_checkInt kt hk]
  simp only [Instr.findKey, l_bind, l_und, hk, orF_some]
  obtain ⟨r, h1, h2⟩ := findNow_int es.toList k 0 hi
  rw [h1]
  rcases h2 with ⟨rfl, h3⟩ | ⟨j, v, rfl, h3, _⟩
  · rw [h3] at h
    simp only [l_pure, l_bind, l_zero, hz, orF_some]
    exact h
  · rw [h3] at h
    simp only [l_pure, l_bind]
    exact h
theorem getE_push : ∀ (es : List MapEntry) (k : Int) (v : Value) (b : Nat) (x : Int), IntKeys es → getE es k = none → getE (es ++ [{ key := .int .i64 k, val := v, born := b }]) x = if x = k then some v else getE es x
  | [], k, v, b, x, _, _ => by
    simp only [List.nil_append, getE]
    by_cases e : x = k
    · subst e; simp
    · have e' : ¬ k = x := fun h => e h.symm
      simp [e, e']
  | e :: es, k, v, b, x, h, hn => by
    obtain ⟨a, ha⟩ := h e (by simp)
    have h' : IntKeys es := fun y hy => h y (by simp [hy])
    simp only [getE, ha] at hn
    simp only [List.cons_append, getE, ha]
    by_cases hk : a = k
    · rw [if_pos hk] at hn; cases hn
    · rw [if_neg hk] at hn
      rw [getE_push es k v b x h' hn]
      by_cases hx : a = x
      · subst hx; simp [hk]
      · simp [hx]
theorem getE_modify : ∀ (es : List MapEntry) (k : Int) (v : Value) (j : Nat) (x : Int), IntKeys es → (∃ e, es[j]? = some e ∧ e.key = .int .i64 k) → (∀ j', j' < j → ∀ e, es[j']? = some e → e.key ≠ .int .i64 k) →
    getE (es.modify j (fun e => { e with key := .int .i64 k, val := v })) x = if x = k then some v else getE es x
  | [], k, v, j, x, _, h, _ => by obtain ⟨e, h, _⟩ := h; simp at h
  | e :: es, k, v, 0, x, h, ⟨e', h1, h2⟩, _ => by
    simp at h1; subst h1
    simp only [List.modify_zero_cons, getE, h2]
    by_cases hx : x = k
    · subst hx; simp
    · have e' : ¬ k = x := fun h => hx h.symm
      simp [hx, e']
  | e :: es, k, v, j + 1, x, h, ⟨e', h1, h2⟩, h3 => by
    obtain ⟨a, ha⟩ := h e (by simp)
    have h' : IntKeys es := fun y hy => h y (by simp [hy])
    have hak : a ≠ k := fun hh => h3 0 (by omega) e rfl (by rw [ha, hh])
    simp only [List.modify_succ_cons, getE, ha]
    rw [getE_modify es k v j x h' ⟨e', by simpa using h1, h2⟩ (fun j' hj e'' he => h3 (j' + 1) (by omega) e'' (by simpa using he))]
    by_cases hx : a = x
    · subst hx; simp [hak]
    · simp [hx]
theorem keys_modify {es : List MapEntry} (h : IntKeys es) (k : Int) (v : Value) (j : Nat) : IntKeys (es.modify j (fun e => { e with key := .int .i64 k, val := v })) := by
  intro e he
  obtain ⟨i, hi⟩ := List.getElem?_of_mem he
  rw [List.getElem?_modify] at hi
  cases hh : es[i]? with
  | none => rw [hh] at hi; simp at hi
  | some y =>
    rw [hh] at hi
    by_cases e2 : j = i
    · simp [e2] at hi; exact ⟨k, by rw [← hi]⟩
    · simp [e2] at hi; exact h e (by rw [← hi]; exact List.mem_of_getElem? hh)
theorem Lt_mapUpdate {t kt et : TypeId} (hu : P.underlying t = some (.map kt et)) (hk : P.underlying kt = some (.int .i64)) {m : Nat} {es : Array MapEntry} {c : Nat} (hm : H m = some (.map es c)) (hi : IntKeys es.toList) {k : Int} {v : Value} {K : Unit → Hp → Prop}
    (h : ∀ (es' : Array MapEntry) (c' : Nat), IntKeys es'.toList → (∀ x, getE es'.toList x = if x = k then some v else getE es.toList x) → K () (H.upd m (.map es' c'))) : Lt P (Instr.mapUpdate t (.map (some m)) (.int .i64 k) v) H K := by
  simp only [Instr.mapUpdate, l_bind, l_und, hu, orF_some]
  refine ⟨_, hm, rfl, ?_⟩
  simp only [l_pure', l_pure, l_bind]
  rw [l_checkInt kt hk]
  simp only [Instr.findKey, l_bind, l_und, hk, orF_some]
  obtain ⟨r, h1, h2⟩ := findNow_int es.toList k 0 hi
  rw [h1]
  rcases h2 with ⟨rfl, h3⟩ | ⟨j, v', rfl, h3, hjl, ⟨e, h5, h6, h7⟩, h8⟩
  · simp only [l_pure]
    refine ⟨_, hm, rfl, ?_⟩
    refine h _ _ ?_ ?_
    · intro e he
      simp at he
      rcases he with he | rfl
      · exact hi e (by simpa using he)
      · exact ⟨k, rfl⟩
    · intro x
      simp only [Array.toList_push]
      exact getE_push es.toList k v c x hi h3
  · simp only [l_pure, l_bind, Nat.zero_add]
    have he : es[j]? = some e := by rw [← Array.getElem?_toList]; exact h5
    have hkt : Instr.keyThatStays (((es[j]?).map (·.key)).getD (.int .i64 k)) (.int .i64 k) = pure (.int .i64 k) := by
      rw [he]
      simp only [Option.map_some, Option.getD_some, h6, Instr.keyThatStays, Instr.sameBits, beq_self_eq_true, Bool.and_self, if_true]
    rw [hkt]
    simp only [l_pure]
    refine ⟨_, hm, rfl, ?_⟩
    refine h _ _ ?_ ?_
    · simp only [Array.toList_modify]; exact keys_modify hi k v j
    · intro x
      simp only [Array.toList_modify]
      exact getE_modify es.toList k v j x hi ⟨e, h5, h6⟩ h8
theorem Lt_makeMap {t : TypeId} {K : Value → Hp → Prop} (h : ∀ r, H r = none → K (.map (some r)) (H.upd r (.map #[] 0))) : Lt P (Instr.makeMap t none) H K := by
  simp only [Instr.makeMap, l_bind, l_new, l_pure]
  exact h
end
end Go.Proofs.Ytigofhhonnbkmaa.HL
end
section
namespace Go.Proofs.Ytigofhhonnbkmaa.HL
open Go
set_option linter.unusedSimpArgs false
/-- a sector -/
structure Sec where
  b : List Int
  h : b.length = 64
theorem Sec.ext {x y : Sec} (h : x.b = y.b) : x = y := by cases x; cases y; simp at h; subst h; rfl
instance : DecidableEq Sec := fun x y => if h : x.b = y.b then isTrue (Sec.ext h) else isFalse (fun e => h (by rw [e]))
instance : Inhabited Sec := ⟨⟨List.replicate 64 0, by simp⟩⟩
def Sec.zero : Sec := ⟨List.replicate 64 0, by simp⟩
abbrev Sec.c (x : Sec) : List Value := u8s x.b
abbrev Sec.v (x : Sec) : Value := .agg x.c.toArray
theorem Sec.len (x : Sec) : x.c.length = 64 := by simp [x.h]
theorem zero_v : Sec.zero.v = .agg (Array.replicate 64 (.int .u8 0)) := by
  simp only [Sec.v, Sec.c, Sec.zero]
  congr 1
/-- a write that waits -/
structure Wt where
  at_ : Int
  x : Sec
deriving Inhabited
abbrev Wt.c (w : Wt) : List Value := .int .i64 w.at_ :: w.x.c
theorem Wt.len (w : Wt) : w.c.length = 65 := by simp [w.x.h]
abbrev wts (l : List Wt) : List Value := l.flatMap Wt.c
theorem Wt.plain (w : Wt) : PlainL w.c := PlainL.cons (plain_int _ _) (PlainL.ints _ _)
structure Dv where
  size : Int
  sure : Int → Sec
  wait : List Wt
instance : Inhabited Dv := ⟨⟨0, fun _ => Sec.zero, []⟩⟩
structure St where
  steps : Int
  left : Int
  armed : Bool
  gone : Bool
  dv : List Dv
def torn (x old : Sec) (t : Int) : Sec := if h : 0 < t ∧ t < 64 then ⟨x.b.take t.toNat ++ old.b.drop t.toNat, by have := x.h; have := old.h; simp; omega⟩ else x
/-- behind so many of the writes that waited -/
def stN (kept : Nat → Option Int) (ws : List Wt) (s : Int → Sec) : Nat → (Int → Sec)
  | 0 => s
  | n + 1 => match kept n with
    | none => stN kept ws s n
    | some t => fun x => if x = (ws.getD n default).at_ then torn (ws.getD n default).x (stN kept ws s n (ws.getD n default).at_) t else stN kept ws s n x
def Dv.settle (d : Dv) (kept : Nat → Option Int) : Dv := ⟨d.size, stN kept d.wait d.sure d.wait.length, []⟩
def Dv.put (d : Dv) (w : Wt) : Dv := { d with wait := d.wait ++ [w] }
def MapS (es : Array MapEntry) (s : Int → Sec) : Prop := IntKeys es.toList ∧ ∀ k, (getE es.toList k).getD (.agg (Array.replicate 64 (.int .u8 0))) = (s k).v
theorem MapS.nil : MapS #[] (fun _ => Sec.zero) := ⟨fun e he => by simp at he, fun k => zero_v.symm⟩
theorem MapS.put {es es' : Array MapEntry} {s : Int → Sec} (h : MapS es s) {k : Int} {x : Sec} (h1 : IntKeys es'.toList) (h2 : ∀ y, getE es'.toList y = if y = k then some x.v else getE es.toList y) : MapS es' (fun y => if y = k then x else s y) := by
  refine ⟨h1, fun y => ?_⟩
  rw [h2]
  by_cases e : y = k
  · simp [e]
  · simp only [if_neg e]; exact h.2 y
/-- a step: what is then, and whether it is done -/
def St.step (s : St) : St × Bool :=
  if s.gone = true ∨ (s.armed = true ∧ s.left ≤ 0) then ({ s with gone := true }, false) else ({ s with left := IntKind.i64.wrap (s.left - 1), steps := IntKind.i64.wrap (s.steps + 1) }, true)
def St.has (s : St) (dev i : Int) : Bool := decide (0 ≤ dev ∧ dev < s.dv.length) && decide (0 ≤ i ∧ i < (s.dv.getD dev.toNat default).size)
def St.wr (s : St) (dev i : Int) (x : Sec) : St × Option Int :=
  if s.has dev i = true then (match s.step with | (t, true) => ({ t with dv := t.dv.set dev.toNat ((t.dv.getD dev.toNat default).put ⟨i, x⟩) }, none) | (t, false) => (t, some 3)) else (s, some 1)
def St.fl (s : St) (dev : Int) : St × Option Int :=
  if 0 ≤ dev ∧ dev < s.dv.length then (match s.step with | (t, true) => ({ t with dv := t.dv.set dev.toNat ((t.dv.getD dev.toNat default).settle (fun _ => some 0)) }, none) | (t, false) => (t, some 3)) else (s, some 1)
theorem step_dv (s : St) : s.step.1.dv = s.dv := by unfold St.step; split <;> rfl
/-- what is read: the last write that waits there, or what is sure -/
def lastW : List Wt → Int → Option Sec
  | [], _ => none
  | w :: r, i => match lastW r i with | some x => some x | none => if w.at_ = i then some w.x else none
def Dv.read (d : Dv) (i : Int) : Sec := (lastW d.wait i).getD (d.sure i)
end Go.Proofs.Ytigofhhonnbkmaa.HL
end
section
namespace Go.Proofs.Ytigofhhonnbkmaa.HL
open Go Go.Proofs
set_option linter.unusedSimpArgs false
set_option linter.unusedVariables false
attribute [local irreducible] Lt Lq CW OW TW CallH

set_option maxRecDepth 100000 in
set_option maxHeartbeats 1000000 in
theorem num_Num_nil (H : Hp) : CallH Try.prog 21 #[.nilIface] H (fun v H' => v = .int .i64 0 ∧ H' = H) := by
  refine CallH_enter (l := [_]) (rl := [.tmp 2]) (n := 45) Try.func21 rfl rfl rfl rfl rfl ?_
  simp only [envOf, Nat.reduceAdd]
  refine CW_seq (fun K1 hK1 => ?_)
  refine CW_region ?_
  refine OW_as rfl ?_
  refine OW_nil ?_
  try simp only [Ex.thnH, Ex.inBlockH, ↓reduceIte, Nat.reduceEqDiff]
  refine hK1 _ _ ?_; try clear hK1 K1
  refine CW_seq (fun K2 hK2 => ?_)
  refine CW_seq (fun K3 hK3 => ?_)
  refine CW_region ?_
  refine OW_mv rfl ?_
  refine OW_nil ?_
  try simp only [Ex.thnH, Ex.inBlockH, ↓reduceIte, Nat.reduceEqDiff]
  refine hK3 _ _ ?_; try clear hK3 K3
  refine CW_block ?_
  refine CW_loop (fun m e H_ => Env.has [(0, .nilIface), (7, .int .i64 0)] e ∧ H_ = H) (0) ?_ ?_
  · skip
    exact ⟨⟨rfl, rfl, trivial⟩, rfl⟩
  intro m_ e_ H_ hI_
  obtain ⟨he, rfl⟩ := hI_
  refine CW_env he.sub ?_; clear he e_
  refine CW_seq (fun K4 hK4 => ?_)
  refine CW_region ?_
  refine OW_opS (fun K hK r => ?_)
  simp (disch := (first | omega | decide)) only [x_bin, g_int, b_lss, dec_lt_t, dec_lt_f, dec_le_t, dec_le_f, dec_eq_t, dec_eq_f, Bool.not_true, Bool.not_false, eX, ↓reduceIte, Nat.reduceEqDiff, Int.reduceToNat]
  refine hK _ _ ?_; clear hK K
  refine OW_nil ?_
  try simp only [Ex.thnH, Ex.inBlockH, ↓reduceIte, Nat.reduceEqDiff]
  refine hK4 _ _ ?_; try clear hK4 K4
  refine CW_seq (fun K5 hK5 => ?_)
  refine CW_cond (fun r => rfl) (fun c8 => ?_) (fun c8 => ?_)
  · first
    | (exfalso; exact cnA c8; done)
    | skip
      (try simp only [decide_eq_true_eq, decide_eq_false_iff_not, Bool.not_eq_true, Bool.not_eq_false, Bool.and_eq_true, Bool.or_eq_true, Bool.or_eq_false_iff, Bool.not_eq_true, Bool.not_eq_eq_eq_not, Bool.not_true, Bool.not_false] at c8)
      refine CW_skip ?_
      try simp only [Ex.thnH, Ex.inBlockH, ↓reduceIte, Nat.reduceEqDiff]
      refine hK5 _ _ ?_; try clear hK5 K5
      refine CW_seq (fun K6 hK6 => ?_)
      refine CW_block ?_
      refine CW_seq (fun K7 hK7 => ?_)
      refine CW_seq (fun K8 hK8 => ?_)
      refine CW_region ?_
      refine OW_mv rfl ?_
      refine OW_opS (fun K hK r => ?_)
      simp only [x_bin, g_int, g_bool, g_string, g_pointer, g_slice, g_map, g_func, g_nilFunc, g_err, g_iface, g_nil_iface, g_nil_r, g_nil_l, eX, ↓reduceIte, Nat.reduceEqDiff, Int.reduceToNat]
      first | rw [b_err_eql _ _ Try.underlying32] | (rw [e_eql _ _ _ _ (by simp), q_equal]; first | rw [q_iface_nil _ _ _ Try.underlying32] | rw [q_nil_iface _ _ _ Try.underlying32] | rw [q_nil_nil _ _ _ Try.underlying32])
      try simp only [eX, ↓reduceIte, Nat.reduceEqDiff, Int.reduceToNat]
      refine hK _ _ ?_; clear hK K
      refine OW_nil ?_
      try simp only [Ex.thnH, Ex.inBlockH, ↓reduceIte, Nat.reduceEqDiff]
      refine hK8 _ _ ?_; try clear hK8 K8
      refine CW_cond (fun r => rfl) (fun c10 => ?_) (fun c10 => ?_)
      · first
        | (exfalso; exact cnA c10; done)
        | skip
          (try simp only [decide_eq_true_eq, decide_eq_false_iff_not, Bool.not_eq_true, Bool.not_eq_false, Bool.and_eq_true, Bool.or_eq_true, Bool.or_eq_false_iff, Bool.not_eq_true, Bool.not_eq_eq_eq_not, Bool.not_true, Bool.not_false] at c10)
          refine CW_seq (fun K9 hK9 => ?_)
          refine CW_region ?_
          refine OW_as rfl ?_
          refine OW_nil ?_
          try simp only [Ex.thnH, Ex.inBlockH, ↓reduceIte, Nat.reduceEqDiff]
          refine hK9 _ _ ?_; try clear hK9 K9
          refine CW_ret ?_
          try simp only [Ex.thnH, Ex.inBlockH, ↓reduceIte, Nat.reduceEqDiff]
          exact ⟨[_], ⟨rfl, trivial⟩, _, Le.refl _, rfl, rfl⟩
      · first
        | (exfalso; exact cnA c10; done)
        | skip
          (try simp only [decide_eq_true_eq, decide_eq_false_iff_not, Bool.not_eq_true, Bool.not_eq_false, Bool.and_eq_true, Bool.or_eq_true, Bool.or_eq_false_iff, Bool.not_eq_true, Bool.not_eq_eq_eq_not, Bool.not_true, Bool.not_false] at c10)
          refine CW_skip ?_
          try simp only [Ex.thnH, Ex.inBlockH, ↓reduceIte, Nat.reduceEqDiff]
          refine hK7 _ _ ?_; try clear hK7 K7
          refine CW_seq (fun K10 hK10 => ?_)
          refine CW_seq (fun K11 hK11 => ?_)
          refine CW_region ?_
          refine OW_mv rfl ?_
          refine OW_opS (fun K hK r => ?_)
          simp only [x_typeAssert, eX, ↓reduceIte, Nat.reduceEqDiff, Int.reduceToNat]
          first | rw [t_same _ _ _ Try.underlying38 (by simp)] | rw [t_other _ _ _ _ Try.underlying38 (by simp) (by decide) _ _ zr38] | rw [t_nil _ _ _ Try.underlying38 (by simp) _ zr38]
          try simp only [if_true, Bool.false_eq_true, if_false]
          try simp only [eX, ↓reduceIte, Nat.reduceEqDiff, Int.reduceToNat]
          refine hK _ _ ?_; clear hK K
          refine OW_mv rfl ?_
          refine OW_opS (fun K hK r => ?_)
          simp only [x_extract, i_extract, List.getElem?_toArray, List.getElem?_cons_zero, List.getElem?_cons_succ, orF_some, eX, ↓reduceIte, Nat.reduceEqDiff, Int.reduceToNat]
          refine hK _ _ ?_; clear hK K
          refine OW_opS (fun K hK r => ?_)
          simp only [x_extract, i_extract, List.getElem?_toArray, List.getElem?_cons_zero, List.getElem?_cons_succ, orF_some, eX, ↓reduceIte, Nat.reduceEqDiff, Int.reduceToNat]
          refine hK _ _ ?_; clear hK K
          refine OW_as rfl ?_
          refine OW_as rfl ?_
          refine OW_nil ?_
          try simp only [Ex.thnH, Ex.inBlockH, ↓reduceIte, Nat.reduceEqDiff]
          refine hK11 _ _ ?_; try clear hK11 K11
          refine CW_seq (fun K12 hK12 => ?_)
          refine CW_region ?_
          refine OW_mv rfl ?_
          refine OW_mv rfl ?_
          (first | refine OW_split (d := 17) rfl (fun g17 => ?_) (fun g17 => ?_) | skip)
          all_goals try (exfalso; exact cnA g17)
          all_goals (try simp only [decide_eq_true_eq, decide_eq_false_iff_not, Bool.not_eq_true, Bool.not_eq_false, Bool.and_eq_true, Bool.or_eq_true, Bool.or_eq_false_iff, Bool.not_eq_true, Bool.not_eq_eq_eq_not, Bool.not_true, Bool.not_false] at g17)
          all_goals
            try simp only [eX, ↓reduceIte, Nat.reduceEqDiff, Int.reduceToNat]
            first
            | refine OW_guardT rfl (lt_some (by decide)) rfl (fun K hK r => ?_)
              simp only [x_move, eX, ↓reduceIte, Nat.reduceEqDiff, Int.reduceToNat]
              refine hK _ _ ?_; clear hK K
            | refine OW_guardF rfl (lt_some (by decide)) rfl ?_
              simp only [eX, ↓reduceIte, Nat.reduceEqDiff, Int.reduceToNat]
            first
            | refine OW_guardT rfl (lt_some (by decide)) rfl (fun K hK r => ?_)
              simp (disch := (first | omega | decide)) only [x_bin, g_int, b_neq, dec_lt_t, dec_lt_f, dec_le_t, dec_le_f, dec_eq_t, dec_eq_f, Bool.not_true, Bool.not_false, eX, ↓reduceIte, Nat.reduceEqDiff, Int.reduceToNat]
              refine hK _ _ ?_; clear hK K
            | refine OW_guardF rfl (lt_some (by decide)) rfl ?_
              simp only [eX, ↓reduceIte, Nat.reduceEqDiff, Int.reduceToNat]
            refine OW_opS (fun K hK r => ?_)
            simp only [x_pick, l_asBool, HL.ite_bool, if_true, if_false, Bool.false_eq_true, eX, ↓reduceIte, Nat.reduceEqDiff, Int.reduceToNat]
            refine hK _ _ ?_; clear hK K
            refine OW_nil ?_
            try simp only [Ex.thnH, Ex.inBlockH, ↓reduceIte, Nat.reduceEqDiff]
            refine hK12 _ _ ?_; try clear hK12 K12
            refine CW_cond (fun r => rfl) (fun c20 => ?_) (fun c20 => ?_)
            · first
              | (exfalso; exact cnA c20; done)
              | skip
                (try simp only [decide_eq_true_eq, decide_eq_false_iff_not, Bool.not_eq_true, Bool.not_eq_false, Bool.and_eq_true, Bool.or_eq_true, Bool.or_eq_false_iff, Bool.not_eq_true, Bool.not_eq_eq_eq_not, Bool.not_true, Bool.not_false] at c20)
                refine CW_seq (fun K13 hK13 => ?_)
                refine CW_region ?_
                refine OW_mv rfl ?_
                refine OW_as rfl ?_
                refine OW_nil ?_
                try simp only [Ex.thnH, Ex.inBlockH, ↓reduceIte, Nat.reduceEqDiff]
                refine hK13 _ _ ?_; try clear hK13 K13
                refine CW_ret ?_
                try simp only [Ex.thnH, Ex.inBlockH, ↓reduceIte, Nat.reduceEqDiff]
                exact ⟨[_], ⟨rfl, trivial⟩, _, Le.refl _, rfl, rfl⟩
            · first
              | (exfalso; exact cnA c20; done)
              | skip
                (try simp only [decide_eq_true_eq, decide_eq_false_iff_not, Bool.not_eq_true, Bool.not_eq_false, Bool.and_eq_true, Bool.or_eq_true, Bool.or_eq_false_iff, Bool.not_eq_true, Bool.not_eq_eq_eq_not, Bool.not_true, Bool.not_false] at c20)
                refine CW_skip ?_
                try simp only [Ex.thnH, Ex.inBlockH, ↓reduceIte, Nat.reduceEqDiff]
                refine hK10 _ _ ?_; try clear hK10 K10
                refine CW_seq (fun K14 hK14 => ?_)
                refine CW_region ?_
                refine OW_mv rfl ?_
                refine OW_opS (fun K hK r => ?_)
                simp only [x_typeAssert, eX, ↓reduceIte, Nat.reduceEqDiff, Int.reduceToNat]
                first | rw [t_same _ _ _ Try.underlying121 (by simp)] | rw [t_other _ _ _ _ Try.underlying121 (by simp) (by decide) _ _ zr121] | rw [t_nil _ _ _ Try.underlying121 (by simp) _ zr121]
                try simp only [if_true, Bool.false_eq_true, if_false]
                try simp only [eX, ↓reduceIte, Nat.reduceEqDiff, Int.reduceToNat]
                refine hK _ _ ?_; clear hK K
                refine OW_mv rfl ?_
                refine OW_opS (fun K hK r => ?_)
                simp only [x_extract, i_extract, List.getElem?_toArray, List.getElem?_cons_zero, List.getElem?_cons_succ, orF_some, eX, ↓reduceIte, Nat.reduceEqDiff, Int.reduceToNat]
                refine hK _ _ ?_; clear hK K
                refine OW_opS (fun K hK r => ?_)
                simp only [x_extract, i_extract, List.getElem?_toArray, List.getElem?_cons_zero, List.getElem?_cons_succ, orF_some, eX, ↓reduceIte, Nat.reduceEqDiff, Int.reduceToNat]
                refine hK _ _ ?_; clear hK K
                refine OW_as rfl ?_
                refine OW_as rfl ?_
                refine OW_nil ?_
                try simp only [Ex.thnH, Ex.inBlockH, ↓reduceIte, Nat.reduceEqDiff]
                refine hK14 _ _ ?_; try clear hK14 K14
                refine CW_seq (fun K15 hK15 => ?_)
                refine CW_seq (fun K16 hK16 => ?_)
                refine CW_region ?_
                refine OW_mv rfl ?_
                refine OW_opS (fun K hK r => ?_)
                simp only [x_un, u_not, eX, ↓reduceIte, Nat.reduceEqDiff, Int.reduceToNat]
                refine hK _ _ ?_; clear hK K
                refine OW_mv rfl ?_
                (first | refine OW_split (d := 29) rfl (fun g29 => ?_) (fun g29 => ?_) | skip)
                all_goals try (exfalso; exact cnA g29)
                all_goals (try simp only [decide_eq_true_eq, decide_eq_false_iff_not, Bool.not_eq_true, Bool.not_eq_false, Bool.and_eq_true, Bool.or_eq_true, Bool.or_eq_false_iff, Bool.not_eq_true, Bool.not_eq_eq_eq_not, Bool.not_true, Bool.not_false] at g29)
                all_goals
                  try simp only [eX, ↓reduceIte, Nat.reduceEqDiff, Int.reduceToNat]
                  first
                  | refine OW_guardT rfl (lt_some (by decide)) rfl (fun K hK r => ?_)
                    simp only [x_move, eX, ↓reduceIte, Nat.reduceEqDiff, Int.reduceToNat]
                    refine hK _ _ ?_; clear hK K
                  | refine OW_guardF rfl (lt_some (by decide)) rfl ?_
                    simp only [eX, ↓reduceIte, Nat.reduceEqDiff, Int.reduceToNat]
                  first
                  | refine OW_guardT rfl (lt_some (by decide)) rfl (fun K hK r => ?_)
                    simp only [x_bin, g_int, g_bool, g_string, g_pointer, g_slice, g_map, g_func, g_nilFunc, g_iface, g_nil_iface, g_nil_r, g_nil_l, eX, ↓reduceIte, Nat.reduceEqDiff, Int.reduceToNat]
                    rw [e_eql _ _ _ _ (by simp)]
                    rw [q_equal]
                    first | rw [q_ptr_nil _ _ _ Try.underlying121] | rw [q_nil_ptr _ _ _ Try.underlying121]
                    try simp only [eX, ↓reduceIte, Nat.reduceEqDiff, Int.reduceToNat]
                    refine hK _ _ ?_; clear hK K
                  | refine OW_guardF rfl (lt_some (by decide)) rfl ?_
                    simp only [eX, ↓reduceIte, Nat.reduceEqDiff, Int.reduceToNat]
                  refine OW_opS (fun K hK r => ?_)
                  simp only [x_pick, l_asBool, HL.ite_bool, if_true, if_false, Bool.false_eq_true, eX, ↓reduceIte, Nat.reduceEqDiff, Int.reduceToNat]
                  refine hK _ _ ?_; clear hK K
                  refine OW_mv rfl ?_
                  (first | refine OW_split (d := 33) rfl (fun g33 => ?_) (fun g33 => ?_) | skip)
                  all_goals try (exfalso; exact cnA g33)
                  all_goals (try simp only [decide_eq_true_eq, decide_eq_false_iff_not, Bool.not_eq_true, Bool.not_eq_false, Bool.and_eq_true, Bool.or_eq_true, Bool.or_eq_false_iff, Bool.not_eq_true, Bool.not_eq_eq_eq_not, Bool.not_true, Bool.not_false] at g33)
                  all_goals
                    try simp only [eX, ↓reduceIte, Nat.reduceEqDiff, Int.reduceToNat]
                    first
                    | refine OW_guardT rfl (lt_some (by decide)) rfl (fun K hK r => ?_)
                      simp only [x_move, eX, ↓reduceIte, Nat.reduceEqDiff, Int.reduceToNat]
                      refine hK _ _ ?_; clear hK K
                    | refine OW_guardF rfl (lt_some (by decide)) rfl ?_
                      simp only [eX, ↓reduceIte, Nat.reduceEqDiff, Int.reduceToNat]
                    first
                    | refine OW_guardT rfl (lt_some (by decide)) rfl (fun K hK r => ?_)
                      rw [x_nilCheck _ _ rfl]
                      simp only [eX, ↓reduceIte, Nat.reduceEqDiff, Int.reduceToNat]
                      refine hK _ _ ?_; clear hK K
                    | refine OW_guardF rfl (lt_some (by decide)) rfl ?_
                      simp only [eX, ↓reduceIte, Nat.reduceEqDiff, Int.reduceToNat]
                    first
                    | refine OW_guardT rfl (lt_some (by decide)) rfl (fun K hK r => ?_)
                      simp only [x_fieldAddr, fa124_1, add_mk, Nat.reduceAdd, Nat.zero_add, eX, ↓reduceIte, Nat.reduceEqDiff, Int.reduceToNat]
                      refine hK _ _ ?_; clear hK K
                    | refine OW_guardF rfl (lt_some (by decide)) rfl ?_
                      simp only [eX, ↓reduceIte, Nat.reduceEqDiff, Int.reduceToNat]
                    first
                    | refine OW_guardT rfl (lt_some (by decide)) rfl (fun K hK r => ?_)
                      simp only [x_load, eX, ↓reduceIte, Nat.reduceEqDiff, Int.reduceToNat]
                      refine Lt_loadAt1 Try.underlying32 rfl hbA ldA ?_
                      try simp only [eX, ↓reduceIte, Nat.reduceEqDiff, Int.reduceToNat]
                      refine hK _ _ ?_; clear hK K
                    | refine OW_guardF rfl (lt_some (by decide)) rfl ?_
                      simp only [eX, ↓reduceIte, Nat.reduceEqDiff, Int.reduceToNat]
                    first
                    | refine OW_guardT rfl (lt_some (by decide)) rfl (fun K hK r => ?_)
                      simp only [x_bin, g_int, g_bool, g_string, g_pointer, g_slice, g_map, g_func, g_nilFunc, g_err, g_iface, g_nil_iface, g_nil_r, g_nil_l, eX, ↓reduceIte, Nat.reduceEqDiff, Int.reduceToNat]
                      first | rw [b_err_eql _ _ Try.underlying32] | (rw [e_eql _ _ _ _ (by simp), q_equal]; first | rw [q_iface_nil _ _ _ Try.underlying32] | rw [q_nil_iface _ _ _ Try.underlying32] | rw [q_nil_nil _ _ _ Try.underlying32])
                      try simp only [eX, ↓reduceIte, Nat.reduceEqDiff, Int.reduceToNat]
                      refine hK _ _ ?_; clear hK K
                    | refine OW_guardF rfl (lt_some (by decide)) rfl ?_
                      simp only [eX, ↓reduceIte, Nat.reduceEqDiff, Int.reduceToNat]
                    refine OW_opS (fun K hK r => ?_)
                    simp only [x_pick, l_asBool, HL.ite_bool, if_true, if_false, Bool.false_eq_true, eX, ↓reduceIte, Nat.reduceEqDiff, Int.reduceToNat]
                    refine hK _ _ ?_; clear hK K
                    refine OW_nil ?_
                    try simp only [Ex.thnH, Ex.inBlockH, ↓reduceIte, Nat.reduceEqDiff]
                    refine hK16 _ _ ?_; try clear hK16 K16
                    refine CW_cond (fun r => rfl) (fun c39 => ?_) (fun c39 => ?_)
                    · first
                      | (exfalso; exact cnA c39; done)
                      | skip
                        (try simp only [decide_eq_true_eq, decide_eq_false_iff_not, Bool.not_eq_true, Bool.not_eq_false, Bool.and_eq_true, Bool.or_eq_true, Bool.or_eq_false_iff, Bool.not_eq_true, Bool.not_eq_eq_eq_not, Bool.not_true, Bool.not_false] at c39)
                        refine CW_seq (fun K17 hK17 => ?_)
                        refine CW_region ?_
                        refine OW_as rfl ?_
                        refine OW_nil ?_
                        try simp only [Ex.thnH, Ex.inBlockH, ↓reduceIte, Nat.reduceEqDiff]
                        refine hK17 _ _ ?_; try clear hK17 K17
                        refine CW_ret ?_
                        try simp only [Ex.thnH, Ex.inBlockH, ↓reduceIte, Nat.reduceEqDiff]
                        exact ⟨[_], ⟨rfl, trivial⟩, _, Le.refl _, rfl, rfl⟩
                    · first
                      | (exfalso; exact cnA c39; done)
                      | skip
                        (try simp only [decide_eq_true_eq, decide_eq_false_iff_not, Bool.not_eq_true, Bool.not_eq_false, Bool.and_eq_true, Bool.or_eq_true, Bool.or_eq_false_iff, Bool.not_eq_true, Bool.not_eq_eq_eq_not, Bool.not_true, Bool.not_false] at c39)
                        refine CW_skip ?_
                        try simp only [Ex.thnH, Ex.inBlockH, ↓reduceIte, Nat.reduceEqDiff]
                        refine hK15 _ _ ?_; try clear hK15 K15
                        refine CW_region ?_
                        refine OW_mv rfl ?_
                        refine OW_opS (fun K hK r => ?_)
                        rw [x_nilCheck _ _ rfl]
                        simp only [eX, ↓reduceIte, Nat.reduceEqDiff, Int.reduceToNat]
                        refine hK _ _ ?_; clear hK K
                        refine OW_opS (fun K hK r => ?_)
                        simp only [x_fieldAddr, fa124_1, add_mk, Nat.reduceAdd, Nat.zero_add, eX, ↓reduceIte, Nat.reduceEqDiff, Int.reduceToNat]
                        refine hK _ _ ?_; clear hK K
                        refine OW_opS (fun K hK r => ?_)
                        simp only [x_load, eX, ↓reduceIte, Nat.reduceEqDiff, Int.reduceToNat]
                        refine Lt_loadAt1 Try.underlying32 rfl hbA ldA ?_
                        try simp only [eX, ↓reduceIte, Nat.reduceEqDiff, Int.reduceToNat]
                        refine hK _ _ ?_; clear hK K
                        refine OW_as rfl ?_
                        refine OW_nil ?_
                        try simp only [Ex.thnH, Ex.inBlockH, ↓reduceIte, Nat.reduceEqDiff]
                        refine hK6 _ _ ?_; try clear hK6 K6
                        refine CW_region ?_
                        refine OW_opS (fun K hK r => ?_)
                        simp (disch := (first | omega | decide)) only [x_bin, g_int, b_add, wrap_i64, wrap_u64, wrap_u32, wrap_u8, eX, ↓reduceIte, Nat.reduceEqDiff, Int.reduceToNat]
                        refine hK _ _ ?_; clear hK K
                        refine OW_mv rfl ?_
                        refine OW_nil ?_
                        try simp only [Ex.thnH, Ex.inBlockH, ↓reduceIte, Nat.reduceEqDiff]
                        exact absurd rfl (by assumption)
  · first
    | (exfalso; exact cnA c8; done)
    | skip
      (try simp only [decide_eq_true_eq, decide_eq_false_iff_not, Bool.not_eq_true, Bool.not_eq_false, Bool.and_eq_true, Bool.or_eq_true, Bool.or_eq_false_iff, Bool.not_eq_true, Bool.not_eq_eq_eq_not, Bool.not_true, Bool.not_false] at c8)
      refine CW_exit ?_
      try simp only [Ex.thnH, Ex.inBlockH, ↓reduceIte, Nat.reduceEqDiff]
      refine hK2 _ _ ?_; try clear hK2 K2
      refine CW_seq (fun K18 hK18 => ?_)
      refine CW_region ?_
      refine OW_as rfl ?_
      refine OW_nil ?_
      try simp only [Ex.thnH, Ex.inBlockH, ↓reduceIte, Nat.reduceEqDiff]
      refine hK18 _ _ ?_; try clear hK18 K18
      refine CW_ret ?_
      try simp only [Ex.thnH, Ex.inBlockH, ↓reduceIte, Nat.reduceEqDiff]
      exact ⟨[_], ⟨rfl, trivial⟩, _, Le.refl _, rfl, rfl⟩

set_option maxRecDepth 100000 in
set_option maxHeartbeats 1000000 in
theorem num_Num_errno (H : Hp) (k : Int) (hk : k ≠ 0) (h1 : -9223372036854775808 ≤ k) (h2 : k ≤ 9223372036854775807) : CallH Try.prog 21 #[.iface 38 (.int .i64 k)] H (fun v H' => v = .int .i64 k ∧ H' = H) := by
  refine CallH_enter (l := [_]) (rl := [.tmp 2]) (n := 45) Try.func21 rfl rfl rfl rfl rfl ?_
  simp only [envOf, Nat.reduceAdd]
  refine CW_seq (fun K1 hK1 => ?_)
  refine CW_region ?_
  refine OW_as rfl ?_
  refine OW_nil ?_
  try simp only [Ex.thnH, Ex.inBlockH, ↓reduceIte, Nat.reduceEqDiff]
  refine hK1 _ _ ?_; try clear hK1 K1
  refine CW_seq (fun K2 hK2 => ?_)
  refine CW_seq (fun K3 hK3 => ?_)
  refine CW_region ?_
  refine OW_mv rfl ?_
  refine OW_nil ?_
  try simp only [Ex.thnH, Ex.inBlockH, ↓reduceIte, Nat.reduceEqDiff]
  refine hK3 _ _ ?_; try clear hK3 K3
  refine CW_block ?_
  refine CW_loop (fun m e H_ => Env.has [(0, .iface 38 (.int .i64 k)), (7, .int .i64 0)] e ∧ H_ = H) (0) ?_ ?_
  · skip
    exact ⟨⟨rfl, rfl, trivial⟩, rfl⟩
  intro m_ e_ H_ hI_
  obtain ⟨he, rfl⟩ := hI_
  refine CW_env he.sub ?_; clear he e_
  refine CW_seq (fun K4 hK4 => ?_)
  refine CW_region ?_
  refine OW_opS (fun K hK r => ?_)
  simp (disch := (first | omega | decide)) only [x_bin, g_int, b_lss, dec_lt_t, dec_lt_f, dec_le_t, dec_le_f, dec_eq_t, dec_eq_f, Bool.not_true, Bool.not_false, eX, ↓reduceIte, Nat.reduceEqDiff, Int.reduceToNat]
  refine hK _ _ ?_; clear hK K
  refine OW_nil ?_
  try simp only [Ex.thnH, Ex.inBlockH, ↓reduceIte, Nat.reduceEqDiff]
  refine hK4 _ _ ?_; try clear hK4 K4
  refine CW_seq (fun K5 hK5 => ?_)
  refine CW_cond (fun r => rfl) (fun c8 => ?_) (fun c8 => ?_)
  · first
    | (exfalso; exact cnA c8; done)
    | skip
      (try simp only [decide_eq_true_eq, decide_eq_false_iff_not, Bool.not_eq_true, Bool.not_eq_false, Bool.and_eq_true, Bool.or_eq_true, Bool.or_eq_false_iff, Bool.not_eq_true, Bool.not_eq_eq_eq_not, Bool.not_true, Bool.not_false] at c8)
      refine CW_skip ?_
      try simp only [Ex.thnH, Ex.inBlockH, ↓reduceIte, Nat.reduceEqDiff]
      refine hK5 _ _ ?_; try clear hK5 K5
      refine CW_seq (fun K6 hK6 => ?_)
      refine CW_block ?_
      refine CW_seq (fun K7 hK7 => ?_)
      refine CW_seq (fun K8 hK8 => ?_)
      refine CW_region ?_
      refine OW_mv rfl ?_
      refine OW_opS (fun K hK r => ?_)
      simp only [x_bin, g_int, g_bool, g_string, g_pointer, g_slice, g_map, g_func, g_nilFunc, g_err, g_iface, g_nil_iface, g_nil_r, g_nil_l, eX, ↓reduceIte, Nat.reduceEqDiff, Int.reduceToNat]
      first | rw [b_err_eql _ _ Try.underlying32] | (rw [e_eql _ _ _ _ (by simp), q_equal]; first | rw [q_iface_nil _ _ _ Try.underlying32] | rw [q_nil_iface _ _ _ Try.underlying32] | rw [q_nil_nil _ _ _ Try.underlying32])
      try simp only [eX, ↓reduceIte, Nat.reduceEqDiff, Int.reduceToNat]
      refine hK _ _ ?_; clear hK K
      refine OW_nil ?_
      try simp only [Ex.thnH, Ex.inBlockH, ↓reduceIte, Nat.reduceEqDiff]
      refine hK8 _ _ ?_; try clear hK8 K8
      refine CW_cond (fun r => rfl) (fun c10 => ?_) (fun c10 => ?_)
      · first
        | (exfalso; exact cnA c10; done)
        | skip
          (try simp only [decide_eq_true_eq, decide_eq_false_iff_not, Bool.not_eq_true, Bool.not_eq_false, Bool.and_eq_true, Bool.or_eq_true, Bool.or_eq_false_iff, Bool.not_eq_true, Bool.not_eq_eq_eq_not, Bool.not_true, Bool.not_false] at c10)
          refine CW_seq (fun K9 hK9 => ?_)
          refine CW_region ?_
          refine OW_as rfl ?_
          refine OW_nil ?_
          try simp only [Ex.thnH, Ex.inBlockH, ↓reduceIte, Nat.reduceEqDiff]
          refine hK9 _ _ ?_; try clear hK9 K9
          refine CW_ret ?_
          try simp only [Ex.thnH, Ex.inBlockH, ↓reduceIte, Nat.reduceEqDiff]
          exact ⟨[_], ⟨rfl, trivial⟩, _, Le.refl _, rfl, rfl⟩
      · first
        | (exfalso; exact cnA c10; done)
        | skip
          (try simp only [decide_eq_true_eq, decide_eq_false_iff_not, Bool.not_eq_true, Bool.not_eq_false, Bool.and_eq_true, Bool.or_eq_true, Bool.or_eq_false_iff, Bool.not_eq_true, Bool.not_eq_eq_eq_not, Bool.not_true, Bool.not_false] at c10)
          refine CW_skip ?_
          try simp only [Ex.thnH, Ex.inBlockH, ↓reduceIte, Nat.reduceEqDiff]
          refine hK7 _ _ ?_; try clear hK7 K7
          refine CW_seq (fun K10 hK10 => ?_)
          refine CW_seq (fun K11 hK11 => ?_)
          refine CW_region ?_
          refine OW_mv rfl ?_
          refine OW_opS (fun K hK r => ?_)
          simp only [x_typeAssert, eX, ↓reduceIte, Nat.reduceEqDiff, Int.reduceToNat]
          first | rw [t_same _ _ _ Try.underlying38 (by simp)] | rw [t_other _ _ _ _ Try.underlying38 (by simp) (by decide) _ _ zr38] | rw [t_nil _ _ _ Try.underlying38 (by simp) _ zr38]
          try simp only [if_true, Bool.false_eq_true, if_false]
          try simp only [eX, ↓reduceIte, Nat.reduceEqDiff, Int.reduceToNat]
          refine hK _ _ ?_; clear hK K
          refine OW_mv rfl ?_
          refine OW_opS (fun K hK r => ?_)
          simp only [x_extract, i_extract, List.getElem?_toArray, List.getElem?_cons_zero, List.getElem?_cons_succ, orF_some, eX, ↓reduceIte, Nat.reduceEqDiff, Int.reduceToNat]
          refine hK _ _ ?_; clear hK K
          refine OW_opS (fun K hK r => ?_)
          simp only [x_extract, i_extract, List.getElem?_toArray, List.getElem?_cons_zero, List.getElem?_cons_succ, orF_some, eX, ↓reduceIte, Nat.reduceEqDiff, Int.reduceToNat]
          refine hK _ _ ?_; clear hK K
          refine OW_as rfl ?_
          refine OW_as rfl ?_
          refine OW_nil ?_
          try simp only [Ex.thnH, Ex.inBlockH, ↓reduceIte, Nat.reduceEqDiff]
          refine hK11 _ _ ?_; try clear hK11 K11
          refine CW_seq (fun K12 hK12 => ?_)
          refine CW_region ?_
          refine OW_mv rfl ?_
          refine OW_mv rfl ?_
          (first | refine OW_split (d := 17) rfl (fun g17 => ?_) (fun g17 => ?_) | skip)
          all_goals try (exfalso; exact cnA g17)
          all_goals (try simp only [decide_eq_true_eq, decide_eq_false_iff_not, Bool.not_eq_true, Bool.not_eq_false, Bool.and_eq_true, Bool.or_eq_true, Bool.or_eq_false_iff, Bool.not_eq_true, Bool.not_eq_eq_eq_not, Bool.not_true, Bool.not_false] at g17)
          all_goals
            try simp only [eX, ↓reduceIte, Nat.reduceEqDiff, Int.reduceToNat]
            first
            | refine OW_guardT rfl (lt_some (by decide)) rfl (fun K hK r => ?_)
              simp only [x_move, eX, ↓reduceIte, Nat.reduceEqDiff, Int.reduceToNat]
              refine hK _ _ ?_; clear hK K
            | refine OW_guardF rfl (lt_some (by decide)) rfl ?_
              simp only [eX, ↓reduceIte, Nat.reduceEqDiff, Int.reduceToNat]
            first
            | refine OW_guardT rfl (lt_some (by decide)) rfl (fun K hK r => ?_)
              simp (disch := (first | omega | decide)) only [x_bin, g_int, b_neq, dec_lt_t, dec_lt_f, dec_le_t, dec_le_f, dec_eq_t, dec_eq_f, Bool.not_true, Bool.not_false, eX, ↓reduceIte, Nat.reduceEqDiff, Int.reduceToNat]
              refine hK _ _ ?_; clear hK K
            | refine OW_guardF rfl (lt_some (by decide)) rfl ?_
              simp only [eX, ↓reduceIte, Nat.reduceEqDiff, Int.reduceToNat]
            refine OW_opS (fun K hK r => ?_)
            simp only [x_pick, l_asBool, HL.ite_bool, if_true, if_false, Bool.false_eq_true, eX, ↓reduceIte, Nat.reduceEqDiff, Int.reduceToNat]
            refine hK _ _ ?_; clear hK K
            refine OW_nil ?_
            try simp only [Ex.thnH, Ex.inBlockH, ↓reduceIte, Nat.reduceEqDiff]
            refine hK12 _ _ ?_; try clear hK12 K12
            refine CW_cond (fun r => rfl) (fun c20 => ?_) (fun c20 => ?_)
            · first
              | (exfalso; exact cnA c20; done)
              | skip
                (try simp only [decide_eq_true_eq, decide_eq_false_iff_not, Bool.not_eq_true, Bool.not_eq_false, Bool.and_eq_true, Bool.or_eq_true, Bool.or_eq_false_iff, Bool.not_eq_true, Bool.not_eq_eq_eq_not, Bool.not_true, Bool.not_false] at c20)
                refine CW_seq (fun K13 hK13 => ?_)
                refine CW_region ?_
                refine OW_mv rfl ?_
                refine OW_as rfl ?_
                refine OW_nil ?_
                try simp only [Ex.thnH, Ex.inBlockH, ↓reduceIte, Nat.reduceEqDiff]
                refine hK13 _ _ ?_; try clear hK13 K13
                refine CW_ret ?_
                try simp only [Ex.thnH, Ex.inBlockH, ↓reduceIte, Nat.reduceEqDiff]
                exact ⟨[_], ⟨rfl, trivial⟩, _, Le.refl _, rfl, rfl⟩
            · first
              | (exfalso; exact cnA c20; done)
              | skip
                (try simp only [decide_eq_true_eq, decide_eq_false_iff_not, Bool.not_eq_true, Bool.not_eq_false, Bool.and_eq_true, Bool.or_eq_true, Bool.or_eq_false_iff, Bool.not_eq_true, Bool.not_eq_eq_eq_not, Bool.not_true, Bool.not_false] at c20)
                refine CW_skip ?_
                try simp only [Ex.thnH, Ex.inBlockH, ↓reduceIte, Nat.reduceEqDiff]
                refine hK10 _ _ ?_; try clear hK10 K10
                refine CW_seq (fun K14 hK14 => ?_)
                refine CW_region ?_
                refine OW_mv rfl ?_
                refine OW_opS (fun K hK r => ?_)
                simp only [x_typeAssert, eX, ↓reduceIte, Nat.reduceEqDiff, Int.reduceToNat]
                first | rw [t_same _ _ _ Try.underlying121 (by simp)] | rw [t_other _ _ _ _ Try.underlying121 (by simp) (by decide) _ _ zr121] | rw [t_nil _ _ _ Try.underlying121 (by simp) _ zr121]
                try simp only [if_true, Bool.false_eq_true, if_false]
                try simp only [eX, ↓reduceIte, Nat.reduceEqDiff, Int.reduceToNat]
                refine hK _ _ ?_; clear hK K
                refine OW_mv rfl ?_
                refine OW_opS (fun K hK r => ?_)
                simp only [x_extract, i_extract, List.getElem?_toArray, List.getElem?_cons_zero, List.getElem?_cons_succ, orF_some, eX, ↓reduceIte, Nat.reduceEqDiff, Int.reduceToNat]
                refine hK _ _ ?_; clear hK K
                refine OW_opS (fun K hK r => ?_)
                simp only [x_extract, i_extract, List.getElem?_toArray, List.getElem?_cons_zero, List.getElem?_cons_succ, orF_some, eX, ↓reduceIte, Nat.reduceEqDiff, Int.reduceToNat]
                refine hK _ _ ?_; clear hK K
                refine OW_as rfl ?_
                refine OW_as rfl ?_
                refine OW_nil ?_
                try simp only [Ex.thnH, Ex.inBlockH, ↓reduceIte, Nat.reduceEqDiff]
                refine hK14 _ _ ?_; try clear hK14 K14
                refine CW_seq (fun K15 hK15 => ?_)
                refine CW_seq (fun K16 hK16 => ?_)
                refine CW_region ?_
                refine OW_mv rfl ?_
                refine OW_opS (fun K hK r => ?_)
                simp only [x_un, u_not, eX, ↓reduceIte, Nat.reduceEqDiff, Int.reduceToNat]
                refine hK _ _ ?_; clear hK K
                refine OW_mv rfl ?_
                (first | refine OW_split (d := 29) rfl (fun g29 => ?_) (fun g29 => ?_) | skip)
                all_goals try (exfalso; exact cnA g29)
                all_goals (try simp only [decide_eq_true_eq, decide_eq_false_iff_not, Bool.not_eq_true, Bool.not_eq_false, Bool.and_eq_true, Bool.or_eq_true, Bool.or_eq_false_iff, Bool.not_eq_true, Bool.not_eq_eq_eq_not, Bool.not_true, Bool.not_false] at g29)
                all_goals
                  try simp only [eX, ↓reduceIte, Nat.reduceEqDiff, Int.reduceToNat]
                  first
                  | refine OW_guardT rfl (lt_some (by decide)) rfl (fun K hK r => ?_)
                    simp only [x_move, eX, ↓reduceIte, Nat.reduceEqDiff, Int.reduceToNat]
                    refine hK _ _ ?_; clear hK K
                  | refine OW_guardF rfl (lt_some (by decide)) rfl ?_
                    simp only [eX, ↓reduceIte, Nat.reduceEqDiff, Int.reduceToNat]
                  first
                  | refine OW_guardT rfl (lt_some (by decide)) rfl (fun K hK r => ?_)
                    simp only [x_bin, g_int, g_bool, g_string, g_pointer, g_slice, g_map, g_func, g_nilFunc, g_iface, g_nil_iface, g_nil_r, g_nil_l, eX, ↓reduceIte, Nat.reduceEqDiff, Int.reduceToNat]
                    rw [e_eql _ _ _ _ (by simp)]
                    rw [q_equal]
                    first | rw [q_ptr_nil _ _ _ Try.underlying121] | rw [q_nil_ptr _ _ _ Try.underlying121]
                    try simp only [eX, ↓reduceIte, Nat.reduceEqDiff, Int.reduceToNat]
                    refine hK _ _ ?_; clear hK K
                  | refine OW_guardF rfl (lt_some (by decide)) rfl ?_
                    simp only [eX, ↓reduceIte, Nat.reduceEqDiff, Int.reduceToNat]
                  refine OW_opS (fun K hK r => ?_)
                  simp only [x_pick, l_asBool, HL.ite_bool, if_true, if_false, Bool.false_eq_true, eX, ↓reduceIte, Nat.reduceEqDiff, Int.reduceToNat]
                  refine hK _ _ ?_; clear hK K
                  refine OW_mv rfl ?_
                  (first | refine OW_split (d := 33) rfl (fun g33 => ?_) (fun g33 => ?_) | skip)
                  all_goals try (exfalso; exact cnA g33)
                  all_goals (try simp only [decide_eq_true_eq, decide_eq_false_iff_not, Bool.not_eq_true, Bool.not_eq_false, Bool.and_eq_true, Bool.or_eq_true, Bool.or_eq_false_iff, Bool.not_eq_true, Bool.not_eq_eq_eq_not, Bool.not_true, Bool.not_false] at g33)
                  all_goals
                    try simp only [eX, ↓reduceIte, Nat.reduceEqDiff, Int.reduceToNat]
                    first
                    | refine OW_guardT rfl (lt_some (by decide)) rfl (fun K hK r => ?_)
                      simp only [x_move, eX, ↓reduceIte, Nat.reduceEqDiff, Int.reduceToNat]
                      refine hK _ _ ?_; clear hK K
                    | refine OW_guardF rfl (lt_some (by decide)) rfl ?_
                      simp only [eX, ↓reduceIte, Nat.reduceEqDiff, Int.reduceToNat]
                    first
                    | refine OW_guardT rfl (lt_some (by decide)) rfl (fun K hK r => ?_)
                      rw [x_nilCheck _ _ rfl]
                      simp only [eX, ↓reduceIte, Nat.reduceEqDiff, Int.reduceToNat]
                      refine hK _ _ ?_; clear hK K
                    | refine OW_guardF rfl (lt_some (by decide)) rfl ?_
                      simp only [eX, ↓reduceIte, Nat.reduceEqDiff, Int.reduceToNat]
                    first
                    | refine OW_guardT rfl (lt_some (by decide)) rfl (fun K hK r => ?_)
                      simp only [x_fieldAddr, fa124_1, add_mk, Nat.reduceAdd, Nat.zero_add, eX, ↓reduceIte, Nat.reduceEqDiff, Int.reduceToNat]
                      refine hK _ _ ?_; clear hK K
                    | refine OW_guardF rfl (lt_some (by decide)) rfl ?_
                      simp only [eX, ↓reduceIte, Nat.reduceEqDiff, Int.reduceToNat]
                    first
                    | refine OW_guardT rfl (lt_some (by decide)) rfl (fun K hK r => ?_)
                      simp only [x_load, eX, ↓reduceIte, Nat.reduceEqDiff, Int.reduceToNat]
                      refine Lt_loadAt1 Try.underlying32 rfl hbA ldA ?_
                      try simp only [eX, ↓reduceIte, Nat.reduceEqDiff, Int.reduceToNat]
                      refine hK _ _ ?_; clear hK K
                    | refine OW_guardF rfl (lt_some (by decide)) rfl ?_
                      simp only [eX, ↓reduceIte, Nat.reduceEqDiff, Int.reduceToNat]
                    first
                    | refine OW_guardT rfl (lt_some (by decide)) rfl (fun K hK r => ?_)
                      simp only [x_bin, g_int, g_bool, g_string, g_pointer, g_slice, g_map, g_func, g_nilFunc, g_err, g_iface, g_nil_iface, g_nil_r, g_nil_l, eX, ↓reduceIte, Nat.reduceEqDiff, Int.reduceToNat]
                      first | rw [b_err_eql _ _ Try.underlying32] | (rw [e_eql _ _ _ _ (by simp), q_equal]; first | rw [q_iface_nil _ _ _ Try.underlying32] | rw [q_nil_iface _ _ _ Try.underlying32] | rw [q_nil_nil _ _ _ Try.underlying32])
                      try simp only [eX, ↓reduceIte, Nat.reduceEqDiff, Int.reduceToNat]
                      refine hK _ _ ?_; clear hK K
                    | refine OW_guardF rfl (lt_some (by decide)) rfl ?_
                      simp only [eX, ↓reduceIte, Nat.reduceEqDiff, Int.reduceToNat]
                    refine OW_opS (fun K hK r => ?_)
                    simp only [x_pick, l_asBool, HL.ite_bool, if_true, if_false, Bool.false_eq_true, eX, ↓reduceIte, Nat.reduceEqDiff, Int.reduceToNat]
                    refine hK _ _ ?_; clear hK K
                    refine OW_nil ?_
                    try simp only [Ex.thnH, Ex.inBlockH, ↓reduceIte, Nat.reduceEqDiff]
                    refine hK16 _ _ ?_; try clear hK16 K16
                    refine CW_cond (fun r => rfl) (fun c39 => ?_) (fun c39 => ?_)
                    · first
                      | (exfalso; exact cnA c39; done)
                      | skip
                        (try simp only [decide_eq_true_eq, decide_eq_false_iff_not, Bool.not_eq_true, Bool.not_eq_false, Bool.and_eq_true, Bool.or_eq_true, Bool.or_eq_false_iff, Bool.not_eq_true, Bool.not_eq_eq_eq_not, Bool.not_true, Bool.not_false] at c39)
                        refine CW_seq (fun K17 hK17 => ?_)
                        refine CW_region ?_
                        refine OW_as rfl ?_
                        refine OW_nil ?_
                        try simp only [Ex.thnH, Ex.inBlockH, ↓reduceIte, Nat.reduceEqDiff]
                        refine hK17 _ _ ?_; try clear hK17 K17
                        refine CW_ret ?_
                        try simp only [Ex.thnH, Ex.inBlockH, ↓reduceIte, Nat.reduceEqDiff]
                        exact ⟨[_], ⟨rfl, trivial⟩, _, Le.refl _, rfl, rfl⟩
                    · first
                      | (exfalso; exact cnA c39; done)
                      | skip
                        (try simp only [decide_eq_true_eq, decide_eq_false_iff_not, Bool.not_eq_true, Bool.not_eq_false, Bool.and_eq_true, Bool.or_eq_true, Bool.or_eq_false_iff, Bool.not_eq_true, Bool.not_eq_eq_eq_not, Bool.not_true, Bool.not_false] at c39)
                        refine CW_skip ?_
                        try simp only [Ex.thnH, Ex.inBlockH, ↓reduceIte, Nat.reduceEqDiff]
                        refine hK15 _ _ ?_; try clear hK15 K15
                        refine CW_region ?_
                        refine OW_mv rfl ?_
                        refine OW_opS (fun K hK r => ?_)
                        rw [x_nilCheck _ _ rfl]
                        simp only [eX, ↓reduceIte, Nat.reduceEqDiff, Int.reduceToNat]
                        refine hK _ _ ?_; clear hK K
                        refine OW_opS (fun K hK r => ?_)
                        simp only [x_fieldAddr, fa124_1, add_mk, Nat.reduceAdd, Nat.zero_add, eX, ↓reduceIte, Nat.reduceEqDiff, Int.reduceToNat]
                        refine hK _ _ ?_; clear hK K
                        refine OW_opS (fun K hK r => ?_)
                        simp only [x_load, eX, ↓reduceIte, Nat.reduceEqDiff, Int.reduceToNat]
                        refine Lt_loadAt1 Try.underlying32 rfl hbA ldA ?_
                        try simp only [eX, ↓reduceIte, Nat.reduceEqDiff, Int.reduceToNat]
                        refine hK _ _ ?_; clear hK K
                        refine OW_as rfl ?_
                        refine OW_nil ?_
                        try simp only [Ex.thnH, Ex.inBlockH, ↓reduceIte, Nat.reduceEqDiff]
                        refine hK6 _ _ ?_; try clear hK6 K6
                        refine CW_region ?_
                        refine OW_opS (fun K hK r => ?_)
                        simp (disch := (first | omega | decide)) only [x_bin, g_int, b_add, wrap_i64, wrap_u64, wrap_u32, wrap_u8, eX, ↓reduceIte, Nat.reduceEqDiff, Int.reduceToNat]
                        refine hK _ _ ?_; clear hK K
                        refine OW_mv rfl ?_
                        refine OW_nil ?_
                        try simp only [Ex.thnH, Ex.inBlockH, ↓reduceIte, Nat.reduceEqDiff]
                        exact absurd rfl (by assumption)
  · first
    | (exfalso; exact cnA c8; done)
    | skip
      (try simp only [decide_eq_true_eq, decide_eq_false_iff_not, Bool.not_eq_true, Bool.not_eq_false, Bool.and_eq_true, Bool.or_eq_true, Bool.or_eq_false_iff, Bool.not_eq_true, Bool.not_eq_eq_eq_not, Bool.not_true, Bool.not_false] at c8)
      refine CW_exit ?_
      try simp only [Ex.thnH, Ex.inBlockH, ↓reduceIte, Nat.reduceEqDiff]
      refine hK2 _ _ ?_; try clear hK2 K2
      refine CW_seq (fun K18 hK18 => ?_)
      refine CW_region ?_
      refine OW_as rfl ?_
      refine OW_nil ?_
      try simp only [Ex.thnH, Ex.inBlockH, ↓reduceIte, Nat.reduceEqDiff]
      refine hK18 _ _ ?_; try clear hK18 K18
      refine CW_ret ?_
      try simp only [Ex.thnH, Ex.inBlockH, ↓reduceIte, Nat.reduceEqDiff]
      exact ⟨[_], ⟨rfl, trivial⟩, _, Le.refl _, rfl, rfl⟩


abbrev errV : Option Int → Value := errVT 38
def errOk (o : Option Int) : Prop := ∀ k, o = some k → k ≠ 0 ∧ -9223372036854775808 ≤ k ∧ k ≤ 9223372036854775807
theorem num_Num (H : Hp) (o : Option Int) (h : errOk o) : CallH Try.prog 21 #[errV o] H (fun v H' => v = .int .i64 (o.getD 0) ∧ H' = H) := by
  cases o with
  | none => exact num_Num_nil H
  | some k => obtain ⟨h1, h2, h3⟩ := h k rfl; exact num_Num_errno H k h1 h2 h3

set_option maxRecDepth 100000 in
set_option maxHeartbeats 1000000 in
theorem num_Is (H : Hp) (o : Option Int) (h : errOk o) (k : Int) (h1 : -9223372036854775808 ≤ k) (h2 : k ≤ 9223372036854775807) : CallH Try.prog 14 #[errV o, .int .i64 k] H (fun v H' => v = .bool (decide (o.getD 0 = k)) ∧ H' = H) := by
  refine CallH_enter (l := [_, _]) (rl := [.tmp 4]) (n := 9) Try.func14 rfl rfl rfl rfl rfl ?_
  simp only [envOf, Nat.reduceAdd]
  refine CW_seq (fun K1 hK1 => ?_)
  refine CW_region ?_
  refine OW_as rfl ?_
  refine OW_nil ?_
  try simp only [Ex.thnH, Ex.inBlockH, ↓reduceIte, Nat.reduceEqDiff]
  refine hK1 _ _ ?_; try clear hK1 K1
  refine CW_seq (fun K2 hK2 => ?_)
  refine CW_region ?_
  refine OW_mv rfl ?_
  refine OW_opS (fun K hK r => ?_)
  simp only [x_callF _ bd21, List.map_toArray, List.map_cons, List.map_nil, eX, ↓reduceIte, Nat.reduceEqDiff, Int.reduceToNat]
  refine (num_Num _ o h).mono ?_
  rintro v H' ⟨rfl, rfl⟩
  try simp only [eX, ↓reduceIte, Nat.reduceEqDiff, Int.reduceToNat]
  refine hK _ _ ?_; clear hK K
  refine OW_mv rfl ?_
  refine OW_opS (fun K hK r => ?_)
  simp (disch := (first | omega | decide)) only [x_bin, g_int, b_eql, dec_lt_t, dec_lt_f, dec_le_t, dec_le_f, dec_eq_t, dec_eq_f, Bool.not_true, Bool.not_false, eX, ↓reduceIte, Nat.reduceEqDiff, Int.reduceToNat]
  refine hK _ _ ?_; clear hK K
  refine OW_as rfl ?_
  refine OW_nil ?_
  try simp only [Ex.thnH, Ex.inBlockH, ↓reduceIte, Nat.reduceEqDiff]
  refine hK2 _ _ ?_; try clear hK2 K2
  refine CW_ret ?_
  try simp only [Ex.thnH, Ex.inBlockH, ↓reduceIte, Nat.reduceEqDiff]
  exact ⟨[_], ⟨rfl, trivial⟩, _, Le.refl _, rfl, rfl⟩


/-- a device, its map, its writes that wait; nothing else -/
def DvX (F : Hp) (b : Nat) (d : Dv) : Prop := ∃ m es c wv wrs, F b = some (.cells #[.int .i64 d.size, .map (some m), wv] 119) ∧ F m = some (.map es c) ∧ MapS es d.sure ∧ OwnS F 130 65 wv d.wait.length (wts d.wait) wrs ∧ ∀ x, F x ≠ none → x = b ∨ x = m ∨ wrs = some x
abbrev ptrV (b : Nat) : Value := .pointer (some ⟨b, 0, none⟩)
structure SX (F : Hp) (p : Nat) (s : St) (r cap : Nat) (bs : List Nat) (Fs : Nat → Hp) : Prop where
  hd : F p = some (.cells #[.int .i64 s.steps, .int .i64 s.left, .bool s.armed, .bool s.gone, .slice (some ⟨r, 0, none⟩) s.dv.length cap] 114)
  len : bs.length = s.dv.length
  own : OwnS F 115 1 (.slice (some ⟨r, 0, none⟩) s.dv.length cap) s.dv.length (bs.map ptrV) (some r)
  dev : ∀ i, i < s.dv.length → DvX (Fs i) (bs.getD i 0) (s.dv.getD i default)
  le : ∀ i, i < s.dv.length → Le (Fs i) F
  fp : ∀ i, i < s.dv.length → Fs i p = none ∧ Fs i r = none
  sep : ∀ i j, i < s.dv.length → j < s.dv.length → i ≠ j → ∀ x, Fs i x ≠ none → Fs j x = none
def SetX (F : Hp) (p : Nat) (s : St) : Prop := ∃ r cap bs Fs, SX F p s r cap bs Fs
def devV (s : St) (bs : List Nat) (dev : Int) : Value := if 0 ≤ dev ∧ dev < s.dv.length then ptrV (bs.getD dev.toNat 0) else .pointer none
theorem ptr_at {bs : List Nat} {c : Array Value} {o n : Nat} (h : ∀ j, j < n * 1 → c[o + j]? = (bs.map ptrV)[j]?) (hn : n = bs.length) (k : Nat) (hk : k < bs.length) : c[o + k]? = some (ptrV (bs.getD k 0)) := by
  rw [h k (by omega), List.getElem?_map, List.getElem?_eq_getElem hk]
  simp [List.getD_eq_getElem?_getD, List.getElem?_eq_getElem hk]
theorem SX.at {F : Hp} {p : Nat} {s : St} {r cap : Nat} {bs : List Nat} {Fs : Nat → Hp} (h : SX F p s r cap bs Fs) {k : Nat} (hk : k < s.dv.length) : ∃ c T f, F r = some (.cells c T f) ∧ c[k]? = some (ptrV (bs.getD k 0)) ∧ k < c.size := by
  obtain ⟨b, o, c, T, f, e, h1, h2, h3⟩ := h.own.holds.at (by omega)
  cases e
  refine ⟨c, T, f, h1, ?_, by omega⟩
  have := ptr_at h3 (by rw [h.len]) k (by rw [h.len]; exact hk)
  rwa [Nat.zero_add] at this
theorem DvX.blk {F : Hp} {b : Nat} {d : Dv} (h : DvX F b d) : ∃ m wv, F b = some (.cells #[.int .i64 d.size, .map (some m), wv] 119) := by
  obtain ⟨m, _, _, wv, _, h1, _⟩ := h; exact ⟨m, wv, h1⟩

set_option maxRecDepth 100000 in
set_option maxHeartbeats 1000000 in
theorem device_ok (H : Hp) (p : Nat) (s : St) (rd cap : Nat) (bs : List Nat) (Fs : Nat → Hp) (h : SX H p s rd cap bs Fs) (dev : Int) (hl : s.dv.length ≤ 1000) : CallH Try.prog 55 #[(.pointer (some ⟨p, 0, none⟩)), .int .i64 dev] H (fun v H' => v = devV s bs dev ∧ H' = H) := by
  refine CallH_enter (l := [_, _]) (rl := [.tmp 4]) (n := 27) Try.func55 rfl rfl rfl rfl rfl ?_
  simp only [envOf, Nat.reduceAdd]
  have hhd := h.hd
  refine CW_seq (fun K1 hK1 => ?_)
  refine CW_region ?_
  refine OW_as rfl ?_
  refine OW_nil ?_
  try simp only [Ex.thnH, Ex.inBlockH, ↓reduceIte, Nat.reduceEqDiff]
  refine hK1 _ _ ?_; try clear hK1 K1
  refine CW_seq (fun K2 hK2 => ?_)
  refine CW_seq (fun K3 hK3 => ?_)
  refine CW_region ?_
  refine OW_mv rfl ?_
  refine OW_opS (fun K hK r => ?_)
  simp only [x_bin, g_int, g_bool, g_string, g_pointer, g_slice, g_map, g_func, g_nilFunc, g_iface, g_nil_iface, g_nil_r, g_nil_l, eX, ↓reduceIte, Nat.reduceEqDiff, Int.reduceToNat]
  rw [e_eql _ _ _ _ (by simp)]
  rw [q_equal]
  first | rw [q_ptr_nil _ _ _ Try.underlying47] | rw [q_nil_ptr _ _ _ Try.underlying47]
  try simp only [eX, ↓reduceIte, Nat.reduceEqDiff, Int.reduceToNat]
  refine hK _ _ ?_; clear hK K
  refine OW_mv rfl ?_
  (first | refine OW_split (d := 7) rfl (fun g7 => ?_) (fun g7 => ?_) | skip)
  all_goals try (exfalso; exact cnA g7)
  all_goals (try simp only [decide_eq_true_eq, decide_eq_false_iff_not, Bool.not_eq_true, Bool.not_eq_false, Bool.and_eq_true, Bool.or_eq_true, Bool.or_eq_false_iff, Bool.not_eq_true, Bool.not_eq_eq_eq_not, Bool.not_true, Bool.not_false] at g7)
  all_goals
    try simp only [eX, ↓reduceIte, Nat.reduceEqDiff, Int.reduceToNat]
    first
    | refine OW_guardT rfl (lt_some (by decide)) rfl (fun K hK r => ?_)
      simp only [x_move, eX, ↓reduceIte, Nat.reduceEqDiff, Int.reduceToNat]
      refine hK _ _ ?_; clear hK K
    | refine OW_guardF rfl (lt_some (by decide)) rfl ?_
      simp only [eX, ↓reduceIte, Nat.reduceEqDiff, Int.reduceToNat]
    first
    | refine OW_guardT rfl (lt_some (by decide)) rfl (fun K hK r => ?_)
      simp (disch := (first | omega | decide)) only [x_bin, g_int, b_lss, dec_lt_t, dec_lt_f, dec_le_t, dec_le_f, dec_eq_t, dec_eq_f, Bool.not_true, Bool.not_false, eX, ↓reduceIte, Nat.reduceEqDiff, Int.reduceToNat]
      refine hK _ _ ?_; clear hK K
    | refine OW_guardF rfl (lt_some (by decide)) rfl ?_
      simp only [eX, ↓reduceIte, Nat.reduceEqDiff, Int.reduceToNat]
    refine OW_opS (fun K hK r => ?_)
    simp only [x_pick, l_asBool, HL.ite_bool, if_true, if_false, Bool.false_eq_true, eX, ↓reduceIte, Nat.reduceEqDiff, Int.reduceToNat]
    refine hK _ _ ?_; clear hK K
    refine OW_mv rfl ?_
    (first | refine OW_split (d := 11) rfl (fun g11 => ?_) (fun g11 => ?_) | skip)
    all_goals try (exfalso; exact cnA g11)
    all_goals (try simp only [decide_eq_true_eq, decide_eq_false_iff_not, Bool.not_eq_true, Bool.not_eq_false, Bool.and_eq_true, Bool.or_eq_true, Bool.or_eq_false_iff, Bool.not_eq_true, Bool.not_eq_eq_eq_not, Bool.not_true, Bool.not_false] at g11)
    all_goals
      try simp only [eX, ↓reduceIte, Nat.reduceEqDiff, Int.reduceToNat]
      first
      | refine OW_guardT rfl (lt_some (by decide)) rfl (fun K hK r => ?_)
        simp only [x_move, eX, ↓reduceIte, Nat.reduceEqDiff, Int.reduceToNat]
        refine hK _ _ ?_; clear hK K
      | refine OW_guardF rfl (lt_some (by decide)) rfl ?_
        simp only [eX, ↓reduceIte, Nat.reduceEqDiff, Int.reduceToNat]
      first
      | refine OW_guardT rfl (lt_some (by decide)) rfl (fun K hK r => ?_)
        simp only [x_move, eX, ↓reduceIte, Nat.reduceEqDiff, Int.reduceToNat]
        refine hK _ _ ?_; clear hK K
      | refine OW_guardF rfl (lt_some (by decide)) rfl ?_
        simp only [eX, ↓reduceIte, Nat.reduceEqDiff, Int.reduceToNat]
      first
      | refine OW_guardT rfl (lt_some (by decide)) rfl (fun K hK r => ?_)
        rw [x_nilCheck _ _ rfl]
        simp only [eX, ↓reduceIte, Nat.reduceEqDiff, Int.reduceToNat]
        refine hK _ _ ?_; clear hK K
      | refine OW_guardF rfl (lt_some (by decide)) rfl ?_
        simp only [eX, ↓reduceIte, Nat.reduceEqDiff, Int.reduceToNat]
      first
      | refine OW_guardT rfl (lt_some (by decide)) rfl (fun K hK r => ?_)
        simp only [x_fieldAddr, fa114_1, add_mk, Nat.reduceAdd, Nat.zero_add, eX, ↓reduceIte, Nat.reduceEqDiff, Int.reduceToNat]
        refine hK _ _ ?_; clear hK K
      | refine OW_guardF rfl (lt_some (by decide)) rfl ?_
        simp only [eX, ↓reduceIte, Nat.reduceEqDiff, Int.reduceToNat]
      first
      | refine OW_guardT rfl (lt_some (by decide)) rfl (fun K hK r => ?_)
        simp only [x_load, eX, ↓reduceIte, Nat.reduceEqDiff, Int.reduceToNat]
        refine Lt_loadAt1 Try.underlying112 rfl hbA ldA ?_
        try simp only [eX, ↓reduceIte, Nat.reduceEqDiff, Int.reduceToNat]
        refine hK _ _ ?_; clear hK K
      | refine OW_guardF rfl (lt_some (by decide)) rfl ?_
        simp only [eX, ↓reduceIte, Nat.reduceEqDiff, Int.reduceToNat]
      first
      | refine OW_guardT rfl (lt_some (by decide)) rfl (fun K hK r => ?_)
        simp only [x_builtin, l_len, List.map_toArray, List.map_cons, List.map_nil, i_len_slice _ _ Try.underlying112, eX, ↓reduceIte, Nat.reduceEqDiff, Int.reduceToNat]
        refine hK _ _ ?_; clear hK K
      | refine OW_guardF rfl (lt_some (by decide)) rfl ?_
        simp only [eX, ↓reduceIte, Nat.reduceEqDiff, Int.reduceToNat]
      first
      | refine OW_guardT rfl (lt_some (by decide)) rfl (fun K hK r => ?_)
        simp (disch := (first | omega | decide)) only [x_bin, g_int, b_geq, dec_lt_t, dec_lt_f, dec_le_t, dec_le_f, dec_eq_t, dec_eq_f, Bool.not_true, Bool.not_false, eX, ↓reduceIte, Nat.reduceEqDiff, Int.reduceToNat]
        refine hK _ _ ?_; clear hK K
      | refine OW_guardF rfl (lt_some (by decide)) rfl ?_
        simp only [eX, ↓reduceIte, Nat.reduceEqDiff, Int.reduceToNat]
      refine OW_opS (fun K hK r => ?_)
      simp only [x_pick, l_asBool, HL.ite_bool, if_true, if_false, Bool.false_eq_true, eX, ↓reduceIte, Nat.reduceEqDiff, Int.reduceToNat]
      refine hK _ _ ?_; clear hK K
      refine OW_nil ?_
      try simp only [Ex.thnH, Ex.inBlockH, ↓reduceIte, Nat.reduceEqDiff]
      refine hK3 _ _ ?_; try clear hK3 K3
      refine CW_cond (fun r => rfl) (fun c19 => ?_) (fun c19 => ?_)
      · first
        | (exfalso; exact cnA c19; done)
        | skip
          (try simp only [decide_eq_true_eq, decide_eq_false_iff_not, Bool.not_eq_true, Bool.not_eq_false, Bool.and_eq_true, Bool.or_eq_true, Bool.or_eq_false_iff, Bool.not_eq_true, Bool.not_eq_eq_eq_not, Bool.not_true, Bool.not_false] at c19)
          refine CW_seq (fun K4 hK4 => ?_)
          refine CW_region ?_
          refine OW_as rfl ?_
          refine OW_nil ?_
          try simp only [Ex.thnH, Ex.inBlockH, ↓reduceIte, Nat.reduceEqDiff]
          refine hK4 _ _ ?_; try clear hK4 K4
          refine CW_ret ?_
          try simp only [Ex.thnH, Ex.inBlockH, ↓reduceIte, Nat.reduceEqDiff]
          refine ⟨[_], ⟨rfl, trivial⟩, _, Le.refl _, ?_, rfl⟩
          show Value.pointer _ = _
          unfold devV; rw [if_neg (by omega)]
      · first
        | (exfalso; exact cnA c19; done)
        | skip
          (try simp only [decide_eq_true_eq, decide_eq_false_iff_not, Bool.not_eq_true, Bool.not_eq_false, Bool.and_eq_true, Bool.or_eq_true, Bool.or_eq_false_iff, Bool.not_eq_true, Bool.not_eq_eq_eq_not, Bool.not_true, Bool.not_false] at c19)
          have hin : 0 ≤ dev ∧ dev < s.dv.length := by omega
          obtain ⟨cc, T, f, hr, hat, hlt⟩ := h.at (k := dev.toNat) (by omega)
          refine CW_skip ?_
          try simp only [Ex.thnH, Ex.inBlockH, ↓reduceIte, Nat.reduceEqDiff]
          refine hK2 _ _ ?_; try clear hK2 K2
          refine CW_seq (fun K5 hK5 => ?_)
          refine CW_region ?_
          refine OW_mv rfl ?_
          refine OW_opS (fun K hK r => ?_)
          rw [x_nilCheck _ _ rfl]
          simp only [eX, ↓reduceIte, Nat.reduceEqDiff, Int.reduceToNat]
          refine hK _ _ ?_; clear hK K
          refine OW_opS (fun K hK r => ?_)
          simp only [x_fieldAddr, fa114_1, add_mk, Nat.reduceAdd, Nat.zero_add, eX, ↓reduceIte, Nat.reduceEqDiff, Int.reduceToNat]
          refine hK _ _ ?_; clear hK K
          refine OW_opS (fun K hK r => ?_)
          simp only [x_load, eX, ↓reduceIte, Nat.reduceEqDiff, Int.reduceToNat]
          refine Lt_loadAt1 Try.underlying112 rfl hbA ldA ?_
          try simp only [eX, ↓reduceIte, Nat.reduceEqDiff, Int.reduceToNat]
          refine hK _ _ ?_; clear hK K
          refine OW_mv rfl ?_
          refine OW_opS (fun K hK r => ?_)
          simp only [x_indexAddr, eX, ↓reduceIte, Nat.reduceEqDiff, Int.reduceToNat]
          refine Lt_indexS Try.underlying112 sz115 ixA ixA ?_
          try simp only [add_mk, Nat.mul_one, Nat.zero_add, Int.reduceToNat]
          try simp only [eX, ↓reduceIte, Nat.reduceEqDiff, Int.reduceToNat]
          refine hK _ _ ?_; clear hK K
          refine OW_opS (fun K hK r => ?_)
          simp only [x_load, eX, ↓reduceIte, Nat.reduceEqDiff, Int.reduceToNat]
          refine Lt_loadAt1 Try.underlying115 rfl hbA hat ?_
          refine hK _ _ ?_; clear hK K
          refine OW_as rfl ?_
          refine OW_nil ?_
          try simp only [Ex.thnH, Ex.inBlockH, ↓reduceIte, Nat.reduceEqDiff]
          refine hK5 _ _ ?_; try clear hK5 K5
          refine CW_ret ?_
          try simp only [Ex.thnH, Ex.inBlockH, ↓reduceIte, Nat.reduceEqDiff]
          refine ⟨[_], ⟨rfl, trivial⟩, _, Le.refl _, ?_, rfl⟩
          show ptrV _ = _
          unfold devV; rw [if_pos hin]

set_option maxRecDepth 100000 in
set_option maxHeartbeats 1000000 in
theorem has_nil (H : Hp) (i : Int) : CallH Try.prog 56 #[.pointer none, .int .i64 i] H (fun v H' => v = .bool false ∧ H' = H) := by
  refine CallH_enter (l := [_, _]) (rl := [.tmp 4]) (n := 19) Try.func56 rfl rfl rfl rfl rfl ?_
  simp only [envOf, Nat.reduceAdd]
  refine CW_seq (fun K1 hK1 => ?_)
  refine CW_region ?_
  refine OW_as rfl ?_
  refine OW_nil ?_
  try simp only [Ex.thnH, Ex.inBlockH, ↓reduceIte, Nat.reduceEqDiff]
  refine hK1 _ _ ?_; try clear hK1 K1
  refine CW_seq (fun K2 hK2 => ?_)
  refine CW_region ?_
  refine OW_mv rfl ?_
  refine OW_opS (fun K hK r => ?_)
  simp only [x_bin, g_int, g_bool, g_string, g_pointer, g_slice, g_map, g_func, g_nilFunc, g_iface, g_nil_iface, g_nil_r, g_nil_l, eX, ↓reduceIte, Nat.reduceEqDiff, Int.reduceToNat]
  rw [e_neq _ _ _ _ (by simp)]
  rw [q_equal]
  first | rw [q_ptr_nil _ _ _ Try.underlying115] | rw [q_nil_ptr _ _ _ Try.underlying115]
  try simp only [eX, ↓reduceIte, Nat.reduceEqDiff, Int.reduceToNat]
  refine hK _ _ ?_; clear hK K
  refine OW_mv rfl ?_
  (first | refine OW_split (d := 7) rfl (fun g7 => ?_) (fun g7 => ?_) | skip)
  all_goals try (exfalso; exact cnA g7)
  all_goals (try simp only [decide_eq_true_eq, decide_eq_false_iff_not, Bool.not_eq_true, Bool.not_eq_false, Bool.and_eq_true, Bool.or_eq_true, Bool.or_eq_false_iff, Bool.not_eq_true, Bool.not_eq_eq_eq_not, Bool.not_true, Bool.not_false] at g7)
  all_goals
    try simp only [eX, ↓reduceIte, Nat.reduceEqDiff, Int.reduceToNat]
    first
    | refine OW_guardT rfl (lt_some (by decide)) rfl (fun K hK r => ?_)
      simp only [x_move, eX, ↓reduceIte, Nat.reduceEqDiff, Int.reduceToNat]
      refine hK _ _ ?_; clear hK K
    | refine OW_guardF rfl (lt_some (by decide)) rfl ?_
      simp only [eX, ↓reduceIte, Nat.reduceEqDiff, Int.reduceToNat]
    first
    | refine OW_guardT rfl (lt_some (by decide)) rfl (fun K hK r => ?_)
      simp (disch := (first | omega | decide)) only [x_bin, g_int, b_geq, dec_lt_t, dec_lt_f, dec_le_t, dec_le_f, dec_eq_t, dec_eq_f, Bool.not_true, Bool.not_false, eX, ↓reduceIte, Nat.reduceEqDiff, Int.reduceToNat]
      refine hK _ _ ?_; clear hK K
    | refine OW_guardF rfl (lt_some (by decide)) rfl ?_
      simp only [eX, ↓reduceIte, Nat.reduceEqDiff, Int.reduceToNat]
    refine OW_opS (fun K hK r => ?_)
    simp only [x_pick, l_asBool, HL.ite_bool, if_true, if_false, Bool.false_eq_true, eX, ↓reduceIte, Nat.reduceEqDiff, Int.reduceToNat]
    refine hK _ _ ?_; clear hK K
    refine OW_mv rfl ?_
    (first | refine OW_split (d := 11) rfl (fun g11 => ?_) (fun g11 => ?_) | skip)
    all_goals try (exfalso; exact cnA g11)
    all_goals (try simp only [decide_eq_true_eq, decide_eq_false_iff_not, Bool.not_eq_true, Bool.not_eq_false, Bool.and_eq_true, Bool.or_eq_true, Bool.or_eq_false_iff, Bool.not_eq_true, Bool.not_eq_eq_eq_not, Bool.not_true, Bool.not_false] at g11)
    all_goals
      try simp only [eX, ↓reduceIte, Nat.reduceEqDiff, Int.reduceToNat]
      first
      | refine OW_guardT rfl (lt_some (by decide)) rfl (fun K hK r => ?_)
        simp only [x_move, eX, ↓reduceIte, Nat.reduceEqDiff, Int.reduceToNat]
        refine hK _ _ ?_; clear hK K
      | refine OW_guardF rfl (lt_some (by decide)) rfl ?_
        simp only [eX, ↓reduceIte, Nat.reduceEqDiff, Int.reduceToNat]
      first
      | refine OW_guardT rfl (lt_some (by decide)) rfl (fun K hK r => ?_)
        simp only [x_move, eX, ↓reduceIte, Nat.reduceEqDiff, Int.reduceToNat]
        refine hK _ _ ?_; clear hK K
      | refine OW_guardF rfl (lt_some (by decide)) rfl ?_
        simp only [eX, ↓reduceIte, Nat.reduceEqDiff, Int.reduceToNat]
      first
      | refine OW_guardT rfl (lt_some (by decide)) rfl (fun K hK r => ?_)
        rw [x_nilCheck _ _ rfl]
        simp only [eX, ↓reduceIte, Nat.reduceEqDiff, Int.reduceToNat]
        refine hK _ _ ?_; clear hK K
      | refine OW_guardF rfl (lt_some (by decide)) rfl ?_
        simp only [eX, ↓reduceIte, Nat.reduceEqDiff, Int.reduceToNat]
      first
      | refine OW_guardT rfl (lt_some (by decide)) rfl (fun K hK r => ?_)
        simp only [x_fieldAddr, fa119_0, add_mk, Nat.reduceAdd, Nat.zero_add, eX, ↓reduceIte, Nat.reduceEqDiff, Int.reduceToNat]
        refine hK _ _ ?_; clear hK K
      | refine OW_guardF rfl (lt_some (by decide)) rfl ?_
        simp only [eX, ↓reduceIte, Nat.reduceEqDiff, Int.reduceToNat]
      first
      | refine OW_guardT rfl (lt_some (by decide)) rfl (fun K hK r => ?_)
        simp only [x_load, eX, ↓reduceIte, Nat.reduceEqDiff, Int.reduceToNat]
        refine Lt_loadAt1 Try.underlying3 rfl hbA ldA ?_
        try simp only [eX, ↓reduceIte, Nat.reduceEqDiff, Int.reduceToNat]
        refine hK _ _ ?_; clear hK K
      | refine OW_guardF rfl (lt_some (by decide)) rfl ?_
        simp only [eX, ↓reduceIte, Nat.reduceEqDiff, Int.reduceToNat]
      first
      | refine OW_guardT rfl (lt_some (by decide)) rfl (fun K hK r => ?_)
        simp (disch := (first | omega | decide)) only [x_bin, g_int, b_lss, dec_lt_t, dec_lt_f, dec_le_t, dec_le_f, dec_eq_t, dec_eq_f, Bool.not_true, Bool.not_false, eX, ↓reduceIte, Nat.reduceEqDiff, Int.reduceToNat]
        refine hK _ _ ?_; clear hK K
      | refine OW_guardF rfl (lt_some (by decide)) rfl ?_
        simp only [eX, ↓reduceIte, Nat.reduceEqDiff, Int.reduceToNat]
      refine OW_opS (fun K hK r => ?_)
      simp only [x_pick, l_asBool, HL.ite_bool, if_true, if_false, Bool.false_eq_true, eX, ↓reduceIte, Nat.reduceEqDiff, Int.reduceToNat]
      refine hK _ _ ?_; clear hK K
      refine OW_as rfl ?_
      refine OW_nil ?_
      try simp only [Ex.thnH, Ex.inBlockH, ↓reduceIte, Nat.reduceEqDiff]
      refine hK2 _ _ ?_; try clear hK2 K2
      refine CW_ret ?_
      try simp only [Ex.thnH, Ex.inBlockH, ↓reduceIte, Nat.reduceEqDiff]
      first | exact ⟨[_], ⟨rfl, trivial⟩, _, Le.refl _, rfl, rfl⟩ | (exfalso; simp_all; done)

set_option maxRecDepth 100000 in
set_option maxHeartbeats 1000000 in
theorem has_ok (H : Hp) (b : Nat) (size : Int) (x y : Value) (hb : H b = some (.cells #[.int .i64 size, x, y] 119)) (i : Int) : CallH Try.prog 56 #[ptrV b, .int .i64 i] H (fun v H' => v = .bool (decide (0 ≤ i ∧ i < size)) ∧ H' = H) := by
  refine CallH_enter (l := [_, _]) (rl := [.tmp 4]) (n := 19) Try.func56 rfl rfl rfl rfl rfl ?_
  simp only [envOf, Nat.reduceAdd]
  refine CW_seq (fun K1 hK1 => ?_)
  refine CW_region ?_
  refine OW_as rfl ?_
  refine OW_nil ?_
  try simp only [Ex.thnH, Ex.inBlockH, ↓reduceIte, Nat.reduceEqDiff]
  refine hK1 _ _ ?_; try clear hK1 K1
  refine CW_seq (fun K2 hK2 => ?_)
  refine CW_region ?_
  refine OW_mv rfl ?_
  refine OW_opS (fun K hK r => ?_)
  simp only [x_bin, g_int, g_bool, g_string, g_pointer, g_slice, g_map, g_func, g_nilFunc, g_iface, g_nil_iface, g_nil_r, g_nil_l, eX, ↓reduceIte, Nat.reduceEqDiff, Int.reduceToNat]
  rw [e_neq _ _ _ _ (by simp)]
  rw [q_equal]
  first | rw [q_ptr_nil _ _ _ Try.underlying115] | rw [q_nil_ptr _ _ _ Try.underlying115]
  try simp only [eX, ↓reduceIte, Nat.reduceEqDiff, Int.reduceToNat]
  refine hK _ _ ?_; clear hK K
  refine OW_mv rfl ?_
  (first | refine OW_split (d := 7) rfl (fun g7 => ?_) (fun g7 => ?_) | skip)
  all_goals try (exfalso; exact cnA g7)
  all_goals (try simp only [decide_eq_true_eq, decide_eq_false_iff_not, Bool.not_eq_true, Bool.not_eq_false, Bool.and_eq_true, Bool.or_eq_true, Bool.or_eq_false_iff, Bool.not_eq_true, Bool.not_eq_eq_eq_not, Bool.not_true, Bool.not_false] at g7)
  all_goals
    try simp only [eX, ↓reduceIte, Nat.reduceEqDiff, Int.reduceToNat]
    first
    | refine OW_guardT rfl (lt_some (by decide)) rfl (fun K hK r => ?_)
      simp only [x_move, eX, ↓reduceIte, Nat.reduceEqDiff, Int.reduceToNat]
      refine hK _ _ ?_; clear hK K
    | refine OW_guardF rfl (lt_some (by decide)) rfl ?_
      simp only [eX, ↓reduceIte, Nat.reduceEqDiff, Int.reduceToNat]
    first
    | refine OW_guardT rfl (lt_some (by decide)) rfl (fun K hK r => ?_)
      simp (disch := (first | omega | decide)) only [x_bin, g_int, b_geq, dec_lt_t, dec_lt_f, dec_le_t, dec_le_f, dec_eq_t, dec_eq_f, Bool.not_true, Bool.not_false, eX, ↓reduceIte, Nat.reduceEqDiff, Int.reduceToNat]
      refine hK _ _ ?_; clear hK K
    | refine OW_guardF rfl (lt_some (by decide)) rfl ?_
      simp only [eX, ↓reduceIte, Nat.reduceEqDiff, Int.reduceToNat]
    refine OW_opS (fun K hK r => ?_)
    simp only [x_pick, l_asBool, HL.ite_bool, if_true, if_false, Bool.false_eq_true, eX, ↓reduceIte, Nat.reduceEqDiff, Int.reduceToNat]
    refine hK _ _ ?_; clear hK K
    refine OW_mv rfl ?_
    (first | refine OW_split (d := 11) rfl (fun g11 => ?_) (fun g11 => ?_) | skip)
    all_goals try (exfalso; exact cnA g11)
    all_goals (try simp only [decide_eq_true_eq, decide_eq_false_iff_not, Bool.not_eq_true, Bool.not_eq_false, Bool.and_eq_true, Bool.or_eq_true, Bool.or_eq_false_iff, Bool.not_eq_true, Bool.not_eq_eq_eq_not, Bool.not_true, Bool.not_false] at g11)
    all_goals
      try simp only [eX, ↓reduceIte, Nat.reduceEqDiff, Int.reduceToNat]
      first
      | refine OW_guardT rfl (lt_some (by decide)) rfl (fun K hK r => ?_)
        simp only [x_move, eX, ↓reduceIte, Nat.reduceEqDiff, Int.reduceToNat]
        refine hK _ _ ?_; clear hK K
      | refine OW_guardF rfl (lt_some (by decide)) rfl ?_
        simp only [eX, ↓reduceIte, Nat.reduceEqDiff, Int.reduceToNat]
      first
      | refine OW_guardT rfl (lt_some (by decide)) rfl (fun K hK r => ?_)
        simp only [x_move, eX, ↓reduceIte, Nat.reduceEqDiff, Int.reduceToNat]
        refine hK _ _ ?_; clear hK K
      | refine OW_guardF rfl (lt_some (by decide)) rfl ?_
        simp only [eX, ↓reduceIte, Nat.reduceEqDiff, Int.reduceToNat]
      first
      | refine OW_guardT rfl (lt_some (by decide)) rfl (fun K hK r => ?_)
        rw [x_nilCheck _ _ rfl]
        simp only [eX, ↓reduceIte, Nat.reduceEqDiff, Int.reduceToNat]
        refine hK _ _ ?_; clear hK K
      | refine OW_guardF rfl (lt_some (by decide)) rfl ?_
        simp only [eX, ↓reduceIte, Nat.reduceEqDiff, Int.reduceToNat]
      first
      | refine OW_guardT rfl (lt_some (by decide)) rfl (fun K hK r => ?_)
        simp only [x_fieldAddr, fa119_0, add_mk, Nat.reduceAdd, Nat.zero_add, eX, ↓reduceIte, Nat.reduceEqDiff, Int.reduceToNat]
        refine hK _ _ ?_; clear hK K
      | refine OW_guardF rfl (lt_some (by decide)) rfl ?_
        simp only [eX, ↓reduceIte, Nat.reduceEqDiff, Int.reduceToNat]
      first
      | refine OW_guardT rfl (lt_some (by decide)) rfl (fun K hK r => ?_)
        simp only [x_load, eX, ↓reduceIte, Nat.reduceEqDiff, Int.reduceToNat]
        refine Lt_loadAt1 Try.underlying3 rfl hbA ldA ?_
        try simp only [eX, ↓reduceIte, Nat.reduceEqDiff, Int.reduceToNat]
        refine hK _ _ ?_; clear hK K
      | refine OW_guardF rfl (lt_some (by decide)) rfl ?_
        simp only [eX, ↓reduceIte, Nat.reduceEqDiff, Int.reduceToNat]
      first
      | refine OW_guardT rfl (lt_some (by decide)) rfl (fun K hK r => ?_)
        simp (disch := (first | omega | decide)) only [x_bin, g_int, b_lss, dec_lt_t, dec_lt_f, dec_le_t, dec_le_f, dec_eq_t, dec_eq_f, Bool.not_true, Bool.not_false, eX, ↓reduceIte, Nat.reduceEqDiff, Int.reduceToNat]
        refine hK _ _ ?_; clear hK K
      | refine OW_guardF rfl (lt_some (by decide)) rfl ?_
        simp only [eX, ↓reduceIte, Nat.reduceEqDiff, Int.reduceToNat]
      refine OW_opS (fun K hK r => ?_)
      simp only [x_pick, l_asBool, HL.ite_bool, if_true, if_false, Bool.false_eq_true, eX, ↓reduceIte, Nat.reduceEqDiff, Int.reduceToNat]
      refine hK _ _ ?_; clear hK K
      refine OW_as rfl ?_
      refine OW_nil ?_
      try simp only [Ex.thnH, Ex.inBlockH, ↓reduceIte, Nat.reduceEqDiff]
      refine hK2 _ _ ?_; try clear hK2 K2
      refine CW_ret ?_
      try simp only [Ex.thnH, Ex.inBlockH, ↓reduceIte, Nat.reduceEqDiff]
      refine ⟨[_], ⟨rfl, trivial⟩, _, Le.refl _, ?_, rfl⟩
      show Value.bool _ = _
      congr 1
      first | (rw [Bool.eq_iff_iff]; simp only [decide_eq_true_eq]; omega) | (exact (decide_eq_true (by omega)).symm) | (exact (decide_eq_false (by omega)).symm) | (simp_all; done)

set_option maxRecDepth 100000 in
set_option maxHeartbeats 1000000 in
theorem step_ok (H : Hp) (p : Nat) (s : St) (x : Value) (hp : H p = some (.cells #[.int .i64 s.steps, .int .i64 s.left, .bool s.armed, .bool s.gone, x] 114)) : CallH Try.prog 57 #[(.pointer (some ⟨p, 0, none⟩))] H (fun v H' => v = errV (if s.step.2 = true then none else some 3) ∧ H' = H.upd p (.cells #[.int .i64 s.step.1.steps, .int .i64 s.step.1.left, .bool s.step.1.armed, .bool s.step.1.gone, x] 114)) := by
  refine CallH_enter (l := [_]) (rl := [.tmp 2]) (n := 38) Try.func57 rfl rfl rfl rfl rfl ?_
  simp only [envOf, Nat.reduceAdd]
  refine CW_seq (fun K1 hK1 => ?_)
  refine CW_region ?_
  refine OW_as rfl ?_
  refine OW_nil ?_
  try simp only [Ex.thnH, Ex.inBlockH, ↓reduceIte, Nat.reduceEqDiff]
  refine hK1 _ _ ?_; try clear hK1 K1
  refine CW_seq (fun K2 hK2 => ?_)
  refine CW_seq (fun K3 hK3 => ?_)
  refine CW_region ?_
  refine OW_mv rfl ?_
  refine OW_opS (fun K hK r => ?_)
  rw [x_nilCheck _ _ rfl]
  simp only [eX, ↓reduceIte, Nat.reduceEqDiff, Int.reduceToNat]
  refine hK _ _ ?_; clear hK K
  refine OW_opS (fun K hK r => ?_)
  simp only [x_fieldAddr, fa111_3, add_mk, Nat.reduceAdd, Nat.zero_add, eX, ↓reduceIte, Nat.reduceEqDiff, Int.reduceToNat]
  refine hK _ _ ?_; clear hK K
  refine OW_opS (fun K hK r => ?_)
  simp only [x_load, eX, ↓reduceIte, Nat.reduceEqDiff, Int.reduceToNat]
  refine Lt_loadAt1 Try.underlying4 rfl hbA ldA ?_
  try simp only [eX, ↓reduceIte, Nat.reduceEqDiff, Int.reduceToNat]
  refine hK _ _ ?_; clear hK K
  refine OW_mv rfl ?_
  (first | refine OW_split (d := 7) rfl (fun g7 => ?_) (fun g7 => ?_) | skip)
  all_goals try (exfalso; exact cnA g7)
  all_goals (try simp only [decide_eq_true_eq, decide_eq_false_iff_not, Bool.not_eq_true, Bool.not_eq_false, Bool.and_eq_true, Bool.or_eq_true, Bool.or_eq_false_iff, Bool.not_eq_true, Bool.not_eq_eq_eq_not, Bool.not_true, Bool.not_false] at g7)
  all_goals
    try simp only [eX, ↓reduceIte, Nat.reduceEqDiff, Int.reduceToNat]
    first
    | refine OW_guardT rfl (lt_some (by decide)) rfl (fun K hK r => ?_)
      simp only [x_move, eX, ↓reduceIte, Nat.reduceEqDiff, Int.reduceToNat]
      refine hK _ _ ?_; clear hK K
    | refine OW_guardF rfl (lt_some (by decide)) rfl ?_
      simp only [eX, ↓reduceIte, Nat.reduceEqDiff, Int.reduceToNat]
    first
    | refine OW_guardT rfl (lt_some (by decide)) rfl (fun K hK r => ?_)
      rw [x_nilCheck _ _ rfl]
      simp only [eX, ↓reduceIte, Nat.reduceEqDiff, Int.reduceToNat]
      refine hK _ _ ?_; clear hK K
    | refine OW_guardF rfl (lt_some (by decide)) rfl ?_
      simp only [eX, ↓reduceIte, Nat.reduceEqDiff, Int.reduceToNat]
    first
    | refine OW_guardT rfl (lt_some (by decide)) rfl (fun K hK r => ?_)
      simp only [x_fieldAddr, fa111_2, add_mk, Nat.reduceAdd, Nat.zero_add, eX, ↓reduceIte, Nat.reduceEqDiff, Int.reduceToNat]
      refine hK _ _ ?_; clear hK K
    | refine OW_guardF rfl (lt_some (by decide)) rfl ?_
      simp only [eX, ↓reduceIte, Nat.reduceEqDiff, Int.reduceToNat]
    first
    | refine OW_guardT rfl (lt_some (by decide)) rfl (fun K hK r => ?_)
      simp only [x_load, eX, ↓reduceIte, Nat.reduceEqDiff, Int.reduceToNat]
      refine Lt_loadAt1 Try.underlying4 rfl hbA ldA ?_
      try simp only [eX, ↓reduceIte, Nat.reduceEqDiff, Int.reduceToNat]
      refine hK _ _ ?_; clear hK K
    | refine OW_guardF rfl (lt_some (by decide)) rfl ?_
      simp only [eX, ↓reduceIte, Nat.reduceEqDiff, Int.reduceToNat]
    first
    | refine OW_guardT rfl (lt_some (by decide)) rfl (fun K hK r => ?_)
      simp only [x_move, eX, ↓reduceIte, Nat.reduceEqDiff, Int.reduceToNat]
      refine hK _ _ ?_; clear hK K
    | refine OW_guardF rfl (lt_some (by decide)) rfl ?_
      simp only [eX, ↓reduceIte, Nat.reduceEqDiff, Int.reduceToNat]
    (first | refine OW_split (d := 12) rfl (fun g12 => ?_) (fun g12 => ?_) | skip)
    all_goals try (exfalso; exact cnA g12)
    all_goals (try simp only [decide_eq_true_eq, decide_eq_false_iff_not, Bool.not_eq_true, Bool.not_eq_false, Bool.and_eq_true, Bool.or_eq_true, Bool.or_eq_false_iff, Bool.not_eq_true, Bool.not_eq_eq_eq_not, Bool.not_true, Bool.not_false] at g12)
    all_goals
      try simp only [eX, ↓reduceIte, Nat.reduceEqDiff, Int.reduceToNat]
      first
      | refine OW_guardT rfl (lt_some (by decide)) rfl (fun K hK r => ?_)
        simp only [x_move, eX, ↓reduceIte, Nat.reduceEqDiff, Int.reduceToNat]
        refine hK _ _ ?_; clear hK K
      | refine OW_guardF rfl (lt_some (by decide)) rfl ?_
        simp only [eX, ↓reduceIte, Nat.reduceEqDiff, Int.reduceToNat]
      first
      | refine OW_guardT rfl (lt_some (by decide)) rfl (fun K hK r => ?_)
        rw [x_nilCheck _ _ rfl]
        simp only [eX, ↓reduceIte, Nat.reduceEqDiff, Int.reduceToNat]
        refine hK _ _ ?_; clear hK K
      | refine OW_guardF rfl (lt_some (by decide)) rfl ?_
        simp only [eX, ↓reduceIte, Nat.reduceEqDiff, Int.reduceToNat]
      first
      | refine OW_guardT rfl (lt_some (by decide)) rfl (fun K hK r => ?_)
        simp only [x_fieldAddr, fa111_1, add_mk, Nat.reduceAdd, Nat.zero_add, eX, ↓reduceIte, Nat.reduceEqDiff, Int.reduceToNat]
        refine hK _ _ ?_; clear hK K
      | refine OW_guardF rfl (lt_some (by decide)) rfl ?_
        simp only [eX, ↓reduceIte, Nat.reduceEqDiff, Int.reduceToNat]
      first
      | refine OW_guardT rfl (lt_some (by decide)) rfl (fun K hK r => ?_)
        simp only [x_load, eX, ↓reduceIte, Nat.reduceEqDiff, Int.reduceToNat]
        refine Lt_loadAt1 Try.underlying3 rfl hbA ldA ?_
        try simp only [eX, ↓reduceIte, Nat.reduceEqDiff, Int.reduceToNat]
        refine hK _ _ ?_; clear hK K
      | refine OW_guardF rfl (lt_some (by decide)) rfl ?_
        simp only [eX, ↓reduceIte, Nat.reduceEqDiff, Int.reduceToNat]
      first
      | refine OW_guardT rfl (lt_some (by decide)) rfl (fun K hK r => ?_)
        simp (disch := (first | omega | decide)) only [x_bin, g_int, b_leq, dec_lt_t, dec_lt_f, dec_le_t, dec_le_f, dec_eq_t, dec_eq_f, Bool.not_true, Bool.not_false, eX, ↓reduceIte, Nat.reduceEqDiff, Int.reduceToNat]
        refine hK _ _ ?_; clear hK K
      | refine OW_guardF rfl (lt_some (by decide)) rfl ?_
        simp only [eX, ↓reduceIte, Nat.reduceEqDiff, Int.reduceToNat]
      first
      | refine OW_guardT rfl (lt_some (by decide)) rfl (fun K hK r => ?_)
        simp only [x_pick, l_asBool, HL.ite_bool, if_true, if_false, Bool.false_eq_true, eX, ↓reduceIte, Nat.reduceEqDiff, Int.reduceToNat]
        refine hK _ _ ?_; clear hK K
      | refine OW_guardF rfl (lt_some (by decide)) rfl ?_
        simp only [eX, ↓reduceIte, Nat.reduceEqDiff, Int.reduceToNat]
      refine OW_opS (fun K hK r => ?_)
      simp only [x_pick, l_asBool, HL.ite_bool, if_true, if_false, Bool.false_eq_true, eX, ↓reduceIte, Nat.reduceEqDiff, Int.reduceToNat]
      refine hK _ _ ?_; clear hK K
      refine OW_nil ?_
      try simp only [Ex.thnH, Ex.inBlockH, ↓reduceIte, Nat.reduceEqDiff]
      refine hK3 _ _ ?_; try clear hK3 K3
      refine CW_cond (fun r => rfl) (fun c19 => ?_) (fun c19 => ?_)
      · first
        | (exfalso; exact cnA c19; done)
        | skip
          (try simp only [decide_eq_true_eq, decide_eq_false_iff_not, Bool.not_eq_true, Bool.not_eq_false, Bool.and_eq_true, Bool.or_eq_true, Bool.or_eq_false_iff, Bool.not_eq_true, Bool.not_eq_eq_eq_not, Bool.not_true, Bool.not_false] at c19)
          refine CW_seq (fun K4 hK4 => ?_)
          refine CW_region ?_
          refine OW_mv rfl ?_
          refine OW_opS (fun K hK r => ?_)
          rw [x_nilCheck _ _ rfl]
          simp only [eX, ↓reduceIte, Nat.reduceEqDiff, Int.reduceToNat]
          refine hK _ _ ?_; clear hK K
          refine OW_opS (fun K hK r => ?_)
          simp only [x_fieldAddr, fa111_3, add_mk, Nat.reduceAdd, Nat.zero_add, eX, ↓reduceIte, Nat.reduceEqDiff, Int.reduceToNat]
          refine hK _ _ ?_; clear hK K
          refine OW_op rfl (lt_none) (fun K hK r => ?_)
          simp only [x_store, eX, ↓reduceIte, Nat.reduceEqDiff, Int.reduceToNat]
          refine Lt_storeAt1 sz4 hbA bdA plA fzA ?_
          try simp only [setL0, setL1, setL2, setL3, setL4, setL5, setL6, setL7, setL8, setL9]
          try simp only [eX, ↓reduceIte, Nat.reduceEqDiff, Int.reduceToNat]
          refine hK _ _ ?_; clear hK K
          refine OW_nil ?_
          try simp only [Ex.thnH, Ex.inBlockH, ↓reduceIte, Nat.reduceEqDiff]
          refine hK4 _ _ ?_; try clear hK4 K4
          refine CW_seq (fun K5 hK5 => ?_)
          refine CW_region ?_
          refine OW_opS (fun K hK r => ?_)
          simp only [x_makeInterface, i_makeInterface, Try.underlying38, orF_some, eX, ↓reduceIte, Nat.reduceEqDiff, Int.reduceToNat]
          refine hK _ _ ?_; clear hK K
          refine OW_as rfl ?_
          refine OW_nil ?_
          try simp only [Ex.thnH, Ex.inBlockH, ↓reduceIte, Nat.reduceEqDiff]
          refine hK5 _ _ ?_; try clear hK5 K5
          refine CW_ret ?_
          try simp only [Ex.thnH, Ex.inBlockH, ↓reduceIte, Nat.reduceEqDiff]
          have hs : s.step = ({ s with gone := true }, false) := by unfold St.step; rw [if_pos (by simp_all)]
          refine ⟨[_], ⟨rfl, trivial⟩, _, Le.refl _, ?_, ?_⟩
          · rw [hs]; rfl
          · rw [hs]
      · first
        | (exfalso; exact cnA c19; done)
        | skip
          (try simp only [decide_eq_true_eq, decide_eq_false_iff_not, Bool.not_eq_true, Bool.not_eq_false, Bool.and_eq_true, Bool.or_eq_true, Bool.or_eq_false_iff, Bool.not_eq_true, Bool.not_eq_eq_eq_not, Bool.not_true, Bool.not_false] at c19)
          refine CW_skip ?_
          try simp only [Ex.thnH, Ex.inBlockH, ↓reduceIte, Nat.reduceEqDiff]
          refine hK2 _ _ ?_; try clear hK2 K2
          refine CW_seq (fun K6 hK6 => ?_)
          refine CW_region ?_
          refine OW_mv rfl ?_
          refine OW_opS (fun K hK r => ?_)
          rw [x_nilCheck _ _ rfl]
          simp only [eX, ↓reduceIte, Nat.reduceEqDiff, Int.reduceToNat]
          refine hK _ _ ?_; clear hK K
          refine OW_opS (fun K hK r => ?_)
          simp only [x_fieldAddr, fa111_1, add_mk, Nat.reduceAdd, Nat.zero_add, eX, ↓reduceIte, Nat.reduceEqDiff, Int.reduceToNat]
          refine hK _ _ ?_; clear hK K
          refine OW_opS (fun K hK r => ?_)
          simp only [x_load, eX, ↓reduceIte, Nat.reduceEqDiff, Int.reduceToNat]
          refine Lt_loadAt1 Try.underlying3 rfl hbA ldA ?_
          try simp only [eX, ↓reduceIte, Nat.reduceEqDiff, Int.reduceToNat]
          refine hK _ _ ?_; clear hK K
          refine OW_opS (fun K hK r => ?_)
          simp (disch := (first | omega | decide)) only [x_bin, g_int, b_sub, wrap_i64, wrap_u64, wrap_u32, wrap_u8, eX, ↓reduceIte, Nat.reduceEqDiff, Int.reduceToNat]
          refine hK _ _ ?_; clear hK K
          refine OW_opS (fun K hK r => ?_)
          rw [x_nilCheck _ _ rfl]
          simp only [eX, ↓reduceIte, Nat.reduceEqDiff, Int.reduceToNat]
          refine hK _ _ ?_; clear hK K
          refine OW_opS (fun K hK r => ?_)
          simp only [x_fieldAddr, fa111_1, add_mk, Nat.reduceAdd, Nat.zero_add, eX, ↓reduceIte, Nat.reduceEqDiff, Int.reduceToNat]
          refine hK _ _ ?_; clear hK K
          refine OW_op rfl (lt_none) (fun K hK r => ?_)
          simp only [x_store, eX, ↓reduceIte, Nat.reduceEqDiff, Int.reduceToNat]
          refine Lt_storeAt1 sz3 hbA bdA plA fzA ?_
          try simp only [setL0, setL1, setL2, setL3, setL4, setL5, setL6, setL7, setL8, setL9]
          try simp only [eX, ↓reduceIte, Nat.reduceEqDiff, Int.reduceToNat]
          refine hK _ _ ?_; clear hK K
          refine OW_nil ?_
          try simp only [Ex.thnH, Ex.inBlockH, ↓reduceIte, Nat.reduceEqDiff]
          refine hK6 _ _ ?_; try clear hK6 K6
          refine CW_seq (fun K7 hK7 => ?_)
          refine CW_region ?_
          refine OW_mv rfl ?_
          refine OW_opS (fun K hK r => ?_)
          rw [x_nilCheck _ _ rfl]
          simp only [eX, ↓reduceIte, Nat.reduceEqDiff, Int.reduceToNat]
          refine hK _ _ ?_; clear hK K
          refine OW_opS (fun K hK r => ?_)
          simp only [x_fieldAddr, fa111_0, add_mk, Nat.reduceAdd, Nat.zero_add, eX, ↓reduceIte, Nat.reduceEqDiff, Int.reduceToNat]
          refine hK _ _ ?_; clear hK K
          refine OW_opS (fun K hK r => ?_)
          simp only [x_load, eX, ↓reduceIte, Nat.reduceEqDiff, Int.reduceToNat]
          refine Lt_loadAt1 Try.underlying3 rfl hbA ldA ?_
          try simp only [eX, ↓reduceIte, Nat.reduceEqDiff, Int.reduceToNat]
          refine hK _ _ ?_; clear hK K
          refine OW_opS (fun K hK r => ?_)
          simp (disch := (first | omega | decide)) only [x_bin, g_int, b_add, wrap_i64, wrap_u64, wrap_u32, wrap_u8, eX, ↓reduceIte, Nat.reduceEqDiff, Int.reduceToNat]
          refine hK _ _ ?_; clear hK K
          refine OW_opS (fun K hK r => ?_)
          rw [x_nilCheck _ _ rfl]
          simp only [eX, ↓reduceIte, Nat.reduceEqDiff, Int.reduceToNat]
          refine hK _ _ ?_; clear hK K
          refine OW_opS (fun K hK r => ?_)
          simp only [x_fieldAddr, fa111_0, add_mk, Nat.reduceAdd, Nat.zero_add, eX, ↓reduceIte, Nat.reduceEqDiff, Int.reduceToNat]
          refine hK _ _ ?_; clear hK K
          refine OW_op rfl (lt_none) (fun K hK r => ?_)
          simp only [x_store, eX, ↓reduceIte, Nat.reduceEqDiff, Int.reduceToNat]
          refine Lt_storeAt1 sz3 hbA bdA plA fzA ?_
          try simp only [setL0, setL1, setL2, setL3, setL4, setL5, setL6, setL7, setL8, setL9]
          try simp only [eX, ↓reduceIte, Nat.reduceEqDiff, Int.reduceToNat]
          refine hK _ _ ?_; clear hK K
          refine OW_nil ?_
          try simp only [Ex.thnH, Ex.inBlockH, ↓reduceIte, Nat.reduceEqDiff]
          refine hK7 _ _ ?_; try clear hK7 K7
          refine CW_seq (fun K8 hK8 => ?_)
          refine CW_region ?_
          refine OW_as rfl ?_
          refine OW_nil ?_
          try simp only [Ex.thnH, Ex.inBlockH, ↓reduceIte, Nat.reduceEqDiff]
          refine hK8 _ _ ?_; try clear hK8 K8
          refine CW_ret ?_
          try simp only [Ex.thnH, Ex.inBlockH, ↓reduceIte, Nat.reduceEqDiff]
          have hs : s.step = ({ s with left := IntKind.i64.wrap (s.left - 1), steps := IntKind.i64.wrap (s.steps + 1) }, true) := by unfold St.step; rw [if_neg (by simp_all)]
          refine ⟨[_], ⟨rfl, trivial⟩, _, Le.refl _, ?_, ?_⟩
          · rw [hs]; rfl
          · rw [hs]

end Go.Proofs.Ytigofhhonnbkmaa.HL
end
section
namespace Go.Proofs.Ytigofhhonnbkmaa.HL
open Go
set_option linter.unusedSimpArgs false
set_option linter.unusedVariables false

/-- A number of bytes, the smallest first. -/
def leI : List Int → Int
  | [] => 0
  | x :: r => x + 256 * leI r
/-- The bytes of a number. -/
def leR : Nat → Int → List Int
  | 0, _ => []
  | k + 1, n => (n % 256) :: leR k (n / 256)
theorem leR_len : ∀ (k : Nat) (n : Int), (leR k n).length = k
  | 0, _ => rfl
  | k + 1, n => by simp [leR, leR_len k]
theorem leR_byte : ∀ (k : Nat) (n : Int), ByteL (leR k n)
  | 0, _ => by intro x hx; cases hx
  | k + 1, n => by
    intro x hx
    rcases List.mem_cons.1 hx with rfl | hx
    · omega
    · exact leR_byte k _ x hx
theorem leI_leR : ∀ (k : Nat) (n : Int), leI (leR k n) = n % 256 ^ k
  | 0, n => by simp [leI, leR]
  | k + 1, n => by
    have hp : (0 : Int) < 256 ^ k := Int.pow_pos (by decide)
    rw [leR, leI, leI_leR k, Int.pow_succ, Int.mul_comm (256 ^ k) 256]
    have h1 := Int.emod_nonneg (n / 256) (Int.ne_of_gt hp)
    have h2 := Int.emod_lt_of_pos (n / 256) hp
    have h3 := Int.mul_ediv_add_emod (n / 256) (256 ^ k)
    have h4 := ((Int.ediv_emod_unique (a := n) (b := 256 * 256 ^ k) (r := n % 256 + 256 * (n / 256 % 256 ^ k)) (q := n / 256 / 256 ^ k) (by omega)).2 ⟨?_, by omega, by omega⟩).2
    · exact h4.symm
    · rw [Int.mul_assoc]; omega
theorem leI_range : ∀ (l : List Int), ByteL l → 0 ≤ leI l ∧ leI l < 256 ^ l.length
  | [], _ => by simp [leI]
  | x :: r, h => by
    have hx := h x (by simp)
    have := leI_range r (fun y hy => h y (by simp [hy]))
    simp only [List.length_cons, leI, Int.pow_succ]
    omega
theorem leI_snoc : ∀ (l : List Int) (x : Int), leI (l ++ [x]) = leI l + x * 256 ^ l.length
  | [], x => by simp [leI]
  | y :: r, x => by
    have h1 := leI_snoc r x
    simp only [List.cons_append, List.length_cons, leI, h1, Int.pow_succ]
    rw [Int.mul_add, Int.add_assoc, ← Int.mul_assoc x, Int.mul_comm (x * 256 ^ r.length) 256]

def stampI (n : Int) : List Int := [0, 1, 2, 3, 4, 5].map fun k => IntKind.u8.wrap (n.fdiv (2 ^ (8 * k)))
abbrev stampL (n : Int) : List Value := u8s (stampI n)
theorem stampL_step (n : Int) (k : Nat) (h : k < 6) : (stampL n).take (k + 1) = (stampL n).take k ++ [.int .u8 (IntKind.u8.wrap (n.fdiv (2 ^ (min (8 * (k : Int)).toNat IntKind.i64.bits))))] := by
  rcases k with _ | _ | _ | _ | _ | _ | k <;> first | rfl | omega
theorem stampI_len (n : Int) : (stampI n).length = 6 := rfl
theorem stampI_eq (n : Int) : stampI n = leR 6 n := by
  have e : ∀ b : Int, 0 ≤ b → n.fdiv b = n / b := fun b h => Int.fdiv_eq_ediv_of_nonneg n h
  simp only [stampI, leR, List.map_cons, List.map_nil, u8_def, Nat.mul_zero, Nat.reduceMul, Int.reducePow, List.cons.injEq, and_true, e 1 (by decide), e 256 (by decide), e 65536 (by decide), e 16777216 (by decide), e 4294967296 (by decide), e 1099511627776 (by decide)]
  refine ⟨?_, ?_, ?_, ?_, ?_, ?_⟩ <;> first | omega | trivial
theorem leI_stamp (n : Int) (h0 : 0 ≤ n) (h1 : n ≤ 281474976710655) : leI (stampI n) = n := by
  rw [stampI_eq, leI_leR]; simp only [Int.reducePow]; omega
theorem stamp_byte (n : Int) : ByteL (stampI n) := by rw [stampI_eq]; exact leR_byte 6 n

theorem le_step (D : List Int) (k : Nat) (hk : k < 6) (hl : k < D.length) (hB : ByteL D) :
    IntKind.i64.wrap (BitVec.ofInt IntKind.i64.bits (leI (D.take k)) ||| BitVec.ofInt IntKind.i64.bits (IntKind.i64.wrap (IntKind.i64.wrap (D.getD k 0) * 2 ^ min (8 * (k : Int)).toNat IntKind.i64.bits))).toNat = leI (D.take (k + 1)) := by
  have hx : 0 ≤ D.getD k 0 ∧ D.getD k 0 ≤ 255 := by
    rw [List.getD_eq_getElem?_getD, List.getElem?_eq_getElem hl]; exact hB _ (List.getElem_mem hl)
  have hr := leI_range (D.take k) (fun x h => hB x (List.mem_of_mem_take h))
  have hlen : (D.take k).length = k := by simp; omega
  rw [hlen] at hr
  have e1 : min (8 * (k : Int)).toNat IntKind.i64.bits = 8 * k := by
    have : IntKind.i64.bits = 64 := rfl
    omega
  have e2 : (2 : Int) ^ (8 * k) = 256 ^ k := by rw [Int.pow_mul]; rfl
  have e3 : (256 : Int) ^ k ≤ 1099511627776 := (show ∀ j, j < 6 → (256 : Int) ^ j ≤ 1099511627776 by decide) k hk
  have hp : (0 : Int) < 256 ^ k := Int.pow_pos (by decide)
  have e4 : D.getD k 0 * 256 ^ k ≤ 255 * 1099511627776 := Int.mul_le_mul hx.2 e3 (by omega) (by decide)
  have e5 : 0 ≤ D.getD k 0 * 256 ^ k := Int.mul_nonneg hx.1 (by omega)
  have e6 : D.take (k + 1) = D.take k ++ [D.getD k 0] := by
    rw [List.take_add_one, List.getD_eq_getElem?_getD, List.getElem?_eq_getElem hl]; rfl
  rw [wrap_i64 (D.getD k 0) (by omega) (by omega), e1, e2, wrap_i64 (D.getD k 0 * 256 ^ k) (by omega) (by omega), ← e2, or_i64 _ _ _ hr.1 (by rw [e2]; exact hr.2) hx.1 (by rw [e2]; omega), e6, leI_snoc, hlen, e2]

/-- A sealed sector's bytes. -/
def sealL (st kd : Int) (l : List Int) : List Int := stampI st ++ [kd, (l.length : Int)] ++ l ++ List.replicate (50 - l.length) 0 ++ stampI st
def badI (st kd : Int) (l : List Int) : Option Int := if st < 1 ∨ st > 281474976710655 ∨ kd < 1 ∨ kd > 255 then some 1 else if l.length > 50 then some 2 else none
def zeroS : List Int := List.replicate 64 0
/-- The sector that is told, and the error. -/
def sealI (st kd : Int) (l : List Int) : List Int := match badI st kd l with | some _ => zeroS | none => sealL st kd l
theorem badI_none {st kd : Int} {l : List Int} (h : badI st kd l = none) : 1 ≤ st ∧ st ≤ 281474976710655 ∧ 1 ≤ kd ∧ kd ≤ 255 ∧ l.length ≤ 50 := by
  unfold badI at h; split at h <;> try cases h
  split at h <;> try cases h
  omega
theorem sealL_len {st kd : Int} {l : List Int} (h : l.length ≤ 50) : (sealL st kd l).length = 64 := by
  simp [sealL, stampI_len]; omega
theorem sealL_byte {st kd : Int} {l : List Int} (hb : ByteL l) (h : badI st kd l = none) : ByteL (sealL st kd l) := by
  have := badI_none h
  intro x hx
  simp only [sealL, List.mem_append, List.mem_cons, List.mem_replicate, List.not_mem_nil, or_false] at hx
  rcases hx with (((hx | hx) | hx) | hx) | hx
  · exact stamp_byte _ x hx
  · omega
  · exact hb x hx
  · omega
  · exact stamp_byte _ x hx
/-- The parts of a sector. -/
def stOf (L : List Int) : Int := leI (L.take 6)
def tailOf (L : List Int) : Int := leI ((L.drop 58).take 6)
def kdOf (L : List Int) : Int := L.getD 6 0
def szS (L : List Int) : Int := L.getD 7 0
def dtOf (L : List Int) : List Int := (L.drop 8).take (szS L).toNat
theorem sealI_len (st kd : Int) (l : List Int) : (sealI st kd l).length = 64 := by
  unfold sealI; split
  · rfl
  · rename_i h; exact sealL_len (badI_none h).2.2.2.2
theorem dtOf_len {L : List Int} (hc : L.length = 64) (h : szS L ≤ 50) : (dtOf L).length = (szS L).toNat := by simp [dtOf]; omega
def goodI (L : List Int) : Bool := decide (stOf L = tailOf L ∧ szS L ≤ 50 ∧ badI (stOf L) (kdOf L) (dtOf L) = none ∧ sealL (stOf L) (kdOf L) (dtOf L) = L)
def openI (L : List Int) : Option (Int × Int × List Int) := if goodI L = true then some (stOf L, kdOf L, dtOf L) else none
theorem open_none_bad {L : List Int} (h : (badI (stOf L) (kdOf L) (dtOf L)).isSome = true) : openI L = none := by
  rw [openI, if_neg]; rw [goodI]; intro hh; simp only [decide_eq_true_eq] at hh; rw [hh.2.2.1] at h; cases h
theorem open_none_ne {L : List Int} (h : ¬ sealI (stOf L) (kdOf L) (dtOf L) = L) : openI L = none := by
  rw [openI, if_neg]; rw [goodI]; intro hh; simp only [decide_eq_true_eq] at hh
  apply h; rw [sealI, hh.2.2.1]; exact hh.2.2.2
theorem open_some {L : List Int} (h1 : leI (L.take 6) = leI ((L.drop 58).take 6)) (h2 : L.getD 7 0 ≤ 50) (h3 : (badI (stOf L) (kdOf L) (dtOf L)).isSome = false) (h4 : sealI (stOf L) (kdOf L) (dtOf L) = L) : openI L = some (stOf L, kdOf L, dtOf L) := by
  have h5 : badI (stOf L) (kdOf L) (dtOf L) = none := by cases h : badI (stOf L) (kdOf L) (dtOf L) <;> simp_all
  rw [openI, if_pos]
  rw [goodI, decide_eq_true_eq]
  refine ⟨h1, h2, h5, ?_⟩
  rw [sealI, h5] at h4; exact h4
def opS (L : List Int) : Int := match openI L with | some (s, _, _) => s | none => 0
def opK (L : List Int) : Int := match openI L with | some (_, k, _) => k | none => 0
def opD (L : List Int) : List Int := match openI L with | some (_, _, d) => d | none => []
def opE (L : List Int) : Option Int := match openI L with | some _ => none | none => some 9
def isB (L : List Int) (st kd : Int) : Bool := (opE L).isNone && decide (opS L = st) && decide (opK L = kd)
def isD (L : List Int) (st kd : Int) : List Int := if isB L st kd = true then opD L else []
theorem opD_len (L : List Int) : (opD L).length ≤ 50 := by
  unfold opD openI
  split
  · rename_i s k d h
    split at h
    · rename_i hg
      simp only [goodI, decide_eq_true_eq] at hg
      have h1 := (badI_none hg.2.2.1).2.2.2.2
      cases h; exact h1
    · cases h
  · exact Nat.zero_le _
theorem opD_byte {L : List Int} (hB : ByteL L) : ByteL (opD L) := by
  unfold opD openI
  split
  · rename_i s k d h
    split at h
    · cases h; exact fun x hx => hB x (List.mem_of_mem_drop (List.mem_of_mem_take hx))
    · cases h
  · intro x hx; cases hx
/-- What is left of a number. -/
def dvK : Nat → Int → Int
  | 0, n => n
  | k + 1, n => dvK k (n / 256)
theorem dvK_succ : ∀ (k : Nat) (n : Int), dvK (k + 1) n = dvK k n / 256
  | 0, _ => rfl
  | k + 1, n => by rw [dvK, dvK_succ k]; rfl
theorem dvK_range : ∀ (k : Nat) (n : Int), 0 ≤ n → n ≤ 281474976710655 → 0 ≤ dvK k n ∧ dvK k n ≤ 281474976710655
  | 0, _, h, h2 => ⟨h, h2⟩
  | k + 1, n, h, h2 => by rw [dvK]; exact dvK_range k _ (by omega) (by omega)
theorem leR_snoc : ∀ (k : Nat) (n : Int), leR (k + 1) n = leR k n ++ [dvK k n % 256]
  | 0, _ => rfl
  | k + 1, n => by rw [leR, leR_snoc k]; rfl
/-- The document's sector, half written. -/
def refS (st : Int) (k : Nat) : List Int := leR k st ++ List.replicate (58 - k) 0 ++ (leR k st ++ List.replicate (6 - k) 0)
def refD (st kd : Int) (l : List Int) (k : Nat) : List Int := leR 6 st ++ [kd, (l.length : Int)] ++ (l.take k ++ List.replicate (50 - k) 0) ++ leR 6 st
theorem u8s_set (l : List Int) (i : Nat) (x : Int) : (u8s l).toArray.setIfInBounds i (.int .u8 x) = (u8s (l.set i x)).toArray := by simp [List.map_set]
theorem set_mid (A : List Int) (n : Nat) (B : List Int) (i : Nat) (x : Int) (h : A.length = i) (hn : 0 < n) : (A ++ List.replicate n 0 ++ B).set i x = A ++ [x] ++ List.replicate (n - 1) 0 ++ B := by
  obtain ⟨m, rfl⟩ : ∃ m, n = m + 1 := ⟨n - 1, by omega⟩
  subst h
  rw [List.append_assoc, List.set_append_right _ _ (Nat.le_refl _), Nat.sub_self]
  simp [List.replicate_succ]
theorem refS_step (st : Int) (k : Nat) (hk : k < 6) : ((refS st k).set k (dvK k st % 256)).set (58 + k) (dvK k st % 256) = refS st (k + 1) := by
  have h1 : (refS st k).set k (dvK k st % 256) = leR (k + 1) st ++ List.replicate (58 - (k + 1)) 0 ++ (leR k st ++ List.replicate (6 - k) 0) := by
    rw [refS, set_mid _ _ _ _ _ (leR_len k st) (by omega), leR_snoc]; rfl
  rw [h1]
  have h2 := set_mid (leR (k + 1) st ++ List.replicate (58 - (k + 1)) 0 ++ leR k st) (6 - k) [] (58 + k) (dvK k st % 256) (by simp [leR_len]; omega) (by omega)
  simp only [List.append_nil, List.append_assoc] at h2 ⊢
  rw [h2, refS, leR_snoc]
  simp only [List.append_assoc]
  rfl
theorem refS_size (st : Int) (k : Nat) (hk : k ≤ 6) : (refS st k).length = 64 := by simp [refS, leR_len]; omega
theorem refD_size (st kd : Int) (l : List Int) (k : Nat) (hk : k ≤ 50) (hl : k ≤ l.length) : (refD st kd l k).length = 64 := by simp [refD, leR_len]; omega
theorem refD_zero (st kd : Int) (l : List Int) : ((refS st 6).set 6 kd).set 7 l.length = refD st kd l 0 := rfl
theorem refD_step (st kd : Int) (l : List Int) (k : Nat) (hk : k < l.length) (h5 : l.length ≤ 50) : (refD st kd l k).set (8 + k) (l.getD k 0) = refD st kd l (k + 1) := by
  have h2 := set_mid (leR 6 st ++ [kd, (l.length : Int)] ++ l.take k) (50 - k) (leR 6 st) (8 + k) (l.getD k 0) (by simp [leR_len]; omega) (by omega)
  have e6 : l.take (k + 1) = l.take k ++ [l.getD k 0] := by
    rw [List.take_add_one, List.getD_eq_getElem?_getD, List.getElem?_eq_getElem hk]; rfl
  have e7 : 50 - k - 1 = 50 - (k + 1) := by omega
  rw [refD, refD, e6]
  simp only [List.append_assoc, e7] at h2 ⊢
  exact h2
theorem refD_full (st kd : Int) (l : List Int) (h : badI st kd l = none) : refD st kd l l.length = sealI st kd l := by
  rw [sealI, h, refD, sealL, stampI_eq, List.take_length]; simp
theorem parts_seal {st kd : Int} {l : List Int} (h : badI st kd l = none) : stOf (sealL st kd l) = st ∧ tailOf (sealL st kd l) = st ∧ kdOf (sealL st kd l) = kd ∧ szS (sealL st kd l) = l.length ∧ dtOf (sealL st kd l) = l := by
  obtain ⟨h1, h2, h3, h4, h5⟩ := badI_none h
  have e1 : stOf (sealL st kd l) = st := by
    rw [stOf, sealL, List.append_assoc, List.append_assoc, List.append_assoc, List.take_left' (stampI_len st)]; exact leI_stamp st (by omega) h2
  have e5 : (sealL st kd l).drop 58 = stampI st := by
    rw [sealL, List.drop_left' (by simp [stampI_len]; omega)]
  have e2 : tailOf (sealL st kd l) = st := by
    rw [tailOf, e5, List.take_of_length_le (by simp [stampI_len])]; exact leI_stamp st (by omega) h2
  have e6 : (sealL st kd l).drop 6 = [kd, (l.length : Int)] ++ l ++ List.replicate (50 - l.length) 0 ++ stampI st := by
    rw [sealL, List.append_assoc, List.append_assoc, List.append_assoc, List.drop_left' (stampI_len st)]; simp
  have e3 : kdOf (sealL st kd l) = kd := by
    have : (sealL st kd l)[6]? = some kd := by
      have := congrArg (·[0]?) e6; simpa [List.getElem?_drop] using this
    rw [kdOf, List.getD_eq_getElem?_getD, this]; rfl
  have e4 : szS (sealL st kd l) = l.length := by
    have : (sealL st kd l)[7]? = some (l.length : Int) := by
      have := congrArg (·[1]?) e6; simpa [List.getElem?_drop] using this
    rw [szS, List.getD_eq_getElem?_getD, this]; rfl
  have e8 : (sealL st kd l).drop 8 = l ++ (List.replicate (50 - l.length) 0 ++ stampI st) := by
    have : (sealL st kd l).drop 8 = ((sealL st kd l).drop 6).drop 2 := by rw [List.drop_drop]
    rw [this, e6]; simp
  refine ⟨e1, e2, e3, e4, ?_⟩
  rw [dtOf, e4, e8]; simp
theorem good_seal {st kd : Int} {l : List Int} (h : badI st kd l = none) : goodI (sealL st kd l) = true := by
  obtain ⟨h1, h2, h3, h4, h5⟩ := parts_seal h
  have h6 := badI_none h
  simp only [goodI, h1, h2, h3, h4, h5, h, and_true, true_and, decide_eq_true_eq]; omega
theorem open_seal {st kd : Int} {l : List Int} (h : badI st kd l = none) : openI (sealL st kd l) = some (st, kd, l) := by
  obtain ⟨h1, h2, h3, h4, h5⟩ := parts_seal h
  rw [openI, if_pos (good_seal h), h1, h3, h5]
theorem good_iff {L : List Int} : goodI L = true ↔ (stOf L = tailOf L ∧ szS L ≤ 50 ∧ badI (stOf L) (kdOf L) (dtOf L) = none ∧ sealL (stOf L) (kdOf L) (dtOf L) = L) := by simp [goodI]
/-- The data that the document reads. -/
def rdOf (L : List Int) : List Int := (L.drop 8).take (min (szS L).toNat 50)
theorem open_vals {L : List Int} {s k : Int} {d : List Int} (h : openI L = some (s, k, d)) : opS L = s ∧ opK L = k ∧ opD L = d ∧ opE L = none := by simp [opS, opK, opD, opE, h]
theorem open_again {L : List Int} (h : (opE L).isNone = true) : badI (opS L) (opK L) (opD L) = none ∧ sealI (opS L) (opK L) (opD L) = L := by
  cases ho : openI L with
  | none => simp [opE, ho] at h
  | some x =>
    obtain ⟨s, k, d⟩ := x
    obtain ⟨o1, o2, o3, o4⟩ := open_vals ho
    rw [o1, o2, o3]
    unfold openI at ho
    split at ho
    · rename_i hg
      simp only [goodI, decide_eq_true_eq] at hg
      cases ho
      exact ⟨hg.2.2.1, by rw [sealI, hg.2.2.1]; exact hg.2.2.2⟩
    · cases ho

end Go.Proofs.Ytigofhhonnbkmaa.HL
end
section
namespace Go.Proofs.Ytigofhhonnbkmaa.HL
open Go Go.Proofs
set_option linter.unusedSimpArgs false
set_option linter.unusedVariables false
attribute [local irreducible] Lt Lq CW OW TW CallH


set_option maxRecDepth 100000 in
set_option maxHeartbeats 1000000 in
theorem stamp_ok (H : Hp) (b : Nat) (c : Array Value) (t : TypeId) (at_ n : Int) (hb : H b = some (.cells c t)) (hc : c.size = 64) (h0 : 0 ≤ at_) (h1 : at_ ≤ 58) :
    CallH Try.prog 68 #[.pointer (some ⟨b, 0, none⟩), .int .i64 at_, .int .i64 n] H (fun v H' => v = .tuple #[] ∧ H' = H.upd b (.cells (putCells c at_.toNat (stampL n)) t)) := by
  refine CallH_enter (l := [_, _, _]) (rl := []) (n := 22) Try.func68 rfl rfl rfl rfl rfl ?_
  simp only [envOf, Nat.reduceAdd]
  refine CW_seq (fun K1 hK1 => ?_)
  refine CW_region ?_
  refine OW_mv rfl ?_
  refine OW_nil ?_
  try simp only [Ex.thnH, Ex.inBlockH, ↓reduceIte, Nat.reduceEqDiff]
  refine hK1 _ _ ?_; try clear hK1 K1
  refine CW_block ?_
  refine CW_loop (fun m e H_ => ∃ k : Nat, k ≤ 6 ∧ m = 6 - k ∧ Env.has [(0, .pointer (some ⟨b, 0, none⟩)), (1, .int .i64 at_), (2, .int .i64 n), (7, .int .i64 k)] e ∧ H_ = H.upd b (.cells (putCells c at_.toNat ((stampL n).take k)) t)) (6) ?_ ?_
  · skip
    exact ⟨0, by omega, rfl, ⟨rfl, rfl, rfl, rfl, trivial⟩, by simp [putCells, upd_self, hb]⟩
  intro m_ e_ H_ hI_
  obtain ⟨k, hk6, rfl, he, rfl⟩ := hI_
  refine CW_env he.sub ?_; clear he e_
  refine CW_seq (fun K2 hK2 => ?_)
  refine CW_region ?_
  refine OW_opS (fun K hK r => ?_)
  simp (disch := (first | omega | decide)) only [x_bin, g_int, b_lss, dec_lt_t, dec_lt_f, dec_le_t, dec_le_f, dec_eq_t, dec_eq_f, Bool.not_true, Bool.not_false, eX, ↓reduceIte, Nat.reduceEqDiff, Int.reduceToNat]
  refine hK _ _ ?_; clear hK K
  refine OW_nil ?_
  try simp only [Ex.thnH, Ex.inBlockH, ↓reduceIte, Nat.reduceEqDiff]
  refine hK2 _ _ ?_; try clear hK2 K2
  refine CW_seq (fun K3 hK3 => ?_)
  refine CW_cond (fun r => rfl) (fun c8 => ?_) (fun c8 => ?_)
  · first
    | (exfalso; exact cnA c8; done)
    | skip
      (try simp only [decide_eq_true_eq, decide_eq_false_iff_not, Bool.not_eq_true, Bool.not_eq_false, Bool.and_eq_true, Bool.or_eq_true, Bool.or_eq_false_iff, Bool.not_eq_true, Bool.not_eq_eq_eq_not, Bool.not_true, Bool.not_false] at c8)
      refine CW_skip ?_
      try simp only [Ex.thnH, Ex.inBlockH, ↓reduceIte, Nat.reduceEqDiff]
      refine hK3 _ _ ?_; try clear hK3 K3
      refine CW_seq (fun K4 hK4 => ?_)
      refine CW_block ?_
      refine CW_seq (fun K5 hK5 => ?_)
      refine CW_region ?_
      refine OW_mv rfl ?_
      refine OW_as rfl ?_
      refine OW_nil ?_
      try simp only [Ex.thnH, Ex.inBlockH, ↓reduceIte, Nat.reduceEqDiff]
      refine hK5 _ _ ?_; try clear hK5 K5
      refine CW_drawO [0, 0, 0, 0, 0, 0, 0, 0, 0, 0, 0, 3] [0, 1, 2, 3, 4, 5, 6, 7, 8, 9, 10, 11] emptyHp (by kernel_rfl) (by kernel_rfl) (le_empty _) ?_
      apply TW_pure rfl (lt_some (by decide)) rfl
      · intro r
        simp only [x_move, eX, ↓reduceIte, Nat.reduceEqDiff]
        exact ⟨rfl, Le.refl _⟩
      simp only [eX, ↓reduceIte, Nat.reduceEqDiff, Int.reduceToNat]
      apply TW_pure rfl (lt_some (by decide)) rfl
      · intro r
        simp only [x_move, eX, ↓reduceIte, Nat.reduceEqDiff]
        exact ⟨rfl, Le.refl _⟩
      simp only [eX, ↓reduceIte, Nat.reduceEqDiff, Int.reduceToNat]
      apply TW_pure rfl (lt_some (by decide)) rfl
      · intro r
        simp only [x_move, eX, ↓reduceIte, Nat.reduceEqDiff]
        exact ⟨rfl, Le.refl _⟩
      simp only [eX, ↓reduceIte, Nat.reduceEqDiff, Int.reduceToNat]
      apply TW_pure rfl (lt_some (by decide)) rfl
      · intro r
        simp (disch := (first | omega | decide)) only [x_bin, g_int, b_add, wrap_i64, wrap_u64, wrap_u32, wrap_u8, eX, ↓reduceIte, Nat.reduceEqDiff]
        exact ⟨rfl, Le.refl _⟩
      simp only [eX, ↓reduceIte, Nat.reduceEqDiff, Int.reduceToNat]
      apply TW_pure rfl (lt_some (by decide)) rfl
      · intro r
        simp only [x_move, eX, ↓reduceIte, Nat.reduceEqDiff]
        exact ⟨rfl, Le.refl _⟩
      simp only [eX, ↓reduceIte, Nat.reduceEqDiff, Int.reduceToNat]
      apply TW_pure rfl (lt_some (by decide)) rfl
      · intro r
        simp only [x_move, eX, ↓reduceIte, Nat.reduceEqDiff]
        exact ⟨rfl, Le.refl _⟩
      simp only [eX, ↓reduceIte, Nat.reduceEqDiff, Int.reduceToNat]
      apply TW_pure rfl (lt_some (by decide)) rfl
      · intro r
        simp (disch := (first | omega | decide)) only [x_bin, g_int, b_mul, wrap_i64, wrap_u64, wrap_u32, wrap_u8, eX, ↓reduceIte, Nat.reduceEqDiff]
        exact ⟨rfl, Le.refl _⟩
      simp only [eX, ↓reduceIte, Nat.reduceEqDiff, Int.reduceToNat]
      apply TW_pure rfl (lt_some (by decide)) rfl
      · intro r
        simp (disch := (first | omega | decide)) only [x_bin, g_int, b_shr, wrap_i64, wrap_u64, wrap_u32, wrap_u8, eX, ↓reduceIte, Nat.reduceEqDiff]
        exact ⟨rfl, Le.refl _⟩
      simp only [eX, ↓reduceIte, Nat.reduceEqDiff, Int.reduceToNat]
      apply TW_pure rfl (lt_some (by decide)) rfl
      · intro r
        simp (disch := (first | omega | decide)) only [x_convert, c_int _ _ _ _ Try.underlying3 Try.underlying5, wrap_i64, wrap_u64, wrap_u32, wrap_u8, eX, ↓reduceIte, Nat.reduceEqDiff]
        exact ⟨rfl, Le.refl _⟩
      simp only [eX, ↓reduceIte, Nat.reduceEqDiff, Int.reduceToNat]
      apply TW_pure rfl (lt_some (by decide)) rfl
      · intro r
        rw [x_nilCheck _ _ rfl]
        exact ⟨rfl, Le.refl _⟩
      simp only [eX, ↓reduceIte, Nat.reduceEqDiff, Int.reduceToNat]
      apply TW_pure rfl (lt_some (by decide)) rfl
      · intro r
        simp only [x_indexAddr, eX, ↓reduceIte, Nat.reduceEqDiff]
        refine Lt_indexA Try.underlying30 sz5 ixA ixA ?_
        try simp only [add_mk, Nat.mul_one, Nat.zero_add, Int.reduceToNat]
        exact ⟨rfl, Le.refl _⟩
      simp only [eX, ↓reduceIte, Nat.reduceEqDiff, Int.reduceToNat]
      refine TW_last rfl (lt_none) rfl (fun K hK r => ?_)
      simp only [x_store, eX, ↓reduceIte, Nat.reduceEqDiff, Int.reduceToNat]
      refine Lt_storeAt1 sz5 hbA bdA plA fzA ?_
      try simp only [setL0, setL1, setL2, setL3, setL4, setL5, setL6, setL7, setL8, setL9]
      try simp only [eX, ↓reduceIte, Nat.reduceEqDiff, Int.reduceToNat]
      refine hK _ _ ?_; clear hK K
      refine TW_nil ?_
      try simp only [Ex.thnH, Ex.inBlockH, ↓reduceIte, Nat.reduceEqDiff]
      refine hK4 _ _ ?_; try clear hK4 K4
      refine CW_region ?_
      refine OW_opS (fun K hK r => ?_)
      simp (disch := (first | omega | decide)) only [x_bin, g_int, b_add, wrap_i64, wrap_u64, wrap_u32, wrap_u8, eX, ↓reduceIte, Nat.reduceEqDiff, Int.reduceToNat]
      refine hK _ _ ?_; clear hK K
      refine OW_mv rfl ?_
      refine OW_nil ?_
      try simp only [Ex.thnH, Ex.inBlockH, ↓reduceIte, Nat.reduceEqDiff]
      refine ⟨6 - (k + 1), by omega, k + 1, by omega, rfl, ⟨rfl, rfl, rfl, (by first | rfl | simp [Env.get]), trivial⟩, ?_⟩
      rw [stampL_step n k (by omega), putCells_snoc]
      congr 3
      have : (List.take k (stampL n)).length = k := by simp [stampL, u8s, stampI]; omega
      rw [this]; omega
  · first
    | (exfalso; exact cnA c8; done)
    | skip
      (try simp only [decide_eq_true_eq, decide_eq_false_iff_not, Bool.not_eq_true, Bool.not_eq_false, Bool.and_eq_true, Bool.or_eq_true, Bool.or_eq_false_iff, Bool.not_eq_true, Bool.not_eq_eq_eq_not, Bool.not_true, Bool.not_false] at c8)
      refine CW_exit ?_
      try simp only [Ex.thnH, Ex.inBlockH, ↓reduceIte, Nat.reduceEqDiff]
      obtain rfl : k = 6 := by omega
      exact ⟨[], trivial, _, Le.refl _, rfl, rfl⟩

set_option maxRecDepth 100000 in
set_option maxHeartbeats 1000000 in
theorem stamped_ok (H : Hp) (b : Nat) (L : List Int) (t : TypeId) (at_ : Nat) (hb : H b = some (.cells (u8s L).toArray t)) (hc : L.length = 64) (h1 : at_ ≤ 58) (hB : ByteL L) :
    CallH Try.prog 71 #[.pointer (some ⟨b, 0, none⟩), .int .i64 at_] H (fun v H' => v = .int .i64 (leI ((L.drop at_).take 6)) ∧ H' = H) := by
  refine CallH_enter (l := [_, _]) (rl := [.tmp 4]) (n := 29) Try.func71 rfl rfl rfl rfl rfl ?_
  simp only [envOf, Nat.reduceAdd]
  have hB6 : ∀ k, ByteL ((L.drop at_).take k) := fun k x hx => hB x (List.mem_of_mem_drop (List.mem_of_mem_take hx))
  have hlen : ∀ k, k ≤ 6 → ((L.drop at_).take k).length = k := fun k hk => by simp; omega
  refine CW_seq (fun K1 hK1 => ?_)
  refine CW_region ?_
  refine OW_as rfl ?_
  refine OW_nil ?_
  try simp only [Ex.thnH, Ex.inBlockH, ↓reduceIte, Nat.reduceEqDiff]
  refine hK1 _ _ ?_; try clear hK1 K1
  refine CW_seq (fun K2 hK2 => ?_)
  refine CW_region ?_
  refine OW_as rfl ?_
  refine OW_nil ?_
  try simp only [Ex.thnH, Ex.inBlockH, ↓reduceIte, Nat.reduceEqDiff]
  refine hK2 _ _ ?_; try clear hK2 K2
  refine CW_seq (fun K3 hK3 => ?_)
  refine CW_seq (fun K4 hK4 => ?_)
  refine CW_region ?_
  refine OW_mv rfl ?_
  refine OW_opS (fun K hK r => ?_)
  rw [x_nilCheck _ _ rfl]
  simp only [eX, ↓reduceIte, Nat.reduceEqDiff, Int.reduceToNat]
  refine hK _ _ ?_; clear hK K
  refine OW_mv rfl ?_
  refine OW_mv rfl ?_
  refine OW_opS (fun K hK r => ?_)
  simp (disch := (first | omega | decide)) only [x_bin, g_int, b_add, wrap_i64, wrap_u64, wrap_u32, wrap_u8, eX, ↓reduceIte, Nat.reduceEqDiff, Int.reduceToNat]
  refine hK _ _ ?_; clear hK K
  refine OW_opS (fun K hK r => ?_)
  simp only [x_slice, Option.map_some, Option.map_none, eX, ↓reduceIte, Nat.reduceEqDiff, Int.reduceToNat]
  refine Lt_sliceA Try.underlying30 sz5 bound_none (bound_some ixA) (bound_some ixA) bxA bxA bxA (by simp) ?_
  try simp only [add_mk, Nat.mul_one, Nat.zero_add, Int.reduceToNat, Nat.reduceSub, Nat.reduceEqDiff, ↓reduceIte]
  try simp only [eX, ↓reduceIte, Nat.reduceEqDiff, Int.reduceToNat]
  refine hK _ _ ?_; clear hK K
  refine OW_opS (fun K hK r => ?_)
  simp only [x_builtin, l_len, List.map_toArray, List.map_cons, List.map_nil, i_len_slice _ _ Try.underlying80, eX, ↓reduceIte, Nat.reduceEqDiff, Int.reduceToNat]
  refine hK _ _ ?_; clear hK K
  refine OW_mv rfl ?_
  refine OW_nil ?_
  try simp only [Ex.thnH, Ex.inBlockH, ↓reduceIte, Nat.reduceEqDiff]
  refine hK4 _ _ ?_; try clear hK4 K4
  refine CW_block ?_
  refine CW_loop (fun m e H_ => ∃ k : Nat, k ≤ 6 ∧ m = 6 - k ∧ Env.has [(13, .slice (some ⟨b, at_, none⟩) 6 (64 - at_)), (14, .int .i64 6), (5, .int .i64 (leI ((L.drop at_).take k))), (15, .int .i64 k)] e ∧ H_ = H) (6) ?_ ?_
  · skip
    refine ⟨0, by omega, rfl, ⟨?_, ?_, rfl, rfl, trivial⟩, rfl⟩
    rotate_left
    · show some (Value.int _ _) = _
      congr 2; omega
    show some (Value.slice (some (if _ then _ else _)) _ _) = _
    rw [if_neg (by omega)]
    congr 2
    all_goals simp
    all_goals omega
  intro m_ e_ H_ hI_
  obtain ⟨k, hk6, rfl, he, rfl⟩ := hI_
  refine CW_env he.sub ?_; clear he e_
  refine CW_seq (fun K5 hK5 => ?_)
  refine CW_region ?_
  refine OW_opS (fun K hK r => ?_)
  simp (disch := (first | omega | decide)) only [x_bin, g_int, b_lss, dec_lt_t, dec_lt_f, dec_le_t, dec_le_f, dec_eq_t, dec_eq_f, Bool.not_true, Bool.not_false, eX, ↓reduceIte, Nat.reduceEqDiff, Int.reduceToNat]
  refine hK _ _ ?_; clear hK K
  refine OW_nil ?_
  try simp only [Ex.thnH, Ex.inBlockH, ↓reduceIte, Nat.reduceEqDiff]
  refine hK5 _ _ ?_; try clear hK5 K5
  refine CW_seq (fun K6 hK6 => ?_)
  refine CW_cond (fun r => rfl) (fun c16 => ?_) (fun c16 => ?_)
  · first
    | (exfalso; exact cnA c16; done)
    | skip
      (try simp only [decide_eq_true_eq, decide_eq_false_iff_not, Bool.not_eq_true, Bool.not_eq_false, Bool.and_eq_true, Bool.or_eq_true, Bool.or_eq_false_iff, Bool.not_eq_true, Bool.not_eq_eq_eq_not, Bool.not_true, Bool.not_false] at c16)
      refine CW_skip ?_
      try simp only [Ex.thnH, Ex.inBlockH, ↓reduceIte, Nat.reduceEqDiff]
      refine hK6 _ _ ?_; try clear hK6 K6
      refine CW_seq (fun K7 hK7 => ?_)
      refine CW_block ?_
      refine CW_seq (fun K8 hK8 => ?_)
      refine CW_region ?_
      refine OW_mv rfl ?_
      refine OW_opS (fun K hK r => ?_)
      simp only [x_indexAddr, eX, ↓reduceIte, Nat.reduceEqDiff, Int.reduceToNat]
      refine Lt_indexS Try.underlying80 sz5 ixA ixA ?_
      try simp only [add_mk, Nat.mul_one, Nat.zero_add, Int.reduceToNat]
      try simp only [eX, ↓reduceIte, Nat.reduceEqDiff, Int.reduceToNat]
      refine hK _ _ ?_; clear hK K
      refine OW_opS (fun K hK r => ?_)
      simp only [x_load, eX, ↓reduceIte, Nat.reduceEqDiff, Int.reduceToNat]
      refine Lt_loadAt1 Try.underlying5 rfl hbA (v := .int .u8 (L.getD (at_ + k) 0)) ?_ ?_
      · simp only [List.getElem?_toArray, Nat.zero_add, Int.toNat_natCast]
        rw [u8s_get _ _ (by omega), List.getD_eq_getElem?_getD, List.getElem?_eq_getElem (by omega)]; rfl
      refine hK _ _ ?_; clear hK K
      refine OW_as rfl ?_
      refine OW_as rfl ?_
      refine OW_nil ?_
      try simp only [Ex.thnH, Ex.inBlockH, ↓reduceIte, Nat.reduceEqDiff]
      refine hK8 _ _ ?_; try clear hK8 K8
      refine CW_region ?_
      refine OW_mv rfl ?_
      refine OW_mv rfl ?_
      refine OW_opS (fun K hK r => ?_)
      simp (disch := (first | omega | decide)) only [x_convert, c_int _ _ _ _ Try.underlying5 Try.underlying3, wrap_i64, wrap_u64, wrap_u32, wrap_u8, eX, ↓reduceIte, Nat.reduceEqDiff, Int.reduceToNat]
      refine hK _ _ ?_; clear hK K
      refine OW_mv rfl ?_
      refine OW_opS (fun K hK r => ?_)
      simp (disch := (first | omega | decide)) only [x_bin, g_int, b_mul, wrap_i64, wrap_u64, wrap_u32, wrap_u8, eX, ↓reduceIte, Nat.reduceEqDiff, Int.reduceToNat]
      refine hK _ _ ?_; clear hK K
      refine OW_opS (fun K hK r => ?_)
      simp (disch := (first | omega | decide)) only [x_bin, g_int, b_shl, wrap_i64, wrap_u64, wrap_u32, wrap_u8, eX, ↓reduceIte, Nat.reduceEqDiff, Int.reduceToNat]
      refine hK _ _ ?_; clear hK K
      refine OW_opS (fun K hK r => ?_)
      simp only [x_bin, g_int, b_or, eX, ↓reduceIte, Nat.reduceEqDiff, Int.reduceToNat]
      refine hK _ _ ?_; clear hK K
      refine OW_as rfl ?_
      refine OW_nil ?_
      try simp only [Ex.thnH, Ex.inBlockH, ↓reduceIte, Nat.reduceEqDiff]
      refine hK7 _ _ ?_; try clear hK7 K7
      refine CW_region ?_
      refine OW_opS (fun K hK r => ?_)
      simp (disch := (first | omega | decide)) only [x_bin, g_int, b_add, wrap_i64, wrap_u64, wrap_u32, wrap_u8, eX, ↓reduceIte, Nat.reduceEqDiff, Int.reduceToNat]
      refine hK _ _ ?_; clear hK K
      refine OW_mv rfl ?_
      refine OW_nil ?_
      try simp only [Ex.thnH, Ex.inBlockH, ↓reduceIte, Nat.reduceEqDiff]
      refine ⟨6 - (k + 1), by omega, k + 1, by omega, rfl, ⟨rfl, rfl, ?_, (by first | rfl | simp [Env.get]), trivial⟩, rfA⟩
      have e := le_step (L.drop at_) k (by omega) (by simp; omega) (fun x hx => hB x (List.mem_of_mem_drop hx))
      have e2 : (L.drop at_).getD k 0 = L.getD (at_ + k) 0 := by simp [List.getD_eq_getElem?_getD]
      rw [e2] at e
      rw [← e]; rfl
  · first
    | (exfalso; exact cnA c16; done)
    | skip
      (try simp only [decide_eq_true_eq, decide_eq_false_iff_not, Bool.not_eq_true, Bool.not_eq_false, Bool.and_eq_true, Bool.or_eq_true, Bool.or_eq_false_iff, Bool.not_eq_true, Bool.not_eq_eq_eq_not, Bool.not_true, Bool.not_false] at c16)
      refine CW_exit ?_
      try simp only [Ex.thnH, Ex.inBlockH, ↓reduceIte, Nat.reduceEqDiff]
      refine hK3 _ _ ?_; try clear hK3 K3
      refine CW_seq (fun K9 hK9 => ?_)
      refine CW_region ?_
      refine OW_mv rfl ?_
      refine OW_as rfl ?_
      refine OW_nil ?_
      try simp only [Ex.thnH, Ex.inBlockH, ↓reduceIte, Nat.reduceEqDiff]
      refine hK9 _ _ ?_; try clear hK9 K9
      refine CW_ret ?_
      try simp only [Ex.thnH, Ex.inBlockH, ↓reduceIte, Nat.reduceEqDiff]
      obtain rfl : k = 6 := by omega
      exact ⟨[_], ⟨rfl, trivial⟩, _, Le.refl _, rfl, rfl⟩

set_option maxRecDepth 100000 in
set_option maxHeartbeats 1000000 in
theorem Clone_ok (H : Hp) (a : Addr) (n cap : Nat) (l : List Int) (hv : Holds H 1 (.slice (some a) n cap) n (u8s l)) (hn : n ≤ 1000000) :
    CallH Try.prog 69 #[.slice (some a) n cap] H (fun v' H' => Le H H' ∧ ∃ rs, OwnS H' 5 1 v' n (u8s l) rs ∧ ∀ r, rs = some r → H r = none) := by
  refine CallH_enter (l := [_]) (rl := [.tmp 2]) (n := 8) Try.func69 rfl rfl rfl rfl rfl ?_
  simp only [envOf, Nat.reduceAdd]
  obtain rfl : n = l.length := by have := hv.1; simpa using this
  refine CW_seq (fun K1 hK1 => ?_)
  refine CW_region ?_
  refine OW_as rfl ?_
  refine OW_nil ?_
  try simp only [Ex.thnH, Ex.inBlockH, ↓reduceIte, Nat.reduceEqDiff]
  refine hK1 _ _ ?_; try clear hK1 K1
  refine CW_seq (fun K2 hK2 => ?_)
  refine CW_seq (fun K3 hK3 => ?_)
  refine CW_region ?_
  refine OW_mv rfl ?_
  refine OW_opS (fun K hK r => ?_)
  simp only [x_bin, g_int, g_bool, g_string, g_pointer, g_slice, g_map, g_func, g_nilFunc, g_iface, g_nil_iface, g_nil_r, g_nil_l, eX, ↓reduceIte, Nat.reduceEqDiff, Int.reduceToNat]
  rw [e_eql _ _ _ _ (by simp)]
  rw [q_equal, q_slice_nil _ _ _ Try.underlying80]
  try simp only [eX, ↓reduceIte, Nat.reduceEqDiff, Int.reduceToNat]
  refine hK _ _ ?_; clear hK K
  refine OW_nil ?_
  try simp only [Ex.thnH, Ex.inBlockH, ↓reduceIte, Nat.reduceEqDiff]
  refine hK3 _ _ ?_; try clear hK3 K3
  refine CW_cond (fun r => rfl) (fun c4 => ?_) (fun c4 => ?_)
  · first
    | (exfalso; exact cnA c4; done)
    | skip
      (try simp only [decide_eq_true_eq, decide_eq_false_iff_not, Bool.not_eq_true, Bool.not_eq_false, Bool.and_eq_true, Bool.or_eq_true, Bool.or_eq_false_iff, Bool.not_eq_true, Bool.not_eq_eq_eq_not, Bool.not_true, Bool.not_false] at c4)
      refine CW_seq (fun K4 hK4 => ?_)
      refine CW_region ?_
      refine OW_as rfl ?_
      refine OW_nil ?_
      try simp only [Ex.thnH, Ex.inBlockH, ↓reduceIte, Nat.reduceEqDiff]
      refine hK4 _ _ ?_; try clear hK4 K4
      refine CW_ret ?_
      try simp only [Ex.thnH, Ex.inBlockH, ↓reduceIte, Nat.reduceEqDiff]
      refine ⟨[_], ⟨rfl, trivial⟩, _, Le.refl _, hg7.le (H0 := H) lhA (fun r hr => by cases hr; exact f5_H), rs7, (by show OwnS _ _ _ v7 _ _ _; simpa using ho7), fun r hr => ?_⟩
      rcases hr7 r hr with h | h
      · cases h; exact f5_H
      · exact none_of_le lhA h
  · first
    | (exfalso; exact cnA c4; done)
    | skip
      (try simp only [decide_eq_true_eq, decide_eq_false_iff_not, Bool.not_eq_true, Bool.not_eq_false, Bool.and_eq_true, Bool.or_eq_true, Bool.or_eq_false_iff, Bool.not_eq_true, Bool.not_eq_eq_eq_not, Bool.not_true, Bool.not_false] at c4)
      refine CW_skip ?_
      try simp only [Ex.thnH, Ex.inBlockH, ↓reduceIte, Nat.reduceEqDiff]
      refine hK2 _ _ ?_; try clear hK2 K2
      refine CW_seq (fun K5 hK5 => ?_)
      refine CW_region ?_
      refine OW_opS (fun K hK r => ?_)
      simp only [x_buildSlice, List.map_toArray, List.map_cons, List.map_nil, eX, ↓reduceIte, Nat.reduceEqDiff, Int.reduceToNat]
      refine Lt_buildSlice (vs := []) Try.underlying80 sz5 zr5 rfl bsA (by first | decide | (simp; done)) ?_
      simp only [List.flatMap_cons, List.flatMap_nil, Value.cells, List.append_nil, List.cons_append, List.nil_append, List.length_cons, List.length_nil, Nat.zero_add, Nat.reduceAdd]
      intro b5 hb5
      have f5_H : H b5 = none := none_of_le lhA hb5
      try simp only [eX, ↓reduceIte, Nat.reduceEqDiff, Int.reduceToNat]
      refine hK _ _ ?_; clear hK K
      refine OW_mv rfl ?_
      refine OW_opS (fun K hK r => ?_)
      simp only [x_builtin, l_append, List.map_toArray, List.map_cons, List.map_nil, eX, ↓reduceIte, Nat.reduceEqDiff, Int.reduceToNat]
      refine Lt_append Try.underlying80 Try.underlying80 (by simp) sz5 by5 (by decide) zr5 rfl _ (n := 0) (cs := []) (rs := some b5) (ds := u8s l) ⟨rfl, .inr ⟨b5, 0, _, rfl, hbA, Nat.le_refl _, by simp, by simp, rfl⟩⟩ (len_slice _ _ _) (fun K => ?_) (by simp) (PlainL.ints _ _) (by omega) ?_
      · refine (first_holds (hv.le lhA) (Nat.le_refl _) K).trans ?_
        rw [Nat.mul_one, List.take_of_length_le (by have := hv.1; omega)]
      intro v7 H7 rs7 hg7 ho7 hr7
      refine hK _ _ ?_; clear hK K
      refine OW_as rfl ?_
      refine OW_nil ?_
      try simp only [Ex.thnH, Ex.inBlockH, ↓reduceIte, Nat.reduceEqDiff]
      refine hK5 _ _ ?_; try clear hK5 K5
      refine CW_ret ?_
      try simp only [Ex.thnH, Ex.inBlockH, ↓reduceIte, Nat.reduceEqDiff]
      refine ⟨[_], ⟨rfl, trivial⟩, _, Le.refl _, hg7.le (H0 := H) lhA (fun r hr => by cases hr; exact f5_H), rs7, (by show OwnS _ _ _ v7 _ _ _; simpa using ho7), fun r hr => ?_⟩
      rcases hr7 r hr with h | h
      · cases h; exact f5_H
      · exact none_of_le lhA h


theorem seal_cells (st kd : Int) (l : List Int) (h5 : l.length ≤ 50) :
    putCells (putCells (((putCells (Array.replicate 64 (.int .u8 0)) 0 (stampL st)).setIfInBounds 6 (.int .u8 kd)).setIfInBounds 7 (.int .u8 l.length)) 8 (u8s l)) 58 (stampL st) = (u8s (sealL st kd l)).toArray := by
  have e0 : (Array.replicate 64 (Value.int .u8 0)).toList = [] ++ List.replicate 64 (Value.int .u8 0) := by simp
  have e1 := putCells_grow e0 (o := 0) rfl (stampL st) (by simp [stampL, u8s, stampI])
  have e2 := putCells_grow e1 (o := 6) (by simp [stampL, u8s, stampI]) [.int .u8 kd] (by simp [stampL, u8s, stampI])
  have e3 := putCells_grow e2 (o := 7) (by simp [stampL, u8s, stampI]) [.int .u8 l.length] (by simp [stampL, u8s, stampI])
  have e4 := putCells_grow e3 (o := 8) (by simp [stampL, u8s, stampI]) (u8s l) (by simp [stampL, u8s, stampI]; omega)
  have e5 : 64 - (stampL st).length - [Value.int .u8 kd].length - [Value.int .u8 l.length].length - (u8s l).length = (50 - l.length) + 6 := by simp [stampL, u8s, stampI]; omega
  rw [e5, ← List.replicate_append_replicate, ← List.append_assoc] at e4
  have e6 := putCells_grow e4 (o := 58) (by simp [stampL, u8s, stampI]; omega) (stampL st) (by simp [stampL, u8s, stampI])
  apply Array.ext'
  simp only [putCells] at e6 ⊢
  rw [e6]
  simp [sealL, stampL, u8s, stampI]
theorem zero_cells : (u8s zeroS).toArray = Array.replicate 64 (.int .u8 0) := by rfl

set_option maxRecDepth 100000 in
set_option maxHeartbeats 1000000 in
theorem Seal_ok (H : Hp) (st kd : Int) (data : Value) (l : List Int) (hd : Holds H 1 data l.length (u8s l)) :
    CallH Try.prog 36 #[.agg #[.int .i64 st, .int .i64 kd, data]] H (fun v H' => v = .tuple #[.agg (u8s (sealI st kd l)).toArray, errV (badI st kd l)] ∧ H' = H) := by
  refine CallH_enter (l := [_]) (rl := [.cell 2 30, .tmp 3]) (n := 52) Try.func36 rfl rfl rfl rfl rfl ?_
  simp only [envOf, Nat.reduceAdd]
  obtain ⟨a, cap, rfl⟩ := hd.form
  refine CW_seq (fun K1 hK1 => ?_)
  refine CW_region ?_
  refine OW_opS (fun K hK r => ?_)
  simp only [x_box, Value.cells, eX, ↓reduceIte, Nat.reduceEqDiff, Int.reduceToNat]
  intro b1 hb1
  have f1_H : H b1 = none := none_of_le lhA hb1
  try simp only [eX, ↓reduceIte, Nat.reduceEqDiff, Int.reduceToNat]
  refine hK _ _ ?_; clear hK K
  refine OW_opS (fun K hK r => ?_)
  simp only [x_alloc, zr30, orF_some, Value.cells, eX, ↓reduceIte, Nat.reduceEqDiff, Int.reduceToNat]
  intro b2 hb2
  try have n2_b1 : b1 ≠ b2 := ne_of_none hbA hb2
  have f2_H : H b2 = none := none_of_le lhA hb2
  try simp only [eX, ↓reduceIte, Nat.reduceEqDiff, Int.reduceToNat]
  refine hK _ _ ?_; clear hK K
  refine OW_as rfl ?_
  refine OW_nil ?_
  try simp only [Ex.thnH, Ex.inBlockH, ↓reduceIte, Nat.reduceEqDiff]
  refine hK1 _ _ ?_; try clear hK1 K1
  refine CW_seq (fun K2 hK2 => ?_)
  refine CW_block ?_
  refine CW_seq (fun K3 hK3 => ?_)
  refine CW_region ?_
  refine OW_opS (fun K hK r => ?_)
  simp only [x_fieldAddr, fa89_0, add_mk, Nat.reduceAdd, Nat.zero_add, eX, ↓reduceIte, Nat.reduceEqDiff, Int.reduceToNat]
  refine hK _ _ ?_; clear hK K
  refine OW_opS (fun K hK r => ?_)
  simp only [x_load, eX, ↓reduceIte, Nat.reduceEqDiff, Int.reduceToNat]
  refine Lt_loadAt1 Try.underlying3 rfl hbA ldA ?_
  try simp only [eX, ↓reduceIte, Nat.reduceEqDiff, Int.reduceToNat]
  refine hK _ _ ?_; clear hK K
  refine OW_opS (fun K hK r => ?_)
  simp (disch := (first | omega | decide)) only [x_bin, g_int, b_lss, dec_lt_t, dec_lt_f, dec_le_t, dec_le_f, dec_eq_t, dec_eq_f, Bool.not_true, Bool.not_false, eX, ↓reduceIte, Nat.reduceEqDiff, Int.reduceToNat]
  refine hK _ _ ?_; clear hK K
  refine OW_mv rfl ?_
  (first | refine OW_split (d := 8) rfl (fun g8 => ?_) (fun g8 => ?_) | skip)
  all_goals try (exfalso; exact cnA g8)
  all_goals (try simp only [decide_eq_true_eq, decide_eq_false_iff_not, Bool.not_eq_true, Bool.not_eq_false, Bool.and_eq_true, Bool.or_eq_true, Bool.or_eq_false_iff, Bool.not_eq_true, Bool.not_eq_eq_eq_not, Bool.not_true, Bool.not_false] at g8)
  all_goals
    try simp only [eX, ↓reduceIte, Nat.reduceEqDiff, Int.reduceToNat]
    first
    | refine OW_guardT rfl (lt_some (by decide)) rfl (fun K hK r => ?_)
      simp only [x_fieldAddr, fa89_0, add_mk, Nat.reduceAdd, Nat.zero_add, eX, ↓reduceIte, Nat.reduceEqDiff, Int.reduceToNat]
      refine hK _ _ ?_; clear hK K
    | refine OW_guardF rfl (lt_some (by decide)) rfl ?_
      simp only [eX, ↓reduceIte, Nat.reduceEqDiff, Int.reduceToNat]
    first
    | refine OW_guardT rfl (lt_some (by decide)) rfl (fun K hK r => ?_)
      simp only [x_load, eX, ↓reduceIte, Nat.reduceEqDiff, Int.reduceToNat]
      refine Lt_loadAt1 Try.underlying3 rfl hbA ldA ?_
      try simp only [eX, ↓reduceIte, Nat.reduceEqDiff, Int.reduceToNat]
      refine hK _ _ ?_; clear hK K
    | refine OW_guardF rfl (lt_some (by decide)) rfl ?_
      simp only [eX, ↓reduceIte, Nat.reduceEqDiff, Int.reduceToNat]
    first
    | refine OW_guardT rfl (lt_some (by decide)) rfl (fun K hK r => ?_)
      simp (disch := (first | omega | decide)) only [x_bin, g_int, b_gtr, dec_lt_t, dec_lt_f, dec_le_t, dec_le_f, dec_eq_t, dec_eq_f, Bool.not_true, Bool.not_false, eX, ↓reduceIte, Nat.reduceEqDiff, Int.reduceToNat]
      refine hK _ _ ?_; clear hK K
    | refine OW_guardF rfl (lt_some (by decide)) rfl ?_
      simp only [eX, ↓reduceIte, Nat.reduceEqDiff, Int.reduceToNat]
    refine OW_opS (fun K hK r => ?_)
    simp only [x_pick, l_asBool, HL.ite_bool, if_true, if_false, Bool.false_eq_true, eX, ↓reduceIte, Nat.reduceEqDiff, Int.reduceToNat]
    refine hK _ _ ?_; clear hK K
    refine OW_mv rfl ?_
    (first | refine OW_split (d := 13) rfl (fun g13 => ?_) (fun g13 => ?_) | skip)
    all_goals try (exfalso; exact cnA g13)
    all_goals (try simp only [decide_eq_true_eq, decide_eq_false_iff_not, Bool.not_eq_true, Bool.not_eq_false, Bool.and_eq_true, Bool.or_eq_true, Bool.or_eq_false_iff, Bool.not_eq_true, Bool.not_eq_eq_eq_not, Bool.not_true, Bool.not_false] at g13)
    all_goals
      try simp only [eX, ↓reduceIte, Nat.reduceEqDiff, Int.reduceToNat]
      first
      | refine OW_guardT rfl (lt_some (by decide)) rfl (fun K hK r => ?_)
        simp only [x_fieldAddr, fa89_1, add_mk, Nat.reduceAdd, Nat.zero_add, eX, ↓reduceIte, Nat.reduceEqDiff, Int.reduceToNat]
        refine hK _ _ ?_; clear hK K
      | refine OW_guardF rfl (lt_some (by decide)) rfl ?_
        simp only [eX, ↓reduceIte, Nat.reduceEqDiff, Int.reduceToNat]
      first
      | refine OW_guardT rfl (lt_some (by decide)) rfl (fun K hK r => ?_)
        simp only [x_load, eX, ↓reduceIte, Nat.reduceEqDiff, Int.reduceToNat]
        refine Lt_loadAt1 Try.underlying3 rfl hbA ldA ?_
        try simp only [eX, ↓reduceIte, Nat.reduceEqDiff, Int.reduceToNat]
        refine hK _ _ ?_; clear hK K
      | refine OW_guardF rfl (lt_some (by decide)) rfl ?_
        simp only [eX, ↓reduceIte, Nat.reduceEqDiff, Int.reduceToNat]
      first
      | refine OW_guardT rfl (lt_some (by decide)) rfl (fun K hK r => ?_)
        simp (disch := (first | omega | decide)) only [x_bin, g_int, b_lss, dec_lt_t, dec_lt_f, dec_le_t, dec_le_f, dec_eq_t, dec_eq_f, Bool.not_true, Bool.not_false, eX, ↓reduceIte, Nat.reduceEqDiff, Int.reduceToNat]
        refine hK _ _ ?_; clear hK K
      | refine OW_guardF rfl (lt_some (by decide)) rfl ?_
        simp only [eX, ↓reduceIte, Nat.reduceEqDiff, Int.reduceToNat]
      refine OW_opS (fun K hK r => ?_)
      simp only [x_pick, l_asBool, HL.ite_bool, if_true, if_false, Bool.false_eq_true, eX, ↓reduceIte, Nat.reduceEqDiff, Int.reduceToNat]
      refine hK _ _ ?_; clear hK K
      refine OW_mv rfl ?_
      (first | refine OW_split (d := 18) rfl (fun g18 => ?_) (fun g18 => ?_) | skip)
      all_goals try (exfalso; exact cnA g18)
      all_goals (try simp only [decide_eq_true_eq, decide_eq_false_iff_not, Bool.not_eq_true, Bool.not_eq_false, Bool.and_eq_true, Bool.or_eq_true, Bool.or_eq_false_iff, Bool.not_eq_true, Bool.not_eq_eq_eq_not, Bool.not_true, Bool.not_false] at g18)
      all_goals
        try simp only [eX, ↓reduceIte, Nat.reduceEqDiff, Int.reduceToNat]
        first
        | refine OW_guardT rfl (lt_some (by decide)) rfl (fun K hK r => ?_)
          simp only [x_fieldAddr, fa89_1, add_mk, Nat.reduceAdd, Nat.zero_add, eX, ↓reduceIte, Nat.reduceEqDiff, Int.reduceToNat]
          refine hK _ _ ?_; clear hK K
        | refine OW_guardF rfl (lt_some (by decide)) rfl ?_
          simp only [eX, ↓reduceIte, Nat.reduceEqDiff, Int.reduceToNat]
        first
        | refine OW_guardT rfl (lt_some (by decide)) rfl (fun K hK r => ?_)
          simp only [x_load, eX, ↓reduceIte, Nat.reduceEqDiff, Int.reduceToNat]
          refine Lt_loadAt1 Try.underlying3 rfl hbA ldA ?_
          try simp only [eX, ↓reduceIte, Nat.reduceEqDiff, Int.reduceToNat]
          refine hK _ _ ?_; clear hK K
        | refine OW_guardF rfl (lt_some (by decide)) rfl ?_
          simp only [eX, ↓reduceIte, Nat.reduceEqDiff, Int.reduceToNat]
        first
        | refine OW_guardT rfl (lt_some (by decide)) rfl (fun K hK r => ?_)
          simp (disch := (first | omega | decide)) only [x_bin, g_int, b_gtr, dec_lt_t, dec_lt_f, dec_le_t, dec_le_f, dec_eq_t, dec_eq_f, Bool.not_true, Bool.not_false, eX, ↓reduceIte, Nat.reduceEqDiff, Int.reduceToNat]
          refine hK _ _ ?_; clear hK K
        | refine OW_guardF rfl (lt_some (by decide)) rfl ?_
          simp only [eX, ↓reduceIte, Nat.reduceEqDiff, Int.reduceToNat]
        refine OW_opS (fun K hK r => ?_)
        simp only [x_pick, l_asBool, HL.ite_bool, if_true, if_false, Bool.false_eq_true, eX, ↓reduceIte, Nat.reduceEqDiff, Int.reduceToNat]
        refine hK _ _ ?_; clear hK K
        refine OW_as rfl ?_
        refine OW_nil ?_
        try simp only [Ex.thnH, Ex.inBlockH, ↓reduceIte, Nat.reduceEqDiff]
        refine hK3 _ _ ?_; try clear hK3 K3
        refine CW_cond (fun r => rfl) (fun c4 => ?_) (fun c4 => ?_)
        · first
          | (exfalso; exact cnA c4; done)
          | skip
            (try simp only [decide_eq_true_eq, decide_eq_false_iff_not, Bool.not_eq_true, Bool.not_eq_false, Bool.and_eq_true, Bool.or_eq_true, Bool.or_eq_false_iff, Bool.not_eq_true, Bool.not_eq_eq_eq_not, Bool.not_true, Bool.not_false] at c4)
            refine CW_seq (fun K4 hK4 => ?_)
            refine CW_region ?_
            refine OW_opS (fun K hK r => ?_)
            simp only [x_load, eX, ↓reduceIte, Nat.reduceEqDiff, Int.reduceToNat]
            first | refine Lt_loadAll Try.underlying30 rfl sz30 hbA bdA ?_ | refine Lt_loadAtA Try.underlying30 rfl sz30 hbA bdA ?_
            try simp only [eX, ↓reduceIte, Nat.reduceEqDiff, Int.reduceToNat]
            refine hK _ _ ?_; clear hK K
            refine OW_opS (fun K hK r => ?_)
            simp only [x_makeInterface, i_makeInterface, Try.underlying38, orF_some, eX, ↓reduceIte, Nat.reduceEqDiff, Int.reduceToNat]
            refine hK _ _ ?_; clear hK K
            refine OW_op rfl (lt_none) (fun K hK r => ?_)
            simp only [x_store, eX, ↓reduceIte, Nat.reduceEqDiff, Int.reduceToNat]
            first | refine Lt_storeAll sz30 bdA hbA bdA plA (by decide) ?_ | refine Lt_storeAtA sz30 bdA hbA bdA plA (by decide) ?_
            try simp only [eX, ↓reduceIte, Nat.reduceEqDiff, Int.reduceToNat]
            refine hK _ _ ?_; clear hK K
            refine OW_as rfl ?_
            refine OW_nil ?_
            try simp only [Ex.thnH, Ex.inBlockH, ↓reduceIte, Nat.reduceEqDiff]
            refine hK4 _ _ ?_; try clear hK4 K4
            refine CW_ret ?_
            try simp only [Ex.thnH, Ex.inBlockH, ↓reduceIte, Nat.reduceEqDiff]
            first
            | (have hb : badI st kd l = none := by simp only [badI]; rw [if_neg (by omega), if_neg (by omega)]
               refine ⟨[_, _], ⟨⟨_, rfl, Lq_loadAll Try.underlying30 rfl sz30 hbA bdA⟩, rfl, trivial⟩, H, lhA, ?_, rfl⟩
               show Value.tuple #[_, _] = _
               rw [seal_cells st kd l (by omega), sealI, hb]; rfl)
            | (have hb : badI st kd l = some 2 := by simp only [badI]; rw [if_neg (by omega), if_pos (by omega)]
               refine ⟨[_, _], ⟨⟨_, rfl, Lq_loadAll Try.underlying30 rfl sz30 hbA bdA⟩, rfl, trivial⟩, H, lhA, ?_, rfl⟩
               show Value.tuple #[_, _] = _
               rw [sealI, hb]; simp only [zero_cells]; rfl)
            | (have hb : badI st kd l = some 1 := by simp only [badI]; rw [if_pos (by omega)]
               refine ⟨[_, _], ⟨⟨_, rfl, Lq_loadAll Try.underlying30 rfl sz30 hbA bdA⟩, rfl, trivial⟩, H, lhA, ?_, rfl⟩
               show Value.tuple #[_, _] = _
               rw [sealI, hb]; simp only [zero_cells]; rfl)
            | skip
        · first
          | (exfalso; exact cnA c4; done)
          | skip
            (try simp only [decide_eq_true_eq, decide_eq_false_iff_not, Bool.not_eq_true, Bool.not_eq_false, Bool.and_eq_true, Bool.or_eq_true, Bool.or_eq_false_iff, Bool.not_eq_true, Bool.not_eq_eq_eq_not, Bool.not_true, Bool.not_false] at c4)
            refine CW_seq (fun K5 hK5 => ?_)
            refine CW_region ?_
            refine OW_opS (fun K hK r => ?_)
            simp only [x_fieldAddr, fa89_2, add_mk, Nat.reduceAdd, Nat.zero_add, eX, ↓reduceIte, Nat.reduceEqDiff, Int.reduceToNat]
            refine hK _ _ ?_; clear hK K
            refine OW_opS (fun K hK r => ?_)
            simp only [x_load, eX, ↓reduceIte, Nat.reduceEqDiff, Int.reduceToNat]
            refine Lt_loadAt1 Try.underlying80 rfl hbA ldA ?_
            try simp only [eX, ↓reduceIte, Nat.reduceEqDiff, Int.reduceToNat]
            refine hK _ _ ?_; clear hK K
            refine OW_opS (fun K hK r => ?_)
            simp only [x_builtin, l_len, List.map_toArray, List.map_cons, List.map_nil, i_len_slice _ _ Try.underlying80, eX, ↓reduceIte, Nat.reduceEqDiff, Int.reduceToNat]
            refine hK _ _ ?_; clear hK K
            refine OW_opS (fun K hK r => ?_)
            simp (disch := (first | omega | decide)) only [x_bin, g_int, b_gtr, dec_lt_t, dec_lt_f, dec_le_t, dec_le_f, dec_eq_t, dec_eq_f, Bool.not_true, Bool.not_false, eX, ↓reduceIte, Nat.reduceEqDiff, Int.reduceToNat]
            refine hK _ _ ?_; clear hK K
            refine OW_as rfl ?_
            refine OW_nil ?_
            try simp only [Ex.thnH, Ex.inBlockH, ↓reduceIte, Nat.reduceEqDiff]
            refine hK5 _ _ ?_; try clear hK5 K5
            refine CW_cond (fun r => rfl) (fun c25 => ?_) (fun c25 => ?_)
            · first
              | (exfalso; exact cnA c25; done)
              | skip
                (try simp only [decide_eq_true_eq, decide_eq_false_iff_not, Bool.not_eq_true, Bool.not_eq_false, Bool.and_eq_true, Bool.or_eq_true, Bool.or_eq_false_iff, Bool.not_eq_true, Bool.not_eq_eq_eq_not, Bool.not_true, Bool.not_false] at c25)
                refine CW_seq (fun K6 hK6 => ?_)
                refine CW_region ?_
                refine OW_opS (fun K hK r => ?_)
                simp only [x_load, eX, ↓reduceIte, Nat.reduceEqDiff, Int.reduceToNat]
                first | refine Lt_loadAll Try.underlying30 rfl sz30 hbA bdA ?_ | refine Lt_loadAtA Try.underlying30 rfl sz30 hbA bdA ?_
                try simp only [eX, ↓reduceIte, Nat.reduceEqDiff, Int.reduceToNat]
                refine hK _ _ ?_; clear hK K
                refine OW_opS (fun K hK r => ?_)
                simp only [x_makeInterface, i_makeInterface, Try.underlying38, orF_some, eX, ↓reduceIte, Nat.reduceEqDiff, Int.reduceToNat]
                refine hK _ _ ?_; clear hK K
                refine OW_op rfl (lt_none) (fun K hK r => ?_)
                simp only [x_store, eX, ↓reduceIte, Nat.reduceEqDiff, Int.reduceToNat]
                first | refine Lt_storeAll sz30 bdA hbA bdA plA (by decide) ?_ | refine Lt_storeAtA sz30 bdA hbA bdA plA (by decide) ?_
                try simp only [eX, ↓reduceIte, Nat.reduceEqDiff, Int.reduceToNat]
                refine hK _ _ ?_; clear hK K
                refine OW_as rfl ?_
                refine OW_nil ?_
                try simp only [Ex.thnH, Ex.inBlockH, ↓reduceIte, Nat.reduceEqDiff]
                refine hK6 _ _ ?_; try clear hK6 K6
                refine CW_ret ?_
                try simp only [Ex.thnH, Ex.inBlockH, ↓reduceIte, Nat.reduceEqDiff]
                first
                | (have hb : badI st kd l = none := by simp only [badI]; rw [if_neg (by omega), if_neg (by omega)]
                   refine ⟨[_, _], ⟨⟨_, rfl, Lq_loadAll Try.underlying30 rfl sz30 hbA bdA⟩, rfl, trivial⟩, H, lhA, ?_, rfl⟩
                   show Value.tuple #[_, _] = _
                   rw [seal_cells st kd l (by omega), sealI, hb]; rfl)
                | (have hb : badI st kd l = some 2 := by simp only [badI]; rw [if_neg (by omega), if_pos (by omega)]
                   refine ⟨[_, _], ⟨⟨_, rfl, Lq_loadAll Try.underlying30 rfl sz30 hbA bdA⟩, rfl, trivial⟩, H, lhA, ?_, rfl⟩
                   show Value.tuple #[_, _] = _
                   rw [sealI, hb]; simp only [zero_cells]; rfl)
                | (have hb : badI st kd l = some 1 := by simp only [badI]; rw [if_pos (by omega)]
                   refine ⟨[_, _], ⟨⟨_, rfl, Lq_loadAll Try.underlying30 rfl sz30 hbA bdA⟩, rfl, trivial⟩, H, lhA, ?_, rfl⟩
                   show Value.tuple #[_, _] = _
                   rw [sealI, hb]; simp only [zero_cells]; rfl)
                | skip
            · first
              | (exfalso; exact cnA c25; done)
              | skip
                (try simp only [decide_eq_true_eq, decide_eq_false_iff_not, Bool.not_eq_true, Bool.not_eq_false, Bool.and_eq_true, Bool.or_eq_true, Bool.or_eq_false_iff, Bool.not_eq_true, Bool.not_eq_eq_eq_not, Bool.not_true, Bool.not_false] at c25)
                refine CW_skip ?_
                try simp only [Ex.thnH, Ex.inBlockH, ↓reduceIte, Nat.reduceEqDiff]
                refine hK2 _ _ ?_; try clear hK2 K2
                refine CW_seq (fun K7 hK7 => ?_)
                refine CW_region ?_
                refine OW_opS (fun K hK r => ?_)
                simp only [x_fieldAddr, fa89_0, add_mk, Nat.reduceAdd, Nat.zero_add, eX, ↓reduceIte, Nat.reduceEqDiff, Int.reduceToNat]
                refine hK _ _ ?_; clear hK K
                refine OW_opS (fun K hK r => ?_)
                simp only [x_load, eX, ↓reduceIte, Nat.reduceEqDiff, Int.reduceToNat]
                refine Lt_loadAt1 Try.underlying3 rfl hbA ldA ?_
                try simp only [eX, ↓reduceIte, Nat.reduceEqDiff, Int.reduceToNat]
                refine hK _ _ ?_; clear hK K
                refine OW_opS (fun K hK r => ?_)
                simp only [x_callF _ bd68, List.map_toArray, List.map_cons, List.map_nil, eX, ↓reduceIte, Nat.reduceEqDiff, Int.reduceToNat]
                refine (stamp_ok _ _ _ _ _ _ hbA (by simp) (by omega) (by omega)).mono ?_
                rintro v H' ⟨rfl, rfl⟩
                try simp only [eX, ↓reduceIte, Nat.reduceEqDiff, Int.reduceToNat]
                refine hK _ _ ?_; clear hK K
                refine OW_nil ?_
                try simp only [Ex.thnH, Ex.inBlockH, ↓reduceIte, Nat.reduceEqDiff]
                refine hK7 _ _ ?_; try clear hK7 K7
                refine CW_seq (fun K8 hK8 => ?_)
                obtain ⟨R6, hR6⟩ : ∃ R : Hp, R = H.upd b1 (.cells #[.int .i64 st, .int .i64 kd, .slice a l.length cap] 89) := ⟨_, rfl⟩
                refine CW_drawR [0, 1, 0, 0, 1, 0, 0, 0, 2, 0, 3] [0, 1, 2, 3, 4, 5, 6, 7, 8, 9, 10] R6 (by kernel_rfl) (by kernel_rfl) (by subst hR6; exact leA) (fun lR6 => ?_)
                apply TW_pure rfl (lt_some (by decide)) rfl
                · intro r
                  simp only [x_fieldAddr, fa89_1, add_mk, Nat.reduceAdd, Nat.zero_add, eX, ↓reduceIte, Nat.reduceEqDiff]
                  exact ⟨rfl, Le.refl _⟩
                simp only [eX, ↓reduceIte, Nat.reduceEqDiff, Int.reduceToNat]
                apply TW_look rfl (lt_some (by decide)) rfl
                · intro r
                  simp only [x_load, eX, ↓reduceIte, Nat.reduceEqDiff]
                  refine Lt_loadAt1 Try.underlying3 rfl hbA ldA ?_
                  exact ⟨rfl, Le.refl _⟩
                simp only [eX, ↓reduceIte, Nat.reduceEqDiff, Int.reduceToNat]
                apply TW_pure rfl (lt_some (by decide)) rfl
                · intro r
                  simp (disch := (first | omega | decide)) only [x_convert, c_int _ _ _ _ Try.underlying3 Try.underlying5, wrap_i64, wrap_u64, wrap_u32, wrap_u8, eX, ↓reduceIte, Nat.reduceEqDiff]
                  exact ⟨rfl, Le.refl _⟩
                simp only [eX, ↓reduceIte, Nat.reduceEqDiff, Int.reduceToNat]
                apply TW_pure rfl (lt_some (by decide)) rfl
                · intro r
                  simp only [x_fieldAddr, fa89_2, add_mk, Nat.reduceAdd, Nat.zero_add, eX, ↓reduceIte, Nat.reduceEqDiff]
                  exact ⟨rfl, Le.refl _⟩
                simp only [eX, ↓reduceIte, Nat.reduceEqDiff, Int.reduceToNat]
                apply TW_look rfl (lt_some (by decide)) rfl
                · intro r
                  simp only [x_load, eX, ↓reduceIte, Nat.reduceEqDiff]
                  refine Lt_loadAt1 Try.underlying80 rfl hbA ldA ?_
                  exact ⟨rfl, Le.refl _⟩
                simp only [eX, ↓reduceIte, Nat.reduceEqDiff, Int.reduceToNat]
                apply TW_pure rfl (lt_some (by decide)) rfl
                · intro r
                  simp only [x_builtin, l_len, List.map_toArray, List.map_cons, List.map_nil, i_len_slice _ _ Try.underlying80, eX, ↓reduceIte, Nat.reduceEqDiff]
                  exact ⟨rfl, Le.refl _⟩
                simp only [eX, ↓reduceIte, Nat.reduceEqDiff, Int.reduceToNat]
                apply TW_pure rfl (lt_some (by decide)) rfl
                · intro r
                  simp (disch := (first | omega | decide)) only [x_convert, c_int _ _ _ _ Try.underlying3 Try.underlying5, wrap_i64, wrap_u64, wrap_u32, wrap_u8, eX, ↓reduceIte, Nat.reduceEqDiff]
                  exact ⟨rfl, Le.refl _⟩
                simp only [eX, ↓reduceIte, Nat.reduceEqDiff, Int.reduceToNat]
                apply TW_pure rfl (lt_some (by decide)) rfl
                · intro r
                  simp only [x_indexAddr, eX, ↓reduceIte, Nat.reduceEqDiff]
                  refine Lt_indexA Try.underlying30 sz5 ixA ixA ?_
                  try simp only [add_mk, Nat.mul_one, Nat.zero_add, Int.reduceToNat]
                  exact ⟨rfl, Le.refl _⟩
                simp only [eX, ↓reduceIte, Nat.reduceEqDiff, Int.reduceToNat]
                refine TW_chain rfl (lt_none) rfl (fun K hK r => ?_)
                simp only [x_store, eX, ↓reduceIte, Nat.reduceEqDiff, Int.reduceToNat]
                refine Lt_storeAt1 sz5 hbA bdA plA fzA ?_
                try simp only [setL0, setL1, setL2, setL3, setL4, setL5, setL6, setL7, setL8, setL9]
                try simp only [eX, ↓reduceIte, Nat.reduceEqDiff, Int.reduceToNat]
                refine hK _ _ leA ?_; clear hK K
                apply TW_pure rfl (lt_some (by decide)) rfl
                · intro r
                  simp only [x_indexAddr, eX, ↓reduceIte, Nat.reduceEqDiff]
                  refine Lt_indexA Try.underlying30 sz5 ixA ixA ?_
                  try simp only [add_mk, Nat.mul_one, Nat.zero_add, Int.reduceToNat]
                  exact ⟨rfl, Le.refl _⟩
                simp only [eX, ↓reduceIte, Nat.reduceEqDiff, Int.reduceToNat]
                refine TW_last rfl (lt_none) rfl (fun K hK r => ?_)
                simp only [x_store, eX, ↓reduceIte, Nat.reduceEqDiff, Int.reduceToNat]
                refine Lt_storeAt1 sz5 hbA bdA plA fzA ?_
                try simp only [setL0, setL1, setL2, setL3, setL4, setL5, setL6, setL7, setL8, setL9]
                try simp only [eX, ↓reduceIte, Nat.reduceEqDiff, Int.reduceToNat]
                refine hK _ _ ?_; clear hK K
                refine TW_nil ?_
                try simp only [Ex.thnH, Ex.inBlockH, ↓reduceIte, Nat.reduceEqDiff]
                refine hK8 _ _ ?_; try clear hK8 K8
                refine CW_seq (fun K9 hK9 => ?_)
                obtain ⟨R7, hR7⟩ : ∃ R : Hp, R = H.upd b1 (.cells #[.int .i64 st, .int .i64 kd, .slice a l.length cap] 89) := ⟨_, rfl⟩
                refine CW_drawR [0, 0, 1, 3] [0, 1, 2, 3] R7 (by kernel_rfl) (by kernel_rfl) (by subst hR7; exact leA) (fun lR7 => ?_)
                apply TW_pure rfl (lt_some (by decide)) rfl
                · intro r
                  simp only [x_slice, Option.map_some, Option.map_none, eX, ↓reduceIte, Nat.reduceEqDiff]
                  refine Lt_sliceA Try.underlying30 sz5 bound_none bound_none (bound_some ixA) bxA bxA bxA (by simp) ?_
                  try simp only [add_mk, Nat.mul_one, Nat.zero_add, Int.reduceToNat, Nat.reduceSub, Nat.reduceEqDiff, ↓reduceIte]
                  exact ⟨rfl, Le.refl _⟩
                simp only [eX, ↓reduceIte, Nat.reduceEqDiff, Int.reduceToNat]
                apply TW_pure rfl (lt_some (by decide)) rfl
                · intro r
                  simp only [x_fieldAddr, fa89_2, add_mk, Nat.reduceAdd, Nat.zero_add, eX, ↓reduceIte, Nat.reduceEqDiff]
                  exact ⟨rfl, Le.refl _⟩
                simp only [eX, ↓reduceIte, Nat.reduceEqDiff, Int.reduceToNat]
                apply TW_look rfl (lt_some (by decide)) rfl
                · intro r
                  simp only [x_load, eX, ↓reduceIte, Nat.reduceEqDiff]
                  refine Lt_loadAt1 Try.underlying80 rfl hbA ldA ?_
                  exact ⟨rfl, Le.refl _⟩
                simp only [eX, ↓reduceIte, Nat.reduceEqDiff, Int.reduceToNat]
                refine TW_last rfl (lt_some (by decide)) rfl (fun K hK r => ?_)
                simp only [x_builtin, l_copy, List.map_toArray, List.map_cons, List.map_nil, eX, ↓reduceIte, Nat.reduceEqDiff, Int.reduceToNat]
                have hmin : Nat.min l.length 56 = l.length := Nat.min_eq_left (by omega)
                refine Lt_copy (w := 1) (cs := u8s l) Try.underlying80 sz5 _ hbA bdA (len_slice _ _ _) (fun K => ?_) (by rw [hmin]; simp [u8s]) (PlainL.ints _ _) (by decide) ?_
                · rw [hmin]
                  refine (first_holds (hd.le lhA) (Nat.le_refl _) K).trans ?_
                  rw [Nat.mul_one, List.take_of_length_le (by simp [u8s])]
                refine hK _ _ ?_; clear hK K
                refine TW_nil ?_
                try simp only [Ex.thnH, Ex.inBlockH, ↓reduceIte, Nat.reduceEqDiff]
                refine hK9 _ _ ?_; try clear hK9 K9
                refine CW_seq (fun K10 hK10 => ?_)
                refine CW_region ?_
                refine OW_opS (fun K hK r => ?_)
                simp only [x_fieldAddr, fa89_0, add_mk, Nat.reduceAdd, Nat.zero_add, eX, ↓reduceIte, Nat.reduceEqDiff, Int.reduceToNat]
                refine hK _ _ ?_; clear hK K
                refine OW_opS (fun K hK r => ?_)
                simp only [x_load, eX, ↓reduceIte, Nat.reduceEqDiff, Int.reduceToNat]
                refine Lt_loadAt1 Try.underlying3 rfl hbA ldA ?_
                try simp only [eX, ↓reduceIte, Nat.reduceEqDiff, Int.reduceToNat]
                refine hK _ _ ?_; clear hK K
                refine OW_opS (fun K hK r => ?_)
                simp only [x_callF _ bd68, List.map_toArray, List.map_cons, List.map_nil, eX, ↓reduceIte, Nat.reduceEqDiff, Int.reduceToNat]
                refine (stamp_ok _ _ _ _ _ _ hbA (by simp) (by omega) (by omega)).mono ?_
                rintro v H' ⟨rfl, rfl⟩
                try simp only [eX, ↓reduceIte, Nat.reduceEqDiff, Int.reduceToNat]
                refine hK _ _ ?_; clear hK K
                refine OW_nil ?_
                try simp only [Ex.thnH, Ex.inBlockH, ↓reduceIte, Nat.reduceEqDiff]
                refine hK10 _ _ ?_; try clear hK10 K10
                refine CW_seq (fun K11 hK11 => ?_)
                refine CW_region ?_
                refine OW_opS (fun K hK r => ?_)
                simp only [x_load, eX, ↓reduceIte, Nat.reduceEqDiff, Int.reduceToNat]
                first | refine Lt_loadAll Try.underlying30 rfl sz30 hbA bdA ?_ | refine Lt_loadAtA Try.underlying30 rfl sz30 hbA bdA ?_
                try simp only [eX, ↓reduceIte, Nat.reduceEqDiff, Int.reduceToNat]
                refine hK _ _ ?_; clear hK K
                refine OW_op rfl (lt_none) (fun K hK r => ?_)
                simp only [x_store, eX, ↓reduceIte, Nat.reduceEqDiff, Int.reduceToNat]
                first | refine Lt_storeAll sz30 bdA hbA bdA plA (by decide) ?_ | refine Lt_storeAtA sz30 bdA hbA bdA plA (by decide) ?_
                try simp only [eX, ↓reduceIte, Nat.reduceEqDiff, Int.reduceToNat]
                refine hK _ _ ?_; clear hK K
                refine OW_as rfl ?_
                refine OW_nil ?_
                try simp only [Ex.thnH, Ex.inBlockH, ↓reduceIte, Nat.reduceEqDiff]
                refine hK11 _ _ ?_; try clear hK11 K11
                refine CW_ret ?_
                try simp only [Ex.thnH, Ex.inBlockH, ↓reduceIte, Nat.reduceEqDiff]
                first
                | (have hb : badI st kd l = none := by simp only [badI]; rw [if_neg (by omega), if_neg (by omega)]
                   refine ⟨[_, _], ⟨⟨_, rfl, Lq_loadAll Try.underlying30 rfl sz30 hbA bdA⟩, rfl, trivial⟩, H, lhA, ?_, rfl⟩
                   show Value.tuple #[_, _] = _
                   rw [seal_cells st kd l (by omega), sealI, hb]; rfl)
                | (have hb : badI st kd l = some 2 := by simp only [badI]; rw [if_neg (by omega), if_pos (by omega)]
                   refine ⟨[_, _], ⟨⟨_, rfl, Lq_loadAll Try.underlying30 rfl sz30 hbA bdA⟩, rfl, trivial⟩, H, lhA, ?_, rfl⟩
                   show Value.tuple #[_, _] = _
                   rw [sealI, hb]; simp only [zero_cells]; rfl)
                | (have hb : badI st kd l = some 1 := by simp only [badI]; rw [if_pos (by omega)]
                   refine ⟨[_, _], ⟨⟨_, rfl, Lq_loadAll Try.underlying30 rfl sz30 hbA bdA⟩, rfl, trivial⟩, H, lhA, ?_, rfl⟩
                   show Value.tuple #[_, _] = _
                   rw [sealI, hb]; simp only [zero_cells]; rfl)
                | skip

end Go.Proofs.Ytigofhhonnbkmaa.HL
end
