/- What each operation comes to on a partial heap: equations for 'simp'. -/
import Derived.Test.YtlkopcgoaldpeaaHLProc
namespace Go.Proofs.Ytlkopcgoaldpeaa.HL
set_option linter.unusedSimpArgs false
set_option linter.unusedVariables false
open Go

section
variable {P : Program} {α β : Type} {H : Hp} {K : α → Hp → Prop}
theorem l_pure (a : α) : Lt P (pure a : Sem α) H K = K a H := rfl
theorem l_pure' (a : α) : Lt P (Sem.pure a) H K = K a H := rfl
theorem l_bind (s : Sem β) (f : β → Sem α) : Lt P (s >>= f) H K = Lt P s H (fun a H' => Lt P (f a) H' K) := Lt_bind s f H K
theorem l_map (s : Sem β) (f : β → α) : Lt P (f <$> s) H K = Lt P s H (fun a H' => K (f a) H') := Lt_bind s _ H K
theorem l_stuck (why : String) : Lt P (stuck why : Sem α) H K = False := rfl
theorem l_unsupported (u : Unsupported) : Lt P (unsupported u : Sem α) H K = False := rfl
end

def szOf (P : Program) (t : TypeId) : Option Nat := (P.info? t).map (·.size)
def zrOf (P : Program) (t : TypeId) : Option (Option Value) := (P.info? t).map (·.zero)
def byOf (P : Program) (t : TypeId) : Option Nat := (P.info? t).map (·.bytes)
def isAggD : TypeDesc → Bool
  | .struct _ => true
  | .array _ _ => true
  | _ => false
/-- One answer, or nothing. -/
def orF {α : Type} (o : Option α) (f : α → Prop) : Prop := match o with | some a => f a | none => False
theorem orF_some {α : Type} (a : α) (f : α → Prop) : orF (some a) f = f a := rfl

section
variable {P : Program} {H : Hp}
theorem l_und (t : TypeId) (K : TypeDesc → Hp → Prop) : Lt P (underlying t) H K = orF (P.underlying t) (fun d => K d H) := by
  simp only [underlying, program, Bind.bind, Lt_bind, Lt]; cases P.underlying t <;> rfl
theorem l_size (t : TypeId) (K : Nat → Hp → Prop) : Lt P (sizeOf t) H K = orF (szOf P t) (fun n => K n H) := by
  simp only [sizeOf, typeInfo, program, Bind.bind, Lt_bind, Lt, szOf]; cases P.info? t <;> rfl
theorem l_zero (t : TypeId) (K : Value → Hp → Prop) : Lt P (zeroValue t) H K = orF (zrOf P t) (fun z => orF z (fun v => K v H)) := by
  simp only [zeroValue, typeInfo, program, Bind.bind, Lt_bind, Lt, zrOf]
  cases P.info? t with
  | none => rfl
  | some i => simp only [Option.map_some, orF]; cases h : i.zero <;> simp [Lt, Pure.pure, h, unsupported]
theorem l_isAgg (t : TypeId) (K : Bool → Hp → Prop) : Lt P (isAgg t) H K = orF (P.underlying t) (fun d => K (isAggD d) H) := by
  simp only [isAgg, l_bind, l_und]; cases P.underlying t with
  | none => rfl
  | some d => cases d <;> rfl
theorem l_load (a : Addr) (K : Value → Hp → Prop) : Lt P (load a) H K = ∃ v, H.cell a = some v ∧ K v H := rfl
theorem l_sureAddr (a : Addr) (K : Addr → Hp → Prop) : Lt P (Instr.sureAddr (.pointer (some a))) H K = K a H := rfl
theorem l_new (o : Obj) (K : Nat → Hp → Prop) : Lt P (newObj o) H K = ∀ r, H r = none → K r (H.upd r o) := rfl
theorem l_newRow (t : TypeId) (c : Array Value) (K : Addr → Hp → Prop) : Lt P (newRow t c) H K = ∀ r, H r = none → K ⟨r, 0, none⟩ (H.upd r (.cells c t)) := rfl
theorem l_newVar (t : TypeId) (v : Value) (K : Addr → Hp → Prop) : Lt P (newVar t v) H K = ∀ r, H r = none → K ⟨r, 0, none⟩ (H.upd r (.cells v.cells t)) := rfl
theorem l_asIntOf (k : IntKind) (n : Int) (K : IntKind × Int → Hp → Prop) : Lt P (asIntOf (.int k n)) H K = K (k, n) H := rfl
theorem l_asInt (k : IntKind) (n : Int) (K : Int → Hp → Prop) : Lt P (asInt (.int k n)) H K = K n H := rfl
theorem l_asBool (b : Bool) (K : Bool → Hp → Prop) : Lt P (asBool (.bool b)) H K = K b H := rfl
theorem l_asAddr (a : Addr) (K : Addr → Hp → Prop) : Lt P (asAddr (.pointer (some a))) H K = K a H := rfl
theorem l_asAgg (c : Array Value) (K : Array Value → Hp → Prop) : Lt P (asAgg (.agg c)) H K = K c H := rfl
theorem l_asString (s : ByteArray) (K : ByteArray → Hp → Prop) : Lt P (asString (.string s)) H K = K s H := rfl
end

/-! ### rows of cells -/
theorem Addr_add_spot (a : Addr) (h : a.spot = none) (n : Nat) : a.add n = ⟨a.block, a.off + n, none⟩ := by
  unfold Addr.add; split
  · rename_i h0; subst h0; cases a; simp_all
  · cases a; simp_all
theorem add_mk (b o n : Nat) : (⟨b, o, none⟩ : Addr).add n = ⟨b, o + n, none⟩ := Addr_add_spot _ rfl n

theorem cell_of {H : Hp} {b : Nat} {c : Array Value} {t : TypeId} {f : Nat × Nat} (h : H b = some (.cells c t f)) (o : Nat) : H.cell ⟨b, o, none⟩ = c[o]? := by
  simp [Hp.cell, h]
theorem loadCellsFrom_lt {P : Program} {H : Hp} {b : Nat} {c : Array Value} {t : TypeId} {f : Nat × Nat} (h : H b = some (.cells c t f)) (o : Nat) : ∀ (n i : Nat) (acc : Array Value) (K : Array Value → Hp → Prop), o + i + n ≤ c.size →
    Lt P (loadCellsFrom ⟨b, o, none⟩ i n acc) H K = K (acc ++ c.extract (o + i) (o + i + n)) H
  | 0, i, acc, K, _ => by
    have : c.extract (o + i) (o + i + 0) = #[] := by simp; omega
    rw [this]; simp [loadCellsFrom, l_pure]
  | n + 1, i, acc, K, hn => by
    have hc : H.cell ⟨b, o + i, none⟩ = some c[o + i] := by rw [cell_of h]; simp
    simp only [loadCellsFrom, l_bind, add_mk, l_load, hc]
    have ih := loadCellsFrom_lt (P := P) h o n (i + 1) (acc.push c[o + i]) K (by omega)
    have e1 : (acc.push c[o + i]) ++ c.extract (o + (i + 1)) (o + (i + 1) + n) = acc ++ c.extract (o + i) (o + i + (n + 1)) := by
      apply Array.ext'
      simp only [Array.toList_append, Array.toList_push, Array.toList_extract, List.append_assoc]
      congr 1
      have : o + i + (n + 1) - (o + i) = n + 1 := by omega
      have h2 : o + (i + 1) + n - (o + (i + 1)) = n := by omega
      rw [List.extract_eq_take_drop, List.extract_eq_take_drop, this, h2]
      have h3 : c.toList.drop (o + i) = c[o + i] :: c.toList.drop (o + (i + 1)) := by
        rw [List.drop_eq_getElem_cons (by simp; omega)]; rfl
      rw [h3]; simp
    rw [← e1, ← ih]
    apply propext; constructor
    · rintro ⟨v, hv, hk⟩; cases hv; exact hk
    · intro hk; exact ⟨_, rfl, hk⟩
theorem loadCells_lt {P : Program} {H : Hp} {b : Nat} {c : Array Value} {t : TypeId} {f : Nat × Nat} (h : H b = some (.cells c t f)) (o n : Nat) (hn : o + n ≤ c.size) (K : Array Value → Hp → Prop) :
    Lt P (loadCells ⟨b, o, none⟩ n) H K = K (c.extract o (o + n)) H := by
  have := loadCellsFrom_lt (P := P) h o n 0 #[] K (by omega)
  simpa [loadCells] using this

/-- Cells from 'o' on are others. -/
def putCells (c : Array Value) : Nat → List Value → Array Value
  | _, [] => c
  | o, v :: r => putCells (c.setIfInBounds o v) (o + 1) r
@[simp] theorem putCells_size : ∀ (l : List Value) (c : Array Value) (o : Nat), (putCells c o l).size = c.size
  | [], _, _ => rfl
  | v :: r, c, o => by rw [putCells, putCells_size r]; simp
theorem putCells_snoc : ∀ (l : List Value) (c : Array Value) (o : Nat) (v : Value), putCells c o (l ++ [v]) = (putCells c o l).setIfInBounds (o + l.length) v
  | [], _, _, _ => by simp [putCells]
  | u :: r, c, o, v => by
    simp only [List.cons_append, putCells, List.length_cons]
    rw [putCells_snoc r]
    congr 1; omega
theorem upd_upd (H : Hp) (b : Nat) (o o' : Obj) : (H.upd b o).upd b o' = H.upd b o' := by
  funext x; unfold Hp.upd; split <;> rfl
theorem upd_self (H : Hp) (b : Nat) (o : Obj) (h : H b = some o) : H.upd b o = H := by
  funext x; unfold Hp.upd; split
  · rename_i e; subst e; exact h.symm
  · rfl
theorem storeCells_lt {P : Program} {b : Nat} {t : TypeId} {f : Nat × Nat} {o : Nat} : ∀ (l : List Value) (i : Nat) (H : Hp) (c : Array Value) (K : Unit → Hp → Prop), H b = some (.cells c t f) →
    (∀ v ∈ l, plainCell v = true) → o + i + l.length ≤ c.size → (∀ j, o + i ≤ j → j < o + i + l.length → ¬ (f.1 ≤ j ∧ j < f.2)) →
    Lt P (storeCells ⟨b, o, none⟩ l i) H K = K () (H.upd b (.cells (putCells c (o + i) l) t f))
  | [], i, H, c, K, h, _, _, _ => by rw [storeCells, l_pure, putCells, upd_self H b _ h]
  | v :: r, i, H, c, K, h, hp, hn, hf => by
    simp only [List.length_cons] at hn hf
    have ih := storeCells_lt (P := P) (b := b) (t := t) (f := f) (o := o) r (i + 1) (H.upd b (.cells (c.setIfInBounds (o + i) v) t f)) (c.setIfInBounds (o + i) v) K (upd_same _ _ _)
      (fun u hu => hp u (by simp [hu])) (by simp; omega) (fun j h1 h2 => hf j (by omega) (by omega))
    simp only [storeCells, l_bind, add_mk]
    rw [putCells]
    have hcell : H.cell ⟨b, o + i, none⟩ ≠ none := by rw [cell_of h]; simp; omega
    have hfr : frozenIn (o + i) (.cells c t f) = false := by
      obtain ⟨lo, hi⟩ := f
      have := hf (o + i) (by omega) (by omega)
      simp only [frozenIn, Bool.and_eq_false_iff, decide_eq_false_iff_not]
      by_cases h1 : lo ≤ o + i
      · right; intro h2; exact this ⟨h1, h2⟩
      · left; exact h1
    have hv := hp v (by simp)
    apply propext
    have e2 : (H.upd b (.cells (c.setIfInBounds (o + i) v) t f)).upd b (.cells (putCells (c.setIfInBounds (o + i) v) (o + (i + 1)) r) t f) = H.upd b (.cells (putCells (c.setIfInBounds (o + i) v) (o + i + 1) r) t f) := by
      rw [upd_upd]; rfl
    rw [← e2, ← ih]
    show (∃ o', H b = some o' ∧ _) ↔ _
    constructor
    · rintro ⟨o', h1, _, _, _, h5⟩
      rw [h] at h1; cases h1
      exact h5
    · intro h5
      exact ⟨_, h, hv, hcell, hfr, h5⟩

theorem loadVar_one {P : Program} {H : Hp} (t : TypeId) (a : Addr) (K : Value → Hp → Prop) : Lt P (loadVar t a) H K = orF (P.underlying t) (fun d => if isAggD d then orF (szOf P t) (fun n => Lt P (loadCells a n) H (fun cs H' => K (.agg cs) H')) else ∃ v, H.cell a = some v ∧ K v H) := by
  simp only [loadVar, l_bind, l_isAgg]
  cases P.underlying t with
  | none => rfl
  | some d =>
    simp only [orF_some]
    cases isAggD d
    · rfl
    · simp only [if_true, l_bind, l_size, l_pure]
theorem storeVar_eq {P : Program} {H : Hp} (t : TypeId) (a : Addr) (v : Value) (K : Unit → Hp → Prop) : Lt P (storeVar t a v) H K = orF (szOf P t) (fun n => v.cells.size = n ∧ Lt P (storeCells a v.cells.toList) H K) := by
  simp only [storeVar, l_bind, l_size]
  cases szOf P t with
  | none => rfl
  | some n =>
    simp only [orF_some]
    by_cases h : v.cells.size = n
    · simp [h, l_bind, l_pure]
    · simp [h, l_bind, l_stuck]

/-! ### the operations -/
section
variable {P : Program} {ρ : Operand → Value} {d : Option Nat} {ty : TypeId} {p : String} {af : Array Edge} {g : Option (Nat × Bool)} {H : Hp} {K : Next → Hp → Prop}
theorem x_move (x : Operand) : Lt P (execOp ρ ⟨d, .move x, ty, p, af, g⟩) H K = K (.value (ρ x)) H := rfl
theorem x_assign (x : Operand) : Lt P (execOp ρ ⟨d, .assign x, ty, p, af, g⟩) H K = K (.value (ρ x)) H := rfl
theorem x_pick (c a b : Operand) : Lt P (execOp ρ ⟨d, .pick c a b, ty, p, af, g⟩) H K = Lt P (asBool (ρ c)) H (fun t H' => K (.value (if t then ρ a else ρ b)) H') := Lt_bind _ _ _ _
theorem x_alloc (t : TypeId) : Lt P (execOp ρ ⟨d, .alloc t, ty, p, af, g⟩) H K = orF (zrOf P t) (fun z => orF z (fun v => ∀ r, H r = none → K (.value (.pointer (some ⟨r, 0, none⟩))) (H.upd r (.cells v.cells t)))) := by
  simp only [execOp, Instr.alloc, l_bind, l_zero]
  rfl
theorem x_box (t : TypeId) (x : Operand) : Lt P (execOp ρ ⟨d, .box t x, ty, p, af, g⟩) H K = ∀ r, H r = none → K (.value (.pointer (some ⟨r, 0, none⟩))) (H.upd r (.cells (ρ x).cells t)) := rfl
theorem x_build (t : TypeId) (ps : Array (Nat × Operand)) : Lt P (execOp ρ ⟨d, .build t ps, ty, p, af, g⟩) H K = Lt P (Instr.build t (ps.map fun (i, x) => (i, ρ x))) H (fun v H' => K (.value v) H') := Lt_bind _ _ _ _
theorem x_buildSlice (t : TypeId) (n : Nat) (ps : Array (Nat × Operand)) : Lt P (execOp ρ ⟨d, .buildSlice t n ps, ty, p, af, g⟩) H K = Lt P (Instr.buildSlice t n (ps.map fun (i, x) => (i, ρ x))) H (fun v H' => K (.value v) H') := Lt_bind _ _ _ _
theorem x_load (t : TypeId) (a : Operand) : Lt P (execOp ρ ⟨d, .load t a, ty, p, af, g⟩) H K = Lt P (Instr.loadAt t (ρ a)) H (fun v H' => K (.value v) H') := Lt_bind _ _ _ _
theorem l_loadAt (t : TypeId) (a : Addr) (K : Value → Hp → Prop) : Lt P (Instr.loadAt t (.pointer (some a))) H K = Lt P (loadVar t a) H K := rfl
theorem x_store (t : TypeId) (a x : Operand) : Lt P (execOp ρ ⟨d, .store t a x, ty, p, af, g⟩) H K = Lt P (Instr.storeAt t (ρ a) (ρ x)) H (fun _ H' => K .skip H') := Lt_bind _ _ _ _
theorem l_storeAt (t : TypeId) (a : Addr) (v : Value) (K : Unit → Hp → Prop) : Lt P (Instr.storeAt t (.pointer (some a)) v) H K = Lt P (storeVar t a v) H K := rfl
theorem x_nilCheck (x : Operand) (a : Addr) (h : ρ x = .pointer (some a)) : Lt P (execOp ρ ⟨d, .nilCheck x, ty, p, af, g⟩) H K = K (.value (.pointer (some a))) H := by
  simp only [execOp, h]; rfl
theorem x_bin (op : BinOp) (xt : TypeId) (x y : Operand) (yt : TypeId) : Lt P (execOp ρ ⟨d, .binOp op xt x y yt, ty, p, af, g⟩) H K = Lt P (eqGuard op xt x y (ρ x) (ρ y)) H (fun _ H' => Lt P (binOp op xt (ρ x) (ρ y)) H' (fun v H'' => K (.value v) H'')) := by
  simp only [execOp, l_bind, l_pure]
theorem x_un (op : UnOp) (xt : TypeId) (x : Operand) : Lt P (execOp ρ ⟨d, .unOp op xt x, ty, p, af, g⟩) H K = Lt P (Op.unary op (ρ x)) H (fun v H' => K (.value v) H') := Lt_bind _ _ _ _
theorem x_convert (s t : TypeId) (x : Operand) : Lt P (execOp ρ ⟨d, .convert s t x, ty, p, af, g⟩) H K = Lt P (Go.convert s t (ρ x)) H (fun v H' => K (.value v) H') := Lt_bind _ _ _ _
theorem x_makeInterface (t : TypeId) (x : Operand) : Lt P (execOp ρ ⟨d, .makeInterface t x, ty, p, af, g⟩) H K = Lt P (Instr.makeInterface t (ρ x)) H (fun v H' => K (.value v) H') := Lt_bind _ _ _ _
theorem x_makeFunc (fn : Fn) (a b : Array Operand) : Lt P (execOp ρ ⟨d, .makeFunc fn a b, ty, p, af, g⟩) H K = K (.value (.func fn (a.map ρ) (b.map ρ))) H := rfl
theorem x_makeSlice (t : TypeId) (a b : Operand) : Lt P (execOp ρ ⟨d, .makeSlice t a b, ty, p, af, g⟩) H K = Lt P (Instr.makeSlice t (ρ a) (ρ b)) H (fun v H' => K (.value v) H') := Lt_bind _ _ _ _
theorem x_makeMap (t : TypeId) (a : Option Operand) : Lt P (execOp ρ ⟨d, .makeMap t a, ty, p, af, g⟩) H K = Lt P (Instr.makeMap t (a.map ρ)) H (fun v H' => K (.value v) H') := Lt_bind _ _ _ _
theorem x_slice (t : TypeId) (x : Operand) (lo hi mx : Option Operand) : Lt P (execOp ρ ⟨d, .slice t x lo hi mx, ty, p, af, g⟩) H K = Lt P (Instr.sliceAt t (ρ x) (lo.map ρ) (hi.map ρ) (mx.map ρ)) H (fun v H' => K (.value v) H') := Lt_bind _ _ _ _
theorem x_fieldAddr (t : TypeId) (x : Operand) (f : Nat) : Lt P (execOp ρ ⟨d, .fieldAddr t x f, ty, p, af, g⟩) H K = Lt P (Instr.fieldAt t (ρ x) f) H (fun v H' => K (.value v) H') := Lt_bind _ _ _ _
theorem x_field (t : TypeId) (x : Operand) (f : Nat) : Lt P (execOp ρ ⟨d, .field t x f, ty, p, af, g⟩) H K = Lt P (Instr.field t (ρ x) f) H (fun v H' => K (.value v) H') := Lt_bind _ _ _ _
theorem x_indexAddr (t : TypeId) (x i : Operand) : Lt P (execOp ρ ⟨d, .indexAddr t x i, ty, p, af, g⟩) H K = Lt P (Instr.indexAt t (ρ x) (ρ i)) H (fun v H' => K (.value v) H') := Lt_bind _ _ _ _
theorem x_index (t : TypeId) (x i : Operand) : Lt P (execOp ρ ⟨d, .index t x i, ty, p, af, g⟩) H K = Lt P (Instr.index t (ρ x) (ρ i)) H (fun v H' => K (.value v) H') := Lt_bind _ _ _ _
theorem x_extract (x : Operand) (i : Nat) : Lt P (execOp ρ ⟨d, .extract x i, ty, p, af, g⟩) H K = Lt P (Instr.extract (ρ x) i) H (fun v H' => K (.value v) H') := Lt_bind _ _ _ _
theorem x_typeAssert (x : Operand) (a b : TypeId) (ok : Bool) : Lt P (execOp ρ ⟨d, .typeAssert x a b ok, ty, p, af, g⟩) H K = Lt P (Instr.typeAssert (ρ x) a b ok) H (fun v H' => K (.value v) H') := Lt_bind _ _ _ _
theorem x_lookup (t : TypeId) (x i : Operand) (ok : Bool) : Lt P (execOp ρ ⟨d, .lookup t x i ok, ty, p, af, g⟩) H K = Lt P (Instr.lookup t (ρ x) (ρ i) ok) H (fun v H' => K (.value v) H') := Lt_bind _ _ _ _
theorem x_mapUpdate (t : TypeId) (m k x : Operand) : Lt P (execOp ρ ⟨d, .mapUpdate t m k x, ty, p, af, g⟩) H K = Lt P (Instr.mapUpdate t (ρ m) (ρ k) (ρ x)) H (fun _ H' => K .skip H') := Lt_bind _ _ _ _
theorem x_range (t : TypeId) (x : Operand) : Lt P (execOp ρ ⟨d, .range t x, ty, p, af, g⟩) H K = Lt P (Instr.range t (ρ x)) H (fun v H' => K (.value v) H') := Lt_bind _ _ _ _
theorem x_next (it : Operand) (s : Bool) : Lt P (execOp ρ ⟨d, .next it s, ty, p, af, g⟩) H K = Lt P (Instr.next (ρ it) s ty) H (fun v H' => K (.value v) H') := Lt_bind _ _ _ _
/-- A builtin. -/
theorem x_builtin (b : Builtin) (args : Array Operand) (ts : Array TypeId) : Lt P (execOp ρ ⟨d, .call ⟨.builtin b, args, ts⟩, ty, p, af, g⟩) H K =
    Lt P (Go.builtin b ts ty (args.map fun | .const _ => true | _ => false) (args.map ρ)) H K := rfl
theorem l_len (ts : Array TypeId) (c : Array Bool) (args : Array Value) : Lt P (Go.builtin .len ts ty c args) H K = Lt P (Builtin.len_ ts ty args) H (fun v H' => K (.value v) H') := Lt_bind _ _ _ _
theorem l_cap (ts : Array TypeId) (c : Array Bool) (args : Array Value) : Lt P (Go.builtin .cap ts ty c args) H K = Lt P (Builtin.cap_ ts ty args) H (fun v H' => K (.value v) H') := Lt_bind _ _ _ _
theorem l_min (ts : Array TypeId) (c : Array Bool) (args : Array Value) : Lt P (Go.builtin .min ts ty c args) H K = Lt P (Builtin.min_ ts ty args) H (fun v H' => K (.value v) H') := Lt_bind _ _ _ _
theorem l_max (ts : Array TypeId) (c : Array Bool) (args : Array Value) : Lt P (Go.builtin .max ts ty c args) H K = Lt P (Builtin.max_ ts ty args) H (fun v H' => K (.value v) H') := Lt_bind _ _ _ _
theorem l_append (ts : Array TypeId) (c : Array Bool) (args : Array Value) : Lt P (Go.builtin .append ts ty c args) H K = Lt P (Builtin.append_ ts ty args) H (fun v H' => K (.value v) H') := Lt_bind _ _ _ _
theorem l_copy (ts : Array TypeId) (c : Array Bool) (args : Array Value) : Lt P (Go.builtin .copy ts ty c args) H K = Lt P (Builtin.copy_ ts ty args) H (fun v H' => K (.value v) H') := Lt_bind _ _ _ _
theorem l_delete (ts : Array TypeId) (c : Array Bool) (args : Array Value) : Lt P (Go.builtin .delete ts ty c args) H K = Lt P (Builtin.delete_ ts ty args) H (fun v H' => K (.value v) H') := Lt_bind _ _ _ _
/-- A call of a function value, or of a function. -/
theorem x_call (f : Operand) (args : Array Operand) (ts : Array TypeId) : Lt P (execOp ρ ⟨d, .call ⟨.value f, args, ts⟩, ty, p, af, g⟩) H K =
    Lt P (do let q ← Deferred.ofValue (ρ f) (args.map ρ); invoke q.target q.args) H K := rfl
end
/-- A function with a body of its own. -/
def bodied (P : Program) (f : FuncId) : Bool := match P.funcs[f]? with | some fn => fn.name != "runtime.NumGoroutine" && fn.body.isSome | none => false
section
variable {P : Program} {H : Hp} {K : Next → Hp → Prop}
theorem l_callFunc (f : FuncId) (args : Array Value) (h : bodied P f = true) : Lt P (callFunc f args) H K = K (.enter f args) H := by
  unfold bodied at h
  simp only [callFunc, program, Bind.bind, Lt_bind, Lt]
  cases hf : P.funcs[f]? with
  | none => rw [hf] at h; cases h
  | some fn =>
    rw [hf] at h
    simp only [Bool.and_eq_true, bne_iff_ne, ne_eq] at h
    have h1 : (fn.name == "runtime.NumGoroutine") = false := by simpa using h.1
    have h2 : fn.body.isNone = false := by cases hb : fn.body <;> simp_all
    simp only [h1, h2, Bool.false_eq_true, if_false]
    rfl
theorem l_callV (f : FuncId) (caps args : Array Value) : Lt P (do let q ← Deferred.ofValue (.func (.func f) #[] caps) args; invoke q.target q.args) H K = Lt P (callFunc f ((#[] ++ args) ++ caps)) H K := rfl
end
end Go.Proofs.Ytlkopcgoaldpeaa.HL
