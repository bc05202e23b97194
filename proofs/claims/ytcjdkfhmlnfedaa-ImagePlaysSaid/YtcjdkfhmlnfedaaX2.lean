/- Parts of the proof, one behind the other: HLMore, HLNum, HLFlat, HLApi, HLFrame, HLFrame2, HLShort, S16Ty, HLOwn, HLIf, HLIter, HLMap, Md02, I10, MdAp, I11. -/
import Derived.Laws.Externs
import Derived.Laws.MathBits
import Derived.Carry
import Derived.ChangeOld
import Derived.OpenShut
import Derived.ChangeSlices
import Derived.Test.YtcjdkfhmlnfedaaProg
import Derived.KernelRfl
import Derived.Test.YtcjdkfhmlnfedaaX1
set_option linter.unusedSimpArgs false
set_option linter.unusedVariables false
section
namespace Go.Proofs.Ytcjdkfhmlnfedaa.HL
open Go
set_option linter.unusedSimpArgs false
set_option linter.unusedVariables false
theorem or_i64 (a x : Int) (k : Nat) (h0 : 0 ≤ a) (h1 : a < 2 ^ k) (hx : 0 ≤ x) (h2 : a + x * 2 ^ k ≤ 9223372036854775807) :
    IntKind.i64.wrap (BitVec.ofInt IntKind.i64.bits a ||| BitVec.ofInt IntKind.i64.bits (x * 2 ^ k)).toNat = a + x * 2 ^ k := by
  obtain ⟨n, rfl⟩ := Int.eq_ofNat_of_zero_le h0
  obtain ⟨m, rfl⟩ := Int.eq_ofNat_of_zero_le hx
  have e0 : ((2 : Int) ^ k) = ((2 ^ k : Nat) : Int) := by rw [Int.natCast_pow]; rfl
  rw [e0] at h1
  have h1' : n < 2 ^ k := by omega
  have e1 : ((m : Int) * 2 ^ k) = ((m * 2 ^ k : Nat) : Int) := by rw [Int.natCast_mul, Int.natCast_pow]; rfl
  have h2' : n + m * 2 ^ k ≤ 9223372036854775807 := by rw [e1] at h2; omega
  have hb : IntKind.i64.bits = 64 := rfl
  rw [e1, hb, BitVec.toNat_or]
  have t0 : ∀ z : Nat, z ≤ 9223372036854775807 → (BitVec.ofInt 64 (z : Int)).toNat = z := fun z hz => by
    rw [BitVec.ofInt_natCast, BitVec.toNat_ofNat]; exact Nat.mod_eq_of_lt (by omega)
  have t1 : (BitVec.ofInt 64 (n : Int)).toNat = n := t0 n (by omega)
  have t2 : (BitVec.ofInt 64 ((m * 2 ^ k : Nat) : Int)).toNat = m * 2 ^ k := t0 _ (by omega)
  rw [t1, t2, Nat.or_comm, Nat.mul_comm m, ← Nat.two_pow_add_eq_or_of_lt h1', zaw _ (by omega) (by rw [Nat.mul_comm]; omega)]
  rw [Nat.mul_comm]; omega
def errVT (T : TypeId) : Option Int → Value
  | none => .nilIface
  | some k => .iface T (.int .i64 k)
theorem g_err {P : Program} {H : Hp} (op : BinOp) (t : TypeId) (x : Operand) (c : Value) (T : TypeId) (o : Option Int) (K : Unit → Hp → Prop) : Lt P (eqGuard op t x (.const c) (errVT T o) .nilIface) H K = K () H := by
  cases o with
  | none => exact g_nil_r op t x c K
  | some k => exact g_iface op t x (.const c) T _ _ K
theorem b_err_neq {P : Program} {H : Hp} (t : TypeId) (ms : Array (String × TypeId)) (hu : P.underlying t = some (.interface ms)) (T : TypeId) (o : Option Int) (K : Value → Hp → Prop) : Lt P (binOp .neq t (errVT T o) .nilIface) H K = K (.bool o.isSome) H := by
  cases o with
  | none => show Lt P (binOp .neq t .nilIface .nilIface) H K = _; rw [e_neq _ _ _ _ (by simp), q_equal, q_nil_nil _ t ms hu]; rfl
  | some k => show Lt P (binOp .neq t (.iface T (.int .i64 k)) .nilIface) H K = _; rw [e_neq _ _ _ _ (by simp), q_equal, q_iface_nil _ t ms hu]; rfl
theorem b_err_eql {P : Program} {H : Hp} (t : TypeId) (ms : Array (String × TypeId)) (hu : P.underlying t = some (.interface ms)) (T : TypeId) (o : Option Int) (K : Value → Hp → Prop) : Lt P (binOp .eql t (errVT T o) .nilIface) H K = K (.bool o.isNone) H := by
  cases o with
  | none => show Lt P (binOp .eql t .nilIface .nilIface) H K = _; rw [e_eql _ _ _ _ (by simp), q_equal, q_nil_nil _ t ms hu]; rfl
  | some k => show Lt P (binOp .eql t (.iface T (.int .i64 k)) .nilIface) H K = _; rw [e_eql _ _ _ _ (by simp), q_equal, q_iface_nil _ t ms hu]; rfl
theorem u8s_get (l : List Int) (i : Nat) (h : i < l.length) : (u8s l)[i]? = some (.int .u8 l[i]) := by simp [h]
theorem getD_of_lt (l : List Int) (i : Nat) (h : i < l.length) : l[i]? = some (l.getD i 0) := by simp [List.getD_eq_getElem?_getD, h]
theorem u8s_at (L : List Int) (i : Nat) (h : i < L.length) : (u8s L).toArray[i]? = some (.int .u8 (L.getD i 0)) := by simp [List.getD_eq_getElem?_getD, h]
theorem getD_byte {L : List Int} (hB : ByteL L) (i : Nat) : 0 ≤ L.getD i 0 ∧ L.getD i 0 ≤ 255 := by
  rw [List.getD_eq_getElem?_getD]
  by_cases h : i < L.length
  · rw [List.getElem?_eq_getElem h]; exact hB _ (List.getElem_mem h)
  · rw [List.getElem?_eq_none (by omega)]; exact ⟨by decide, by decide⟩
theorem zaN {P : Program} {H : Hp} {t : TypeId} {n : Nat} {td : TypeDesc} (hu : P.underlying t = some td) (ha : isAggD td = true) (hs : szOf P t = some n) {b : Nat} {c : Array Value} {T : TypeId} {f : Nat × Nat} (hb : H b = some (.cells c T f)) (ho : c.size = n) {K : Value → Hp → Prop}
    (h : K (.agg c) H) : Lt P (Instr.loadAt t (.pointer (some ⟨b, 0, none⟩))) H K := by
  refine zaC hu ha hs hb (by omega) ?_
  have : c.extract 0 (0 + n) = c := by rw [← ho]; simp
  rw [this]; exact h
theorem zbd {P : Program} {H : Hp} {t : TypeId} {td : TypeDesc} (hu : P.underlying t = some td) (ha : isAggD td = true) {n : Nat} (hs : szOf P t = some n) {b : Nat} {c : Array Value} {T : TypeId} {f : Nat × Nat} (hb : H b = some (.cells c T f)) (hc : c.size = n) : Lq P (loadVar t ⟨b, 0, none⟩) H (fun x => x = .agg c) := by
  have h := Lq_loadA hu ha hs hb (o := 0) (by omega)
  have : c.extract 0 (0 + n) = c := by rw [← hc]; simp
  rw [this] at h; exact h
theorem OwnS.upd {H : Hp} {E : TypeId} {w : Nat} {v : Value} {n : Nat} {cs : List Value} {rs : Option Nat} (h : OwnS H E w v n cs rs) {b : Nat} {o : Obj} (hb : rs ≠ some b) : OwnS (H.upd b o) E w v n cs rs := by
  obtain ⟨h1, h2⟩ := h
  refine ⟨h1, h2.imp id ?_⟩
  rintro ⟨r, cap, c, h3, h4, h5, h6, h7, rfl⟩
  exact ⟨r, cap, c, h3, by rw [zaA _ _ (fun e => hb (by rw [e]))]; exact h4, h5, h6, h7, rfl⟩
theorem OwnS.ne_fresh {H : Hp} {E : TypeId} {w : Nat} {v : Value} {n : Nat} {cs : List Value} {rs : Option Nat} (h : OwnS H E w v n cs rs) {b : Nat} (hb : H b = none) : rs ≠ some b := by
  obtain ⟨h1, ⟨_, _, rfl⟩ | ⟨r, cap, c, h3, h4, h5, h6, h7, rfl⟩⟩ := h
  · intro e; cases e
  · intro e; cases e; rw [h4] at hb; cases hb
theorem OwnS.make {H : Hp} {E : TypeId} {w : Nat} {v : Value} {n : Nat} {cs : List Value} {rs : Option Nat} (h : OwnS H E w v n cs rs) {b : Nat} {o : Obj} (hb : H b = none) : OwnS (H.upd b o) E w v n cs rs := h.upd (h.ne_fresh hb)
theorem OwnS.le {H H' : Hp} {E : TypeId} {w : Nat} {v : Value} {n : Nat} {cs : List Value} {rs : Option Nat} (h : OwnS H E w v n cs rs) (hl : Le H H') : OwnS H' E w v n cs rs := by
  obtain ⟨h1, h2⟩ := h
  refine ⟨h1, h2.imp id ?_⟩
  rintro ⟨r, cap, c, h3, h4, h5⟩
  exact ⟨r, cap, c, h3, hl _ _ h4, h5⟩
theorem fresh_ne {H : Hp} {rs : Option Nat} (h : ∀ r, rs = some r → H r = none) {b : Nat} {o : Obj} (hb : H b = some o) : rs ≠ some b := fun e => by rw [h b e] at hb; cases hb
theorem l_buildArr {P : Program} {H : Hp} {t e : TypeId} {n s : Nat} {z : Value} (hu : P.underlying t = some (.array n e)) (hs : szOf P e = some s) (hz : zrOf P t = some (some z)) (ps : Array (Nat × Value)) (K : Value → Hp → Prop) : Lt P (Instr.build t ps) H K = orF (Instr.fill (fun i => some (i * s, s)) z.cells ps.toList) (fun c => K (.agg c) H) := by
  simp only [Instr.build, zba, l_zero, hz, zal, l_und, hu, l_size, hs]
  cases Instr.fill _ _ _ <;> rfl
theorem setL0 ( v x : Value) (l : List Value) : (List.toArray (v :: l)).setIfInBounds 0 x = List.toArray (x :: l) := by simp
theorem setL1 (a0 v x : Value) (l : List Value) : (List.toArray (a0 :: v :: l)).setIfInBounds 1 x = List.toArray (a0 :: x :: l) := by simp
theorem setL2 (a0 a1 v x : Value) (l : List Value) : (List.toArray (a0 :: a1 :: v :: l)).setIfInBounds 2 x = List.toArray (a0 :: a1 :: x :: l) := by simp
theorem setL3 (a0 a1 a2 v x : Value) (l : List Value) : (List.toArray (a0 :: a1 :: a2 :: v :: l)).setIfInBounds 3 x = List.toArray (a0 :: a1 :: a2 :: x :: l) := by simp
theorem setL4 (a0 a1 a2 a3 v x : Value) (l : List Value) : (List.toArray (a0 :: a1 :: a2 :: a3 :: v :: l)).setIfInBounds 4 x = List.toArray (a0 :: a1 :: a2 :: a3 :: x :: l) := by simp
theorem setL5 (a0 a1 a2 a3 a4 v x : Value) (l : List Value) : (List.toArray (a0 :: a1 :: a2 :: a3 :: a4 :: v :: l)).setIfInBounds 5 x = List.toArray (a0 :: a1 :: a2 :: a3 :: a4 :: x :: l) := by simp
theorem setL6 (a0 a1 a2 a3 a4 a5 v x : Value) (l : List Value) : (List.toArray (a0 :: a1 :: a2 :: a3 :: a4 :: a5 :: v :: l)).setIfInBounds 6 x = List.toArray (a0 :: a1 :: a2 :: a3 :: a4 :: a5 :: x :: l) := by simp
theorem setL7 (a0 a1 a2 a3 a4 a5 a6 v x : Value) (l : List Value) : (List.toArray (a0 :: a1 :: a2 :: a3 :: a4 :: a5 :: a6 :: v :: l)).setIfInBounds 7 x = List.toArray (a0 :: a1 :: a2 :: a3 :: a4 :: a5 :: a6 :: x :: l) := by simp
theorem setL8 (a0 a1 a2 a3 a4 a5 a6 a7 v x : Value) (l : List Value) : (List.toArray (a0 :: a1 :: a2 :: a3 :: a4 :: a5 :: a6 :: a7 :: v :: l)).setIfInBounds 8 x = List.toArray (a0 :: a1 :: a2 :: a3 :: a4 :: a5 :: a6 :: a7 :: x :: l) := by simp
theorem setL9 (a0 a1 a2 a3 a4 a5 a6 a7 a8 v x : Value) (l : List Value) : (List.toArray (a0 :: a1 :: a2 :: a3 :: a4 :: a5 :: a6 :: a7 :: a8 :: v :: l)).setIfInBounds 9 x = List.toArray (a0 :: a1 :: a2 :: a3 :: a4 :: a5 :: a6 :: a7 :: a8 :: x :: l) := by simp
theorem Lt_convSS {P : Program} {H : Hp} {s e : TypeId} (hs : P.underlying s = some (.slice e)) (he : P.underlying e = some (.int .u8)) {b o n cap : Nat} {c : Array Value} {T : TypeId} (hb : H b = some (.cells c T)) {K : Value → Hp → Prop}
    (h : K (.slice (some ⟨b, o, none⟩) n cap) (H.upd b (.cells c T (c.size, c.size + 1)))) : Lt P (Go.convert s s (.slice (some ⟨b, o, none⟩) n cap)) H K := by
  simp only [Go.convert, zba, l_und, hs, zal, he, beq_self_eq_true, markStringish]
  refine ⟨_, hb, .inr ⟨by decide, _, hb, ?_⟩⟩
  exact h
theorem zaz {P : Program} {H : Hp} {t : TypeId} {vs : Array Value} {n : Nat} (hs : szOf P t = some n) (hvs : vs.size = n) {b : Nat} {c : Array Value} {T : TypeId} {f : Nat × Nat} (hb : H b = some (.cells c T f)) (ho : vs.size = c.size) (hv : PlainL vs.toList) (hf : f.2 ≤ f.1) {K : Unit → Hp → Prop}
    (h : K () (H.upd b (.cells vs T f))) : Lt P (Instr.storeAt t (.pointer (some ⟨b, 0, none⟩)) (.agg vs)) H K := by
  refine zaI hs hvs hb (by omega) hv hf ?_
  rw [putCells_all _ _ (by simpa using ho)]
  exact h
end Go.Proofs.Ytcjdkfhmlnfedaa.HL
end
section
namespace Go.Proofs.Ytcjdkfhmlnfedaa.HL
open Go
set_option linter.unusedSimpArgs false
set_option linter.unusedVariables false
section
variable {P : Program} {H : Hp} {e : Env} {r : Nat → Value} {d : Option Nat} {ty : TypeId} {p : String} {af : Array Edge} {g : Option (Nat × Bool)}
end
abbrev i64s (l : List Int) : List Value := l.map (.int .i64 ·)
def I64L (l : List Int) : Prop := ∀ x ∈ l, -9223372036854775808 ≤ x ∧ x ≤ 9223372036854775807
theorem I64L.at {l : List Int} (h : I64L l) (i : Nat) : -9223372036854775808 ≤ l.getD i 0 ∧ l.getD i 0 ≤ 9223372036854775807 := by
  by_cases hi : i < l.length
  · rw [List.getD_eq_getElem?_getD, List.getElem?_eq_getElem hi]; exact h _ (List.getElem_mem hi)
  · rw [List.getD_eq_getElem?_getD, List.getElem?_eq_none (by omega)]; simp
end Go.Proofs.Ytcjdkfhmlnfedaa.HL
end
section
namespace Go.Proofs.Ytcjdkfhmlnfedaa.HL
open Go
set_option linter.unusedSimpArgs false
set_option linter.unusedVariables false
abbrev CK := Option IntKind
def fitC : CK → Value → Prop
  | none, v => ∃ b, v = .bool b
  | some k, v => ∃ n, v = .int k n
def Fit (ks : List CK) (vs : List Value) : Prop := vs.length = ks.length ∧ ∀ (i : Nat) (k : CK) (v : Value), ks[i]? = some k → vs[i]? = some v → fitC k v
noncomputable def eqV (xs ys : List Value) : Bool := @decide (xs = ys) (Classical.propDecidable _)
theorem eqV_iff {xs ys : List Value} : eqV xs ys = true ↔ xs = ys := by unfold eqV; exact @decide_eq_true_iff _ (Classical.propDecidable _)
theorem eqV_of {xs ys : List Value} {p : Prop} [Decidable p] (h : xs = ys ↔ p) : eqV xs ys = decide p := by
  rw [Bool.eq_iff_iff, eqV_iff, h]; simp
theorem Fit.cut {a b : List CK} {vs : List Value} (h : Fit (a ++ b) vs) : Fit a (vs.take a.length) ∧ Fit b (vs.drop a.length) := by
  obtain ⟨h1, h2⟩ := h
  rw [List.length_append] at h1
  refine ⟨⟨by rw [List.length_take]; omega, fun i k v hk hv => ?_⟩, ⟨by rw [List.length_drop]; omega, fun i k v hk hv => ?_⟩⟩
  · have hi : i < a.length := (List.getElem?_eq_some_iff.1 hk).1
    rw [List.getElem?_take_of_lt hi] at hv
    exact h2 i k v (by rw [List.getElem?_append_left hi]; exact hk) hv
  · rw [List.getElem?_drop] at hv
    exact h2 (a.length + i) k v (by rw [List.getElem?_append_right (by omega)]; simpa using hk) hv
def fieldsK (g : TypeId → Option (List CK)) : Nat → List Field → Option (List CK)
  | _, [] => some []
  | off, f :: r => if f.name = "_" ∨ f.offset ≠ off then none else (g f.type).bind fun k => (fieldsK g (off + k.length) r).map (k ++ ·)
def flatK (P : Program) : Nat → TypeId → Option (List CK)
  | 0, _ => none
  | d + 1, t =>
    match P.underlying t with
    | some .bool => some [none]
    | some (.int k) => some [some k]
    | some (.struct fs) => if P.stoodInHeld t = true then none else fieldsK (fun t => (flatK P d t).bind fun k => if szOf P t = some k.length then some k else none) 0 fs.toList
    | _ => none
def wrapT (P : Program) (t : TypeId) (vs : List Value) : Value := if (P.underlying t).any isAggD = true then .agg vs.toArray else vs.getD 0 undef
section
variable {P : Program}
end
end Go.Proofs.Ytcjdkfhmlnfedaa.HL
end
section
namespace Go.Proofs.Ytcjdkfhmlnfedaa.HL
open Go
theorem flat_at {α : Type} {f : α → List Value} {wd : Nat} (hw : ∀ a, (f a).length = wd) (L : List α) (i : Nat) (hi : i < L.length) (j : Nat) (hj : j < wd) : (L.flatMap f)[i * wd + j]? = (f L[i])[j]? := by
  induction L generalizing i with
  | nil => simp at hi
  | cons x r ih =>
    cases i with
    | zero => rw [List.flatMap_cons, Nat.zero_mul, Nat.zero_add, List.getElem?_append_left (by rw [hw]; exact hj)]; rfl
    | succ i =>
      rw [List.flatMap_cons, List.getElem?_append_right (by rw [hw, Nat.succ_mul]; omega), hw]
      have e : (i + 1) * wd + j - wd = i * wd + j := by rw [Nat.succ_mul]; omega
      rw [e, ih i (by simpa using hi)]; rfl
theorem flat_size {α : Type} {f : α → List Value} {wd : Nat} (hw : ∀ a, (f a).length = wd) : ∀ (L : List α), (L.flatMap f).length = L.length * wd
  | [] => by simp
  | x :: r => by rw [List.flatMap_cons, List.length_append, hw, flat_size hw r, List.length_cons, Nat.succ_mul]; omega
theorem cell_at {α : Type} [Inhabited α] {f : α → List Value} {wd : Nat} (hw : ∀ a, (f a).length = wd) {L : List α} {c : Array Value} {o n : Nat} (h : ∀ j, j < n * wd → c[o + j]? = (L.flatMap f)[j]?) (hn : n = L.length) (i : Nat) (hi : i < L.length) (j : Nat) (hj : j < wd) :
    c[o + i * wd + j]? = (f (L.getD i default))[j]? := by
  have e : i * wd + j < n * wd := by
    have := Nat.mul_le_mul_right wd (show i + 1 ≤ n by omega)
    rw [Nat.succ_mul] at this; omega
  rw [Nat.add_assoc, h _ e, flat_at hw L i hi j hj, List.getD_eq_getElem?_getD, List.getElem?_eq_getElem hi]; rfl
theorem ext_at {α : Type} [Inhabited α] {f : α → List Value} {wd : Nat} (hw : ∀ a, (f a).length = wd) {L : List α} {c : Array Value} {o n : Nat} (h : ∀ j, j < n * wd → c[o + j]? = (L.flatMap f)[j]?) (hn : n = L.length) (i : Nat) (hi : i < L.length) (hs : o + n * wd ≤ c.size) :
    c.extract (o + i * wd) (o + i * wd + wd) = (f (L.getD i default)).toArray := by
  apply Array.ext'
  apply List.ext_getElem?
  intro j
  have h1 := Nat.mul_le_mul_right wd (show i + 1 ≤ n by omega)
  rw [Nat.succ_mul] at h1
  rw [Array.toList_extract, List.extract_eq_take_drop]
  by_cases hj : j < wd
  · rw [List.getElem?_take_of_lt (by omega), List.getElem?_drop, Array.getElem?_toList, cell_at hw h hn i hi j hj]
  · rw [List.getElem?_eq_none (by simp; omega), List.getElem?_eq_none (by simp [hw]; omega)]
structure Wr where
  t : Int
  k : Int
  v : Int
  dead : Bool
deriving DecidableEq, Inhabited
abbrev Wr.c (w : Wr) : List Value := [.int .i64 w.t, .int .i64 w.k, .int .i64 w.v, .bool w.dead]
def wrK : List CK := [some .i64, some .i64, some .i64, none]
theorem Wr.inj {a b : Wr} : a.c = b.c ↔ a = b := by
  obtain ⟨t, k, v, d⟩ := a
  obtain ⟨t', k', v', d'⟩ := b
  simp [Wr.c]
theorem Wr.len (w : Wr) : w.c.length = 4 := rfl
def Wr.ok (w : Wr) : Prop := (-9223372036854775808 ≤ w.t ∧ w.t ≤ 9223372036854775807) ∧ (-9223372036854775808 ≤ w.k ∧ w.k ≤ 9223372036854775807) ∧ (-9223372036854775808 ≤ w.v ∧ w.v ≤ 9223372036854775807)
theorem Wr.eqV {a b : Wr} : Go.Proofs.Ytcjdkfhmlnfedaa.HL.eqV a.c b.c = decide (a = b) := eqV_of Wr.inj
abbrev wrs (L : List Wr) : List Value := L.flatMap Wr.c
theorem Lt_appendNew {P : Program} {H : Hp} {t1 E : TypeId} {w by_ : Nat} {z : Value} (hu : P.underlying t1 = some (.slice E)) (hw : szOf P E = some w) (hby : byOf P E = some by_) (hby0 : 0 < by_)
    (hz : zrOf P E = some (some z)) (hzw : z.cells.size = w) (ty : TypeId) {b : Nat} {x : Value} {m : Nat} {ds : List Value} (hb : H b = some (.cells #[] E)) (hx : Holds H w x m ds) (hp : PlainL ds)
    (hroom : (4 * m + 2000) * by_ ≤ 281474976710656) {K : Value → Hp → Prop}
    (h : ∀ v' H' rs', Grow H (some b) H' → OwnS H' E w v' m ds rs' → (∀ r, rs' = some r → r = b ∨ H r = none) → K v' H') : Lt P (Builtin.append_ #[t1, t1] ty #[.slice (some ⟨b, 0, none⟩) 0 0, x]) H K := by
  refine Lt_append hu hu (by simp) hw hby hby0 hz hzw ty (n := 0) (m := m) (cs := []) (ds := ds) (rs := some b) ⟨by simp, .inr ⟨b, 0, #[], rfl, hb, Nat.le_refl _, by simp, by simp, rfl⟩⟩ (fun K => len_holds hx K) (fun K => first_slice hx K) hx.1 hp (by simpa using hroom) ?_
  intro v' H' rs' hg ho hr
  refine h v' H' rs' hg (by simpa using ho) fun r e => ?_
  rcases hr r e with h1 | h1
  · cases h1; exact .inl rfl
  · exact .inr h1
theorem Lt_append1 {P : Program} {H : Hp} {t1 E : TypeId} {by_ : Nat} {z : Value} (hu : P.underlying t1 = some (.slice E)) (hw : szOf P E = some 1) (hby : byOf P E = some by_) (hby0 : 0 < by_)
    (hz : zrOf P E = some (some z)) (hzw : z.cells.size = 1) (ty : TypeId) {v : Value} {n : Nat} {cs : List Value} {rs : Option Nat} (hv : OwnS H E 1 v n cs rs) {b : Nat} {x : Value} (hb : H b = some (.cells #[x] E)) (hp : plainCell x = true)
    (hroom : (4 * (n + 1) + 2000) * by_ ≤ 281474976710656) {K : Value → Hp → Prop}
    (h : ∀ v' H' rs', Grow H rs H' → OwnS H' E 1 v' (n + 1) (cs ++ [x]) rs' → (∀ r, rs' = some r → rs = some r ∨ H r = none) → K v' H') : Lt P (Builtin.append_ #[t1, t1] ty #[v, .slice (some ⟨b, 0, none⟩) 1 1]) H K := by
  have hx : Holds H 1 (.slice (some ⟨b, 0, none⟩) 1 1) 1 [x] := ⟨rfl, .inr ⟨b, 0, 1, _, _, _, rfl, hb, by simp, by simp⟩⟩
  exact Lt_append hu hu (by simp) hw hby hby0 hz hzw ty (n := n) (m := 1) (cs := cs) (ds := [x]) (rs := rs) hv (fun K => len_holds hx K) (fun K => first_slice hx K) rfl (PlainL.cons hp PlainL.nil) hroom h
end Go.Proofs.Ytcjdkfhmlnfedaa.HL
end
section
namespace Go.Proofs.Ytcjdkfhmlnfedaa.HL
open Go Go.RowKit Go.ChangeShapes Go.WideShapes
def oldH (w : World) : Hp := fun b => w.heap[b]?
theorem oldH_sub (w : World) : Sub (oldH w) w := fun _ _ h => h
theorem calls_of_old {P : Program} {f : FuncId} {args : Array Value} {w : World}
    (h : CallH P f args (oldH w) (fun v H' => v = .bool true ∧ Le (oldH w) H')) : Calls P f args w fun e w' => e = .returned (.bool true) ∧ Below w.heap.size w w' := by
  refine (h w (oldH_sub w)).mono fun e w' ⟨v, he, H', ⟨hv, hl⟩, hx⟩ => ⟨by rw [he, hv], hx.os, hx.tape, hx.output, hx.size, fun k hk => ?_⟩
  have h1 : w.heap[k]? = some w.heap[k] := by simp [hk]
  rw [h1]; exact hx.sub _ _ (hl _ _ h1)
theorem byteL_of_wf {L : List Int} (h : ∀ n ∈ L, (Lit.int .u8 n).wf = true) : ByteL L := fun x hx => by
  have := h x hx
  simp [Lit.wf, IntKind.min, IntKind.max, IntKind.signed, IntKind.bits] at this
  omega
theorem i64_of_wf {n : Int} (h : (Lit.int .i64 n).wf = true) : -9223372036854775808 ≤ n ∧ n ≤ 9223372036854775807 := by
  simp [Lit.wf, IntKind.min, IntKind.max, IntKind.signed, IntKind.bits] at h
  omega
section
variable {H : Type} {enc : TypeId × Value → H} {P : Program} {w : World} {base : Nat} {spare : Nat → Bool} {held : Bool} {fuel : Nat} {t : TypeId} {cs : List Value} {x : DataW H × List MemPlace}
theorem open_ints_array {n : Nat} {e : TypeId} {k : IntKind} (ht : P.underlying t = some (.array n e)) (he : P.underlying e = some (.int k)) (hc : P.cellsOf e = 1) (hct : P.cellsOf t = n)
    (h : DataW.trod enc P w base spare held fuel t cs = some x) : ∃ L : List Int, cs = L.map (.int k ·) ∧ L.length = n ∧ ∀ z ∈ L, (Lit.int k z).wf = true := by
  obtain ⟨xs, m, _, _, hl, hx, hi⟩ := DataW.trod_array ht h
  rw [hct] at hl
  have key : ∀ i, i < n → ∃ z, cs[i]? = some (.int k z) ∧ (Lit.int k z).wf = true := by
    intro i hin
    have h1 := hi i hin
    rw [hc, Nat.mul_one] at h1
    have h2 : xs[i]? = some xs[i] := by simp [hx, hin]
    rw [h2] at h1
    obtain ⟨z, h3, _, h4⟩ := DataW.trod_int he h1
    refine ⟨z, ?_, h4⟩
    have h5 : ((cs.drop i).take 1)[0]? = some (.int k z) := by rw [h3]; rfl
    rw [List.getElem?_take_of_lt (by omega), List.getElem?_drop] at h5
    simpa using h5
  refine ⟨cs.map intOf, ?_, by simp [hl], ?_⟩
  · apply List.ext_getElem?
    intro i
    by_cases hin : i < n
    · obtain ⟨z, hz, _⟩ := key i hin
      simp [hz, intOf]
    · rw [List.getElem?_eq_none (by omega), List.getElem?_eq_none (by simp [hl]; omega)]
  · intro z hz
    rw [List.mem_map] at hz
    obtain ⟨v, hv, rfl⟩ := hz
    obtain ⟨i, hi', hiv⟩ := List.mem_iff_getElem.1 hv
    obtain ⟨z', h1, h2⟩ := key i (by omega)
    rw [List.getElem?_eq_getElem hi', hiv] at h1
    cases h1
    exact h2
theorem open_ints_slice {e : TypeId} {k : IntKind} (ht : P.underlying t = some (.slice e)) (he : P.underlying e = some (.int k)) (hc : P.cellsOf e = 1)
    (h : DataW.trod enc P w base spare held fuel t cs = some x) : ∃ (a : Option Addr) (len cap : Nat) (L : List Int), cs = [.slice a len cap] ∧ Holds (oldH w) 1 (.slice a len cap) len (L.map (.int k ·)) ∧ L.length = len ∧ len ≤ maxLen ∧ ∀ z ∈ L, (Lit.int k z).wf = true := by
  rcases open_ints ht he hc h with ⟨rfl, _⟩ | ⟨a, len, cap, zs, rfl, _, hl, hm, hz, _, hcell, hw⟩
  · exact ⟨none, 0, 0, [], rfl, ⟨by simp, .inl ⟨none, 0, rfl, rfl⟩⟩, rfl, by decide, by simp⟩
  · have hzl : len ≤ zs.length := by rw [hz]; split <;> omega
    have hTl : (zs.take len).length = len := by simp; omega
    refine ⟨some a, len, cap, zs.take len, rfl, ⟨by simp; omega, ?_⟩, hTl, by omega, fun z hz' => hw z (List.mem_of_mem_take hz')⟩
    by_cases h0 : len = 0
    · subst h0; exact .inl ⟨some a, cap, rfl, rfl⟩
    · right
      obtain ⟨b, o, sp⟩ := a
      have hc0 := hcell 0 (by omega)
      cases hb : w.heap[b]? with
      | none => simp [World.cell?, Addr.add, hb] at hc0
      | some ob =>
        cases ob with
        | cells c T f =>
          have hsp : sp = none := by
            cases sp with
            | none => rfl
            | some q => simp [World.cell?, Addr.add, hb] at hc0
          subst hsp
          have hcell' : ∀ i, i < zs.length → c[o + i]? = some (.int k (zs.getD i 0)) := by
            intro i hi
            have := hcell i hi
            rcases Nat.eq_zero_or_pos i with h0' | h0'
            · subst h0'; simpa [World.cell?, Addr.add, hb] using this
            · have hne : i ≠ 0 := by omega
              simpa [World.cell?, Addr.add, hb, hne] using this
          have hsz : o + len ≤ c.size := by
            have := hcell' (len - 1) (by omega)
            have := (Array.getElem?_eq_some_iff.1 this).1
            omega
          refine ⟨b, o, cap, c, T, f, rfl, hb, by omega, ?_⟩
          apply List.ext_getElem?
          intro i
          rw [Nat.mul_one, Array.toList_extract, List.extract_eq_take_drop]
          by_cases hi : i < len
          · rw [List.getElem?_take_of_lt (by omega), List.getElem?_drop]
            have h2 : i < zs.length := by omega
            have h1 := hcell' i h2
            simp only [Array.getElem?_toList, h1, List.getElem?_map, List.getElem?_take_of_lt hi]
            simp [h2]
          · rw [List.getElem?_eq_none (by simp; omega), List.getElem?_eq_none (by simp; omega)]
        | _ => simp [World.cell?, Addr.add, hb] at hc0
theorem open_field {fs : Array Field} (ht : P.underlying t = some (.struct fs)) (h : DataW.trod enc P w base spare held fuel t cs = some x) (i : Nat) {f : Field} (hf : fs[i]? = some f) :
    ∃ y n, DataW.trod enc P w base spare held n f.type ((cs.drop f.offset).take (P.cellsOf f.type)) = some y := by
  obtain ⟨xs, n, _, _, hl, hx, hi⟩ := DataW.trod_struct ht h
  have h1 := hi i f hf
  have hlt : i < fs.size := (Array.getElem?_eq_some_iff.1 hf).1
  rw [List.getElem?_eq_getElem (by omega)] at h1
  exact ⟨_, n, h1⟩
theorem struct_len {fs : Array Field} (ht : P.underlying t = some (.struct fs)) (h : DataW.trod enc P w base spare held fuel t cs = some x) : cs.length = P.cellsOf t := by
  obtain ⟨xs, n, _, _, hl, _⟩ := DataW.trod_struct ht h
  exact hl
/-! ### arguments of a kind -/
variable {r : Reach} {b0 : Nat} {v : Value} {d : DataW H} {ps : List MemPlace}
theorem arg_i64 (ht : P.underlying t = some (.int .i64)) (hval : Value.okWide P w r b0 t v) (hd : DataW.Trod enc P w base spare held t v d ps) :
    ∃ n, v = .int .i64 n ∧ -9223372036854775808 ≤ n ∧ n ≤ 9223372036854775807 := by
  obtain ⟨n, rfl, _, _, hw⟩ := open_int ht hval hd
  exact ⟨n, rfl, i64_of_wf hw⟩
theorem field_cells {fs : Array Field} (ht : P.underlying t = some (.struct fs)) (h : DataW.trod enc P w base spare held fuel t cs = some x) (i : Nat) {f : Field} (hf : fs[i]? = some f) {o n : Nat} (ho : f.offset = o) (hn : P.cellsOf f.type = n) :
    ∃ y m, DataW.trod enc P w base spare held m f.type ((cs.drop o).take n) = some y := by
  have := open_field ht h i hf
  rw [ho, hn] at this; exact this
theorem int_cell {k : IntKind} {i : Nat} (ht : P.underlying t = some (.int k)) (h : DataW.trod enc P w base spare held fuel t ((cs.drop i).take 1) = some x) : ∃ z, cs[i]? = some (.int k z) ∧ (Lit.int k z).wf = true := by
  obtain ⟨z, h1, _, h2⟩ := DataW.trod_int ht h
  refine ⟨z, ?_, h2⟩
  have h5 : ((cs.drop i).take 1)[0]? = some (.int k z) := by rw [h1]; rfl
  rw [List.getElem?_take_of_lt (by omega), List.getElem?_drop] at h5
  simpa using h5
theorem exists_list {α : Type} (Q : Nat → α → Prop) : ∀ n, (∀ i, i < n → ∃ a, Q i a) → ∃ L : List α, L.length = n ∧ ∀ i a, L[i]? = some a → Q i a
  | 0, _ => ⟨[], rfl, fun i a h => by simp at h⟩
  | n + 1, h => by
    obtain ⟨L, hl, hL⟩ := exists_list Q n (fun i hi => h i (by omega))
    obtain ⟨a, ha⟩ := h n (by omega)
    refine ⟨L ++ [a], by simp [hl], fun i b hb => ?_⟩
    by_cases hi : i < n
    · rw [List.getElem?_append_left (by omega)] at hb; exact hL i b hb
    · rw [List.getElem?_append_right (by omega)] at hb
      have h0 : i - L.length = 0 := by
        rcases Nat.eq_zero_or_pos (i - L.length) with h0 | h0
        · exact h0
        · rw [List.getElem?_eq_none (by simp; omega)] at hb; cases hb
      rw [h0] at hb
      have : i = n := by omega
      subst this
      simp at hb; subst hb; exact ha
theorem flat_get {α : Type} {f : α → List Value} {wd : Nat} (hw : ∀ a, (f a).length = wd) : ∀ (L : List α) (i : Nat) (a : α) (j : Nat), L[i]? = some a → j < wd → (L.flatMap f)[i * wd + j]? = (f a)[j]?
  | [], i, a, j, h, _ => by simp at h
  | x :: r, 0, a, j, h, hj => by
    simp at h; subst h
    rw [List.flatMap_cons, Nat.zero_mul, Nat.zero_add, List.getElem?_append_left (by rw [hw]; exact hj)]
  | x :: r, i + 1, a, j, h, hj => by
    rw [List.flatMap_cons, List.getElem?_append_right (by rw [hw, Nat.succ_mul]; omega), hw]
    have e : (i + 1) * wd + j - wd = i * wd + j := by rw [Nat.succ_mul]; omega
    rw [e]; exact flat_get hw r i a j (by simpa using h) hj
theorem flat_len {α : Type} {f : α → List Value} {wd : Nat} (hw : ∀ a, (f a).length = wd) : ∀ (L : List α), (L.flatMap f).length = L.length * wd
  | [] => by simp
  | x :: r => by rw [List.flatMap_cons, List.length_append, hw, flat_len hw r, List.length_cons, Nat.succ_mul]; omega
theorem open_slice_of {α : Type} (f : α → List Value) (ok : α → Prop) {e : TypeId} {wd : Nat} (ht : P.underlying t = some (.slice e)) (hc : P.cellsOf e = wd) (hwd : 0 < wd) (hw : ∀ a, (f a).length = wd)
    (he : ∀ n cs x, DataW.trod enc P w base spare held n e cs = some x → ∃ a, cs = f a ∧ ok a) (h : DataW.trod enc P w base spare held fuel t cs = some x) :
    ∃ (a : Option Addr) (len cap : Nat) (L : List α), cs = [.slice a len cap] ∧ L.length = len ∧ Holds (oldH w) wd (.slice a len cap) len (L.flatMap f) ∧ (∀ x ∈ L, ok x) ∧ len ≤ maxLen := by
  rcases DataW.trod_slice ht h with ⟨rfl, _⟩ | ⟨a, len, cap, elems, rest, n, _, rfl, _, hb, hl, hm, hlen, hel, _, _⟩
  · exact ⟨none, 0, 0, [], rfl, rfl, ⟨by simp, .inl ⟨none, 0, rfl, rfl⟩⟩, by simp, by decide⟩
  · obtain ⟨L, hL, hQ⟩ := exists_list (fun i x => ok x ∧ ∀ j, j < wd → w.cell? (a.add (i * wd + j)) = (f x)[j]?) len (by
      intro i hi
      have h1 := hel i hi
      rw [List.getElem?_eq_getElem (by omega), hc, Option.bind_eq_some_iff] at h1
      obtain ⟨cs', hcs, hy⟩ := h1
      obtain ⟨x, rfl, hx⟩ := he _ _ _ hy
      refine ⟨x, hx, fun j hj => ?_⟩
      have h2 := World.cells?_some hcs
      have h3 := h2.2.2 j hj
      have h4 : (a.add (i * wd)).add j = a.add (i * wd + j) := by
        obtain ⟨b, o, sp⟩ := a
        simp only [Addr.add]
        split <;> split <;> simp_all
        all_goals omega
      rw [h4] at h3
      exact h3)
    refine ⟨some a, len, cap, L, rfl, hL, ⟨by rw [flat_len hw, hL], ?_⟩, fun x hx => ?_, by omega⟩
    rotate_left
    · obtain ⟨i, hi, rfl⟩ := List.mem_iff_getElem.1 hx
      exact (hQ i _ (List.getElem?_eq_getElem hi)).1
    by_cases h0 : len = 0
    · subst h0; exact .inl ⟨some a, cap, rfl, rfl⟩
    right
    obtain ⟨b, o, sp⟩ := a
    have hcell : ∀ i, i < len → ∀ j, j < wd → ∃ v, w.cell? ((⟨b, o, sp⟩ : Addr).add (i * wd + j)) = some v ∧ (L.flatMap f)[i * wd + j]? = some v := by
      intro i hi j hj
      have hx : L[i]? = some L[i] := List.getElem?_eq_getElem (by omega)
      have h1 := (hQ i _ hx).2 j hj
      have h2 := flat_get hw L i _ j hx hj
      have h3 : (f L[i])[j]? = some ((f L[i])[j]'(by rw [hw]; exact hj)) := List.getElem?_eq_getElem _
      exact ⟨_, h1.trans h3, h2.trans h3⟩
    obtain ⟨v0, hv0, _⟩ := hcell 0 (by omega) 0 hwd
    cases hbk : w.heap[b]? with
    | none => simp [World.cell?, Addr.add, hbk] at hv0
    | some ob =>
      cases ob with
      | cells c T fz =>
        have hsp : sp = none := by
          cases sp with
          | none => rfl
          | some q => simp [World.cell?, Addr.add, hbk] at hv0
        subst hsp
        have hcell' : ∀ m, m < len * wd → c[o + m]? = (L.flatMap f)[m]? := by
          intro m hm
          have hi : m / wd < len := by rw [Nat.div_lt_iff_lt_mul hwd]; exact hm
          obtain ⟨v, h1, h2⟩ := hcell (m / wd) hi (m % wd) (Nat.mod_lt _ hwd)
          have e : m / wd * wd + m % wd = m := Nat.div_add_mod' m wd
          rw [e] at h1 h2
          rw [h2, ← h1]
          rcases Nat.eq_zero_or_pos m with h0' | h0'
          · subst h0'; simp [World.cell?, Addr.add, hbk]
          · have hne : m ≠ 0 := by omega
            simp [World.cell?, Addr.add, hbk, hne]
        have hfl : (L.flatMap f).length = len * wd := by rw [flat_len hw, hL]
        have hpos : 0 < len * wd := Nat.mul_pos (by omega) hwd
        have hsz : o + len * wd ≤ c.size := by
          have h1 := hcell' (len * wd - 1) (by omega)
          rw [List.getElem?_eq_getElem (by omega)] at h1
          have := (Array.getElem?_eq_some_iff.1 h1).1
          omega
        refine ⟨b, o, cap, c, T, fz, rfl, hbk, hsz, ?_⟩
        apply List.ext_getElem?
        intro m
        rw [Array.toList_extract, List.extract_eq_take_drop]
        by_cases hm : m < len * wd
        · rw [List.getElem?_take_of_lt (by omega), List.getElem?_drop, Array.getElem?_toList]
          exact hcell' m hm
        · rw [List.getElem?_eq_none (by simp; omega), List.getElem?_eq_none (by omega)]
      | _ => simp [World.cell?, Addr.add, hbk] at hv0
end
end Go.Proofs.Ytcjdkfhmlnfedaa.HL
end
section
namespace Go.Proofs.Ytcjdkfhmlnfedaa.HL
open Go Go.ChangeShapes Go.WideShapes
variable {P : Program} {H : Type} {enc : TypeId × Value → H} {w : World} {base : Nat} {spare : Nat → Bool} {held : Bool} {r : Reach} {b0 : Nat} {t : TypeId} {v : Value} {d : DataW H} {ps : List MemPlace}
end Go.Proofs.Ytcjdkfhmlnfedaa.HL
end
section
namespace Go.Proofs.Ytcjdkfhmlnfedaa.HL
open Go
theorem eX :
    (∀ (e : Env) (r : Nat → Value) (t : Nat), ev e r (.tmp t) = (e.get t).getD (r t)) ∧ (∀ (e : Env) (r : Nat → Value) (v : Value), ev e r (.const v) = v) ∧
    (∀ (e : Env) (r : Nat → Value) (k : Nat), ev e r (.global k) = .pointer (some ⟨k, 0, none⟩)) ∧ (∀ (e : Env) (r : Nat → Value) (k : Nat), ev e r (.func k) = .func (.func k) #[] #[]) ∧
    (∀ t : Nat, Env.get [] t = none) ∧ (∀ (e : Env) (k t : Nat) (v : Value), Env.get ((k, v) :: e) t = if t = k then some v else Env.get e t) ∧ (∀ v u : Value, (some v).getD u = v) ∧
    (∀ (P : Program) (v : Value) (H : Hp) (R : Value → Hp → Prop), NextH P (.value v) H R = R v H) ∧ (∀ (e : Env) (t : Nat) (v : Value), Env.putO e (some t) v = e.put t v) ∧ (∀ (e : Env) (v : Value), Env.putO e none v = e) ∧
    (∀ (t : Nat) (v : Value), Env.put [] t v = [(t, v)]) ∧ (∀ (e : Env) (k t : Nat) (u v : Value), Env.put ((k, u) :: e) t v = if t = k then (k, v) :: e else (k, u) :: Env.put e t v) ∧
    (∀ (H : Hp) (b : Nat) (o o' : Obj), (H.upd b o).upd b o' = H.upd b o') ∧ (∀ (P : Program) (f : FuncId) (args : Array Value) (H : Hp) (R : Value → Hp → Prop), NextH P (.enter f args) H R = CallH P f args H R) :=
  ⟨fun _ _ _ => rfl, fun _ _ _ => rfl, fun _ _ _ => rfl, fun _ _ _ => rfl, fun _ => rfl, fun _ _ _ _ => rfl, fun _ _ => rfl, fun _ _ _ _ => rfl, fun _ _ _ => rfl, fun _ _ => rfl, fun _ _ => rfl, fun _ _ _ _ _ => rfl, fun _ _ _ _ => upd_upd _ _ _ _, fun _ _ _ _ _ => rfl⟩
section
variable {P : Program} {n : Nat} {ops : Array Oper} {Q : Env → Hp → Prop} {d : Nat} {op : Op} {ty : TypeId} {p : String} {af : Array Edge} {rest : List Oper} {e : Env} {H : Hp}
theorem zac (h : ∀ K : Env → Hp → Prop, (∀ e H, OW P n ops Q rest e H → K e H) → ∀ r, Lt P (execOp (ev e r) ⟨some d, op, ty, p, af, none⟩) H (fun nx H' => NextH P nx H' (fun v H'' => K (e.putO (some d) v) H''))) (hd : noDefer ⟨some d, op, ty, p, af, none⟩ = true := by rfl) (ht : d < n := by decide) :
    OW P n ops Q (⟨some d, op, ty, p, af, none⟩ :: rest) e H := zbq hd (zab ht) h
def evO (e : Env) : Operand → Option Value
  | .tmp t => e.get t
  | .const v => some v
  | _ => none
theorem evO_ev {e : Env} {x : Operand} {v : Value} (h : evO e x = some v) (r : Nat → Value) : ev e r x = v := by
  cases x with
  | tmp t => simp only [evO] at h; simp only [ev, h, Option.getD_some]
  | const c => simp only [evO, Option.some.injEq] at h; subst h; rfl
  | _ => simp [evO] at h
theorem zam {x : Operand} {v : Value} (hv : evO e x = some v) (h : OW P n ops Q rest (e.put d v) H) (hd : noDefer ⟨some d, .move x, ty, p, af, none⟩ = true := by rfl) (ht : d < n := by decide) : OW P n ops Q (⟨some d, .move x, ty, p, af, none⟩ :: rest) e H :=
  zbq hd (zab ht) fun K hK r => by
    rw [zaU, evO_ev hv r]
    exact hK _ _ h
theorem zao {x : Operand} {v : Value} (hv : evO e x = some v) (h : OW P n ops Q rest (e.put d v) H) (hd : noDefer ⟨some d, .assign x, ty, p, af, none⟩ = true := by rfl) (ht : d < n := by decide) : OW P n ops Q (⟨some d, .assign x, ty, p, af, none⟩ :: rest) e H :=
  zbq hd (zab ht) fun K hK r => by
    rw [x_assign, evO_ev hv r]
    exact hK _ _ h
end
end Go.Proofs.Ytcjdkfhmlnfedaa.HL
end
section
namespace Go.Proofs.Ytcjdkfhmlnfedaa.HL
open Go Go.Proofs Go.Proofs.Ytcjdkfhmlnfedaa.HL
set_option linter.unusedSimpArgs false
set_option linter.unusedVariables false
theorem sz3 : szOf Try.prog 3 = some 1 := by kernel_rfl
theorem sz4 : szOf Try.prog 4 = some 1 := by kernel_rfl
theorem sz5 : szOf Try.prog 5 = some 1 := by kernel_rfl
theorem sz22 : szOf Try.prog 22 = some 1 := by kernel_rfl
theorem sz33 : szOf Try.prog 33 = some 1 := by kernel_rfl
theorem sz36 : szOf Try.prog 36 = some 1 := by kernel_rfl
theorem sz38 : szOf Try.prog 38 = some 5 := by kernel_rfl
theorem sz45 : szOf Try.prog 45 = some 64 := by kernel_rfl
theorem sz46 : szOf Try.prog 46 = some 1 := by kernel_rfl
theorem sz48 : szOf Try.prog 48 = some 70 := by kernel_rfl
theorem sz75 : szOf Try.prog 75 = some 4 := by kernel_rfl
theorem sz76 : szOf Try.prog 76 = some 1 := by kernel_rfl
theorem sz79 : szOf Try.prog 79 = some 1 := by kernel_rfl
theorem sz80 : szOf Try.prog 80 = some 1 := by kernel_rfl
theorem sz81 : szOf Try.prog 81 = some 1 := by kernel_rfl
theorem sz84 : szOf Try.prog 84 = some 1 := by kernel_rfl
theorem sz85 : szOf Try.prog 85 = some 1 := by kernel_rfl
theorem sz87 : szOf Try.prog 87 = some 2 := by kernel_rfl
theorem sz99 : szOf Try.prog 99 = some 3 := by kernel_rfl
theorem sz105 : szOf Try.prog 105 = some 3 := by kernel_rfl
theorem sz110 : szOf Try.prog 110 = some 3 := by kernel_rfl
theorem sz113 : szOf Try.prog 113 = some 3 := by kernel_rfl
theorem sz115 : szOf Try.prog 115 = some 65 := by kernel_rfl
theorem sz120 : szOf Try.prog 120 = some 65 := by kernel_rfl
theorem by5 : byOf Try.prog 5 = some 1 := by kernel_rfl
theorem by22 : byOf Try.prog 22 = some 24 := by kernel_rfl
theorem by45 : byOf Try.prog 45 = some 64 := by kernel_rfl
theorem by79 : byOf Try.prog 79 = some 8 := by kernel_rfl
theorem by87 : byOf Try.prog 87 = some 48 := by kernel_rfl
theorem by110 : byOf Try.prog 110 = some 24 := by kernel_rfl
theorem by115 : byOf Try.prog 115 = some 72 := by kernel_rfl
theorem by120 : byOf Try.prog 120 = some 72 := by kernel_rfl
theorem eqg45 : Program.eqGuardType Try.prog Try.prog.depth 45 = false := by kernel_rfl
theorem zr3 : zrOf Try.prog 3 = some (some (.int .i64 0)) := by kernel_rfl
theorem zr5 : zrOf Try.prog 5 = some (some (.int .u8 0)) := by kernel_rfl
theorem zr22 : zrOf Try.prog 22 = some (some (.slice none 0 0)) := by kernel_rfl
theorem zr33 : zrOf Try.prog 33 = some (some (.nilIface)) := by kernel_rfl
theorem zr38 : zrOf Try.prog 38 = some (some (.agg #[.slice none 0 0, .int .i64 0, .int .i64 0, .bool false, .bool false])) := by kernel_rfl
theorem zr45 : zrOf Try.prog 45 = some (some (.agg (Array.replicate 64 (.int .u8 0)))) := by kernel_rfl
theorem zr48 : zrOf Try.prog 48 = some (some (.agg #[.int .i64 0, .int .i64 0, .int .i64 0, .int .i64 0, .slice none 0 0, .int .u8 0, .int .u8 0, .int .u8 0, .int .u8 0, .int .u8 0, .int .u8 0, .int .u8 0, .int .u8 0, .int .u8 0, .int .u8 0, .int .u8 0, .int .u8 0, .int .u8 0, .int .u8 0, .int .u8 0, .int .u8 0, .int .u8 0, .int .u8 0, .int .u8 0, .int .u8 0, .int .u8 0, .int .u8 0, .int .u8 0, .int .u8 0, .int .u8 0, .int .u8 0, .int .u8 0, .int .u8 0, .int .u8 0, .int .u8 0, .int .u8 0, .int .u8 0, .int .u8 0, .int .u8 0, .int .u8 0, .int .u8 0, .int .u8 0, .int .u8 0, .int .u8 0, .int .u8 0, .int .u8 0, .int .u8 0, .int .u8 0, .int .u8 0, .int .u8 0, .int .u8 0, .int .u8 0, .int .u8 0, .int .u8 0, .int .u8 0, .int .u8 0, .int .u8 0, .int .u8 0, .int .u8 0, .int .u8 0, .int .u8 0, .int .u8 0, .int .u8 0, .int .u8 0, .int .u8 0, .int .u8 0, .int .u8 0, .int .u8 0, .int .u8 0, .slice none 0 0])) := by kernel_rfl
theorem zr73 : zrOf Try.prog 73 = some (some (.int .i64 0)) := by kernel_rfl
theorem zr78 : zrOf Try.prog 78 = some (some (.agg #[.int .i64 0, .int .i64 0, .bool false, .bool false, .slice none 0 0])) := by kernel_rfl
theorem zr79 : zrOf Try.prog 79 = some (some (.pointer none)) := by kernel_rfl
theorem zr83 : zrOf Try.prog 83 = some (some (.agg #[.int .i64 0, .map none, .slice none 0 0])) := by kernel_rfl
theorem zr87 : zrOf Try.prog 87 = some (some (.agg #[.slice none 0 0, .slice none 0 0])) := by kernel_rfl
theorem zr99 : zrOf Try.prog 99 = some (some (.agg #[.int .i64 0, .int .i64 0, .slice none 0 0])) := by kernel_rfl
theorem zr105 : zrOf Try.prog 105 = some (some (.agg #[.int .i64 0, .int .i64 0, .slice none 0 0])) := by kernel_rfl
theorem zr110 : zrOf Try.prog 110 = some (some (.agg #[.int .i64 0, .int .i64 0, .int .i64 0])) := by kernel_rfl
theorem zr113 : zrOf Try.prog 113 = some (some (.agg #[.int .i64 0, .int .i64 0, .int .i64 0])) := by kernel_rfl
theorem zr115 : zrOf Try.prog 115 = some (some (.agg #[.int .i64 0, .int .u8 0, .int .u8 0, .int .u8 0, .int .u8 0, .int .u8 0, .int .u8 0, .int .u8 0, .int .u8 0, .int .u8 0, .int .u8 0, .int .u8 0, .int .u8 0, .int .u8 0, .int .u8 0, .int .u8 0, .int .u8 0, .int .u8 0, .int .u8 0, .int .u8 0, .int .u8 0, .int .u8 0, .int .u8 0, .int .u8 0, .int .u8 0, .int .u8 0, .int .u8 0, .int .u8 0, .int .u8 0, .int .u8 0, .int .u8 0, .int .u8 0, .int .u8 0, .int .u8 0, .int .u8 0, .int .u8 0, .int .u8 0, .int .u8 0, .int .u8 0, .int .u8 0, .int .u8 0, .int .u8 0, .int .u8 0, .int .u8 0, .int .u8 0, .int .u8 0, .int .u8 0, .int .u8 0, .int .u8 0, .int .u8 0, .int .u8 0, .int .u8 0, .int .u8 0, .int .u8 0, .int .u8 0, .int .u8 0, .int .u8 0, .int .u8 0, .int .u8 0, .int .u8 0, .int .u8 0, .int .u8 0, .int .u8 0, .int .u8 0, .int .u8 0])) := by kernel_rfl
theorem zr120 : zrOf Try.prog 120 = some (some (.agg #[.int .i64 0, .int .u8 0, .int .u8 0, .int .u8 0, .int .u8 0, .int .u8 0, .int .u8 0, .int .u8 0, .int .u8 0, .int .u8 0, .int .u8 0, .int .u8 0, .int .u8 0, .int .u8 0, .int .u8 0, .int .u8 0, .int .u8 0, .int .u8 0, .int .u8 0, .int .u8 0, .int .u8 0, .int .u8 0, .int .u8 0, .int .u8 0, .int .u8 0, .int .u8 0, .int .u8 0, .int .u8 0, .int .u8 0, .int .u8 0, .int .u8 0, .int .u8 0, .int .u8 0, .int .u8 0, .int .u8 0, .int .u8 0, .int .u8 0, .int .u8 0, .int .u8 0, .int .u8 0, .int .u8 0, .int .u8 0, .int .u8 0, .int .u8 0, .int .u8 0, .int .u8 0, .int .u8 0, .int .u8 0, .int .u8 0, .int .u8 0, .int .u8 0, .int .u8 0, .int .u8 0, .int .u8 0, .int .u8 0, .int .u8 0, .int .u8 0, .int .u8 0, .int .u8 0, .int .u8 0, .int .u8 0, .int .u8 0, .int .u8 0, .int .u8 0, .int .u8 0])) := by kernel_rfl
theorem zr130 : zrOf Try.prog 130 = some (some (.pointer none)) := by kernel_rfl
theorem fa38_0 (a : Addr) (H : Hp) (K : Value → Hp → Prop) : Lt Try.prog (Instr.fieldAt 38 (.pointer (some a)) 0) H K = K (.pointer (some (a.add 0))) H := by
  have h := @zbb Try.prog 38 _ 0 _ 1 Try.underlying38 rfl sz36 (by decide) a H K
  exact h
theorem fa38_1 (a : Addr) (H : Hp) (K : Value → Hp → Prop) : Lt Try.prog (Instr.fieldAt 38 (.pointer (some a)) 1) H K = K (.pointer (some (a.add 1))) H := by
  have h := @zbb Try.prog 38 _ 1 _ 1 Try.underlying38 rfl sz3 (by decide) a H K
  exact h
theorem fa38_2 (a : Addr) (H : Hp) (K : Value → Hp → Prop) : Lt Try.prog (Instr.fieldAt 38 (.pointer (some a)) 2) H K = K (.pointer (some (a.add 2))) H := by
  have h := @zbb Try.prog 38 _ 2 _ 1 Try.underlying38 rfl sz3 (by decide) a H K
  exact h
theorem fa38_3 (a : Addr) (H : Hp) (K : Value → Hp → Prop) : Lt Try.prog (Instr.fieldAt 38 (.pointer (some a)) 3) H K = K (.pointer (some (a.add 3))) H := by
  have h := @zbb Try.prog 38 _ 3 _ 1 Try.underlying38 rfl sz4 (by decide) a H K
  exact h
theorem fa38_4 (a : Addr) (H : Hp) (K : Value → Hp → Prop) : Lt Try.prog (Instr.fieldAt 38 (.pointer (some a)) 4) H K = K (.pointer (some (a.add 4))) H := by
  have h := @zbb Try.prog 38 _ 4 _ 1 Try.underlying38 rfl sz4 (by decide) a H K
  exact h
theorem fa48_0 (a : Addr) (H : Hp) (K : Value → Hp → Prop) : Lt Try.prog (Instr.fieldAt 48 (.pointer (some a)) 0) H K = K (.pointer (some (a.add 0))) H := by
  have h := @zbb Try.prog 48 _ 0 _ 1 Try.underlying48 rfl sz3 (by decide) a H K
  exact h
theorem fa48_1 (a : Addr) (H : Hp) (K : Value → Hp → Prop) : Lt Try.prog (Instr.fieldAt 48 (.pointer (some a)) 1) H K = K (.pointer (some (a.add 1))) H := by
  have h := @zbb Try.prog 48 _ 1 _ 1 Try.underlying48 rfl sz3 (by decide) a H K
  exact h
theorem fa48_2 (a : Addr) (H : Hp) (K : Value → Hp → Prop) : Lt Try.prog (Instr.fieldAt 48 (.pointer (some a)) 2) H K = K (.pointer (some (a.add 2))) H := by
  have h := @zbb Try.prog 48 _ 2 _ 1 Try.underlying48 rfl sz3 (by decide) a H K
  exact h
theorem fa48_3 (a : Addr) (H : Hp) (K : Value → Hp → Prop) : Lt Try.prog (Instr.fieldAt 48 (.pointer (some a)) 3) H K = K (.pointer (some (a.add 3))) H := by
  have h := @zbb Try.prog 48 _ 3 _ 1 Try.underlying48 rfl sz3 (by decide) a H K
  exact h
theorem fa48_4 (a : Addr) (H : Hp) (K : Value → Hp → Prop) : Lt Try.prog (Instr.fieldAt 48 (.pointer (some a)) 4) H K = K (.pointer (some (a.add 4))) H := by
  have h := @zbb Try.prog 48 _ 4 _ 1 Try.underlying48 rfl sz22 (by decide) a H K
  exact h
theorem fa48_5 (a : Addr) (H : Hp) (K : Value → Hp → Prop) : Lt Try.prog (Instr.fieldAt 48 (.pointer (some a)) 5) H K = K (.pointer (some (a.add 5))) H := by
  have h := @zbb Try.prog 48 _ 5 _ 64 Try.underlying48 rfl sz45 (by decide) a H K
  exact h
theorem fa48_6 (a : Addr) (H : Hp) (K : Value → Hp → Prop) : Lt Try.prog (Instr.fieldAt 48 (.pointer (some a)) 6) H K = K (.pointer (some (a.add 69))) H := by
  have h := @zbb Try.prog 48 _ 6 _ 1 Try.underlying48 rfl sz46 (by decide) a H K
  exact h
theorem fa75_0 (a : Addr) (H : Hp) (K : Value → Hp → Prop) : Lt Try.prog (Instr.fieldAt 75 (.pointer (some a)) 0) H K = K (.pointer (some (a.add 0))) H := by
  have h := @zbb Try.prog 75 _ 0 _ 1 Try.underlying75 rfl sz3 (by decide) a H K
  exact h
theorem fa75_1 (a : Addr) (H : Hp) (K : Value → Hp → Prop) : Lt Try.prog (Instr.fieldAt 75 (.pointer (some a)) 1) H K = K (.pointer (some (a.add 1))) H := by
  have h := @zbb Try.prog 75 _ 1 _ 1 Try.underlying75 rfl sz3 (by decide) a H K
  exact h
theorem fa75_2 (a : Addr) (H : Hp) (K : Value → Hp → Prop) : Lt Try.prog (Instr.fieldAt 75 (.pointer (some a)) 2) H K = K (.pointer (some (a.add 2))) H := by
  have h := @zbb Try.prog 75 _ 2 _ 1 Try.underlying75 rfl sz4 (by decide) a H K
  exact h
theorem fa75_3 (a : Addr) (H : Hp) (K : Value → Hp → Prop) : Lt Try.prog (Instr.fieldAt 75 (.pointer (some a)) 3) H K = K (.pointer (some (a.add 3))) H := by
  have h := @zbb Try.prog 75 _ 3 _ 1 Try.underlying75 rfl sz4 (by decide) a H K
  exact h
theorem fa78_0 (a : Addr) (H : Hp) (K : Value → Hp → Prop) : Lt Try.prog (Instr.fieldAt 78 (.pointer (some a)) 0) H K = K (.pointer (some (a.add 0))) H := by
  have h := @zbb Try.prog 78 _ 0 _ 4 Try.underlying78 rfl sz75 (by decide) a H K
  exact h
theorem fa78_1 (a : Addr) (H : Hp) (K : Value → Hp → Prop) : Lt Try.prog (Instr.fieldAt 78 (.pointer (some a)) 1) H K = K (.pointer (some (a.add 4))) H := by
  have h := @zbb Try.prog 78 _ 1 _ 1 Try.underlying78 rfl sz76 (by decide) a H K
  exact h
theorem fa83_0 (a : Addr) (H : Hp) (K : Value → Hp → Prop) : Lt Try.prog (Instr.fieldAt 83 (.pointer (some a)) 0) H K = K (.pointer (some (a.add 0))) H := by
  have h := @zbb Try.prog 83 _ 0 _ 1 Try.underlying83 rfl sz3 (by decide) a H K
  exact h
theorem fa83_1 (a : Addr) (H : Hp) (K : Value → Hp → Prop) : Lt Try.prog (Instr.fieldAt 83 (.pointer (some a)) 1) H K = K (.pointer (some (a.add 1))) H := by
  have h := @zbb Try.prog 83 _ 1 _ 1 Try.underlying83 rfl sz80 (by decide) a H K
  exact h
theorem fa83_2 (a : Addr) (H : Hp) (K : Value → Hp → Prop) : Lt Try.prog (Instr.fieldAt 83 (.pointer (some a)) 2) H K = K (.pointer (some (a.add 2))) H := by
  have h := @zbb Try.prog 83 _ 2 _ 1 Try.underlying83 rfl sz81 (by decide) a H K
  exact h
theorem fa87_0 (a : Addr) (H : Hp) (K : Value → Hp → Prop) : Lt Try.prog (Instr.fieldAt 87 (.pointer (some a)) 0) H K = K (.pointer (some (a.add 0))) H := by
  have h := @zbb Try.prog 87 _ 0 _ 1 Try.underlying87 rfl sz84 (by decide) a H K
  exact h
theorem fa87_1 (a : Addr) (H : Hp) (K : Value → Hp → Prop) : Lt Try.prog (Instr.fieldAt 87 (.pointer (some a)) 1) H K = K (.pointer (some (a.add 1))) H := by
  have h := @zbb Try.prog 87 _ 1 _ 1 Try.underlying87 rfl sz85 (by decide) a H K
  exact h
theorem fa99_0 (a : Addr) (H : Hp) (K : Value → Hp → Prop) : Lt Try.prog (Instr.fieldAt 99 (.pointer (some a)) 0) H K = K (.pointer (some (a.add 0))) H := by
  have h := @zbb Try.prog 99 _ 0 _ 1 Try.underlying99 rfl sz3 (by decide) a H K
  exact h
theorem fa99_1 (a : Addr) (H : Hp) (K : Value → Hp → Prop) : Lt Try.prog (Instr.fieldAt 99 (.pointer (some a)) 1) H K = K (.pointer (some (a.add 1))) H := by
  have h := @zbb Try.prog 99 _ 1 _ 1 Try.underlying99 rfl sz3 (by decide) a H K
  exact h
theorem fa99_2 (a : Addr) (H : Hp) (K : Value → Hp → Prop) : Lt Try.prog (Instr.fieldAt 99 (.pointer (some a)) 2) H K = K (.pointer (some (a.add 2))) H := by
  have h := @zbb Try.prog 99 _ 2 _ 1 Try.underlying99 rfl sz22 (by decide) a H K
  exact h
theorem fa105_0 (a : Addr) (H : Hp) (K : Value → Hp → Prop) : Lt Try.prog (Instr.fieldAt 105 (.pointer (some a)) 0) H K = K (.pointer (some (a.add 0))) H := by
  have h := @zbb Try.prog 105 _ 0 _ 1 Try.underlying105 rfl sz3 (by decide) a H K
  exact h
theorem fa105_1 (a : Addr) (H : Hp) (K : Value → Hp → Prop) : Lt Try.prog (Instr.fieldAt 105 (.pointer (some a)) 1) H K = K (.pointer (some (a.add 1))) H := by
  have h := @zbb Try.prog 105 _ 1 _ 1 Try.underlying105 rfl sz3 (by decide) a H K
  exact h
theorem fa105_2 (a : Addr) (H : Hp) (K : Value → Hp → Prop) : Lt Try.prog (Instr.fieldAt 105 (.pointer (some a)) 2) H K = K (.pointer (some (a.add 2))) H := by
  have h := @zbb Try.prog 105 _ 2 _ 1 Try.underlying105 rfl sz22 (by decide) a H K
  exact h
theorem fa110_0 (a : Addr) (H : Hp) (K : Value → Hp → Prop) : Lt Try.prog (Instr.fieldAt 110 (.pointer (some a)) 0) H K = K (.pointer (some (a.add 0))) H := by
  have h := @zbb Try.prog 110 _ 0 _ 1 Try.underlying110 rfl sz3 (by decide) a H K
  exact h
theorem fa110_1 (a : Addr) (H : Hp) (K : Value → Hp → Prop) : Lt Try.prog (Instr.fieldAt 110 (.pointer (some a)) 1) H K = K (.pointer (some (a.add 1))) H := by
  have h := @zbb Try.prog 110 _ 1 _ 1 Try.underlying110 rfl sz3 (by decide) a H K
  exact h
theorem fa110_2 (a : Addr) (H : Hp) (K : Value → Hp → Prop) : Lt Try.prog (Instr.fieldAt 110 (.pointer (some a)) 2) H K = K (.pointer (some (a.add 2))) H := by
  have h := @zbb Try.prog 110 _ 2 _ 1 Try.underlying110 rfl sz3 (by decide) a H K
  exact h
theorem fa113_0 (a : Addr) (H : Hp) (K : Value → Hp → Prop) : Lt Try.prog (Instr.fieldAt 113 (.pointer (some a)) 0) H K = K (.pointer (some (a.add 0))) H := by
  have h := @zbb Try.prog 113 _ 0 _ 1 Try.underlying113 rfl sz3 (by decide) a H K
  exact h
theorem fa113_1 (a : Addr) (H : Hp) (K : Value → Hp → Prop) : Lt Try.prog (Instr.fieldAt 113 (.pointer (some a)) 1) H K = K (.pointer (some (a.add 1))) H := by
  have h := @zbb Try.prog 113 _ 1 _ 1 Try.underlying113 rfl sz3 (by decide) a H K
  exact h
theorem fa113_2 (a : Addr) (H : Hp) (K : Value → Hp → Prop) : Lt Try.prog (Instr.fieldAt 113 (.pointer (some a)) 2) H K = K (.pointer (some (a.add 2))) H := by
  have h := @zbb Try.prog 113 _ 2 _ 1 Try.underlying113 rfl sz3 (by decide) a H K
  exact h
theorem fa115_0 (a : Addr) (H : Hp) (K : Value → Hp → Prop) : Lt Try.prog (Instr.fieldAt 115 (.pointer (some a)) 0) H K = K (.pointer (some (a.add 0))) H := by
  have h := @zbb Try.prog 115 _ 0 _ 1 Try.underlying115 rfl sz3 (by decide) a H K
  exact h
theorem fa115_1 (a : Addr) (H : Hp) (K : Value → Hp → Prop) : Lt Try.prog (Instr.fieldAt 115 (.pointer (some a)) 1) H K = K (.pointer (some (a.add 1))) H := by
  have h := @zbb Try.prog 115 _ 1 _ 64 Try.underlying115 rfl sz45 (by decide) a H K
  exact h
theorem fa120_0 (a : Addr) (H : Hp) (K : Value → Hp → Prop) : Lt Try.prog (Instr.fieldAt 120 (.pointer (some a)) 0) H K = K (.pointer (some (a.add 0))) H := by
  have h := @zbb Try.prog 120 _ 0 _ 1 Try.underlying120 rfl sz3 (by decide) a H K
  exact h
theorem fa120_1 (a : Addr) (H : Hp) (K : Value → Hp → Prop) : Lt Try.prog (Instr.fieldAt 120 (.pointer (some a)) 1) H K = K (.pointer (some (a.add 1))) H := by
  have h := @zbb Try.prog 120 _ 1 _ 64 Try.underlying120 rfl sz45 (by decide) a H K
  exact h
theorem fa133_1 (a : Addr) (H : Hp) (K : Value → Hp → Prop) : Lt Try.prog (Instr.fieldAt 133 (.pointer (some a)) 1) H K = K (.pointer (some (a.add 1))) H := by
  have h := @zbb Try.prog 133 _ 1 _ 1 Try.underlying133 rfl sz33 (by decide) a H K
  exact h
theorem bp38 (ps : Array (Nat × Value)) (H : Hp) (K : Value → Hp → Prop) : Lt Try.prog (Instr.build 38 ps) H K = orF (Instr.fill (#[(0, 1), (1, 1), (2, 1), (3, 1), (4, 1)][·]?) #[.slice none 0 0, .int .i64 0, .int .i64 0, .bool false, .bool false] ps.toList) (fun c => K (.agg c) H) := by
  simp only [Instr.build, zba, l_zero, zr38, zal, l_und, Try.underlying38]
  simp [zba, zbj, l_size, sz3, sz4, sz36, zal, l_map, Value.cells]
  cases Instr.fill _ _ _ <;> rfl
theorem bp78 (ps : Array (Nat × Value)) (H : Hp) (K : Value → Hp → Prop) : Lt Try.prog (Instr.build 78 ps) H K = orF (Instr.fill (#[(0, 4), (4, 1)][·]?) #[.int .i64 0, .int .i64 0, .bool false, .bool false, .slice none 0 0] ps.toList) (fun c => K (.agg c) H) := by
  simp only [Instr.build, zba, l_zero, zr78, zal, l_und, Try.underlying78]
  simp [zba, zbj, l_size, sz75, sz76, zal, l_map, Value.cells]
  cases Instr.fill _ _ _ <;> rfl
theorem bp83 (ps : Array (Nat × Value)) (H : Hp) (K : Value → Hp → Prop) : Lt Try.prog (Instr.build 83 ps) H K = orF (Instr.fill (#[(0, 1), (1, 1), (2, 1)][·]?) #[.int .i64 0, .map none, .slice none 0 0] ps.toList) (fun c => K (.agg c) H) := by
  simp only [Instr.build, zba, l_zero, zr83, zal, l_und, Try.underlying83]
  simp [zba, zbj, l_size, sz3, sz80, sz81, zal, l_map, Value.cells]
  cases Instr.fill _ _ _ <;> rfl
theorem bp87 (ps : Array (Nat × Value)) (H : Hp) (K : Value → Hp → Prop) : Lt Try.prog (Instr.build 87 ps) H K = orF (Instr.fill (#[(0, 1), (1, 1)][·]?) #[.slice none 0 0, .slice none 0 0] ps.toList) (fun c => K (.agg c) H) := by
  simp only [Instr.build, zba, l_zero, zr87, zal, l_und, Try.underlying87]
  simp [zba, zbj, l_size, sz84, sz85, zal, l_map, Value.cells]
  cases Instr.fill _ _ _ <;> rfl
theorem bp99 (ps : Array (Nat × Value)) (H : Hp) (K : Value → Hp → Prop) : Lt Try.prog (Instr.build 99 ps) H K = orF (Instr.fill (#[(0, 1), (1, 1), (2, 1)][·]?) #[.int .i64 0, .int .i64 0, .slice none 0 0] ps.toList) (fun c => K (.agg c) H) := by
  simp only [Instr.build, zba, l_zero, zr99, zal, l_und, Try.underlying99]
  simp [zba, zbj, l_size, sz3, sz22, zal, l_map, Value.cells]
  cases Instr.fill _ _ _ <;> rfl
theorem bp105 (ps : Array (Nat × Value)) (H : Hp) (K : Value → Hp → Prop) : Lt Try.prog (Instr.build 105 ps) H K = orF (Instr.fill (#[(0, 1), (1, 1), (2, 1)][·]?) #[.int .i64 0, .int .i64 0, .slice none 0 0] ps.toList) (fun c => K (.agg c) H) := by
  simp only [Instr.build, zba, l_zero, zr105, zal, l_und, Try.underlying105]
  simp [zba, zbj, l_size, sz3, sz22, zal, l_map, Value.cells]
  cases Instr.fill _ _ _ <;> rfl
theorem bp115 (ps : Array (Nat × Value)) (H : Hp) (K : Value → Hp → Prop) : Lt Try.prog (Instr.build 115 ps) H K = orF (Instr.fill (#[(0, 1), (1, 64)][·]?) #[.int .i64 0, .int .u8 0, .int .u8 0, .int .u8 0, .int .u8 0, .int .u8 0, .int .u8 0, .int .u8 0, .int .u8 0, .int .u8 0, .int .u8 0, .int .u8 0, .int .u8 0, .int .u8 0, .int .u8 0, .int .u8 0, .int .u8 0, .int .u8 0, .int .u8 0, .int .u8 0, .int .u8 0, .int .u8 0, .int .u8 0, .int .u8 0, .int .u8 0, .int .u8 0, .int .u8 0, .int .u8 0, .int .u8 0, .int .u8 0, .int .u8 0, .int .u8 0, .int .u8 0, .int .u8 0, .int .u8 0, .int .u8 0, .int .u8 0, .int .u8 0, .int .u8 0, .int .u8 0, .int .u8 0, .int .u8 0, .int .u8 0, .int .u8 0, .int .u8 0, .int .u8 0, .int .u8 0, .int .u8 0, .int .u8 0, .int .u8 0, .int .u8 0, .int .u8 0, .int .u8 0, .int .u8 0, .int .u8 0, .int .u8 0, .int .u8 0, .int .u8 0, .int .u8 0, .int .u8 0, .int .u8 0, .int .u8 0, .int .u8 0, .int .u8 0, .int .u8 0] ps.toList) (fun c => K (.agg c) H) := by
  simp only [Instr.build, zba, l_zero, zr115, zal, l_und, Try.underlying115]
  simp [zba, zbj, l_size, sz3, sz45, zal, l_map, Value.cells]
  cases Instr.fill _ _ _ <;> rfl
theorem bp120 (ps : Array (Nat × Value)) (H : Hp) (K : Value → Hp → Prop) : Lt Try.prog (Instr.build 120 ps) H K = orF (Instr.fill (#[(0, 1), (1, 64)][·]?) #[.int .i64 0, .int .u8 0, .int .u8 0, .int .u8 0, .int .u8 0, .int .u8 0, .int .u8 0, .int .u8 0, .int .u8 0, .int .u8 0, .int .u8 0, .int .u8 0, .int .u8 0, .int .u8 0, .int .u8 0, .int .u8 0, .int .u8 0, .int .u8 0, .int .u8 0, .int .u8 0, .int .u8 0, .int .u8 0, .int .u8 0, .int .u8 0, .int .u8 0, .int .u8 0, .int .u8 0, .int .u8 0, .int .u8 0, .int .u8 0, .int .u8 0, .int .u8 0, .int .u8 0, .int .u8 0, .int .u8 0, .int .u8 0, .int .u8 0, .int .u8 0, .int .u8 0, .int .u8 0, .int .u8 0, .int .u8 0, .int .u8 0, .int .u8 0, .int .u8 0, .int .u8 0, .int .u8 0, .int .u8 0, .int .u8 0, .int .u8 0, .int .u8 0, .int .u8 0, .int .u8 0, .int .u8 0, .int .u8 0, .int .u8 0, .int .u8 0, .int .u8 0, .int .u8 0, .int .u8 0, .int .u8 0, .int .u8 0, .int .u8 0, .int .u8 0, .int .u8 0] ps.toList) (fun c => K (.agg c) H) := by
  simp only [Instr.build, zba, l_zero, zr120, zal, l_und, Try.underlying120]
  simp [zba, zbj, l_size, sz3, sz45, zal, l_map, Value.cells]
  cases Instr.fill _ _ _ <;> rfl
theorem bd7 : bodied Try.prog 7 = true := by kernel_rfl
theorem bd8 : bodied Try.prog 8 = true := by kernel_rfl
theorem bd9 : bodied Try.prog 9 = true := by kernel_rfl
theorem bd10 : bodied Try.prog 10 = true := by kernel_rfl
theorem bd11 : bodied Try.prog 11 = true := by kernel_rfl
theorem bd12 : bodied Try.prog 12 = true := by kernel_rfl
theorem bd13 : bodied Try.prog 13 = true := by kernel_rfl
theorem bd14 : bodied Try.prog 14 = true := by kernel_rfl
theorem bd15 : bodied Try.prog 15 = true := by kernel_rfl
theorem bd16 : bodied Try.prog 16 = true := by kernel_rfl
theorem bd17 : bodied Try.prog 17 = true := by kernel_rfl
theorem bd18 : bodied Try.prog 18 = true := by kernel_rfl
theorem bd19 : bodied Try.prog 19 = true := by kernel_rfl
theorem bd20 : bodied Try.prog 20 = true := by kernel_rfl
theorem bd21 : bodied Try.prog 21 = true := by kernel_rfl
theorem bd22 : bodied Try.prog 22 = true := by kernel_rfl
theorem bd23 : bodied Try.prog 23 = true := by kernel_rfl
theorem bd24 : bodied Try.prog 24 = true := by kernel_rfl
theorem bd25 : bodied Try.prog 25 = true := by kernel_rfl
theorem bd26 : bodied Try.prog 26 = true := by kernel_rfl
theorem bd27 : bodied Try.prog 27 = true := by kernel_rfl
theorem bd28 : bodied Try.prog 28 = true := by kernel_rfl
theorem bd31 : bodied Try.prog 31 = true := by kernel_rfl
theorem bd32 : bodied Try.prog 32 = true := by kernel_rfl
theorem bd33 : bodied Try.prog 33 = true := by kernel_rfl
theorem bd34 : bodied Try.prog 34 = true := by kernel_rfl
theorem bd35 : bodied Try.prog 35 = true := by kernel_rfl
theorem bd36 : bodied Try.prog 36 = true := by kernel_rfl
theorem bd37 : bodied Try.prog 37 = true := by kernel_rfl
theorem bd38 : bodied Try.prog 38 = true := by kernel_rfl
theorem bd39 : bodied Try.prog 39 = true := by kernel_rfl
theorem bd40 : bodied Try.prog 40 = true := by kernel_rfl
theorem bd41 : bodied Try.prog 41 = true := by kernel_rfl
theorem bd42 : bodied Try.prog 42 = true := by kernel_rfl
theorem bd43 : bodied Try.prog 43 = true := by kernel_rfl
theorem bd44 : bodied Try.prog 44 = true := by kernel_rfl
theorem bd45 : bodied Try.prog 45 = true := by kernel_rfl
theorem bd46 : bodied Try.prog 46 = true := by kernel_rfl
theorem bd47 : bodied Try.prog 47 = true := by kernel_rfl
theorem bd48 : bodied Try.prog 48 = true := by kernel_rfl
theorem bd49 : bodied Try.prog 49 = true := by kernel_rfl
theorem bd50 : bodied Try.prog 50 = true := by kernel_rfl
theorem bd51 : bodied Try.prog 51 = true := by kernel_rfl
theorem bd52 : bodied Try.prog 52 = true := by kernel_rfl
theorem bd53 : bodied Try.prog 53 = true := by kernel_rfl
theorem bd54 : bodied Try.prog 54 = true := by kernel_rfl
theorem bd55 : bodied Try.prog 55 = true := by kernel_rfl
theorem bd56 : bodied Try.prog 56 = true := by kernel_rfl
theorem bd57 : bodied Try.prog 57 = true := by kernel_rfl
theorem bd58 : bodied Try.prog 58 = true := by kernel_rfl
theorem bd59 : bodied Try.prog 59 = true := by kernel_rfl
theorem bd60 : bodied Try.prog 60 = true := by kernel_rfl
theorem bd61 : bodied Try.prog 61 = true := by kernel_rfl
theorem bd62 : bodied Try.prog 62 = true := by kernel_rfl
theorem bd63 : bodied Try.prog 63 = true := by kernel_rfl
theorem bd64 : bodied Try.prog 64 = true := by kernel_rfl
theorem bd65 : bodied Try.prog 65 = true := by kernel_rfl
theorem bd66 : bodied Try.prog 66 = true := by kernel_rfl
theorem bd67 : bodied Try.prog 67 = true := by kernel_rfl
theorem bd68 : bodied Try.prog 68 = true := by kernel_rfl
theorem bd69 : bodied Try.prog 69 = true := by kernel_rfl
end Go.Proofs.Ytcjdkfhmlnfedaa.HL
end
section
namespace Go.Proofs.Ytcjdkfhmlnfedaa.HL
open Go
def Frm (H : Hp) (S : Nat → Prop) (H' : Hp) (S' : Nat → Prop) : Prop := (∀ b o, H b = some o → ¬ S b → H' b = some o) ∧ ∀ b, S' b → S b ∨ H b = none
theorem Frm.refl (H : Hp) (S : Nat → Prop) : Frm H S H S := ⟨fun _ _ h _ => h, fun _ h => .inl h⟩
theorem Frm.trans {H H1 H2 : Hp} {S S1 S2 : Nat → Prop} (h1 : Frm H S H1 S1) (h2 : Frm H1 S1 H2 S2) : Frm H S H2 S2 := by
  refine ⟨fun b o hb hn => ?_, fun b hb => ?_⟩
  · refine h2.1 b o (h1.1 b o hb hn) fun hs => ?_
    rcases h1.2 b hs with h | h
    · exact hn h
    · rw [h] at hb; cases hb
  · rcases h2.2 b hb with h | h
    · exact h1.2 b h
    · by_cases hs : S b
      · exact .inl hs
      · right
        cases ho : H b with
        | none => rfl
        | some o => rw [h1.1 b o ho hs] at h; cases h
theorem Frm.new {H H1 : Hp} {S S1 : Nat → Prop} (h : Frm H S H1 S1) {b : Nat} {o : Obj} (hb : H1 b = none) : Frm H S (H1.upd b o) S1 := by
  refine ⟨fun x o' hx hn => ?_, h.2⟩
  have := h.1 x o' hx hn
  rw [zaA _ _ (by intro e; subst e; rw [this] at hb; cases hb)]; exact this
theorem Frm.le {H0 H H' : Hp} {S S' : Nat → Prop} (h : Frm H S H' S') (hl : Le H0 H) (hs : ∀ b, S b → H0 b = none) : Le H0 H' := fun b o hb =>
  h.1 b o (hl b o hb) fun hS => by rw [hs b hS] at hb; cases hb
theorem Frm.sep {H0 H H' : Hp} {S S' : Nat → Prop} (h : Frm H S H' S') (hl : Le H0 H) (hs : ∀ b, S b → H0 b = none) : ∀ b, S' b → H0 b = none := fun b hb => by
  rcases h.2 b hb with h1 | h1
  · exact hs b h1
  · exact zaj hl h1
theorem Frm.stay {H H' : Hp} {S S' T : Nat → Prop} (h : Frm H S H' S') (hd : ∀ b, T b → ¬ S b) : ∀ b o, T b → H b = some o → H' b = some o := fun b o hb ho => h.1 b o ho (hd b hb)
theorem Frm.of_le {H H' : Hp} (S : Nat → Prop) (h : Le H H') : Frm H S H' S := ⟨fun b o hb _ => h b o hb, fun _ hb => .inl hb⟩
theorem OwnS.stay {H H' : Hp} {E : TypeId} {w : Nat} {v : Value} {n : Nat} {cs : List Value} {rs : Option Nat} (h : OwnS H E w v n cs rs) (k : ∀ b o, rs = some b → H b = some o → H' b = some o) : OwnS H' E w v n cs rs := by
  obtain ⟨h1, h2⟩ := h
  refine ⟨h1, h2.imp id ?_⟩
  rintro ⟨r, cap, c, h3, h4, h5, h6, h7, h8⟩
  exact ⟨r, cap, c, h3, k r _ h8 h4, h5, h6, h7, h8⟩
theorem OwnS.known {H : Hp} {E : TypeId} {w : Nat} {v : Value} {n : Nat} {cs : List Value} {rs : Option Nat} (h : OwnS H E w v n cs rs) : ∀ b, rs = some b → H b ≠ none := by
  obtain ⟨_, ⟨_, _, h3⟩ | ⟨r, cap, c, _, h4, _, _, _, h8⟩⟩ := h
  · intro b hb; rw [h3] at hb; cases hb
  · intro b hb; rw [h8] at hb; cases hb; rw [h4]; simp
theorem Grow.known {H H' : Hp} {rs : Option Nat} (h : Grow H rs H') : ∀ b o, H b = some o → rs ≠ some b → H' b = some o := by
  intro b o hb hn
  rcases h with rfl | ⟨r, o', hr, rfl⟩
  · exact hb
  · rw [zaA]
    · exact hb
    · intro e; subst e
      rcases hr with hr | hr
      · exact hn hr
      · rw [hr] at hb; cases hb
end Go.Proofs.Ytcjdkfhmlnfedaa.HL
namespace Go.Proofs.Ytcjdkfhmlnfedaa.HL
open Go
theorem OwnS.set {H : Hp} {E : TypeId} {k : IntKind} {r n cap : Nat} {l : List Int} {c : Array Value} (h : OwnS H E 1 (.slice (some ⟨r, 0, none⟩) n cap) n (l.map (Value.int k ·)) (some r)) (hc : H r = some (.cells c E)) (i : Nat) (hi : i < n) (y : Int) : OwnS (H.upd r (.cells (c.setIfInBounds i (.int k y)) E)) E 1 (.slice (some ⟨r, 0, none⟩) n cap) n ((l.set i y).map (Value.int k ·)) (some r) := by
  obtain ⟨h1, ⟨h2, _, _⟩ | ⟨r', cap', c', h3, h4, h5, h6, h7, h8⟩⟩ := h
  · cases h2
  · cases h3
    rw [hc] at h4; cases h4
    refine ⟨by simpa using h1, .inr ⟨r, cap, _, rfl, zax _ _ _, h5, by simpa using h6, ?_, rfl⟩⟩
    have e : (l.set i y).map (Value.int k ·) = (l.map (Value.int k ·)).set i (.int k y) := by rw [List.map_set]
    rw [e, ← h7]
    simp only [Array.toList_extract, List.extract_eq_take_drop, Array.toList_setIfInBounds, List.drop_zero, Nat.sub_zero, List.take_set]
end Go.Proofs.Ytcjdkfhmlnfedaa.HL
end
section
namespace Go.Proofs.Ytcjdkfhmlnfedaa.HL
open Go
set_option linter.unusedSimpArgs false
def ifV (T : TypeId) : Option Value → Value
  | none => .nilIface
  | some v => .iface T v
end Go.Proofs.Ytcjdkfhmlnfedaa.HL
end
section
namespace Go.Proofs.Ytcjdkfhmlnfedaa.HL
open Go
/-! ### two heaps side by side -/
def Hp.join (H F : Hp) : Hp := fun b => match H b with | some o => some o | none => F b
def Hp.apart (H F : Hp) : Prop := ∀ b, F b ≠ none → H b = none
theorem join_l {H F : Hp} {b : Nat} {o : Obj} (h : H b = some o) : H.join F b = some o := by simp [Hp.join, h]
theorem join_r {H F : Hp} {b : Nat} (h : H b = none) : H.join F b = F b := by simp [Hp.join, h]
theorem le_join (H F : Hp) : Le H (H.join F) := fun _ _ h => join_l h
theorem le_join_r {H F : Hp} (h : H.apart F) : Le F (H.join F) := fun b o hb => by
  rw [join_r (h b (by rw [hb]; simp))]; exact hb
theorem upd_join (H F : Hp) (b : Nat) (o : Obj) : (H.join F).upd b o = (H.upd b o).join F := by
  funext x
  by_cases e : x = b
  · subst e; simp [Hp.upd, Hp.join]
  · simp [Hp.upd, Hp.join, e]
theorem join_none {H F : Hp} {b : Nat} (h : H.join F b = none) : H b = none ∧ F b = none := by
  unfold Hp.join at h
  cases hh : H b with
  | some o => rw [hh] at h; cases h
  | none => rw [hh] at h; exact ⟨rfl, h⟩
theorem apart_known {H F : Hp} (h : H.apart F) {b : Nat} {o : Obj} (hb : H b = some o) : F b = none := by
  cases hf : F b with
  | none => rfl
  | some x => rw [h b (by rw [hf]; simp)] at hb; cases hb
theorem apart_upd {H F : Hp} (h : H.apart F) {b : Nat} (hb : F b = none) (o : Obj) : (H.upd b o).apart F := fun x hx => by
  rw [zaA _ _ (by intro e; subst e; exact hx hb)]; exact h x hx
theorem cell_join {H F : Hp} {a : Addr} {v : Value} (h : H.cell a = some v) : (H.join F).cell a = some v := by
  unfold Hp.cell at *
  cases hh : H a.block with
  | none => rw [hh] at h; cases h
  | some o => rw [hh] at h; rw [join_l hh]; exact h
theorem Ext.join {H H' F : Hp} {w w' : World} (hs : Sub (H.join F) w) (hd : H.apart F) (hx : Ext H w H' w') : H'.apart F ∧ Ext (H.join F) w (H'.join F) w' := by
  have hlt : ∀ b, F b ≠ none → b < w.heap.size := fun b hb => by
    cases hf : F b with
    | none => exact absurd hf hb
    | some o => exact hs.lt (le_join_r hd b o hf)
  have hd' : H'.apart F := fun b hb => by
    cases hc : H' b with
    | none => rfl
    | some x =>
      rcases hx.dom b (by rw [hc]; simp) with h | h
      · exact absurd (hd b hb) h
      · have := hlt b hb; omega
  refine ⟨hd', ⟨fun b o hb => ?_, hx.size, fun b hb hbn => hx.same b hb (join_none hbn).1, fun b hb => ?_, hx.os, hx.output, hx.tape⟩⟩
  · cases hc : H' b with
    | some x => rw [join_l hc] at hb; cases hb; exact hx.sub b _ hc
    | none =>
      rw [join_r hc] at hb
      have hn : F b ≠ none := by rw [hb]; simp
      rw [hx.same b (hlt b hn) (hd b hn)]
      exact hs b o (by rw [join_r (hd b hn)]; exact hb)
  · cases hc : H' b with
    | some x =>
      rcases hx.dom b (by rw [hc]; simp) with h | h
      · left
        cases hh : H b with
        | none => exact absurd hh h
        | some o => rw [join_l hh]; simp
      · exact .inr h
    | none =>
      rw [join_r hc] at hb
      left; rw [join_r (hd b hb)]; exact hb
theorem Lt_join {P : Program} {α : Type} (s : Sem α) {F : Hp} : ∀ {H : Hp} {K : α → Hp → Prop}, Lt P s H K → H.apart F → Lt P s (H.join F) (fun x H1 => ∃ H', H1 = H'.join F ∧ H'.apart F ∧ K x H') := by
  induction s with
  | pure a => exact fun h hr => ⟨_, rfl, hr, h⟩
  | load m a k ih => intro H K ⟨v, h1, h2⟩ hr; exact ⟨v, cell_join h1, ih _ h2 hr⟩
  | store m a v k ih =>
    intro H K ⟨o', h1, h2, h3, h4, h5⟩ hr
    refine ⟨o', join_l h1, h2, ?_, h4, ?_⟩
    · cases hc : H.cell a with
      | none => exact absurd hc h3
      | some u => rw [cell_join hc]; simp
    · rw [upd_join]; exact ih h5 (apart_upd hr (apart_known hr h1) _)
  | new o' k ih =>
    intro H K h hr r' hr'
    obtain ⟨h1, h2⟩ := join_none hr'
    rw [upd_join]; exact ih _ (h r' h1) (apart_upd hr h2 _)
  | shape r' k ih => intro H K ⟨o', h1, h2⟩ hr; exact ⟨o', join_l h1, ih _ h2 hr⟩
  | freeze a n k ih =>
    intro H K h hr
    rcases h with ⟨h1, h2⟩ | ⟨h1, o', h2, h3⟩
    · exact .inl ⟨h1, ih h2 hr⟩
    · refine .inr ⟨h1, o', join_l h2, ?_⟩
      rw [upd_join]; exact ih h3 (apart_upd hr (apart_known hr h2) _)
  | frozen a k ih => intro H K ⟨o', h1, h2⟩ hr; exact ⟨o', join_l h1, ih _ h2 hr⟩
  | getObj r' k ih => intro H K ⟨o', h1, h2, h3⟩ hr; exact ⟨o', join_l h1, h2, ih _ h3 hr⟩
  | setObj r' o' k ih =>
    intro H K ⟨o0, h1, h2, h3⟩ hr
    refine ⟨o0, join_l h1, h2, ?_⟩
    rw [upd_join]; exact ih h3 (apart_upd hr (apart_known hr h1) _)
  | choose q k ih => exact fun h hr => ⟨fun hf => ih _ (h.1 hf) hr, fun hf t => ih _ (h.2 hf t) hr⟩
  | sys c k ih => exact fun h _ => h.elim
  | program k ih => exact fun h hr => ih _ h hr
  | mark m k ih => exact fun h hr => ih h hr
  | halt h' => exact fun h _ => h.elim
theorem NextH_join {P : Program} {nx : Next} {H F : Hp} {R : Value → Hp → Prop} (h : NextH P nx H R) (hd : H.apart F) : NextH P nx (H.join F) (fun v H1 => ∃ H', H1 = H'.join F ∧ H'.apart F ∧ R v H') := by
  cases nx <;> simp only [NextH] at * <;> first
    | exact ⟨_, rfl, hd, h⟩
    | exact fun w hs => (h w (hs.le (le_join H F))).mono fun _ _ ⟨v, he, H', hR, hx⟩ => ⟨v, he, H'.join F, ⟨H', rfl, (hx.join hs hd).1, hR⟩, (hx.join hs hd).2⟩
    | exact fun w hs => (h w (hs.le (le_join H F))).mono fun v w' ⟨H', hR, hx⟩ => ⟨H'.join F, ⟨H', rfl, (hx.join hs hd).1, hR⟩, (hx.join hs hd).2⟩
    | exact h.elim
theorem ValH_join {P : Program} {g : Value} {args : Array Value} {H F : Hp} {R : Value → Hp → Prop} (h : ValH P g args H R) (hd : H.apart F) : ValH P g args (H.join F) (fun v H1 => ∃ H', H1 = H'.join F ∧ H'.apart F ∧ R v H') := by
  unfold ValH at *
  refine Lt_mono _ _ (Lt_join _ h hd) ?_
  rintro nx H1 ⟨H', rfl, hd', hn⟩
  exact NextH_join hn hd'
theorem ValH.mono {P : Program} {g : Value} {args : Array Value} {H : Hp} {R R' : Value → Hp → Prop} (h : ValH P g args H R) (hr : ∀ v H', R v H' → R' v H') : ValH P g args H R' :=
  Lt_mono _ _ h fun _ _ hn => hn.mono hr
def Hp.less (K H : Hp) : Hp := fun b => match H b with | some _ => none | none => K b
theorem less_apart (K H : Hp) : H.apart (K.less H) := fun b hb => by
  unfold Hp.less at hb
  cases h : H b with
  | none => rfl
  | some o => rw [h] at hb; exact absurd rfl hb
theorem less_none {K H : Hp} {b : Nat} (h : H b = none) : K.less H b = K b := by simp [Hp.less, h]
theorem join_less {K H : Hp} (h : Le H K) : H.join (K.less H) = K := by
  funext b
  cases hb : H b with
  | some o => rw [join_l hb, h b o hb]
  | none => rw [join_r hb, less_none hb]
theorem ValH.use {P : Program} {g : Value} {args : Array Value} {H K : Hp} {R : Value → Hp → Prop} (h : ValH P g args H R) (hl : Le H K) :
    ValH P g args K (fun v K' => ∃ H', R v H' ∧ Le H' K' ∧ ∀ b o, K b = some o → H b = none → K' b = some o ∧ H' b = none) := by
  have := ValH_join h (less_apart K H)
  rw [join_less hl] at this
  refine this.mono ?_
  rintro v K' ⟨H', rfl, hd, hR⟩
  refine ⟨H', hR, le_join _ _, fun b o hb hn => ?_⟩
  have h1 : K.less H b = some o := by rw [less_none hn]; exact hb
  have h2 : H' b = none := hd b (by rw [h1]; simp)
  exact ⟨by rw [join_r h2]; exact h1, h2⟩
theorem CallH.use {P : Program} {f : FuncId} {args : Array Value} {H K : Hp} {R : Value → Hp → Prop} (h : CallH P f args H R) (hl : Le H K) :
    CallH P f args K (fun v K' => ∃ H', R v H' ∧ Le H' K' ∧ ∀ b o, K b = some o → H b = none → K' b = some o ∧ H' b = none) := by
  have := NextH_join (nx := .enter f args) h (less_apart K H)
  rw [join_less hl] at this
  refine CallH.mono this ?_
  rintro v K' ⟨H', rfl, hd, hR⟩
  refine ⟨H', hR, le_join _ _, fun b o hb hn => ?_⟩
  have h1 : K.less H b = some o := by rw [less_none hn]; exact hb
  have h2 : H' b = none := hd b (by rw [h1]; simp)
  exact ⟨by rw [join_r h2]; exact h1, h2⟩
def Iter (P : Program) (g : Value) (H0 : Hp) (n : Nat) (T : Nat → List Value → Hp → Prop) : Prop :=
  ∀ (yf : Fn) (ya yb : Array Value) (J : Nat → Hp → Prop) (S : Hp → Prop) (H : Hp), (∀ i H, J i H → Le H0 H) →
    (∀ i, i < n → ∀ H, J i H → ∀ args F, T i args F → H.apart F → ValH P (.func yf ya yb) args.toArray (H.join F) (fun v H2 => ∃ H3, Le H3 H2 ∧ ((v = .bool true ∧ J (i + 1) H3) ∨ (v = .bool false ∧ S H3)))) →
    J 0 H → ValH P g #[.func yf ya yb] H (fun _ H2 => ∃ H3, Le H3 H2 ∧ (J n H3 ∨ S H3))
def Tpure (xs : Nat → List Value) : Nat → List Value → Hp → Prop := fun i args F => args = xs i ∧ F = emptyHp
theorem join_empty (H : Hp) : H.join emptyHp = H := by
  funext b; unfold Hp.join; cases H b <;> rfl
theorem apart_empty (H : Hp) : H.apart emptyHp := fun _ h => absurd rfl h
def putAll (e : Env) : List (Nat × Value) → Env
  | [] => e
  | (t, v) :: r => putAll (e.put t v) r
theorem Lt_yield {P : Program} {l : Nat} {lp : Loop} {args : Array Value} {H : Hp} {K : Next → Hp → Prop} (h : H l = some (.loop lp)) (hn : args.size = lp.params.size)
    (hK : K (.round l lp.fn ((lp.params.zip args).foldl (fun tmps (t, a) => tmps.setIfInBounds t a) lp.tmps) lp.assign lp.body) H) : Lt P (Instr.yield l args) H K := by
  simp only [Instr.yield, Instr.getLoop, zba]
  refine ⟨_, h, rfl, ?_⟩
  simp only [l_pure', zbj, hn, ne_eq, not_true, if_false]
  exact hK
theorem Rel.putAll {n B : Nat} {w : World} {H : Hp} {d : List Deferred} : ∀ {l : List (Nat × Value)} {e : Env} {tmps : Array Value}, Rel n B e { tmps, defers := d } w H → (∀ p ∈ l, p.1 < n) → Rel n B (HL.putAll e l) { tmps := l.foldl (fun tmps (t, a) => tmps.setIfInBounds t a) tmps, defers := d } w H
  | [], _, _, h, _ => h
  | (t, v) :: r, e, tmps, h, hl => by
    have h1 := h.put (d := some t) (fun u hu => by cases hu; exact hl (t, v) (by simp)) v
    exact Rel.putAll (l := r) h1 (fun p hp => hl p (by simp [hp]))
theorem CW_rangeFunc {P : Program} {n : Nat} {Q : Ex → Env → Hp → Prop} {e : Env} {H : Hp} {g : Operand} {params : Array Tmp} {assign body : Code} {gv : Value} (hg : ∀ r, ev e r g = gv)
    {H0 : Hp} {N : Nat} {T : Nat → List Value → Hp → Prop} (hit : Iter P gv H0 N T) (J : Nat → Hp → Prop) (hle : ∀ i H', J i H' → Le H0 H') (h0 : J 0 H) (hp : ∀ p ∈ params.toList, p < n)
    (round : ∀ l i, i < N → ∀ H', J i H' → ∀ args F, T i args F → H'.apart F → args.length = params.size ∧
      CW P n (some l) assign (fun x e1 H1 => x = .normal ∧ CW P n (some l) body (fun x e2 H2 => match x with | .normal => J (i + 1) H2 | x => Q x e H2) e1 H1) (putAll e (params.toList.zip args)) (H'.join F))
    (hend : ∀ H', J N H' → Q .normal e H') : CW P n none (.rangeFunc g params assign body) Q e H := by
  intro B a w hr hs
  refine CR_rangeFunc (fun fn => ?_)
  obtain ⟨l, hl⟩ : ∃ l, l = w.heap.size + 1 := ⟨_, rfl⟩
  obtain ⟨lp, hlp⟩ : ∃ lp, lp = loopObj fn a.tmps params assign body w.heap.size := ⟨_, rfl⟩
  obtain ⟨w2, hw2⟩ : ∃ w2, w2 = pushLoop w fn a params assign body := ⟨_, rfl⟩
  have hsz : w2.heap.size = w.heap.size + 2 := by rw [hw2]; simp [pushLoop]
  have hwl : w2.heap[l]? = some (.loop lp) := by
    rw [hw2, hl, hlp]
    simp only [pushLoop]
    have : w.heap.size + 1 = (w.heap.push (.deferred (some []))).size := by simp
    rw [this, Array.getElem?_push_size]
  have hwr : w2.heap[w.heap.size]? = some (.deferred (some [])) := by
    rw [hw2]
    simp only [pushLoop]
    rw [Array.getElem?_push_lt (by simp), Array.getElem_push_eq]
  have hwo : ∀ b, b < w.heap.size → w2.heap[b]? = w.heap[b]? := fun b hb => by
    rw [hw2]
    simp only [pushLoop]
    rw [Array.getElem?_push_lt (by simp; omega), Array.getElem_push_lt hb, Array.getElem?_eq_getElem hb]
  have hHn : ∀ b, w.heap.size ≤ b → H b = none := fun b hb => by
    cases hc : H b with
    | none => rfl
    | some o => have := hs.lt hc; omega
  have hHl : H l = none := hHn l (by omega)
  have hHr : H w.heap.size = none := hHn _ (Nat.le_refl _)
  have hne : w.heap.size ≠ l := by omega
  have hs2 : Sub (H.upd l (.loop lp)) w2 := fun b o hb => by
    by_cases ee : b = l
    · subst ee; rw [zax] at hb; cases hb; exact hwl
    · rw [zaA _ _ ee] at hb; rw [hwo b (hs.lt hb)]; exact hs b o hb
  have hx2 : w2.os = w.os ∧ w2.output = w.output ∧ w2.tape = w.tape := by rw [hw2]; exact ⟨rfl, rfl, rfl⟩
  have key := hit (.yield l) #[] #[] (fun i HH => ∃ HJ, HH = HJ.upd l (.loop lp) ∧ HJ l = none ∧ J i HJ)
    (fun HH => ∃ HJ x, HH = HJ.upd l (.loop { lp with state := .done, pending := Ex.jump x }) ∧ x ≠ .normal ∧ HJ l = none ∧ Q x e HJ)
    (H.upd l (.loop lp)) (by
      rintro i _ ⟨HJ, rfl, hn, hj⟩
      exact zaP (hle i HJ hj) (zaj (hle i HJ hj) hn))
    (by
      rintro i hi _ ⟨HJ, rfl, hn, hj⟩ args F hT hd
      have hFl : F l = none := apart_known hd (zax _ _ _)
      have hdJ : HJ.apart F := fun b hb => by
        have := hd b hb
        by_cases ee : b = l
        · subst ee; exact hn
        · rwa [zaA _ _ ee] at this
      obtain ⟨hlen, hcw⟩ := round l i hi HJ hj args F hT hdJ
      rw [← upd_join]
      have hjn : (HJ.join F) l = none := by rw [join_r hn]; exact hFl
      show Lt P (Instr.yield l (#[] ++ args.toArray)) _ _
      refine Lt_yield (zax _ _ _) (by simp [hlen, hlp, loopObj]) ?_
      simp only [NextH]
      intro w5 hs5
      have hs5' : Sub (HJ.join F) w5 := fun b o hb => hs5 b o (by rw [zaA _ _ (by intro ee; subst ee; rw [hjn] at hb; cases hb)]; exact hb)
      have hl5 : w5.heap[l]? = some (.loop lp) := hs5 l _ (zax _ _ _)
      have hlt5 : l < w5.heap.size := hs5.lt (zax _ _ _)
      refine round_of_CR ?_
      rw [show lp.assign = assign from by rw [hlp]; rfl, show lp.body = body from by rw [hlp]; rfl]
      have hrel : Rel n 0 (putAll e (params.toList.zip args)) { tmps := (lp.params.zip (#[] ++ args.toArray)).foldl (fun tmps (t, a) => tmps.setIfInBounds t a) lp.tmps, defers := [] } w5 (HJ.join F) := by
        have h1 : Rel n 0 e { tmps := lp.tmps, defers := [] } w5 (HJ.join F) := ⟨Nat.zero_le _, by rw [hlp]; exact hr.size, by rw [hlp]; exact hr.tmps, [], rfl, .nil, fun _ h => by cases h⟩
        have h2 := Rel.putAll (l := params.toList.zip args) h1 (fun p hpp => hp p.1 (List.of_mem_zip hpp).1)
        have h3 : (lp.params.zip (#[] ++ args.toArray)).foldl (fun tmps (t, a) => tmps.setIfInBounds t a) lp.tmps = (params.toList.zip args).foldl (fun tmps (t, a) => tmps.setIfInBounds t a) lp.tmps := by
          rw [← Array.foldl_toList]; simp [hlp, loopObj]
        rw [h3]; exact h2
      refine (hcw 0 _ w5 hrel hs5').mono ?_
      rintro x a1 w6 ⟨e1, H6, ⟨rfl, hbody⟩, hr6, hx6⟩
      have hH6 : H6 l = none := by
        cases hc : H6 l with
        | none => rfl
        | some o =>
          rcases hx6.dom l (by rw [hc]; simp) with h | h
          · exact absurd hjn h
          · omega
      have hl6 : w6.heap[l]? = some (.loop lp) := by rw [hx6.same l hlt5 hjn]; exact hl5
      refine ⟨lp, hl6, by rw [hlp]; rfl, ?_⟩
      have hset : ∀ (w : World) (HH : Hp) (q : Loop), HH l = none → Sub HH w → Sub HH (setLoop w l q) := fun w HH q hq hsw b o hb => by
        have : b ≠ l := fun ee => by subst ee; rw [hq] at hb; cases hb
        simp only [setLoop]
        rw [Array.getElem?_setIfInBounds_ne (Ne.symm this)]; exact hsw b o hb
      have hr7 : Rel n 0 e1 a1 (setLoop w6 l { lp with state := .busy }) H6 := by
        refine ⟨Nat.zero_le _, hr6.size, hr6.tmps, ?_⟩
        obtain ⟨rs, m1, m2, m3⟩ := hr6.marks
        refine ⟨rs, m1, m2, fun r hrr => ⟨?_, (m3 r hrr).2⟩⟩
        have : r ≠ l := fun ee => by subst ee; rw [(m3 r hrr).1] at hl6; cases hl6
        simp only [setLoop]
        rw [Array.getElem?_setIfInBounds_ne (Ne.symm this)]; exact (m3 r hrr).1
      refine (hbody 0 a1 _ hr7 (hset w6 H6 _ hH6 hx6.sub)).mono ?_
      rintro x a2 w8 ⟨e2, H8, hq8, hr8, hx8⟩
      have hlt6 : l < (setLoop w6 l { lp with state := .busy }).heap.size := by
        simp only [setLoop, Array.size_setIfInBounds]; exact Nat.lt_of_lt_of_le hlt5 hx6.size
      have hl8 : w8.heap[l]? = some (.loop { lp with state := .busy }) := by
        rw [hx8.same l hlt6 hH6]
        simp only [setLoop]
        rw [Array.getElem?_setIfInBounds_self_of_lt (by simpa [setLoop] using hlt6)]
      have hH8 : H8 l = none := by
        cases hc : H8 l with
        | none => rfl
        | some o =>
          rcases hx8.dom l (by rw [hc]; simp) with h | h
          · exact absurd hH6 h
          · omega
      refine ⟨{ lp with state := .busy }, hl8, ?_⟩
      have hextw : Ext ((HJ.join F).upd l (.loop lp)) w5 (H8.upd l (.loop (afterRound { lp with state := .busy } x))) (setLoop w8 l (afterRound { lp with state := .busy } x)) := by
        refine ⟨fun b o hb => ?_, ?_, fun b hb hbn => ?_, fun b hb => ?_, ?_, ?_, ?_⟩
        · by_cases ee : b = l
          · subst ee
            rw [zax] at hb; cases hb
            simp only [setLoop]
            rw [Array.getElem?_setIfInBounds_self_of_lt (Nat.lt_of_lt_of_le hlt6 hx8.size)]
          · rw [zaA _ _ ee] at hb
            simp only [setLoop]
            rw [Array.getElem?_setIfInBounds_ne (Ne.symm ee)]; exact hx8.sub b o hb
        · have h1 := hx6.size
          have h2 := hx8.size
          simp only [setLoop, Array.size_setIfInBounds] at h2 ⊢; omega
        · have ee : b ≠ l := fun ee => by subst ee; rw [zax] at hbn; cases hbn
          rw [zaA _ _ ee] at hbn
          have h6n : H6 b = none := by
            cases hc : H6 b with
            | none => rfl
            | some o =>
              rcases hx6.dom b (by rw [hc]; simp) with h | h
              · exact absurd hbn h
              · omega
          have hb6 : b < (setLoop w6 l { lp with state := .busy }).heap.size := by
            simp only [setLoop, Array.size_setIfInBounds]; exact Nat.lt_of_lt_of_le hb hx6.size
          have h1 := hx8.same b hb6 h6n
          simp only [setLoop] at h1 ⊢
          rw [Array.getElem?_setIfInBounds_ne (Ne.symm ee)] at h1 ⊢
          rw [h1, hx6.same b hb hbn]
        · by_cases ee : b = l
          · subst ee; left; rw [zax]; simp
          · rw [zaA _ _ ee] at hb ⊢
            rcases hx8.dom b hb with h | h
            · exact hx6.dom b h
            · right
              have := hx6.size
              simp only [setLoop, Array.size_setIfInBounds] at h; omega
        · exact hx8.os.trans hx6.os
        · exact hx8.output.trans hx6.output
        · exact hx8.tape.trans hx6.tape
      refine ⟨H8.upd l (.loop (afterRound { lp with state := .busy } x)), ⟨_, Le.refl _, ?_⟩, hextw⟩
      cases x with
      | normal =>
        refine .inl ⟨rfl, H8, ?_, hH8, hq8⟩
        rw [hlp]; rfl
      | exit id => exact .inr ⟨rfl, H8, .exit id, by rw [hlp]; rfl, by simp, hH8, hq8⟩
      | ret => exact .inr ⟨rfl, H8, .ret, by rw [hlp]; rfl, by simp, hH8, hq8⟩)
    ⟨H, rfl, hHl, h0⟩
  obtain ⟨nx, w3, H3, hrun, hn, hx⟩ := Lt_sound _ _ _ w2 key hs2
  have hev : a.eval g = gv := by rw [hr.ev]; exact hg _
  refine ⟨nx, w3, by rw [hev, ← hl, ← hw2]; exact hrun, (hn.sound hx.sub).mono ?_⟩
  rintro v w4 ⟨H4, ⟨H5, hle5, hJS⟩, hx4⟩
  rw [← hl]
  have hx24 := (hx.trans hx4).forget hle5
  -- behind the loop
  have fin : ∀ (HJ : Hp) (q : Loop), H5 = HJ.upd l (.loop q) → HJ l = none → Rel n B e { a with defers := markOf w.heap.size :: a.defers } (setLoop w4 l { q with state := .exhausted }) HJ ∧ Ext H w HJ (setLoop w4 l { q with state := .exhausted }) := by
    rintro HJ q rfl hJl
    have hJr : HJ w.heap.size = none := by
      cases hc : HJ w.heap.size with
      | none => rfl
      | some o =>
        have h1 := hx24.dom w.heap.size (by rw [zaA _ _ hne, hc]; simp)
        rcases h1 with h | h
        · rw [zaA _ _ hne, hHr] at h; exact absurd rfl h
        · omega
    have hmk : w4.heap[w.heap.size]? = some (.deferred (some [])) := by
      rw [hx24.same _ (by omega) (by rw [zaA _ _ hne]; exact hHr)]; exact hwr
    have hext : Ext H w HJ (setLoop w4 l { q with state := .exhausted }) := by
      refine ⟨fun b o hb => ?_, ?_, fun b hb hbn => ?_, fun b hb => ?_, ?_, ?_, ?_⟩
      · have ee : b ≠ l := fun ee => by subst ee; rw [hJl] at hb; cases hb
        simp only [setLoop]
        rw [Array.getElem?_setIfInBounds_ne (Ne.symm ee)]
        exact hx24.sub b o (by rw [zaA _ _ ee]; exact hb)
      · have := hx24.size
        simp only [setLoop, Array.size_setIfInBounds]; omega
      · have ee : b ≠ l := by omega
        simp only [setLoop]
        rw [Array.getElem?_setIfInBounds_ne (Ne.symm ee), hx24.same b (by omega) (by rw [zaA _ _ ee]; exact hbn), hwo b hb]
      · have ee : b ≠ l := fun ee => by subst ee; exact hb hJl
        have h1 := hx24.dom b (by rw [zaA _ _ ee]; exact hb)
        rcases h1 with h | h
        · rw [zaA _ _ ee] at h; exact .inl h
        · right; omega
      · exact hx24.os.trans hx2.1
      · exact hx24.output.trans hx2.2.1
      · exact hx24.tape.trans hx2.2.2
    refine ⟨⟨?_, hr.size, hr.tmps, ?_⟩, hext⟩
    · exact Nat.le_trans hr.bound hext.size
    · obtain ⟨rs, m1, m2, m3⟩ := hr.marks
      have hlt : ∀ r ∈ rs, r < w.heap.size := fun r hrr => by
        rcases Nat.lt_or_ge r w.heap.size with h | h
        · exact h
        · have := (m3 r hrr).1; rw [Array.getElem?_eq_none h] at this; cases this
      refine ⟨w.heap.size :: rs, by simp [m1], List.nodup_cons.2 ⟨fun hm => Nat.lt_irrefl _ (hlt _ hm), m2⟩, fun r hrr => ?_⟩
      rcases List.mem_cons.1 hrr with rfl | hrr
      · refine ⟨?_, hJr, hr.bound⟩
        simp only [setLoop]
        rw [Array.getElem?_setIfInBounds_ne (Ne.symm hne)]; exact hmk
      · have hrl := hlt r hrr
        refine ⟨?_, ?_, (m3 r hrr).2.2⟩
        · have ee : r ≠ l := by omega
          simp only [setLoop]
          rw [Array.getElem?_setIfInBounds_ne (Ne.symm ee), hx24.same r (by omega) (by rw [zaA _ _ ee]; exact (m3 r hrr).2.1), hwo r hrl]
          exact (m3 r hrr).1
        · cases hc : HJ r with
          | none => rfl
          | some o =>
            have ee : r ≠ l := by omega
            rcases hx24.dom r (by rw [zaA _ _ ee, hc]; simp) with h | h
            · rw [zaA _ _ ee, (m3 r hrr).2.1] at h; exact absurd rfl h
            · omega
  have hl4 : ∀ (HJ : Hp) (q : Loop), H5 = HJ.upd l (.loop q) → w4.heap[l]? = some (.loop q) := fun HJ q hh => by
    subst hh; exact hx24.sub l _ (zax _ _ _)
  rcases hJS with ⟨HJ, hH5, hJl, hJ⟩ | ⟨HJ, x, hH5, hxn, hJl, hQ⟩
  · obtain ⟨h1, h2⟩ := fin HJ lp hH5 hJl
    refine ⟨lp, hl4 HJ lp hH5, by rw [hlp]; simp [loopObj], ?_⟩
    have : lp.pending = none := by rw [hlp]; rfl
    rw [this] at h1 h2 ⊢
    exact ⟨e, HJ, hend HJ hJ, h1, h2⟩
  · obtain ⟨h1, h2⟩ := fin HJ _ hH5 hJl
    refine ⟨_, hl4 HJ _ hH5, by simp, ?_⟩
    cases x with
    | normal => exact absurd rfl hxn
    | exit id => exact CR_exit ⟨e, HJ, hQ, h1, h2⟩
    | ret => exact CR_ret ⟨e, HJ, hQ, h1, h2⟩
theorem ValH_func {P : Program} {f : FuncId} {caps args : Array Value} {H : Hp} {R : Value → Hp → Prop} (hb : bodied P f = true) (h : CallH P f (args ++ caps) H R) : ValH P (.func (.func f) #[] caps) args H R := by
  unfold ValH
  rw [l_callV, l_callFunc f _ hb]
  simpa [NextH] using h
theorem yes_no {v : Value} {A B : Prop} (h : (v = .bool true ∧ A) ∨ (v = .bool false ∧ B)) : ∃ t, v = .bool t ∧ (t = true → A) ∧ (t = false → B) := by
  rcases h with ⟨rfl, h⟩ | ⟨rfl, h⟩
  · exact ⟨true, rfl, fun _ => h, fun h => by cases h⟩
  · exact ⟨false, rfl, (fun h => by cases h), fun _ => h⟩
theorem Iter.yield {P : Program} {y : Value} {args : List Value} {H F K : Hp} {A B : Hp → Prop} (h : ValH P y args.toArray (H.join F) (fun v H2 => ∃ H3, Le H3 H2 ∧ ((v = .bool true ∧ A H3) ∨ (v = .bool false ∧ B H3)))) (hl : Le (H.join F) K) :
    ValH P y args.toArray K (fun v K' => ∃ t H3, v = .bool t ∧ Le H3 K' ∧ (t = true → A H3) ∧ (t = false → B H3) ∧ ∀ b o, K b = some o → H b = none → F b = none → K' b = some o ∧ H3 b = none) := by
  refine (h.use hl).mono ?_
  rintro v K' ⟨H', ⟨H3, hl3, hc⟩, hl', hk⟩
  obtain ⟨t, rfl, h1, h2⟩ := yes_no hc
  refine ⟨t, H3, rfl, Le.trans hl3 hl', h1, h2, fun b o hb hn hf => ?_⟩
  have h4 := hk b o hb (by rw [join_r hn]; exact hf)
  exact ⟨h4.1, zaj hl3 h4.2⟩
theorem Iter.yield0 {P : Program} {y : Value} {args : List Value} {H K : Hp} {A B : Hp → Prop} (h : ValH P y args.toArray (H.join emptyHp) (fun v H2 => ∃ H3, Le H3 H2 ∧ ((v = .bool true ∧ A H3) ∨ (v = .bool false ∧ B H3)))) (hl : Le H K) :
    ValH P y args.toArray K (fun v K' => ∃ t H3, v = .bool t ∧ Le H3 K' ∧ (t = true → A H3) ∧ (t = false → B H3) ∧ ∀ b o, K b = some o → H b = none → K' b = some o ∧ H3 b = none) := by
  refine (Iter.yield h (by rw [join_empty]; exact hl)).mono ?_
  rintro v K' ⟨t, H3, h1, h2, h3, h4, h5⟩
  exact ⟨t, H3, h1, h2, h3, h4, fun b o hb hn => h5 b o hb hn rfl⟩
theorem join_le {H F K : Hp} (h : Le H K) (k : Le F K) : Le (H.join F) K := fun b o hb => by
  cases hc : H b with
  | some x => rw [join_l hc] at hb; cases hb; exact h b _ hc
  | none => rw [join_r hc] at hb; exact k b o hb
theorem OwnS.frag {H : Hp} {E : TypeId} {w : Nat} {v : Value} {n : Nat} {cs : List Value} {rs : Option Nat} (h : OwnS H E w v n cs rs) (hn : 0 < n) : ∃ r o, rs = some r ∧ H r = some o ∧ OwnS (emptyHp.upd r o) E w v n cs (some r) := by
  obtain ⟨h1, ⟨_, h2, _⟩ | ⟨r, cap, c, h3, h4, h5, h6, h7, h8⟩⟩ := h
  · omega
  · exact ⟨r, _, h8, h4, h1, .inr ⟨r, cap, c, h3, zax _ _ _, h5, h6, h7, rfl⟩⟩
theorem frag_apart {H : Hp} {r : Nat} {o : Obj} (h : H r = none) : H.apart (emptyHp.upd r o) := fun b hb => by
  by_cases e : b = r
  · subst e; exact h
  · rw [zaA _ _ e] at hb; exact absurd rfl hb
theorem frag_none {r b : Nat} {o : Obj} (h : b ≠ r) : (emptyHp.upd r o) b = none := zaA _ _ h
end Go.Proofs.Ytcjdkfhmlnfedaa.HL
end
section
namespace Go.Proofs.Ytcjdkfhmlnfedaa.HL
open Go
set_option linter.unusedSimpArgs false
def getE : List MapEntry → Int → Option Value
  | [], _ => none
  | e :: es, k => match e.key with | .int _ a => if a = k then some e.val else getE es k | _ => none
def IntKeys (es : List MapEntry) : Prop := ∀ e ∈ es, ∃ k, e.key = .int .i64 k
theorem findNow_int : ∀ (es : List MapEntry) (k : Int) (i : Nat), IntKeys es → ∃ r, Instr.findNow (.int .i64) (.int .i64 k) es i = some r ∧
    ((r = none ∧ getE es k = none) ∨ ∃ j v, r = some (i + j, v) ∧ getE es k = some v ∧ j < es.length ∧ (∃ e, es[j]? = some e ∧ e.key = .int .i64 k ∧ e.val = v) ∧ ∀ j', j' < j → ∀ e, es[j']? = some e → e.key ≠ .int .i64 k)
  | [], k, i, _ => ⟨none, rfl, .inl ⟨rfl, rfl⟩⟩
  | e :: es, k, i, h => by
    obtain ⟨a, ha⟩ := h e (by simp)
    have h' : IntKeys es := fun x hx => h x (by simp [hx])
    simp only [Instr.findNow, Instr.sameNow, ha, getE, if_true]
    by_cases hk : k = a
    · subst hk
      simp only [beq_self_eq_true, if_true]
      exact ⟨_, rfl, .inr ⟨0, e.val, rfl, rfl, by simp, ⟨e, rfl, ha, rfl⟩, fun j' hj => by omega⟩⟩
    · have hne : (k == a) = false := by simpa using hk
      have hne' : ¬ a = k := fun h => hk h.symm
      simp only [hne, hne', if_false]
      obtain ⟨r, h1, h2⟩ := findNow_int es k (i + 1) h'
      refine ⟨r, h1, ?_⟩
      rcases h2 with ⟨rfl, h3⟩ | ⟨j, v, rfl, h3, h4, ⟨e', h5, h6, h7⟩, h8⟩
      · exact .inl ⟨rfl, h3⟩
      · refine .inr ⟨j + 1, v, by rw [show i + 1 + j = i + (j + 1) by omega], h3, by simp; omega, ⟨e', by simpa using h5, h6, h7⟩, fun j' hj e'' he => ?_⟩
        match j', he with
        | 0, he => simp at he; subst he; rw [ha]; intro hc; injection hc with _ hc; exact hk hc.symm
        | j' + 1, he => exact h8 j' (by omega) e'' (by simpa using he)
section
variable {P : Program} {H : Hp}
theorem l_checkInt (t : TypeId) (hu : P.underlying t = some (.int .i64)) (b : Bool) (n : Nat) (k : Int) (K : Unit → Hp → Prop) : Lt P (Instr.checkKey b (n + 1) t (.int .i64 k)) H K = K () H := by
  simp only [Instr.checkKey, zba, l_und, hu, zal]; rfl
theorem Lt_lookup {t kt et : TypeId} (hu : P.underlying t = some (.map kt et)) (hk : P.underlying kt = some (.int .i64)) {z : Value} (hz : zrOf P et = some (some z)) {m : Nat} {es : Array MapEntry} {c : Nat} (hm : H m = some (.map es c)) (hi : IntKeys es.toList) {k : Int} {K : Value → Hp → Prop}
    (h : K ((getE es.toList k).getD z) H) : Lt P (Instr.lookup t (.map (some m)) (.int .i64 k) false) H K := by
  simp only [Instr.lookup, zba, l_und, hu, zal]
  refine ⟨_, hm, rfl, ?_⟩
  simp only [l_pure', zbj, zba]
  rw [l_checkInt kt hk]
  simp only [Instr.findKey, zba, l_und, hk, zal]
  obtain ⟨r, h1, h2⟩ := findNow_int es.toList k 0 hi
  rw [h1]
  rcases h2 with ⟨rfl, h3⟩ | ⟨j, v, rfl, h3, _⟩
  · rw [h3] at h
    simp only [zbj, zba, l_zero, hz, zal]
    exact h
  · rw [h3] at h
    simp only [zbj, zba]
    exact h
theorem getE_push : ∀ (es : List MapEntry) (k : Int) (v : Value) (b : Nat) (x : Int), IntKeys es → getE es k = none → getE (es ++ [{ key := .int .i64 k, val := v, born := b }]) x = if x = k then some v else getE es x
  | [], k, v, b, x, _, _ => by
    simp only [List.nil_append, getE]
    by_cases e : x = k
    · subst e; simp
    · have e' : ¬ k = x := fun h => e h.symm
      simp [e, e']
  | e :: es, k, v, b, x, h, hn => by
    obtain ⟨a, ha⟩ := h e (by simp)
    have h' : IntKeys es := fun y hy => h y (by simp [hy])
    simp only [getE, ha] at hn
    simp only [List.cons_append, getE, ha]
    by_cases hk : a = k
    · rw [if_pos hk] at hn; cases hn
    · rw [if_neg hk] at hn
      rw [getE_push es k v b x h' hn]
      by_cases hx : a = x
      · subst hx; simp [hk]
      · simp [hx]
theorem getE_modify : ∀ (es : List MapEntry) (k : Int) (v : Value) (j : Nat) (x : Int), IntKeys es → (∃ e, es[j]? = some e ∧ e.key = .int .i64 k) → (∀ j', j' < j → ∀ e, es[j']? = some e → e.key ≠ .int .i64 k) →
    getE (es.modify j (fun e => { e with key := .int .i64 k, val := v })) x = if x = k then some v else getE es x
  | [], k, v, j, x, _, h, _ => by obtain ⟨e, h, _⟩ := h; simp at h
  | e :: es, k, v, 0, x, h, ⟨e', h1, h2⟩, _ => by
    simp at h1; subst h1
    simp only [List.modify_zero_cons, getE, h2]
    by_cases hx : x = k
    · subst hx; simp
    · have e' : ¬ k = x := fun h => hx h.symm
      simp [hx, e']
  | e :: es, k, v, j + 1, x, h, ⟨e', h1, h2⟩, h3 => by
    obtain ⟨a, ha⟩ := h e (by simp)
    have h' : IntKeys es := fun y hy => h y (by simp [hy])
    have hak : a ≠ k := fun hh => h3 0 (by omega) e rfl (by rw [ha, hh])
    simp only [List.modify_succ_cons, getE, ha]
    rw [getE_modify es k v j x h' ⟨e', by simpa using h1, h2⟩ (fun j' hj e'' he => h3 (j' + 1) (by omega) e'' (by simpa using he))]
    by_cases hx : a = x
    · subst hx; simp [hak]
    · simp [hx]
theorem keys_modify {es : List MapEntry} (h : IntKeys es) (k : Int) (v : Value) (j : Nat) : IntKeys (es.modify j (fun e => { e with key := .int .i64 k, val := v })) := by
  intro e he
  obtain ⟨i, hi⟩ := List.getElem?_of_mem he
  rw [List.getElem?_modify] at hi
  cases hh : es[i]? with
  | none => rw [hh] at hi; simp at hi
  | some y =>
    rw [hh] at hi
    by_cases e2 : j = i
    · simp [e2] at hi; exact ⟨k, by rw [← hi]⟩
    · simp [e2] at hi; exact h e (by rw [← hi]; exact List.mem_of_getElem? hh)
theorem Lt_mapUpdate {t kt et : TypeId} (hu : P.underlying t = some (.map kt et)) (hk : P.underlying kt = some (.int .i64)) {m : Nat} {es : Array MapEntry} {c : Nat} (hm : H m = some (.map es c)) (hi : IntKeys es.toList) {k : Int} {v : Value} {K : Unit → Hp → Prop}
    (h : ∀ (es' : Array MapEntry) (c' : Nat), IntKeys es'.toList → (∀ x, getE es'.toList x = if x = k then some v else getE es.toList x) → K () (H.upd m (.map es' c'))) : Lt P (Instr.mapUpdate t (.map (some m)) (.int .i64 k) v) H K := by
  simp only [Instr.mapUpdate, zba, l_und, hu, zal]
  refine ⟨_, hm, rfl, ?_⟩
  simp only [l_pure', zbj, zba]
  rw [l_checkInt kt hk]
  simp only [Instr.findKey, zba, l_und, hk, zal]
  obtain ⟨r, h1, h2⟩ := findNow_int es.toList k 0 hi
  rw [h1]
  rcases h2 with ⟨rfl, h3⟩ | ⟨j, v', rfl, h3, hjl, ⟨e, h5, h6, h7⟩, h8⟩
  · simp only [zbj]
    refine ⟨_, hm, rfl, ?_⟩
    refine h _ _ ?_ ?_
    · intro e he
      simp at he
      rcases he with he | rfl
      · exact hi e (by simpa using he)
      · exact ⟨k, rfl⟩
    · intro x
      simp only [Array.toList_push]
      exact getE_push es.toList k v c x hi h3
  · simp only [zbj, zba, Nat.zero_add]
    have he : es[j]? = some e := by rw [← Array.getElem?_toList]; exact h5
    have hkt : Instr.keyThatStays (((es[j]?).map (·.key)).getD (.int .i64 k)) (.int .i64 k) = pure (.int .i64 k) := by
      rw [he]
      simp only [Option.map_some, Option.getD_some, h6, Instr.keyThatStays, Instr.sameBits, beq_self_eq_true, Bool.and_self, if_true]
    rw [hkt]
    simp only [zbj]
    refine ⟨_, hm, rfl, ?_⟩
    refine h _ _ ?_ ?_
    · simp only [Array.toList_modify]; exact keys_modify hi k v j
    · intro x
      simp only [Array.toList_modify]
      exact getE_modify es.toList k v j x hi ⟨e, h5, h6⟩ h8
theorem Lt_makeMap {t : TypeId} {K : Value → Hp → Prop} (h : ∀ r, H r = none → K (.map (some r)) (H.upd r (.map #[] 0))) : Lt P (Instr.makeMap t none) H K := by
  simp only [Instr.makeMap, zba, l_new, zbj]
  exact h
end
end Go.Proofs.Ytcjdkfhmlnfedaa.HL
end
section
namespace Go.Proofs.Ytcjdkfhmlnfedaa.HL
open Go
set_option linter.unusedSimpArgs false
structure Sec where
  b : List Int
  h : b.length = 64
theorem Sec.ext {x y : Sec} (h : x.b = y.b) : x = y := by cases x; cases y; simp at h; subst h; rfl
instance : DecidableEq Sec := fun x y => if h : x.b = y.b then isTrue (Sec.ext h) else isFalse (fun e => h (by rw [e]))
instance : Inhabited Sec := ⟨⟨List.replicate 64 0, by simp⟩⟩
def Sec.zero : Sec := ⟨List.replicate 64 0, by simp⟩
abbrev Sec.c (x : Sec) : List Value := u8s x.b
abbrev Sec.v (x : Sec) : Value := .agg x.c.toArray
theorem Sec.len (x : Sec) : x.c.length = 64 := by simp [x.h]
theorem zero_v : Sec.zero.v = .agg (Array.replicate 64 (.int .u8 0)) := by
  simp only [Sec.v, Sec.c, Sec.zero]
  congr 1
structure Wt where
  at_ : Int
  x : Sec
deriving Inhabited
abbrev Wt.c (w : Wt) : List Value := .int .i64 w.at_ :: w.x.c
theorem Wt.len (w : Wt) : w.c.length = 65 := by simp [w.x.h]
abbrev wts (l : List Wt) : List Value := l.flatMap Wt.c
theorem Wt.plain (w : Wt) : PlainL w.c := PlainL.cons (plain_int _ _) (PlainL.ints _ _)
structure Dv where
  size : Int
  sure : Int → Sec
  wait : List Wt
instance : Inhabited Dv := ⟨⟨0, fun _ => Sec.zero, []⟩⟩
structure St where
  steps : Int
  left : Int
  armed : Bool
  gone : Bool
  dv : List Dv
def torn (x old : Sec) (t : Int) : Sec := if h : 0 < t ∧ t < 64 then ⟨x.b.take t.toNat ++ old.b.drop t.toNat, by have := x.h; have := old.h; simp; omega⟩ else x
def stN (kept : Nat → Option Int) (ws : List Wt) (s : Int → Sec) : Nat → (Int → Sec)
  | 0 => s
  | n + 1 => match kept n with
    | none => stN kept ws s n
    | some t => fun x => if x = (ws.getD n default).at_ then torn (ws.getD n default).x (stN kept ws s n (ws.getD n default).at_) t else stN kept ws s n x
def Dv.settle (d : Dv) (kept : Nat → Option Int) : Dv := ⟨d.size, stN kept d.wait d.sure d.wait.length, []⟩
def Dv.put (d : Dv) (w : Wt) : Dv := { d with wait := d.wait ++ [w] }
def MapS (es : Array MapEntry) (s : Int → Sec) : Prop := IntKeys es.toList ∧ ∀ k, (getE es.toList k).getD (.agg (Array.replicate 64 (.int .u8 0))) = (s k).v
theorem MapS.nil : MapS #[] (fun _ => Sec.zero) := ⟨fun e he => by simp at he, fun k => zero_v.symm⟩
theorem MapS.put {es es' : Array MapEntry} {s : Int → Sec} (h : MapS es s) {k : Int} {x : Sec} (h1 : IntKeys es'.toList) (h2 : ∀ y, getE es'.toList y = if y = k then some x.v else getE es.toList y) : MapS es' (fun y => if y = k then x else s y) := by
  refine ⟨h1, fun y => ?_⟩
  rw [h2]
  by_cases e : y = k
  · simp [e]
  · simp only [if_neg e]; exact h.2 y
def St.step (s : St) : St × Bool :=
  if s.gone = true ∨ (s.armed = true ∧ s.left ≤ 0) then ({ s with gone := true }, false) else ({ s with left := IntKind.i64.wrap (s.left - 1), steps := IntKind.i64.wrap (s.steps + 1) }, true)
def St.has (s : St) (dev i : Int) : Bool := decide (0 ≤ dev ∧ dev < s.dv.length) && decide (0 ≤ i ∧ i < (s.dv.getD dev.toNat default).size)
def St.wr (s : St) (dev i : Int) (x : Sec) : St × Option Int :=
  if s.has dev i = true then (match s.step with | (t, true) => ({ t with dv := t.dv.set dev.toNat ((t.dv.getD dev.toNat default).put ⟨i, x⟩) }, none) | (t, false) => (t, some 3)) else (s, some 1)
def St.fl (s : St) (dev : Int) : St × Option Int :=
  if 0 ≤ dev ∧ dev < s.dv.length then (match s.step with | (t, true) => ({ t with dv := t.dv.set dev.toNat ((t.dv.getD dev.toNat default).settle (fun _ => some 0)) }, none) | (t, false) => (t, some 3)) else (s, some 1)
theorem step_dv (s : St) : s.step.1.dv = s.dv := by unfold St.step; split <;> rfl
def lastW : List Wt → Int → Option Sec
  | [], _ => none
  | w :: r, i => match lastW r i with | some x => some x | none => if w.at_ = i then some w.x else none
def Dv.read (d : Dv) (i : Int) : Sec := (lastW d.wait i).getD (d.sure i)
end Go.Proofs.Ytcjdkfhmlnfedaa.HL
end
section
namespace Go.Proofs.Ytcjdkfhmlnfedaa.HL
open Go Go.Proofs
set_option linter.unusedSimpArgs false
set_option linter.unusedVariables false
attribute [local irreducible] Lt Lq CW OW TW CallH
set_option maxRecDepth 100000 in
set_option maxHeartbeats 1000000 in
theorem num_Num_nil (H : Hp) : CallH Try.prog 28 #[.nilIface] H (fun v H' => v = .int .i64 0 ∧ H' = H) := by
 refine zaB (l := [_]) (rl := [.tmp 2]) (n := 45) Try.func28 rfl rfl rfl rfl rfl ?_
 simp only [envOf, Nat.reduceAdd]
 refine zad (fun K1 hK1 => ?_)
 refine zaa ?_
 refine zao rfl ?_
 refine zae ?_
 try simp only [Ex.thnH, Ex.inBlockH, ↓reduceIte, Nat.reduceEqDiff]
 refine hK1 _ _ ?_; try clear hK1 K1
 refine zad (fun K2 hK2 => ?_)
 refine zad (fun K3 hK3 => ?_)
 refine zaa ?_
 refine zam rfl ?_
 refine zae ?_
 try simp only [Ex.thnH, Ex.inBlockH, ↓reduceIte, Nat.reduceEqDiff]
 refine hK3 _ _ ?_; try clear hK3 K3
 refine zaV ?_
 refine CW_loop (fun m e H_ => Env.has [(0, .nilIface), (7, .int .i64 0)] e ∧ H_ = H) (0) ?_ ?_
 ·skip
  exact ⟨⟨rfl, rfl, trivial⟩, rfl⟩
 intro m_ e_ H_ hI_
 obtain ⟨he, rfl⟩ := hI_
 refine CW_env he.sub ?_; clear he e_
 refine zad (fun K4 hK4 => ?_)
 refine zaa ?_
 refine zac (fun K hK r => ?_)
 simp (disch := (first | omega | decide)) only [zaF, zaH, b_lss, zaq, zar, zat, zau, zas, zav, Bool.not_true, Bool.not_false, eX, ↓reduceIte, Nat.reduceEqDiff, Int.reduceToNat]
 refine hK _ _ ?_; clear hK K
 refine zae ?_
 try simp only [Ex.thnH, Ex.inBlockH, ↓reduceIte, Nat.reduceEqDiff]
 refine hK4 _ _ ?_; try clear hK4 K4
 refine zad (fun K5 hK5 => ?_)
 refine zaG (fun r => rfl) (fun c8 => ?_) (fun c8 => ?_)
 ·first
  |(exfalso; exact cnA c8; done)
  |skip
   (try simp only [decide_eq_true_eq, decide_eq_false_iff_not, Bool.not_eq_true, Bool.not_eq_false, Bool.and_eq_true, Bool.or_eq_true, Bool.or_eq_false_iff, Bool.not_eq_eq_eq_not, Bool.not_true, Bool.not_false] at c8)
   refine zaO ?_
   try simp only [Ex.thnH, Ex.inBlockH, ↓reduceIte, Nat.reduceEqDiff]
   refine hK5 _ _ ?_; try clear hK5 K5
   refine zad (fun K6 hK6 => ?_)
   refine zaV ?_
   refine zad (fun K7 hK7 => ?_)
   refine zad (fun K8 hK8 => ?_)
   refine zaa ?_
   refine zam rfl ?_
   refine zac (fun K hK r => ?_)
   simp only [zaF, zaH, g_bool, zbo, zbk, g_slice, g_map, g_func, zbl, g_err, g_iface, zbe, g_nil_r, g_nil_l, eX, ↓reduceIte, Nat.reduceEqDiff, Int.reduceToNat]
   first | rw [b_err_eql _ _ Try.underlying33] | (rw [e_eql _ _ _ _ (by simp), q_equal]; first | rw [q_iface_nil _ _ _ Try.underlying33] | rw [q_nil_iface _ _ _ Try.underlying33] | rw [q_nil_nil _ _ _ Try.underlying33])
   try simp only [eX, ↓reduceIte, Nat.reduceEqDiff, Int.reduceToNat]
   refine hK _ _ ?_; clear hK K
   refine zae ?_
   try simp only [Ex.thnH, Ex.inBlockH, ↓reduceIte, Nat.reduceEqDiff]
   refine hK8 _ _ ?_; try clear hK8 K8
   refine zaG (fun r => rfl) (fun c10 => ?_) (fun c10 => ?_)
   ·first
    |(exfalso; exact cnA c10; done)
    |skip
     (try simp only [decide_eq_true_eq, decide_eq_false_iff_not, Bool.not_eq_true, Bool.not_eq_false, Bool.and_eq_true, Bool.or_eq_true, Bool.or_eq_false_iff, Bool.not_eq_eq_eq_not, Bool.not_true, Bool.not_false] at c10)
     refine zad (fun K9 hK9 => ?_)
     refine zaa ?_
     refine zao rfl ?_
     refine zae ?_
     try simp only [Ex.thnH, Ex.inBlockH, ↓reduceIte, Nat.reduceEqDiff]
     refine hK9 _ _ ?_; try clear hK9 K9
     refine zaR ?_
     try simp only [Ex.thnH, Ex.inBlockH, ↓reduceIte, Nat.reduceEqDiff]
     exact ⟨[_], ⟨rfl, trivial⟩, _, Le.refl _, rfl, rfl⟩
   ·first
    |(exfalso; exact cnA c10; done)
    |skip
     (try simp only [decide_eq_true_eq, decide_eq_false_iff_not, Bool.not_eq_true, Bool.not_eq_false, Bool.and_eq_true, Bool.or_eq_true, Bool.or_eq_false_iff, Bool.not_eq_eq_eq_not, Bool.not_true, Bool.not_false] at c10)
     refine zaO ?_
     try simp only [Ex.thnH, Ex.inBlockH, ↓reduceIte, Nat.reduceEqDiff]
     refine hK7 _ _ ?_; try clear hK7 K7
     refine zad (fun K10 hK10 => ?_)
     refine zad (fun K11 hK11 => ?_)
     refine zaa ?_
     refine zam rfl ?_
     refine zac (fun K hK r => ?_)
     simp only [x_typeAssert, eX, ↓reduceIte, Nat.reduceEqDiff, Int.reduceToNat]
     first | rw [t_same _ _ _ Try.underlying73 (by simp)] | rw [t_other _ _ _ _ Try.underlying73 (by simp) (by decide) _ _ zr73] | rw [t_nil _ _ _ Try.underlying73 (by simp) _ zr73]
     try simp only [if_true, Bool.false_eq_true, if_false]
     try simp only [eX, ↓reduceIte, Nat.reduceEqDiff, Int.reduceToNat]
     refine hK _ _ ?_; clear hK K
     refine zam rfl ?_
     refine zac (fun K hK r => ?_)
     simp only [zaW, zaX, List.getElem?_toArray, List.getElem?_cons_zero, List.getElem?_cons_succ, zal, eX, ↓reduceIte, Nat.reduceEqDiff, Int.reduceToNat]
     refine hK _ _ ?_; clear hK K
     refine zac (fun K hK r => ?_)
     simp only [zaW, zaX, List.getElem?_toArray, List.getElem?_cons_zero, List.getElem?_cons_succ, zal, eX, ↓reduceIte, Nat.reduceEqDiff, Int.reduceToNat]
     refine hK _ _ ?_; clear hK K
     refine zao rfl ?_
     refine zao rfl ?_
     refine zae ?_
     try simp only [Ex.thnH, Ex.inBlockH, ↓reduceIte, Nat.reduceEqDiff]
     refine hK11 _ _ ?_; try clear hK11 K11
     refine zad (fun K12 hK12 => ?_)
     refine zaa ?_
     refine zam rfl ?_
     refine zam rfl ?_
     (first | refine zbc (d := 17) rfl (fun g17 => ?_) (fun g17 => ?_) | skip)
     all_goals try (exfalso; exact cnA g17)
     all_goals (try simp only [decide_eq_true_eq, decide_eq_false_iff_not, Bool.not_eq_true, Bool.not_eq_false, Bool.and_eq_true, Bool.or_eq_true, Bool.or_eq_false_iff, Bool.not_eq_eq_eq_not, Bool.not_true, Bool.not_false] at g17)
     all_goals
      try simp only [eX, ↓reduceIte, Nat.reduceEqDiff, Int.reduceToNat]
      first
      |refine zaf rfl (zab (by decide)) rfl (fun K hK r => ?_)
       simp only [zaU, eX, ↓reduceIte, Nat.reduceEqDiff, Int.reduceToNat]
       refine hK _ _ ?_; clear hK K
      |refine zag rfl (zab (by decide)) rfl ?_
       simp only [eX, ↓reduceIte, Nat.reduceEqDiff, Int.reduceToNat]
      first
      |refine zaf rfl (zab (by decide)) rfl (fun K hK r => ?_)
       simp (disch := (first | omega | decide)) only [zaF, zaH, b_neq, zaq, zar, zat, zau, zas, zav, Bool.not_true, Bool.not_false, eX, ↓reduceIte, Nat.reduceEqDiff, Int.reduceToNat]
       refine hK _ _ ?_; clear hK K
      |refine zag rfl (zab (by decide)) rfl ?_
       simp only [eX, ↓reduceIte, Nat.reduceEqDiff, Int.reduceToNat]
      refine zac (fun K hK r => ?_)
      simp only [zbp, zaZ, HL.ite_bool, if_true, if_false, Bool.false_eq_true, eX, ↓reduceIte, Nat.reduceEqDiff, Int.reduceToNat]
      refine hK _ _ ?_; clear hK K
      refine zae ?_
      try simp only [Ex.thnH, Ex.inBlockH, ↓reduceIte, Nat.reduceEqDiff]
      refine hK12 _ _ ?_; try clear hK12 K12
      refine zaG (fun r => rfl) (fun c20 => ?_) (fun c20 => ?_)
      ·first
       |(exfalso; exact cnA c20; done)
       |skip
        (try simp only [decide_eq_true_eq, decide_eq_false_iff_not, Bool.not_eq_true, Bool.not_eq_false, Bool.and_eq_true, Bool.or_eq_true, Bool.or_eq_false_iff, Bool.not_eq_eq_eq_not, Bool.not_true, Bool.not_false] at c20)
        refine zad (fun K13 hK13 => ?_)
        refine zaa ?_
        refine zam rfl ?_
        refine zao rfl ?_
        refine zae ?_
        try simp only [Ex.thnH, Ex.inBlockH, ↓reduceIte, Nat.reduceEqDiff]
        refine hK13 _ _ ?_; try clear hK13 K13
        refine zaR ?_
        try simp only [Ex.thnH, Ex.inBlockH, ↓reduceIte, Nat.reduceEqDiff]
        exact ⟨[_], ⟨rfl, trivial⟩, _, Le.refl _, rfl, rfl⟩
      ·first
       |(exfalso; exact cnA c20; done)
       |skip
        (try simp only [decide_eq_true_eq, decide_eq_false_iff_not, Bool.not_eq_true, Bool.not_eq_false, Bool.and_eq_true, Bool.or_eq_true, Bool.or_eq_false_iff, Bool.not_eq_eq_eq_not, Bool.not_true, Bool.not_false] at c20)
        refine zaO ?_
        try simp only [Ex.thnH, Ex.inBlockH, ↓reduceIte, Nat.reduceEqDiff]
        refine hK10 _ _ ?_; try clear hK10 K10
        refine zad (fun K14 hK14 => ?_)
        refine zaa ?_
        refine zam rfl ?_
        refine zac (fun K hK r => ?_)
        simp only [x_typeAssert, eX, ↓reduceIte, Nat.reduceEqDiff, Int.reduceToNat]
        first | rw [t_same _ _ _ Try.underlying130 (by simp)] | rw [t_other _ _ _ _ Try.underlying130 (by simp) (by decide) _ _ zr130] | rw [t_nil _ _ _ Try.underlying130 (by simp) _ zr130]
        try simp only [if_true, Bool.false_eq_true, if_false]
        try simp only [eX, ↓reduceIte, Nat.reduceEqDiff, Int.reduceToNat]
        refine hK _ _ ?_; clear hK K
        refine zam rfl ?_
        refine zac (fun K hK r => ?_)
        simp only [zaW, zaX, List.getElem?_toArray, List.getElem?_cons_zero, List.getElem?_cons_succ, zal, eX, ↓reduceIte, Nat.reduceEqDiff, Int.reduceToNat]
        refine hK _ _ ?_; clear hK K
        refine zac (fun K hK r => ?_)
        simp only [zaW, zaX, List.getElem?_toArray, List.getElem?_cons_zero, List.getElem?_cons_succ, zal, eX, ↓reduceIte, Nat.reduceEqDiff, Int.reduceToNat]
        refine hK _ _ ?_; clear hK K
        refine zao rfl ?_
        refine zao rfl ?_
        refine zae ?_
        try simp only [Ex.thnH, Ex.inBlockH, ↓reduceIte, Nat.reduceEqDiff]
        refine hK14 _ _ ?_; try clear hK14 K14
        refine zad (fun K15 hK15 => ?_)
        refine zad (fun K16 hK16 => ?_)
        refine zaa ?_
        refine zam rfl ?_
        refine zac (fun K hK r => ?_)
        simp only [x_un, u_not, eX, ↓reduceIte, Nat.reduceEqDiff, Int.reduceToNat]
        refine hK _ _ ?_; clear hK K
        refine zam rfl ?_
        (first | refine zbc (d := 29) rfl (fun g29 => ?_) (fun g29 => ?_) | skip)
        all_goals try (exfalso; exact cnA g29)
        all_goals (try simp only [decide_eq_true_eq, decide_eq_false_iff_not, Bool.not_eq_true, Bool.not_eq_false, Bool.and_eq_true, Bool.or_eq_true, Bool.or_eq_false_iff, Bool.not_eq_eq_eq_not, Bool.not_true, Bool.not_false] at g29)
        all_goals
         try simp only [eX, ↓reduceIte, Nat.reduceEqDiff, Int.reduceToNat]
         first
         |refine zaf rfl (zab (by decide)) rfl (fun K hK r => ?_)
          simp only [zaU, eX, ↓reduceIte, Nat.reduceEqDiff, Int.reduceToNat]
          refine hK _ _ ?_; clear hK K
         |refine zag rfl (zab (by decide)) rfl ?_
          simp only [eX, ↓reduceIte, Nat.reduceEqDiff, Int.reduceToNat]
         first
         |refine zaf rfl (zab (by decide)) rfl (fun K hK r => ?_)
          simp only [zaF, zaH, g_bool, zbo, zbk, g_slice, g_map, g_func, zbl, g_iface, zbe, g_nil_r, g_nil_l, eX, ↓reduceIte, Nat.reduceEqDiff, Int.reduceToNat]
          rw [e_eql _ _ _ _ (by simp)]
          rw [q_equal]
          first | rw [q_ptr_nil _ _ _ Try.underlying130] | rw [q_nil_ptr _ _ _ Try.underlying130]
          try simp only [eX, ↓reduceIte, Nat.reduceEqDiff, Int.reduceToNat]
          refine hK _ _ ?_; clear hK K
         |refine zag rfl (zab (by decide)) rfl ?_
          simp only [eX, ↓reduceIte, Nat.reduceEqDiff, Int.reduceToNat]
         refine zac (fun K hK r => ?_)
         simp only [zbp, zaZ, HL.ite_bool, if_true, if_false, Bool.false_eq_true, eX, ↓reduceIte, Nat.reduceEqDiff, Int.reduceToNat]
         refine hK _ _ ?_; clear hK K
         refine zam rfl ?_
         (first | refine zbc (d := 33) rfl (fun g33 => ?_) (fun g33 => ?_) | skip)
         all_goals try (exfalso; exact cnA g33)
         all_goals (try simp only [decide_eq_true_eq, decide_eq_false_iff_not, Bool.not_eq_true, Bool.not_eq_false, Bool.and_eq_true, Bool.or_eq_true, Bool.or_eq_false_iff, Bool.not_eq_eq_eq_not, Bool.not_true, Bool.not_false] at g33)
         all_goals
          try simp only [eX, ↓reduceIte, Nat.reduceEqDiff, Int.reduceToNat]
          first
          |refine zaf rfl (zab (by decide)) rfl (fun K hK r => ?_)
           simp only [zaU, eX, ↓reduceIte, Nat.reduceEqDiff, Int.reduceToNat]
           refine hK _ _ ?_; clear hK K
          |refine zag rfl (zab (by decide)) rfl ?_
           simp only [eX, ↓reduceIte, Nat.reduceEqDiff, Int.reduceToNat]
          first
          |refine zaf rfl (zab (by decide)) rfl (fun K hK r => ?_)
           rw [zbh _ _ rfl]
           simp only [eX, ↓reduceIte, Nat.reduceEqDiff, Int.reduceToNat]
           refine hK _ _ ?_; clear hK K
          |refine zag rfl (zab (by decide)) rfl ?_
           simp only [eX, ↓reduceIte, Nat.reduceEqDiff, Int.reduceToNat]
          first
          |refine zaf rfl (zab (by decide)) rfl (fun K hK r => ?_)
           simp only [zah, fa133_1, zap, Nat.reduceAdd, Nat.zero_add, eX, ↓reduceIte, Nat.reduceEqDiff, Int.reduceToNat]
           refine hK _ _ ?_; clear hK K
          |refine zag rfl (zab (by decide)) rfl ?_
           simp only [eX, ↓reduceIte, Nat.reduceEqDiff, Int.reduceToNat]
          first
          |refine zaf rfl (zab (by decide)) rfl (fun K hK r => ?_)
           simp only [zan, eX, ↓reduceIte, Nat.reduceEqDiff, Int.reduceToNat]
           refine zak Try.underlying33 rfl hbA ldA ?_
           try simp only [eX, ↓reduceIte, Nat.reduceEqDiff, Int.reduceToNat]
           refine hK _ _ ?_; clear hK K
          |refine zag rfl (zab (by decide)) rfl ?_
           simp only [eX, ↓reduceIte, Nat.reduceEqDiff, Int.reduceToNat]
          first
          |refine zaf rfl (zab (by decide)) rfl (fun K hK r => ?_)
           simp only [zaF, zaH, g_bool, zbo, zbk, g_slice, g_map, g_func, zbl, g_err, g_iface, zbe, g_nil_r, g_nil_l, eX, ↓reduceIte, Nat.reduceEqDiff, Int.reduceToNat]
           first | rw [b_err_eql _ _ Try.underlying33] | (rw [e_eql _ _ _ _ (by simp), q_equal]; first | rw [q_iface_nil _ _ _ Try.underlying33] | rw [q_nil_iface _ _ _ Try.underlying33] | rw [q_nil_nil _ _ _ Try.underlying33])
           try simp only [eX, ↓reduceIte, Nat.reduceEqDiff, Int.reduceToNat]
           refine hK _ _ ?_; clear hK K
          |refine zag rfl (zab (by decide)) rfl ?_
           simp only [eX, ↓reduceIte, Nat.reduceEqDiff, Int.reduceToNat]
          refine zac (fun K hK r => ?_)
          simp only [zbp, zaZ, HL.ite_bool, if_true, if_false, Bool.false_eq_true, eX, ↓reduceIte, Nat.reduceEqDiff, Int.reduceToNat]
          refine hK _ _ ?_; clear hK K
          refine zae ?_
          try simp only [Ex.thnH, Ex.inBlockH, ↓reduceIte, Nat.reduceEqDiff]
          refine hK16 _ _ ?_; try clear hK16 K16
          refine zaG (fun r => rfl) (fun c39 => ?_) (fun c39 => ?_)
          ·first
           |(exfalso; exact cnA c39; done)
           |skip
            (try simp only [decide_eq_true_eq, decide_eq_false_iff_not, Bool.not_eq_true, Bool.not_eq_false, Bool.and_eq_true, Bool.or_eq_true, Bool.or_eq_false_iff, Bool.not_eq_eq_eq_not, Bool.not_true, Bool.not_false] at c39)
            refine zad (fun K17 hK17 => ?_)
            refine zaa ?_
            refine zao rfl ?_
            refine zae ?_
            try simp only [Ex.thnH, Ex.inBlockH, ↓reduceIte, Nat.reduceEqDiff]
            refine hK17 _ _ ?_; try clear hK17 K17
            refine zaR ?_
            try simp only [Ex.thnH, Ex.inBlockH, ↓reduceIte, Nat.reduceEqDiff]
            exact ⟨[_], ⟨rfl, trivial⟩, _, Le.refl _, rfl, rfl⟩
          ·first
           |(exfalso; exact cnA c39; done)
           |skip
            (try simp only [decide_eq_true_eq, decide_eq_false_iff_not, Bool.not_eq_true, Bool.not_eq_false, Bool.and_eq_true, Bool.or_eq_true, Bool.or_eq_false_iff, Bool.not_eq_eq_eq_not, Bool.not_true, Bool.not_false] at c39)
            refine zaO ?_
            try simp only [Ex.thnH, Ex.inBlockH, ↓reduceIte, Nat.reduceEqDiff]
            refine hK15 _ _ ?_; try clear hK15 K15
            refine zaa ?_
            refine zam rfl ?_
            refine zac (fun K hK r => ?_)
            rw [zbh _ _ rfl]
            simp only [eX, ↓reduceIte, Nat.reduceEqDiff, Int.reduceToNat]
            refine hK _ _ ?_; clear hK K
            refine zac (fun K hK r => ?_)
            simp only [zah, fa133_1, zap, Nat.reduceAdd, Nat.zero_add, eX, ↓reduceIte, Nat.reduceEqDiff, Int.reduceToNat]
            refine hK _ _ ?_; clear hK K
            refine zac (fun K hK r => ?_)
            simp only [zan, eX, ↓reduceIte, Nat.reduceEqDiff, Int.reduceToNat]
            refine zak Try.underlying33 rfl hbA ldA ?_
            try simp only [eX, ↓reduceIte, Nat.reduceEqDiff, Int.reduceToNat]
            refine hK _ _ ?_; clear hK K
            refine zao rfl ?_
            refine zae ?_
            try simp only [Ex.thnH, Ex.inBlockH, ↓reduceIte, Nat.reduceEqDiff]
            refine hK6 _ _ ?_; try clear hK6 K6
            refine zaa ?_
            refine zac (fun K hK r => ?_)
            simp (disch := (first | omega | decide)) only [zaF, zaH, b_add, zaw, zaE, zaD, zaQ, eX, ↓reduceIte, Nat.reduceEqDiff, Int.reduceToNat]
            refine hK _ _ ?_; clear hK K
            refine zam rfl ?_
            refine zae ?_
            try simp only [Ex.thnH, Ex.inBlockH, ↓reduceIte, Nat.reduceEqDiff]
            exact absurd rfl (by assumption)
 ·first
  |(exfalso; exact cnA c8; done)
  |skip
   (try simp only [decide_eq_true_eq, decide_eq_false_iff_not, Bool.not_eq_true, Bool.not_eq_false, Bool.and_eq_true, Bool.or_eq_true, Bool.or_eq_false_iff, Bool.not_eq_eq_eq_not, Bool.not_true, Bool.not_false] at c8)
   refine CW_exit ?_
   try simp only [Ex.thnH, Ex.inBlockH, ↓reduceIte, Nat.reduceEqDiff]
   refine hK2 _ _ ?_; try clear hK2 K2
   refine zad (fun K18 hK18 => ?_)
   refine zaa ?_
   refine zao rfl ?_
   refine zae ?_
   try simp only [Ex.thnH, Ex.inBlockH, ↓reduceIte, Nat.reduceEqDiff]
   refine hK18 _ _ ?_; try clear hK18 K18
   refine zaR ?_
   try simp only [Ex.thnH, Ex.inBlockH, ↓reduceIte, Nat.reduceEqDiff]
   exact ⟨[_], ⟨rfl, trivial⟩, _, Le.refl _, rfl, rfl⟩
set_option maxRecDepth 100000 in
set_option maxHeartbeats 1000000 in
theorem num_Num_errno (H : Hp) (k : Int) (hk : k ≠ 0) (h1 : -9223372036854775808 ≤ k) (h2 : k ≤ 9223372036854775807) : CallH Try.prog 28 #[.iface 73 (.int .i64 k)] H (fun v H' => v = .int .i64 k ∧ H' = H) := by
 refine zaB (l := [_]) (rl := [.tmp 2]) (n := 45) Try.func28 rfl rfl rfl rfl rfl ?_
 simp only [envOf, Nat.reduceAdd]
 refine zad (fun K1 hK1 => ?_)
 refine zaa ?_
 refine zao rfl ?_
 refine zae ?_
 try simp only [Ex.thnH, Ex.inBlockH, ↓reduceIte, Nat.reduceEqDiff]
 refine hK1 _ _ ?_; try clear hK1 K1
 refine zad (fun K2 hK2 => ?_)
 refine zad (fun K3 hK3 => ?_)
 refine zaa ?_
 refine zam rfl ?_
 refine zae ?_
 try simp only [Ex.thnH, Ex.inBlockH, ↓reduceIte, Nat.reduceEqDiff]
 refine hK3 _ _ ?_; try clear hK3 K3
 refine zaV ?_
 refine CW_loop (fun m e H_ => Env.has [(0, .iface 73 (.int .i64 k)), (7, .int .i64 0)] e ∧ H_ = H) (0) ?_ ?_
 ·skip
  exact ⟨⟨rfl, rfl, trivial⟩, rfl⟩
 intro m_ e_ H_ hI_
 obtain ⟨he, rfl⟩ := hI_
 refine CW_env he.sub ?_; clear he e_
 refine zad (fun K4 hK4 => ?_)
 refine zaa ?_
 refine zac (fun K hK r => ?_)
 simp (disch := (first | omega | decide)) only [zaF, zaH, b_lss, zaq, zar, zat, zau, zas, zav, Bool.not_true, Bool.not_false, eX, ↓reduceIte, Nat.reduceEqDiff, Int.reduceToNat]
 refine hK _ _ ?_; clear hK K
 refine zae ?_
 try simp only [Ex.thnH, Ex.inBlockH, ↓reduceIte, Nat.reduceEqDiff]
 refine hK4 _ _ ?_; try clear hK4 K4
 refine zad (fun K5 hK5 => ?_)
 refine zaG (fun r => rfl) (fun c8 => ?_) (fun c8 => ?_)
 ·first
  |(exfalso; exact cnA c8; done)
  |skip
   (try simp only [decide_eq_true_eq, decide_eq_false_iff_not, Bool.not_eq_true, Bool.not_eq_false, Bool.and_eq_true, Bool.or_eq_true, Bool.or_eq_false_iff, Bool.not_eq_eq_eq_not, Bool.not_true, Bool.not_false] at c8)
   refine zaO ?_
   try simp only [Ex.thnH, Ex.inBlockH, ↓reduceIte, Nat.reduceEqDiff]
   refine hK5 _ _ ?_; try clear hK5 K5
   refine zad (fun K6 hK6 => ?_)
   refine zaV ?_
   refine zad (fun K7 hK7 => ?_)
   refine zad (fun K8 hK8 => ?_)
   refine zaa ?_
   refine zam rfl ?_
   refine zac (fun K hK r => ?_)
   simp only [zaF, zaH, g_bool, zbo, zbk, g_slice, g_map, g_func, zbl, g_err, g_iface, zbe, g_nil_r, g_nil_l, eX, ↓reduceIte, Nat.reduceEqDiff, Int.reduceToNat]
   first | rw [b_err_eql _ _ Try.underlying33] | (rw [e_eql _ _ _ _ (by simp), q_equal]; first | rw [q_iface_nil _ _ _ Try.underlying33] | rw [q_nil_iface _ _ _ Try.underlying33] | rw [q_nil_nil _ _ _ Try.underlying33])
   try simp only [eX, ↓reduceIte, Nat.reduceEqDiff, Int.reduceToNat]
   refine hK _ _ ?_; clear hK K
   refine zae ?_
   try simp only [Ex.thnH, Ex.inBlockH, ↓reduceIte, Nat.reduceEqDiff]
   refine hK8 _ _ ?_; try clear hK8 K8
   refine zaG (fun r => rfl) (fun c10 => ?_) (fun c10 => ?_)
   ·first
    |(exfalso; exact cnA c10; done)
    |skip
     (try simp only [decide_eq_true_eq, decide_eq_false_iff_not, Bool.not_eq_true, Bool.not_eq_false, Bool.and_eq_true, Bool.or_eq_true, Bool.or_eq_false_iff, Bool.not_eq_eq_eq_not, Bool.not_true, Bool.not_false] at c10)
     refine zad (fun K9 hK9 => ?_)
     refine zaa ?_
     refine zao rfl ?_
     refine zae ?_
     try simp only [Ex.thnH, Ex.inBlockH, ↓reduceIte, Nat.reduceEqDiff]
     refine hK9 _ _ ?_; try clear hK9 K9
     refine zaR ?_
     try simp only [Ex.thnH, Ex.inBlockH, ↓reduceIte, Nat.reduceEqDiff]
     exact ⟨[_], ⟨rfl, trivial⟩, _, Le.refl _, rfl, rfl⟩
   ·first
    |(exfalso; exact cnA c10; done)
    |skip
     (try simp only [decide_eq_true_eq, decide_eq_false_iff_not, Bool.not_eq_true, Bool.not_eq_false, Bool.and_eq_true, Bool.or_eq_true, Bool.or_eq_false_iff, Bool.not_eq_eq_eq_not, Bool.not_true, Bool.not_false] at c10)
     refine zaO ?_
     try simp only [Ex.thnH, Ex.inBlockH, ↓reduceIte, Nat.reduceEqDiff]
     refine hK7 _ _ ?_; try clear hK7 K7
     refine zad (fun K10 hK10 => ?_)
     refine zad (fun K11 hK11 => ?_)
     refine zaa ?_
     refine zam rfl ?_
     refine zac (fun K hK r => ?_)
     simp only [x_typeAssert, eX, ↓reduceIte, Nat.reduceEqDiff, Int.reduceToNat]
     first | rw [t_same _ _ _ Try.underlying73 (by simp)] | rw [t_other _ _ _ _ Try.underlying73 (by simp) (by decide) _ _ zr73] | rw [t_nil _ _ _ Try.underlying73 (by simp) _ zr73]
     try simp only [if_true, Bool.false_eq_true, if_false]
     try simp only [eX, ↓reduceIte, Nat.reduceEqDiff, Int.reduceToNat]
     refine hK _ _ ?_; clear hK K
     refine zam rfl ?_
     refine zac (fun K hK r => ?_)
     simp only [zaW, zaX, List.getElem?_toArray, List.getElem?_cons_zero, List.getElem?_cons_succ, zal, eX, ↓reduceIte, Nat.reduceEqDiff, Int.reduceToNat]
     refine hK _ _ ?_; clear hK K
     refine zac (fun K hK r => ?_)
     simp only [zaW, zaX, List.getElem?_toArray, List.getElem?_cons_zero, List.getElem?_cons_succ, zal, eX, ↓reduceIte, Nat.reduceEqDiff, Int.reduceToNat]
     refine hK _ _ ?_; clear hK K
     refine zao rfl ?_
     refine zao rfl ?_
     refine zae ?_
     try simp only [Ex.thnH, Ex.inBlockH, ↓reduceIte, Nat.reduceEqDiff]
     refine hK11 _ _ ?_; try clear hK11 K11
     refine zad (fun K12 hK12 => ?_)
     refine zaa ?_
     refine zam rfl ?_
     refine zam rfl ?_
     (first | refine zbc (d := 17) rfl (fun g17 => ?_) (fun g17 => ?_) | skip)
     all_goals try (exfalso; exact cnA g17)
     all_goals (try simp only [decide_eq_true_eq, decide_eq_false_iff_not, Bool.not_eq_true, Bool.not_eq_false, Bool.and_eq_true, Bool.or_eq_true, Bool.or_eq_false_iff, Bool.not_eq_eq_eq_not, Bool.not_true, Bool.not_false] at g17)
     all_goals
      try simp only [eX, ↓reduceIte, Nat.reduceEqDiff, Int.reduceToNat]
      first
      |refine zaf rfl (zab (by decide)) rfl (fun K hK r => ?_)
       simp only [zaU, eX, ↓reduceIte, Nat.reduceEqDiff, Int.reduceToNat]
       refine hK _ _ ?_; clear hK K
      |refine zag rfl (zab (by decide)) rfl ?_
       simp only [eX, ↓reduceIte, Nat.reduceEqDiff, Int.reduceToNat]
      first
      |refine zaf rfl (zab (by decide)) rfl (fun K hK r => ?_)
       simp (disch := (first | omega | decide)) only [zaF, zaH, b_neq, zaq, zar, zat, zau, zas, zav, Bool.not_true, Bool.not_false, eX, ↓reduceIte, Nat.reduceEqDiff, Int.reduceToNat]
       refine hK _ _ ?_; clear hK K
      |refine zag rfl (zab (by decide)) rfl ?_
       simp only [eX, ↓reduceIte, Nat.reduceEqDiff, Int.reduceToNat]
      refine zac (fun K hK r => ?_)
      simp only [zbp, zaZ, HL.ite_bool, if_true, if_false, Bool.false_eq_true, eX, ↓reduceIte, Nat.reduceEqDiff, Int.reduceToNat]
      refine hK _ _ ?_; clear hK K
      refine zae ?_
      try simp only [Ex.thnH, Ex.inBlockH, ↓reduceIte, Nat.reduceEqDiff]
      refine hK12 _ _ ?_; try clear hK12 K12
      refine zaG (fun r => rfl) (fun c20 => ?_) (fun c20 => ?_)
      ·first
       |(exfalso; exact cnA c20; done)
       |skip
        (try simp only [decide_eq_true_eq, decide_eq_false_iff_not, Bool.not_eq_true, Bool.not_eq_false, Bool.and_eq_true, Bool.or_eq_true, Bool.or_eq_false_iff, Bool.not_eq_eq_eq_not, Bool.not_true, Bool.not_false] at c20)
        refine zad (fun K13 hK13 => ?_)
        refine zaa ?_
        refine zam rfl ?_
        refine zao rfl ?_
        refine zae ?_
        try simp only [Ex.thnH, Ex.inBlockH, ↓reduceIte, Nat.reduceEqDiff]
        refine hK13 _ _ ?_; try clear hK13 K13
        refine zaR ?_
        try simp only [Ex.thnH, Ex.inBlockH, ↓reduceIte, Nat.reduceEqDiff]
        exact ⟨[_], ⟨rfl, trivial⟩, _, Le.refl _, rfl, rfl⟩
      ·first
       |(exfalso; exact cnA c20; done)
       |skip
        (try simp only [decide_eq_true_eq, decide_eq_false_iff_not, Bool.not_eq_true, Bool.not_eq_false, Bool.and_eq_true, Bool.or_eq_true, Bool.or_eq_false_iff, Bool.not_eq_eq_eq_not, Bool.not_true, Bool.not_false] at c20)
        refine zaO ?_
        try simp only [Ex.thnH, Ex.inBlockH, ↓reduceIte, Nat.reduceEqDiff]
        refine hK10 _ _ ?_; try clear hK10 K10
        refine zad (fun K14 hK14 => ?_)
        refine zaa ?_
        refine zam rfl ?_
        refine zac (fun K hK r => ?_)
        simp only [x_typeAssert, eX, ↓reduceIte, Nat.reduceEqDiff, Int.reduceToNat]
        first | rw [t_same _ _ _ Try.underlying130 (by simp)] | rw [t_other _ _ _ _ Try.underlying130 (by simp) (by decide) _ _ zr130] | rw [t_nil _ _ _ Try.underlying130 (by simp) _ zr130]
        try simp only [if_true, Bool.false_eq_true, if_false]
        try simp only [eX, ↓reduceIte, Nat.reduceEqDiff, Int.reduceToNat]
        refine hK _ _ ?_; clear hK K
        refine zam rfl ?_
        refine zac (fun K hK r => ?_)
        simp only [zaW, zaX, List.getElem?_toArray, List.getElem?_cons_zero, List.getElem?_cons_succ, zal, eX, ↓reduceIte, Nat.reduceEqDiff, Int.reduceToNat]
        refine hK _ _ ?_; clear hK K
        refine zac (fun K hK r => ?_)
        simp only [zaW, zaX, List.getElem?_toArray, List.getElem?_cons_zero, List.getElem?_cons_succ, zal, eX, ↓reduceIte, Nat.reduceEqDiff, Int.reduceToNat]
        refine hK _ _ ?_; clear hK K
        refine zao rfl ?_
        refine zao rfl ?_
        refine zae ?_
        try simp only [Ex.thnH, Ex.inBlockH, ↓reduceIte, Nat.reduceEqDiff]
        refine hK14 _ _ ?_; try clear hK14 K14
        refine zad (fun K15 hK15 => ?_)
        refine zad (fun K16 hK16 => ?_)
        refine zaa ?_
        refine zam rfl ?_
        refine zac (fun K hK r => ?_)
        simp only [x_un, u_not, eX, ↓reduceIte, Nat.reduceEqDiff, Int.reduceToNat]
        refine hK _ _ ?_; clear hK K
        refine zam rfl ?_
        (first | refine zbc (d := 29) rfl (fun g29 => ?_) (fun g29 => ?_) | skip)
        all_goals try (exfalso; exact cnA g29)
        all_goals (try simp only [decide_eq_true_eq, decide_eq_false_iff_not, Bool.not_eq_true, Bool.not_eq_false, Bool.and_eq_true, Bool.or_eq_true, Bool.or_eq_false_iff, Bool.not_eq_eq_eq_not, Bool.not_true, Bool.not_false] at g29)
        all_goals
         try simp only [eX, ↓reduceIte, Nat.reduceEqDiff, Int.reduceToNat]
         first
         |refine zaf rfl (zab (by decide)) rfl (fun K hK r => ?_)
          simp only [zaU, eX, ↓reduceIte, Nat.reduceEqDiff, Int.reduceToNat]
          refine hK _ _ ?_; clear hK K
         |refine zag rfl (zab (by decide)) rfl ?_
          simp only [eX, ↓reduceIte, Nat.reduceEqDiff, Int.reduceToNat]
         first
         |refine zaf rfl (zab (by decide)) rfl (fun K hK r => ?_)
          simp only [zaF, zaH, g_bool, zbo, zbk, g_slice, g_map, g_func, zbl, g_iface, zbe, g_nil_r, g_nil_l, eX, ↓reduceIte, Nat.reduceEqDiff, Int.reduceToNat]
          rw [e_eql _ _ _ _ (by simp)]
          rw [q_equal]
          first | rw [q_ptr_nil _ _ _ Try.underlying130] | rw [q_nil_ptr _ _ _ Try.underlying130]
          try simp only [eX, ↓reduceIte, Nat.reduceEqDiff, Int.reduceToNat]
          refine hK _ _ ?_; clear hK K
         |refine zag rfl (zab (by decide)) rfl ?_
          simp only [eX, ↓reduceIte, Nat.reduceEqDiff, Int.reduceToNat]
         refine zac (fun K hK r => ?_)
         simp only [zbp, zaZ, HL.ite_bool, if_true, if_false, Bool.false_eq_true, eX, ↓reduceIte, Nat.reduceEqDiff, Int.reduceToNat]
         refine hK _ _ ?_; clear hK K
         refine zam rfl ?_
         (first | refine zbc (d := 33) rfl (fun g33 => ?_) (fun g33 => ?_) | skip)
         all_goals try (exfalso; exact cnA g33)
         all_goals (try simp only [decide_eq_true_eq, decide_eq_false_iff_not, Bool.not_eq_true, Bool.not_eq_false, Bool.and_eq_true, Bool.or_eq_true, Bool.or_eq_false_iff, Bool.not_eq_eq_eq_not, Bool.not_true, Bool.not_false] at g33)
         all_goals
          try simp only [eX, ↓reduceIte, Nat.reduceEqDiff, Int.reduceToNat]
          first
          |refine zaf rfl (zab (by decide)) rfl (fun K hK r => ?_)
           simp only [zaU, eX, ↓reduceIte, Nat.reduceEqDiff, Int.reduceToNat]
           refine hK _ _ ?_; clear hK K
          |refine zag rfl (zab (by decide)) rfl ?_
           simp only [eX, ↓reduceIte, Nat.reduceEqDiff, Int.reduceToNat]
          first
          |refine zaf rfl (zab (by decide)) rfl (fun K hK r => ?_)
           rw [zbh _ _ rfl]
           simp only [eX, ↓reduceIte, Nat.reduceEqDiff, Int.reduceToNat]
           refine hK _ _ ?_; clear hK K
          |refine zag rfl (zab (by decide)) rfl ?_
           simp only [eX, ↓reduceIte, Nat.reduceEqDiff, Int.reduceToNat]
          first
          |refine zaf rfl (zab (by decide)) rfl (fun K hK r => ?_)
           simp only [zah, fa133_1, zap, Nat.reduceAdd, Nat.zero_add, eX, ↓reduceIte, Nat.reduceEqDiff, Int.reduceToNat]
           refine hK _ _ ?_; clear hK K
          |refine zag rfl (zab (by decide)) rfl ?_
           simp only [eX, ↓reduceIte, Nat.reduceEqDiff, Int.reduceToNat]
          first
          |refine zaf rfl (zab (by decide)) rfl (fun K hK r => ?_)
           simp only [zan, eX, ↓reduceIte, Nat.reduceEqDiff, Int.reduceToNat]
           refine zak Try.underlying33 rfl hbA ldA ?_
           try simp only [eX, ↓reduceIte, Nat.reduceEqDiff, Int.reduceToNat]
           refine hK _ _ ?_; clear hK K
          |refine zag rfl (zab (by decide)) rfl ?_
           simp only [eX, ↓reduceIte, Nat.reduceEqDiff, Int.reduceToNat]
          first
          |refine zaf rfl (zab (by decide)) rfl (fun K hK r => ?_)
           simp only [zaF, zaH, g_bool, zbo, zbk, g_slice, g_map, g_func, zbl, g_err, g_iface, zbe, g_nil_r, g_nil_l, eX, ↓reduceIte, Nat.reduceEqDiff, Int.reduceToNat]
           first | rw [b_err_eql _ _ Try.underlying33] | (rw [e_eql _ _ _ _ (by simp), q_equal]; first | rw [q_iface_nil _ _ _ Try.underlying33] | rw [q_nil_iface _ _ _ Try.underlying33] | rw [q_nil_nil _ _ _ Try.underlying33])
           try simp only [eX, ↓reduceIte, Nat.reduceEqDiff, Int.reduceToNat]
           refine hK _ _ ?_; clear hK K
          |refine zag rfl (zab (by decide)) rfl ?_
           simp only [eX, ↓reduceIte, Nat.reduceEqDiff, Int.reduceToNat]
          refine zac (fun K hK r => ?_)
          simp only [zbp, zaZ, HL.ite_bool, if_true, if_false, Bool.false_eq_true, eX, ↓reduceIte, Nat.reduceEqDiff, Int.reduceToNat]
          refine hK _ _ ?_; clear hK K
          refine zae ?_
          try simp only [Ex.thnH, Ex.inBlockH, ↓reduceIte, Nat.reduceEqDiff]
          refine hK16 _ _ ?_; try clear hK16 K16
          refine zaG (fun r => rfl) (fun c39 => ?_) (fun c39 => ?_)
          ·first
           |(exfalso; exact cnA c39; done)
           |skip
            (try simp only [decide_eq_true_eq, decide_eq_false_iff_not, Bool.not_eq_true, Bool.not_eq_false, Bool.and_eq_true, Bool.or_eq_true, Bool.or_eq_false_iff, Bool.not_eq_eq_eq_not, Bool.not_true, Bool.not_false] at c39)
            refine zad (fun K17 hK17 => ?_)
            refine zaa ?_
            refine zao rfl ?_
            refine zae ?_
            try simp only [Ex.thnH, Ex.inBlockH, ↓reduceIte, Nat.reduceEqDiff]
            refine hK17 _ _ ?_; try clear hK17 K17
            refine zaR ?_
            try simp only [Ex.thnH, Ex.inBlockH, ↓reduceIte, Nat.reduceEqDiff]
            exact ⟨[_], ⟨rfl, trivial⟩, _, Le.refl _, rfl, rfl⟩
          ·first
           |(exfalso; exact cnA c39; done)
           |skip
            (try simp only [decide_eq_true_eq, decide_eq_false_iff_not, Bool.not_eq_true, Bool.not_eq_false, Bool.and_eq_true, Bool.or_eq_true, Bool.or_eq_false_iff, Bool.not_eq_eq_eq_not, Bool.not_true, Bool.not_false] at c39)
            refine zaO ?_
            try simp only [Ex.thnH, Ex.inBlockH, ↓reduceIte, Nat.reduceEqDiff]
            refine hK15 _ _ ?_; try clear hK15 K15
            refine zaa ?_
            refine zam rfl ?_
            refine zac (fun K hK r => ?_)
            rw [zbh _ _ rfl]
            simp only [eX, ↓reduceIte, Nat.reduceEqDiff, Int.reduceToNat]
            refine hK _ _ ?_; clear hK K
            refine zac (fun K hK r => ?_)
            simp only [zah, fa133_1, zap, Nat.reduceAdd, Nat.zero_add, eX, ↓reduceIte, Nat.reduceEqDiff, Int.reduceToNat]
            refine hK _ _ ?_; clear hK K
            refine zac (fun K hK r => ?_)
            simp only [zan, eX, ↓reduceIte, Nat.reduceEqDiff, Int.reduceToNat]
            refine zak Try.underlying33 rfl hbA ldA ?_
            try simp only [eX, ↓reduceIte, Nat.reduceEqDiff, Int.reduceToNat]
            refine hK _ _ ?_; clear hK K
            refine zao rfl ?_
            refine zae ?_
            try simp only [Ex.thnH, Ex.inBlockH, ↓reduceIte, Nat.reduceEqDiff]
            refine hK6 _ _ ?_; try clear hK6 K6
            refine zaa ?_
            refine zac (fun K hK r => ?_)
            simp (disch := (first | omega | decide)) only [zaF, zaH, b_add, zaw, zaE, zaD, zaQ, eX, ↓reduceIte, Nat.reduceEqDiff, Int.reduceToNat]
            refine hK _ _ ?_; clear hK K
            refine zam rfl ?_
            refine zae ?_
            try simp only [Ex.thnH, Ex.inBlockH, ↓reduceIte, Nat.reduceEqDiff]
            exact absurd rfl (by assumption)
 ·first
  |(exfalso; exact cnA c8; done)
  |skip
   (try simp only [decide_eq_true_eq, decide_eq_false_iff_not, Bool.not_eq_true, Bool.not_eq_false, Bool.and_eq_true, Bool.or_eq_true, Bool.or_eq_false_iff, Bool.not_eq_eq_eq_not, Bool.not_true, Bool.not_false] at c8)
   refine CW_exit ?_
   try simp only [Ex.thnH, Ex.inBlockH, ↓reduceIte, Nat.reduceEqDiff]
   refine hK2 _ _ ?_; try clear hK2 K2
   refine zad (fun K18 hK18 => ?_)
   refine zaa ?_
   refine zao rfl ?_
   refine zae ?_
   try simp only [Ex.thnH, Ex.inBlockH, ↓reduceIte, Nat.reduceEqDiff]
   refine hK18 _ _ ?_; try clear hK18 K18
   refine zaR ?_
   try simp only [Ex.thnH, Ex.inBlockH, ↓reduceIte, Nat.reduceEqDiff]
   exact ⟨[_], ⟨rfl, trivial⟩, _, Le.refl _, rfl, rfl⟩
abbrev errV : Option Int → Value := errVT 73
def errOk (o : Option Int) : Prop := ∀ k, o = some k → k ≠ 0 ∧ -9223372036854775808 ≤ k ∧ k ≤ 9223372036854775807
theorem num_Num (H : Hp) (o : Option Int) (h : errOk o) : CallH Try.prog 28 #[errV o] H (fun v H' => v = .int .i64 (o.getD 0) ∧ H' = H) := by
  cases o with
  | none => exact num_Num_nil H
  | some k => obtain ⟨h1, h2, h3⟩ := h k rfl; exact num_Num_errno H k h1 h2 h3
def DvX (F : Hp) (b : Nat) (d : Dv) : Prop := ∃ m es c wv wrs, F b = some (.cells #[.int .i64 d.size, .map (some m), wv] 83) ∧ F m = some (.map es c) ∧ MapS es d.sure ∧ OwnS F 120 65 wv d.wait.length (wts d.wait) wrs ∧ ∀ x, F x ≠ none → x = b ∨ x = m ∨ wrs = some x
abbrev ptrV (b : Nat) : Value := .pointer (some ⟨b, 0, none⟩)
structure SX (F : Hp) (p : Nat) (s : St) (r cap : Nat) (bs : List Nat) (Fs : Nat → Hp) : Prop where
  hd : F p = some (.cells #[.int .i64 s.steps, .int .i64 s.left, .bool s.armed, .bool s.gone, .slice (some ⟨r, 0, none⟩) s.dv.length cap] 78)
  len : bs.length = s.dv.length
  own : OwnS F 79 1 (.slice (some ⟨r, 0, none⟩) s.dv.length cap) s.dv.length (bs.map ptrV) (some r)
  dev : ∀ i, i < s.dv.length → DvX (Fs i) (bs.getD i 0) (s.dv.getD i default)
  le : ∀ i, i < s.dv.length → Le (Fs i) F
  fp : ∀ i, i < s.dv.length → Fs i p = none ∧ Fs i r = none
  sep : ∀ i j, i < s.dv.length → j < s.dv.length → i ≠ j → ∀ x, Fs i x ≠ none → Fs j x = none
def SetX (F : Hp) (p : Nat) (s : St) : Prop := ∃ r cap bs Fs, SX F p s r cap bs Fs
def devV (s : St) (bs : List Nat) (dev : Int) : Value := if 0 ≤ dev ∧ dev < s.dv.length then ptrV (bs.getD dev.toNat 0) else .pointer none
theorem ptr_at {bs : List Nat} {c : Array Value} {o n : Nat} (h : ∀ j, j < n * 1 → c[o + j]? = (bs.map ptrV)[j]?) (hn : n = bs.length) (k : Nat) (hk : k < bs.length) : c[o + k]? = some (ptrV (bs.getD k 0)) := by
  rw [h k (by omega), List.getElem?_map, List.getElem?_eq_getElem hk]
  simp [List.getD_eq_getElem?_getD, List.getElem?_eq_getElem hk]
theorem SX.at {F : Hp} {p : Nat} {s : St} {r cap : Nat} {bs : List Nat} {Fs : Nat → Hp} (h : SX F p s r cap bs Fs) {k : Nat} (hk : k < s.dv.length) : ∃ c T f, F r = some (.cells c T f) ∧ c[k]? = some (ptrV (bs.getD k 0)) ∧ k < c.size := by
  obtain ⟨b, o, c, T, f, e, h1, h2, h3⟩ := h.own.holds.at (by omega)
  cases e
  refine ⟨c, T, f, h1, ?_, by omega⟩
  have := ptr_at h3 (by rw [h.len]) k (by rw [h.len]; exact hk)
  rwa [Nat.zero_add] at this
theorem DvX.blk {F : Hp} {b : Nat} {d : Dv} (h : DvX F b d) : ∃ m wv, F b = some (.cells #[.int .i64 d.size, .map (some m), wv] 83) := by
  obtain ⟨m, _, _, wv, _, h1, _⟩ := h; exact ⟨m, wv, h1⟩
set_option maxRecDepth 100000 in
set_option maxHeartbeats 1000000 in
theorem device_ok (H : Hp) (p : Nat) (s : St) (rd cap : Nat) (bs : List Nat) (Fs : Nat → Hp) (h : SX H p s rd cap bs Fs) (dev : Int) (hl : s.dv.length ≤ 1000) : CallH Try.prog 46 #[(.pointer (some ⟨p, 0, none⟩)), .int .i64 dev] H (fun v H' => v = devV s bs dev ∧ H' = H) := by
 refine zaB (l := [_, _]) (rl := [.tmp 4]) (n := 27) Try.func46 rfl rfl rfl rfl rfl ?_
 simp only [envOf, Nat.reduceAdd]
 have hhd := h.hd
 refine zad (fun K1 hK1 => ?_)
 refine zaa ?_
 refine zao rfl ?_
 refine zae ?_
 try simp only [Ex.thnH, Ex.inBlockH, ↓reduceIte, Nat.reduceEqDiff]
 refine hK1 _ _ ?_; try clear hK1 K1
 refine zad (fun K2 hK2 => ?_)
 refine zad (fun K3 hK3 => ?_)
 refine zaa ?_
 refine zam rfl ?_
 refine zac (fun K hK r => ?_)
 simp only [zaF, zaH, g_bool, zbo, zbk, g_slice, g_map, g_func, zbl, g_iface, zbe, g_nil_r, g_nil_l, eX, ↓reduceIte, Nat.reduceEqDiff, Int.reduceToNat]
 rw [e_eql _ _ _ _ (by simp)]
 rw [q_equal]
 first | rw [q_ptr_nil _ _ _ Try.underlying31] | rw [q_nil_ptr _ _ _ Try.underlying31]
 try simp only [eX, ↓reduceIte, Nat.reduceEqDiff, Int.reduceToNat]
 refine hK _ _ ?_; clear hK K
 refine zam rfl ?_
 (first | refine zbc (d := 7) rfl (fun g7 => ?_) (fun g7 => ?_) | skip)
 all_goals try (exfalso; exact cnA g7)
 all_goals (try simp only [decide_eq_true_eq, decide_eq_false_iff_not, Bool.not_eq_true, Bool.not_eq_false, Bool.and_eq_true, Bool.or_eq_true, Bool.or_eq_false_iff, Bool.not_eq_eq_eq_not, Bool.not_true, Bool.not_false] at g7)
 all_goals
  try simp only [eX, ↓reduceIte, Nat.reduceEqDiff, Int.reduceToNat]
  first
  |refine zaf rfl (zab (by decide)) rfl (fun K hK r => ?_)
   simp only [zaU, eX, ↓reduceIte, Nat.reduceEqDiff, Int.reduceToNat]
   refine hK _ _ ?_; clear hK K
  |refine zag rfl (zab (by decide)) rfl ?_
   simp only [eX, ↓reduceIte, Nat.reduceEqDiff, Int.reduceToNat]
  first
  |refine zaf rfl (zab (by decide)) rfl (fun K hK r => ?_)
   simp (disch := (first | omega | decide)) only [zaF, zaH, b_lss, zaq, zar, zat, zau, zas, zav, Bool.not_true, Bool.not_false, eX, ↓reduceIte, Nat.reduceEqDiff, Int.reduceToNat]
   refine hK _ _ ?_; clear hK K
  |refine zag rfl (zab (by decide)) rfl ?_
   simp only [eX, ↓reduceIte, Nat.reduceEqDiff, Int.reduceToNat]
  refine zac (fun K hK r => ?_)
  simp only [zbp, zaZ, HL.ite_bool, if_true, if_false, Bool.false_eq_true, eX, ↓reduceIte, Nat.reduceEqDiff, Int.reduceToNat]
  refine hK _ _ ?_; clear hK K
  refine zam rfl ?_
  (first | refine zbc (d := 11) rfl (fun g11 => ?_) (fun g11 => ?_) | skip)
  all_goals try (exfalso; exact cnA g11)
  all_goals (try simp only [decide_eq_true_eq, decide_eq_false_iff_not, Bool.not_eq_true, Bool.not_eq_false, Bool.and_eq_true, Bool.or_eq_true, Bool.or_eq_false_iff, Bool.not_eq_eq_eq_not, Bool.not_true, Bool.not_false] at g11)
  all_goals
   try simp only [eX, ↓reduceIte, Nat.reduceEqDiff, Int.reduceToNat]
   first
   |refine zaf rfl (zab (by decide)) rfl (fun K hK r => ?_)
    simp only [zaU, eX, ↓reduceIte, Nat.reduceEqDiff, Int.reduceToNat]
    refine hK _ _ ?_; clear hK K
   |refine zag rfl (zab (by decide)) rfl ?_
    simp only [eX, ↓reduceIte, Nat.reduceEqDiff, Int.reduceToNat]
   first
   |refine zaf rfl (zab (by decide)) rfl (fun K hK r => ?_)
    simp only [zaU, eX, ↓reduceIte, Nat.reduceEqDiff, Int.reduceToNat]
    refine hK _ _ ?_; clear hK K
   |refine zag rfl (zab (by decide)) rfl ?_
    simp only [eX, ↓reduceIte, Nat.reduceEqDiff, Int.reduceToNat]
   first
   |refine zaf rfl (zab (by decide)) rfl (fun K hK r => ?_)
    rw [zbh _ _ rfl]
    simp only [eX, ↓reduceIte, Nat.reduceEqDiff, Int.reduceToNat]
    refine hK _ _ ?_; clear hK K
   |refine zag rfl (zab (by decide)) rfl ?_
    simp only [eX, ↓reduceIte, Nat.reduceEqDiff, Int.reduceToNat]
   first
   |refine zaf rfl (zab (by decide)) rfl (fun K hK r => ?_)
    simp only [zah, fa78_1, zap, Nat.reduceAdd, Nat.zero_add, eX, ↓reduceIte, Nat.reduceEqDiff, Int.reduceToNat]
    refine hK _ _ ?_; clear hK K
   |refine zag rfl (zab (by decide)) rfl ?_
    simp only [eX, ↓reduceIte, Nat.reduceEqDiff, Int.reduceToNat]
   first
   |refine zaf rfl (zab (by decide)) rfl (fun K hK r => ?_)
    simp only [zan, eX, ↓reduceIte, Nat.reduceEqDiff, Int.reduceToNat]
    refine zak Try.underlying76 rfl hbA ldA ?_
    try simp only [eX, ↓reduceIte, Nat.reduceEqDiff, Int.reduceToNat]
    refine hK _ _ ?_; clear hK K
   |refine zag rfl (zab (by decide)) rfl ?_
    simp only [eX, ↓reduceIte, Nat.reduceEqDiff, Int.reduceToNat]
   first
   |refine zaf rfl (zab (by decide)) rfl (fun K hK r => ?_)
    simp only [zaM, l_len, List.map_toArray, List.map_cons, List.map_nil, zaS _ _ Try.underlying76, eX, ↓reduceIte, Nat.reduceEqDiff, Int.reduceToNat]
    refine hK _ _ ?_; clear hK K
   |refine zag rfl (zab (by decide)) rfl ?_
    simp only [eX, ↓reduceIte, Nat.reduceEqDiff, Int.reduceToNat]
   first
   |refine zaf rfl (zab (by decide)) rfl (fun K hK r => ?_)
    simp (disch := (first | omega | decide)) only [zaF, zaH, b_geq, zaq, zar, zat, zau, zas, zav, Bool.not_true, Bool.not_false, eX, ↓reduceIte, Nat.reduceEqDiff, Int.reduceToNat]
    refine hK _ _ ?_; clear hK K
   |refine zag rfl (zab (by decide)) rfl ?_
    simp only [eX, ↓reduceIte, Nat.reduceEqDiff, Int.reduceToNat]
   refine zac (fun K hK r => ?_)
   simp only [zbp, zaZ, HL.ite_bool, if_true, if_false, Bool.false_eq_true, eX, ↓reduceIte, Nat.reduceEqDiff, Int.reduceToNat]
   refine hK _ _ ?_; clear hK K
   refine zae ?_
   try simp only [Ex.thnH, Ex.inBlockH, ↓reduceIte, Nat.reduceEqDiff]
   refine hK3 _ _ ?_; try clear hK3 K3
   refine zaG (fun r => rfl) (fun c19 => ?_) (fun c19 => ?_)
   ·first
    |(exfalso; exact cnA c19; done)
    |skip
     (try simp only [decide_eq_true_eq, decide_eq_false_iff_not, Bool.not_eq_true, Bool.not_eq_false, Bool.and_eq_true, Bool.or_eq_true, Bool.or_eq_false_iff, Bool.not_eq_eq_eq_not, Bool.not_true, Bool.not_false] at c19)
     refine zad (fun K4 hK4 => ?_)
     refine zaa ?_
     refine zao rfl ?_
     refine zae ?_
     try simp only [Ex.thnH, Ex.inBlockH, ↓reduceIte, Nat.reduceEqDiff]
     refine hK4 _ _ ?_; try clear hK4 K4
     refine zaR ?_
     try simp only [Ex.thnH, Ex.inBlockH, ↓reduceIte, Nat.reduceEqDiff]
     refine ⟨[_], ⟨rfl, trivial⟩, _, Le.refl _, ?_, rfl⟩
     show Value.pointer _ = _
     unfold devV; rw [if_neg (by omega)]
   ·first
    |(exfalso; exact cnA c19; done)
    |skip
     (try simp only [decide_eq_true_eq, decide_eq_false_iff_not, Bool.not_eq_true, Bool.not_eq_false, Bool.and_eq_true, Bool.or_eq_true, Bool.or_eq_false_iff, Bool.not_eq_eq_eq_not, Bool.not_true, Bool.not_false] at c19)
     have hin : 0 ≤ dev ∧ dev < s.dv.length := by omega
     obtain ⟨cc, T, f, hr, hat, hlt⟩ := h.at (k := dev.toNat) (by omega)
     refine zaO ?_
     try simp only [Ex.thnH, Ex.inBlockH, ↓reduceIte, Nat.reduceEqDiff]
     refine hK2 _ _ ?_; try clear hK2 K2
     refine zad (fun K5 hK5 => ?_)
     refine zaa ?_
     refine zam rfl ?_
     refine zac (fun K hK r => ?_)
     rw [zbh _ _ rfl]
     simp only [eX, ↓reduceIte, Nat.reduceEqDiff, Int.reduceToNat]
     refine hK _ _ ?_; clear hK K
     refine zac (fun K hK r => ?_)
     simp only [zah, fa78_1, zap, Nat.reduceAdd, Nat.zero_add, eX, ↓reduceIte, Nat.reduceEqDiff, Int.reduceToNat]
     refine hK _ _ ?_; clear hK K
     refine zac (fun K hK r => ?_)
     simp only [zan, eX, ↓reduceIte, Nat.reduceEqDiff, Int.reduceToNat]
     refine zak Try.underlying76 rfl hbA ldA ?_
     try simp only [eX, ↓reduceIte, Nat.reduceEqDiff, Int.reduceToNat]
     refine hK _ _ ?_; clear hK K
     refine zam rfl ?_
     refine zac (fun K hK r => ?_)
     simp only [zaK, eX, ↓reduceIte, Nat.reduceEqDiff, Int.reduceToNat]
     refine Lt_indexS Try.underlying76 sz79 ixA ixA ?_
     try simp only [zap, Nat.mul_one, Nat.zero_add, Int.reduceToNat]
     try simp only [eX, ↓reduceIte, Nat.reduceEqDiff, Int.reduceToNat]
     refine hK _ _ ?_; clear hK K
     refine zac (fun K hK r => ?_)
     simp only [zan, eX, ↓reduceIte, Nat.reduceEqDiff, Int.reduceToNat]
     refine zak Try.underlying79 rfl hbA hat ?_
     refine hK _ _ ?_; clear hK K
     refine zao rfl ?_
     refine zae ?_
     try simp only [Ex.thnH, Ex.inBlockH, ↓reduceIte, Nat.reduceEqDiff]
     refine hK5 _ _ ?_; try clear hK5 K5
     refine zaR ?_
     try simp only [Ex.thnH, Ex.inBlockH, ↓reduceIte, Nat.reduceEqDiff]
     refine ⟨[_], ⟨rfl, trivial⟩, _, Le.refl _, ?_, rfl⟩
     show ptrV _ = _
     unfold devV; rw [if_pos hin]
set_option maxRecDepth 100000 in
set_option maxHeartbeats 1000000 in
theorem has_nil (H : Hp) (i : Int) : CallH Try.prog 47 #[.pointer none, .int .i64 i] H (fun v H' => v = .bool false ∧ H' = H) := by
 refine zaB (l := [_, _]) (rl := [.tmp 4]) (n := 19) Try.func47 rfl rfl rfl rfl rfl ?_
 simp only [envOf, Nat.reduceAdd]
 refine zad (fun K1 hK1 => ?_)
 refine zaa ?_
 refine zao rfl ?_
 refine zae ?_
 try simp only [Ex.thnH, Ex.inBlockH, ↓reduceIte, Nat.reduceEqDiff]
 refine hK1 _ _ ?_; try clear hK1 K1
 refine zad (fun K2 hK2 => ?_)
 refine zaa ?_
 refine zam rfl ?_
 refine zac (fun K hK r => ?_)
 simp only [zaF, zaH, g_bool, zbo, zbk, g_slice, g_map, g_func, zbl, g_iface, zbe, g_nil_r, g_nil_l, eX, ↓reduceIte, Nat.reduceEqDiff, Int.reduceToNat]
 rw [e_neq _ _ _ _ (by simp)]
 rw [q_equal]
 first | rw [q_ptr_nil _ _ _ Try.underlying79] | rw [q_nil_ptr _ _ _ Try.underlying79]
 try simp only [eX, ↓reduceIte, Nat.reduceEqDiff, Int.reduceToNat]
 refine hK _ _ ?_; clear hK K
 refine zam rfl ?_
 (first | refine zbc (d := 7) rfl (fun g7 => ?_) (fun g7 => ?_) | skip)
 all_goals try (exfalso; exact cnA g7)
 all_goals (try simp only [decide_eq_true_eq, decide_eq_false_iff_not, Bool.not_eq_true, Bool.not_eq_false, Bool.and_eq_true, Bool.or_eq_true, Bool.or_eq_false_iff, Bool.not_eq_eq_eq_not, Bool.not_true, Bool.not_false] at g7)
 all_goals
  try simp only [eX, ↓reduceIte, Nat.reduceEqDiff, Int.reduceToNat]
  first
  |refine zaf rfl (zab (by decide)) rfl (fun K hK r => ?_)
   simp only [zaU, eX, ↓reduceIte, Nat.reduceEqDiff, Int.reduceToNat]
   refine hK _ _ ?_; clear hK K
  |refine zag rfl (zab (by decide)) rfl ?_
   simp only [eX, ↓reduceIte, Nat.reduceEqDiff, Int.reduceToNat]
  first
  |refine zaf rfl (zab (by decide)) rfl (fun K hK r => ?_)
   simp (disch := (first | omega | decide)) only [zaF, zaH, b_geq, zaq, zar, zat, zau, zas, zav, Bool.not_true, Bool.not_false, eX, ↓reduceIte, Nat.reduceEqDiff, Int.reduceToNat]
   refine hK _ _ ?_; clear hK K
  |refine zag rfl (zab (by decide)) rfl ?_
   simp only [eX, ↓reduceIte, Nat.reduceEqDiff, Int.reduceToNat]
  refine zac (fun K hK r => ?_)
  simp only [zbp, zaZ, HL.ite_bool, if_true, if_false, Bool.false_eq_true, eX, ↓reduceIte, Nat.reduceEqDiff, Int.reduceToNat]
  refine hK _ _ ?_; clear hK K
  refine zam rfl ?_
  (first | refine zbc (d := 11) rfl (fun g11 => ?_) (fun g11 => ?_) | skip)
  all_goals try (exfalso; exact cnA g11)
  all_goals (try simp only [decide_eq_true_eq, decide_eq_false_iff_not, Bool.not_eq_true, Bool.not_eq_false, Bool.and_eq_true, Bool.or_eq_true, Bool.or_eq_false_iff, Bool.not_eq_eq_eq_not, Bool.not_true, Bool.not_false] at g11)
  all_goals
   try simp only [eX, ↓reduceIte, Nat.reduceEqDiff, Int.reduceToNat]
   first
   |refine zaf rfl (zab (by decide)) rfl (fun K hK r => ?_)
    simp only [zaU, eX, ↓reduceIte, Nat.reduceEqDiff, Int.reduceToNat]
    refine hK _ _ ?_; clear hK K
   |refine zag rfl (zab (by decide)) rfl ?_
    simp only [eX, ↓reduceIte, Nat.reduceEqDiff, Int.reduceToNat]
   first
   |refine zaf rfl (zab (by decide)) rfl (fun K hK r => ?_)
    simp only [zaU, eX, ↓reduceIte, Nat.reduceEqDiff, Int.reduceToNat]
    refine hK _ _ ?_; clear hK K
   |refine zag rfl (zab (by decide)) rfl ?_
    simp only [eX, ↓reduceIte, Nat.reduceEqDiff, Int.reduceToNat]
   first
   |refine zaf rfl (zab (by decide)) rfl (fun K hK r => ?_)
    rw [zbh _ _ rfl]
    simp only [eX, ↓reduceIte, Nat.reduceEqDiff, Int.reduceToNat]
    refine hK _ _ ?_; clear hK K
   |refine zag rfl (zab (by decide)) rfl ?_
    simp only [eX, ↓reduceIte, Nat.reduceEqDiff, Int.reduceToNat]
   first
   |refine zaf rfl (zab (by decide)) rfl (fun K hK r => ?_)
    simp only [zah, fa83_0, zap, Nat.reduceAdd, Nat.zero_add, eX, ↓reduceIte, Nat.reduceEqDiff, Int.reduceToNat]
    refine hK _ _ ?_; clear hK K
   |refine zag rfl (zab (by decide)) rfl ?_
    simp only [eX, ↓reduceIte, Nat.reduceEqDiff, Int.reduceToNat]
   first
   |refine zaf rfl (zab (by decide)) rfl (fun K hK r => ?_)
    simp only [zan, eX, ↓reduceIte, Nat.reduceEqDiff, Int.reduceToNat]
    refine zak Try.underlying3 rfl hbA ldA ?_
    try simp only [eX, ↓reduceIte, Nat.reduceEqDiff, Int.reduceToNat]
    refine hK _ _ ?_; clear hK K
   |refine zag rfl (zab (by decide)) rfl ?_
    simp only [eX, ↓reduceIte, Nat.reduceEqDiff, Int.reduceToNat]
   first
   |refine zaf rfl (zab (by decide)) rfl (fun K hK r => ?_)
    simp (disch := (first | omega | decide)) only [zaF, zaH, b_lss, zaq, zar, zat, zau, zas, zav, Bool.not_true, Bool.not_false, eX, ↓reduceIte, Nat.reduceEqDiff, Int.reduceToNat]
    refine hK _ _ ?_; clear hK K
   |refine zag rfl (zab (by decide)) rfl ?_
    simp only [eX, ↓reduceIte, Nat.reduceEqDiff, Int.reduceToNat]
   refine zac (fun K hK r => ?_)
   simp only [zbp, zaZ, HL.ite_bool, if_true, if_false, Bool.false_eq_true, eX, ↓reduceIte, Nat.reduceEqDiff, Int.reduceToNat]
   refine hK _ _ ?_; clear hK K
   refine zao rfl ?_
   refine zae ?_
   try simp only [Ex.thnH, Ex.inBlockH, ↓reduceIte, Nat.reduceEqDiff]
   refine hK2 _ _ ?_; try clear hK2 K2
   refine zaR ?_
   try simp only [Ex.thnH, Ex.inBlockH, ↓reduceIte, Nat.reduceEqDiff]
   first | exact ⟨[_], ⟨rfl, trivial⟩, _, Le.refl _, rfl, rfl⟩ | (exfalso; simp_all; done)
set_option maxRecDepth 100000 in
set_option maxHeartbeats 1000000 in
theorem has_ok (H : Hp) (b : Nat) (size : Int) (x y : Value) (hb : H b = some (.cells #[.int .i64 size, x, y] 83)) (i : Int) : CallH Try.prog 47 #[ptrV b, .int .i64 i] H (fun v H' => v = .bool (decide (0 ≤ i ∧ i < size)) ∧ H' = H) := by
 refine zaB (l := [_, _]) (rl := [.tmp 4]) (n := 19) Try.func47 rfl rfl rfl rfl rfl ?_
 simp only [envOf, Nat.reduceAdd]
 refine zad (fun K1 hK1 => ?_)
 refine zaa ?_
 refine zao rfl ?_
 refine zae ?_
 try simp only [Ex.thnH, Ex.inBlockH, ↓reduceIte, Nat.reduceEqDiff]
 refine hK1 _ _ ?_; try clear hK1 K1
 refine zad (fun K2 hK2 => ?_)
 refine zaa ?_
 refine zam rfl ?_
 refine zac (fun K hK r => ?_)
 simp only [zaF, zaH, g_bool, zbo, zbk, g_slice, g_map, g_func, zbl, g_iface, zbe, g_nil_r, g_nil_l, eX, ↓reduceIte, Nat.reduceEqDiff, Int.reduceToNat]
 rw [e_neq _ _ _ _ (by simp)]
 rw [q_equal]
 first | rw [q_ptr_nil _ _ _ Try.underlying79] | rw [q_nil_ptr _ _ _ Try.underlying79]
 try simp only [eX, ↓reduceIte, Nat.reduceEqDiff, Int.reduceToNat]
 refine hK _ _ ?_; clear hK K
 refine zam rfl ?_
 (first | refine zbc (d := 7) rfl (fun g7 => ?_) (fun g7 => ?_) | skip)
 all_goals try (exfalso; exact cnA g7)
 all_goals (try simp only [decide_eq_true_eq, decide_eq_false_iff_not, Bool.not_eq_true, Bool.not_eq_false, Bool.and_eq_true, Bool.or_eq_true, Bool.or_eq_false_iff, Bool.not_eq_eq_eq_not, Bool.not_true, Bool.not_false] at g7)
 all_goals
  try simp only [eX, ↓reduceIte, Nat.reduceEqDiff, Int.reduceToNat]
  first
  |refine zaf rfl (zab (by decide)) rfl (fun K hK r => ?_)
   simp only [zaU, eX, ↓reduceIte, Nat.reduceEqDiff, Int.reduceToNat]
   refine hK _ _ ?_; clear hK K
  |refine zag rfl (zab (by decide)) rfl ?_
   simp only [eX, ↓reduceIte, Nat.reduceEqDiff, Int.reduceToNat]
  first
  |refine zaf rfl (zab (by decide)) rfl (fun K hK r => ?_)
   simp (disch := (first | omega | decide)) only [zaF, zaH, b_geq, zaq, zar, zat, zau, zas, zav, Bool.not_true, Bool.not_false, eX, ↓reduceIte, Nat.reduceEqDiff, Int.reduceToNat]
   refine hK _ _ ?_; clear hK K
  |refine zag rfl (zab (by decide)) rfl ?_
   simp only [eX, ↓reduceIte, Nat.reduceEqDiff, Int.reduceToNat]
  refine zac (fun K hK r => ?_)
  simp only [zbp, zaZ, HL.ite_bool, if_true, if_false, Bool.false_eq_true, eX, ↓reduceIte, Nat.reduceEqDiff, Int.reduceToNat]
  refine hK _ _ ?_; clear hK K
  refine zam rfl ?_
  (first | refine zbc (d := 11) rfl (fun g11 => ?_) (fun g11 => ?_) | skip)
  all_goals try (exfalso; exact cnA g11)
  all_goals (try simp only [decide_eq_true_eq, decide_eq_false_iff_not, Bool.not_eq_true, Bool.not_eq_false, Bool.and_eq_true, Bool.or_eq_true, Bool.or_eq_false_iff, Bool.not_eq_eq_eq_not, Bool.not_true, Bool.not_false] at g11)
  all_goals
   try simp only [eX, ↓reduceIte, Nat.reduceEqDiff, Int.reduceToNat]
   first
   |refine zaf rfl (zab (by decide)) rfl (fun K hK r => ?_)
    simp only [zaU, eX, ↓reduceIte, Nat.reduceEqDiff, Int.reduceToNat]
    refine hK _ _ ?_; clear hK K
   |refine zag rfl (zab (by decide)) rfl ?_
    simp only [eX, ↓reduceIte, Nat.reduceEqDiff, Int.reduceToNat]
   first
   |refine zaf rfl (zab (by decide)) rfl (fun K hK r => ?_)
    simp only [zaU, eX, ↓reduceIte, Nat.reduceEqDiff, Int.reduceToNat]
    refine hK _ _ ?_; clear hK K
   |refine zag rfl (zab (by decide)) rfl ?_
    simp only [eX, ↓reduceIte, Nat.reduceEqDiff, Int.reduceToNat]
   first
   |refine zaf rfl (zab (by decide)) rfl (fun K hK r => ?_)
    rw [zbh _ _ rfl]
    simp only [eX, ↓reduceIte, Nat.reduceEqDiff, Int.reduceToNat]
    refine hK _ _ ?_; clear hK K
   |refine zag rfl (zab (by decide)) rfl ?_
    simp only [eX, ↓reduceIte, Nat.reduceEqDiff, Int.reduceToNat]
   first
   |refine zaf rfl (zab (by decide)) rfl (fun K hK r => ?_)
    simp only [zah, fa83_0, zap, Nat.reduceAdd, Nat.zero_add, eX, ↓reduceIte, Nat.reduceEqDiff, Int.reduceToNat]
    refine hK _ _ ?_; clear hK K
   |refine zag rfl (zab (by decide)) rfl ?_
    simp only [eX, ↓reduceIte, Nat.reduceEqDiff, Int.reduceToNat]
   first
   |refine zaf rfl (zab (by decide)) rfl (fun K hK r => ?_)
    simp only [zan, eX, ↓reduceIte, Nat.reduceEqDiff, Int.reduceToNat]
    refine zak Try.underlying3 rfl hbA ldA ?_
    try simp only [eX, ↓reduceIte, Nat.reduceEqDiff, Int.reduceToNat]
    refine hK _ _ ?_; clear hK K
   |refine zag rfl (zab (by decide)) rfl ?_
    simp only [eX, ↓reduceIte, Nat.reduceEqDiff, Int.reduceToNat]
   first
   |refine zaf rfl (zab (by decide)) rfl (fun K hK r => ?_)
    simp (disch := (first | omega | decide)) only [zaF, zaH, b_lss, zaq, zar, zat, zau, zas, zav, Bool.not_true, Bool.not_false, eX, ↓reduceIte, Nat.reduceEqDiff, Int.reduceToNat]
    refine hK _ _ ?_; clear hK K
   |refine zag rfl (zab (by decide)) rfl ?_
    simp only [eX, ↓reduceIte, Nat.reduceEqDiff, Int.reduceToNat]
   refine zac (fun K hK r => ?_)
   simp only [zbp, zaZ, HL.ite_bool, if_true, if_false, Bool.false_eq_true, eX, ↓reduceIte, Nat.reduceEqDiff, Int.reduceToNat]
   refine hK _ _ ?_; clear hK K
   refine zao rfl ?_
   refine zae ?_
   try simp only [Ex.thnH, Ex.inBlockH, ↓reduceIte, Nat.reduceEqDiff]
   refine hK2 _ _ ?_; try clear hK2 K2
   refine zaR ?_
   try simp only [Ex.thnH, Ex.inBlockH, ↓reduceIte, Nat.reduceEqDiff]
   refine ⟨[_], ⟨rfl, trivial⟩, _, Le.refl _, ?_, rfl⟩
   show Value.bool _ = _
   congr 1
   first | (rw [Bool.eq_iff_iff]; simp only [decide_eq_true_eq]; omega) | (exact (decide_eq_true (by omega)).symm) | (exact (decide_eq_false (by omega)).symm) | (simp_all; done)
set_option maxRecDepth 100000 in
set_option maxHeartbeats 1000000 in
theorem step_ok (H : Hp) (p : Nat) (s : St) (x : Value) (hp : H p = some (.cells #[.int .i64 s.steps, .int .i64 s.left, .bool s.armed, .bool s.gone, x] 78)) : CallH Try.prog 48 #[(.pointer (some ⟨p, 0, none⟩))] H (fun v H' => v = errV (if s.step.2 = true then none else some 3) ∧ H' = H.upd p (.cells #[.int .i64 s.step.1.steps, .int .i64 s.step.1.left, .bool s.step.1.armed, .bool s.step.1.gone, x] 78)) := by
 refine zaB (l := [_]) (rl := [.tmp 2]) (n := 38) Try.func48 rfl rfl rfl rfl rfl ?_
 simp only [envOf, Nat.reduceAdd]
 refine zad (fun K1 hK1 => ?_)
 refine zaa ?_
 refine zao rfl ?_
 refine zae ?_
 try simp only [Ex.thnH, Ex.inBlockH, ↓reduceIte, Nat.reduceEqDiff]
 refine hK1 _ _ ?_; try clear hK1 K1
 refine zad (fun K2 hK2 => ?_)
 refine zad (fun K3 hK3 => ?_)
 refine zaa ?_
 refine zam rfl ?_
 refine zac (fun K hK r => ?_)
 rw [zbh _ _ rfl]
 simp only [eX, ↓reduceIte, Nat.reduceEqDiff, Int.reduceToNat]
 refine hK _ _ ?_; clear hK K
 refine zac (fun K hK r => ?_)
 simp only [zah, fa75_3, zap, Nat.reduceAdd, Nat.zero_add, eX, ↓reduceIte, Nat.reduceEqDiff, Int.reduceToNat]
 refine hK _ _ ?_; clear hK K
 refine zac (fun K hK r => ?_)
 simp only [zan, eX, ↓reduceIte, Nat.reduceEqDiff, Int.reduceToNat]
 refine zak Try.underlying4 rfl hbA ldA ?_
 try simp only [eX, ↓reduceIte, Nat.reduceEqDiff, Int.reduceToNat]
 refine hK _ _ ?_; clear hK K
 refine zam rfl ?_
 (first | refine zbc (d := 7) rfl (fun g7 => ?_) (fun g7 => ?_) | skip)
 all_goals try (exfalso; exact cnA g7)
 all_goals (try simp only [decide_eq_true_eq, decide_eq_false_iff_not, Bool.not_eq_true, Bool.not_eq_false, Bool.and_eq_true, Bool.or_eq_true, Bool.or_eq_false_iff, Bool.not_eq_eq_eq_not, Bool.not_true, Bool.not_false] at g7)
 all_goals
  try simp only [eX, ↓reduceIte, Nat.reduceEqDiff, Int.reduceToNat]
  first
  |refine zaf rfl (zab (by decide)) rfl (fun K hK r => ?_)
   simp only [zaU, eX, ↓reduceIte, Nat.reduceEqDiff, Int.reduceToNat]
   refine hK _ _ ?_; clear hK K
  |refine zag rfl (zab (by decide)) rfl ?_
   simp only [eX, ↓reduceIte, Nat.reduceEqDiff, Int.reduceToNat]
  first
  |refine zaf rfl (zab (by decide)) rfl (fun K hK r => ?_)
   rw [zbh _ _ rfl]
   simp only [eX, ↓reduceIte, Nat.reduceEqDiff, Int.reduceToNat]
   refine hK _ _ ?_; clear hK K
  |refine zag rfl (zab (by decide)) rfl ?_
   simp only [eX, ↓reduceIte, Nat.reduceEqDiff, Int.reduceToNat]
  first
  |refine zaf rfl (zab (by decide)) rfl (fun K hK r => ?_)
   simp only [zah, fa75_2, zap, Nat.reduceAdd, Nat.zero_add, eX, ↓reduceIte, Nat.reduceEqDiff, Int.reduceToNat]
   refine hK _ _ ?_; clear hK K
  |refine zag rfl (zab (by decide)) rfl ?_
   simp only [eX, ↓reduceIte, Nat.reduceEqDiff, Int.reduceToNat]
  first
  |refine zaf rfl (zab (by decide)) rfl (fun K hK r => ?_)
   simp only [zan, eX, ↓reduceIte, Nat.reduceEqDiff, Int.reduceToNat]
   refine zak Try.underlying4 rfl hbA ldA ?_
   try simp only [eX, ↓reduceIte, Nat.reduceEqDiff, Int.reduceToNat]
   refine hK _ _ ?_; clear hK K
  |refine zag rfl (zab (by decide)) rfl ?_
   simp only [eX, ↓reduceIte, Nat.reduceEqDiff, Int.reduceToNat]
  first
  |refine zaf rfl (zab (by decide)) rfl (fun K hK r => ?_)
   simp only [zaU, eX, ↓reduceIte, Nat.reduceEqDiff, Int.reduceToNat]
   refine hK _ _ ?_; clear hK K
  |refine zag rfl (zab (by decide)) rfl ?_
   simp only [eX, ↓reduceIte, Nat.reduceEqDiff, Int.reduceToNat]
  (first | refine zbc (d := 12) rfl (fun g12 => ?_) (fun g12 => ?_) | skip)
  all_goals try (exfalso; exact cnA g12)
  all_goals (try simp only [decide_eq_true_eq, decide_eq_false_iff_not, Bool.not_eq_true, Bool.not_eq_false, Bool.and_eq_true, Bool.or_eq_true, Bool.or_eq_false_iff, Bool.not_eq_eq_eq_not, Bool.not_true, Bool.not_false] at g12)
  all_goals
   try simp only [eX, ↓reduceIte, Nat.reduceEqDiff, Int.reduceToNat]
   first
   |refine zaf rfl (zab (by decide)) rfl (fun K hK r => ?_)
    simp only [zaU, eX, ↓reduceIte, Nat.reduceEqDiff, Int.reduceToNat]
    refine hK _ _ ?_; clear hK K
   |refine zag rfl (zab (by decide)) rfl ?_
    simp only [eX, ↓reduceIte, Nat.reduceEqDiff, Int.reduceToNat]
   first
   |refine zaf rfl (zab (by decide)) rfl (fun K hK r => ?_)
    rw [zbh _ _ rfl]
    simp only [eX, ↓reduceIte, Nat.reduceEqDiff, Int.reduceToNat]
    refine hK _ _ ?_; clear hK K
   |refine zag rfl (zab (by decide)) rfl ?_
    simp only [eX, ↓reduceIte, Nat.reduceEqDiff, Int.reduceToNat]
   first
   |refine zaf rfl (zab (by decide)) rfl (fun K hK r => ?_)
    simp only [zah, fa75_1, zap, Nat.reduceAdd, Nat.zero_add, eX, ↓reduceIte, Nat.reduceEqDiff, Int.reduceToNat]
    refine hK _ _ ?_; clear hK K
   |refine zag rfl (zab (by decide)) rfl ?_
    simp only [eX, ↓reduceIte, Nat.reduceEqDiff, Int.reduceToNat]
   first
   |refine zaf rfl (zab (by decide)) rfl (fun K hK r => ?_)
    simp only [zan, eX, ↓reduceIte, Nat.reduceEqDiff, Int.reduceToNat]
    refine zak Try.underlying3 rfl hbA ldA ?_
    try simp only [eX, ↓reduceIte, Nat.reduceEqDiff, Int.reduceToNat]
    refine hK _ _ ?_; clear hK K
   |refine zag rfl (zab (by decide)) rfl ?_
    simp only [eX, ↓reduceIte, Nat.reduceEqDiff, Int.reduceToNat]
   first
   |refine zaf rfl (zab (by decide)) rfl (fun K hK r => ?_)
    simp (disch := (first | omega | decide)) only [zaF, zaH, b_leq, zaq, zar, zat, zau, zas, zav, Bool.not_true, Bool.not_false, eX, ↓reduceIte, Nat.reduceEqDiff, Int.reduceToNat]
    refine hK _ _ ?_; clear hK K
   |refine zag rfl (zab (by decide)) rfl ?_
    simp only [eX, ↓reduceIte, Nat.reduceEqDiff, Int.reduceToNat]
   first
   |refine zaf rfl (zab (by decide)) rfl (fun K hK r => ?_)
    simp only [zbp, zaZ, HL.ite_bool, if_true, if_false, Bool.false_eq_true, eX, ↓reduceIte, Nat.reduceEqDiff, Int.reduceToNat]
    refine hK _ _ ?_; clear hK K
   |refine zag rfl (zab (by decide)) rfl ?_
    simp only [eX, ↓reduceIte, Nat.reduceEqDiff, Int.reduceToNat]
   refine zac (fun K hK r => ?_)
   simp only [zbp, zaZ, HL.ite_bool, if_true, if_false, Bool.false_eq_true, eX, ↓reduceIte, Nat.reduceEqDiff, Int.reduceToNat]
   refine hK _ _ ?_; clear hK K
   refine zae ?_
   try simp only [Ex.thnH, Ex.inBlockH, ↓reduceIte, Nat.reduceEqDiff]
   refine hK3 _ _ ?_; try clear hK3 K3
   refine zaG (fun r => rfl) (fun c19 => ?_) (fun c19 => ?_)
   ·first
    |(exfalso; exact cnA c19; done)
    |skip
     (try simp only [decide_eq_true_eq, decide_eq_false_iff_not, Bool.not_eq_true, Bool.not_eq_false, Bool.and_eq_true, Bool.or_eq_true, Bool.or_eq_false_iff, Bool.not_eq_eq_eq_not, Bool.not_true, Bool.not_false] at c19)
     refine zad (fun K4 hK4 => ?_)
     refine zaa ?_
     refine zam rfl ?_
     refine zac (fun K hK r => ?_)
     rw [zbh _ _ rfl]
     simp only [eX, ↓reduceIte, Nat.reduceEqDiff, Int.reduceToNat]
     refine hK _ _ ?_; clear hK K
     refine zac (fun K hK r => ?_)
     simp only [zah, fa75_3, zap, Nat.reduceAdd, Nat.zero_add, eX, ↓reduceIte, Nat.reduceEqDiff, Int.reduceToNat]
     refine hK _ _ ?_; clear hK K
     refine zbq rfl (zaJ) (fun K hK r => ?_)
     simp only [zaL, eX, ↓reduceIte, Nat.reduceEqDiff, Int.reduceToNat]
     refine zaY sz4 hbA bdA plA fzA ?_
     try simp only [setL0, setL1, setL2, setL3, setL4, setL5, setL6, setL7, setL8, setL9]
     try simp only [eX, ↓reduceIte, Nat.reduceEqDiff, Int.reduceToNat]
     refine hK _ _ ?_; clear hK K
     refine zae ?_
     try simp only [Ex.thnH, Ex.inBlockH, ↓reduceIte, Nat.reduceEqDiff]
     refine hK4 _ _ ?_; try clear hK4 K4
     refine zad (fun K5 hK5 => ?_)
     refine zaa ?_
     refine zac (fun K hK r => ?_)
     simp only [zbf, zbg, Try.underlying73, zal, eX, ↓reduceIte, Nat.reduceEqDiff, Int.reduceToNat]
     refine hK _ _ ?_; clear hK K
     refine zao rfl ?_
     refine zae ?_
     try simp only [Ex.thnH, Ex.inBlockH, ↓reduceIte, Nat.reduceEqDiff]
     refine hK5 _ _ ?_; try clear hK5 K5
     refine zaR ?_
     try simp only [Ex.thnH, Ex.inBlockH, ↓reduceIte, Nat.reduceEqDiff]
     have hs : s.step = ({ s with gone := true }, false) := by unfold St.step; rw [if_pos (by simp_all)]
     refine ⟨[_], ⟨rfl, trivial⟩, _, Le.refl _, ?_, ?_⟩
     ·rw [hs]; rfl
     ·rw [hs]
   ·first
    |(exfalso; exact cnA c19; done)
    |skip
     (try simp only [decide_eq_true_eq, decide_eq_false_iff_not, Bool.not_eq_true, Bool.not_eq_false, Bool.and_eq_true, Bool.or_eq_true, Bool.or_eq_false_iff, Bool.not_eq_eq_eq_not, Bool.not_true, Bool.not_false] at c19)
     refine zaO ?_
     try simp only [Ex.thnH, Ex.inBlockH, ↓reduceIte, Nat.reduceEqDiff]
     refine hK2 _ _ ?_; try clear hK2 K2
     refine zad (fun K6 hK6 => ?_)
     refine zaa ?_
     refine zam rfl ?_
     refine zac (fun K hK r => ?_)
     rw [zbh _ _ rfl]
     simp only [eX, ↓reduceIte, Nat.reduceEqDiff, Int.reduceToNat]
     refine hK _ _ ?_; clear hK K
     refine zac (fun K hK r => ?_)
     simp only [zah, fa75_1, zap, Nat.reduceAdd, Nat.zero_add, eX, ↓reduceIte, Nat.reduceEqDiff, Int.reduceToNat]
     refine hK _ _ ?_; clear hK K
     refine zac (fun K hK r => ?_)
     simp only [zan, eX, ↓reduceIte, Nat.reduceEqDiff, Int.reduceToNat]
     refine zak Try.underlying3 rfl hbA ldA ?_
     try simp only [eX, ↓reduceIte, Nat.reduceEqDiff, Int.reduceToNat]
     refine hK _ _ ?_; clear hK K
     refine zac (fun K hK r => ?_)
     simp (disch := (first | omega | decide)) only [zaF, zaH, b_sub, zaw, zaE, zaD, zaQ, eX, ↓reduceIte, Nat.reduceEqDiff, Int.reduceToNat]
     refine hK _ _ ?_; clear hK K
     refine zac (fun K hK r => ?_)
     rw [zbh _ _ rfl]
     simp only [eX, ↓reduceIte, Nat.reduceEqDiff, Int.reduceToNat]
     refine hK _ _ ?_; clear hK K
     refine zac (fun K hK r => ?_)
     simp only [zah, fa75_1, zap, Nat.reduceAdd, Nat.zero_add, eX, ↓reduceIte, Nat.reduceEqDiff, Int.reduceToNat]
     refine hK _ _ ?_; clear hK K
     refine zbq rfl (zaJ) (fun K hK r => ?_)
     simp only [zaL, eX, ↓reduceIte, Nat.reduceEqDiff, Int.reduceToNat]
     refine zaY sz3 hbA bdA plA fzA ?_
     try simp only [setL0, setL1, setL2, setL3, setL4, setL5, setL6, setL7, setL8, setL9]
     try simp only [eX, ↓reduceIte, Nat.reduceEqDiff, Int.reduceToNat]
     refine hK _ _ ?_; clear hK K
     refine zae ?_
     try simp only [Ex.thnH, Ex.inBlockH, ↓reduceIte, Nat.reduceEqDiff]
     refine hK6 _ _ ?_; try clear hK6 K6
     refine zad (fun K7 hK7 => ?_)
     refine zaa ?_
     refine zam rfl ?_
     refine zac (fun K hK r => ?_)
     rw [zbh _ _ rfl]
     simp only [eX, ↓reduceIte, Nat.reduceEqDiff, Int.reduceToNat]
     refine hK _ _ ?_; clear hK K
     refine zac (fun K hK r => ?_)
     simp only [zah, fa75_0, zap, Nat.reduceAdd, Nat.zero_add, eX, ↓reduceIte, Nat.reduceEqDiff, Int.reduceToNat]
     refine hK _ _ ?_; clear hK K
     refine zac (fun K hK r => ?_)
     simp only [zan, eX, ↓reduceIte, Nat.reduceEqDiff, Int.reduceToNat]
     refine zak Try.underlying3 rfl hbA ldA ?_
     try simp only [eX, ↓reduceIte, Nat.reduceEqDiff, Int.reduceToNat]
     refine hK _ _ ?_; clear hK K
     refine zac (fun K hK r => ?_)
     simp (disch := (first | omega | decide)) only [zaF, zaH, b_add, zaw, zaE, zaD, zaQ, eX, ↓reduceIte, Nat.reduceEqDiff, Int.reduceToNat]
     refine hK _ _ ?_; clear hK K
     refine zac (fun K hK r => ?_)
     rw [zbh _ _ rfl]
     simp only [eX, ↓reduceIte, Nat.reduceEqDiff, Int.reduceToNat]
     refine hK _ _ ?_; clear hK K
     refine zac (fun K hK r => ?_)
     simp only [zah, fa75_0, zap, Nat.reduceAdd, Nat.zero_add, eX, ↓reduceIte, Nat.reduceEqDiff, Int.reduceToNat]
     refine hK _ _ ?_; clear hK K
     refine zbq rfl (zaJ) (fun K hK r => ?_)
     simp only [zaL, eX, ↓reduceIte, Nat.reduceEqDiff, Int.reduceToNat]
     refine zaY sz3 hbA bdA plA fzA ?_
     try simp only [setL0, setL1, setL2, setL3, setL4, setL5, setL6, setL7, setL8, setL9]
     try simp only [eX, ↓reduceIte, Nat.reduceEqDiff, Int.reduceToNat]
     refine hK _ _ ?_; clear hK K
     refine zae ?_
     try simp only [Ex.thnH, Ex.inBlockH, ↓reduceIte, Nat.reduceEqDiff]
     refine hK7 _ _ ?_; try clear hK7 K7
     refine zad (fun K8 hK8 => ?_)
     refine zaa ?_
     refine zao rfl ?_
     refine zae ?_
     try simp only [Ex.thnH, Ex.inBlockH, ↓reduceIte, Nat.reduceEqDiff]
     refine hK8 _ _ ?_; try clear hK8 K8
     refine zaR ?_
     try simp only [Ex.thnH, Ex.inBlockH, ↓reduceIte, Nat.reduceEqDiff]
     have hs : s.step = ({ s with left := IntKind.i64.wrap (s.left - 1), steps := IntKind.i64.wrap (s.steps + 1) }, true) := by unfold St.step; rw [if_neg (by simp_all)]
     refine ⟨[_], ⟨rfl, trivial⟩, _, Le.refl _, ?_, ?_⟩
     ·rw [hs]; rfl
     ·rw [hs]
end Go.Proofs.Ytcjdkfhmlnfedaa.HL
end
section
namespace Go.Proofs.Ytcjdkfhmlnfedaa.HL
open Go
set_option linter.unusedSimpArgs false
structure Rw where
  a : Option Addr
  n : Nat
  cap : Nat
  rs : Option Nat
deriving Inhabited
abbrev Rw.v (r : Rw) : Value := .slice r.a r.n r.cap
abbrev rvs (L : List Rw) : List Value := L.map Rw.v
def mkB (i t : Nat) : Int := IntKind.u8.wrap (31 * (i : Int) + 3 * (t : Int) + 1)
def mks (i n : Nat) : List Int := (List.range n).map (mkB i)
theorem mks_len (i n : Nat) : (mks i n).length = n := by simp [mks]
theorem mks_succ (i n : Nat) : mks i (n + 1) = mks i n ++ [mkB i n] := by simp [mks, List.range_succ]
theorem mks_get (i n t : Nat) (h : t < n) : (mks i n).getD t 0 = mkB i t := by
  simp [mks, List.getD_eq_getElem?_getD, List.getElem?_map, List.getElem?_range h]
theorem mks_take (i : Nat) {n m : Nat} (h : m ≤ n) : (mks i n).take m = mks i m := by
  simp [mks, ← List.map_take, List.take_range, Nat.min_eq_left h]
abbrev rw_ (L : List Rw) (i : Nat) : Rw := L.getD i default
def RowsC (E : TypeId) (H : Hp) (L : List Rw) (C : Nat → List Int) : Prop := ∀ i, i < L.length → OwnS H E 1 (rw_ L i).v (rw_ L i).n (u8s (C i)) (rw_ L i).rs
def RDis (L : List Rw) : Prop := ∀ i j, i < L.length → j < L.length → i ≠ j → ∀ r, (rw_ L i).rs = some r → (rw_ L j).rs ≠ some r
def rown (L : List Rw) (b : Nat) : Prop := ∃ i, i < L.length ∧ (rw_ L i).rs = some b
def MC (L : List Rw) (C : Nat → List Int) (k j : Nat) : Prop := ∀ i t, i < L.length → t < (rw_ L i).n → (i < k ∨ (i = k ∧ t < j)) → (C i).getD t 0 = mkB i t
theorem OwnS.len8 {H : Hp} {E : TypeId} {v : Value} {n : Nat} {l : List Int} {rs : Option Nat} (h : OwnS H E 1 v n (u8s l) rs) : l.length = n := by have := h.1; simp at this; omega
theorem RowsC.row {E : TypeId} {H : Hp} {L : List Rw} {C : Nat → List Int} (h : RowsC E H L C) {k : Nat} (hk : k < L.length) (hn : 0 < (rw_ L k).n) :
    ∃ r c, (rw_ L k).a = some ⟨r, 0, none⟩ ∧ (rw_ L k).rs = some r ∧ H r = some (.cells c E) ∧ (rw_ L k).n ≤ c.size ∧ (c.extract 0 (rw_ L k).n).toList = u8s (C k) := by
  obtain ⟨_, ⟨_, h0, _⟩ | ⟨r, cap, c, e1, e2, e3, e4, e5, e6⟩⟩ := h k hk
  · omega
  · injection e1 with e1 _ e7
    exact ⟨r, c, e1, e6, e2, by omega, by simpa using e5⟩
theorem RowsC.set {E : TypeId} {H : Hp} {L : List Rw} {C : Nat → List Int} (h : RowsC E H L C) (hd : RDis L) {k t : Nat} (hk : k < L.length) (ht : t < (rw_ L k).n) (x : Int) {r : Nat} {c : Array Value}
    (ha : (rw_ L k).a = some ⟨r, 0, none⟩) (hr : (rw_ L k).rs = some r) (hc : H r = some (.cells c E)) : RowsC E (H.upd r (.cells (c.setIfInBounds t (.int .u8 x)) E)) L (fun i => if i = k then (C k).set t x else C i) := by
  intro i hi
  by_cases e : i = k
  · subst e
    simp only [if_true]
    have h1 := h i hi
    rw [hr] at h1 ⊢
    have h2 : (rw_ L i).v = .slice (some ⟨r, 0, none⟩) (rw_ L i).n (rw_ L i).cap := by simp only [Rw.v, ha]
    rw [h2] at h1 ⊢
    exact h1.set hc t ht x
  · simp only [if_neg e]
    exact (h i hi).upd (hd k i hk hi (Ne.symm e) r hr)
theorem MC.set {L : List Rw} {C : Nat → List Int} {k j : Nat} (h : MC L C k j) (hj : j < (C k).length) : MC L (fun i => if i = k then (C k).set j (mkB k j) else C i) k (j + 1) := by
  intro i t hi ht hc
  by_cases e : i = k
  · subst e
    simp only [if_true]
    by_cases e2 : t = j
    · subst e2
      simp [List.getD_eq_getElem?_getD, List.getElem?_set_self hj]
    · have := h i t hi ht (by omega)
      rw [← this]
      simp [List.getD_eq_getElem?_getD, List.getElem?_set_ne (Ne.symm e2)]
  · simp only [if_neg e]
    exact h i t hi ht (by omega)
theorem MC.next {L : List Rw} {C : Nat → List Int} {k : Nat} (h : MC L C k (rw_ L k).n) : MC L C (k + 1) 0 := by
  intro i t hi ht hc
  refine h i t hi ht ?_
  rcases hc with hc | hc
  · by_cases e : i = k
    · subst e; exact .inr ⟨rfl, ht⟩
    · exact .inl (by omega)
  · omega
theorem MC.all {E : TypeId} {H : Hp} {L : List Rw} {C : Nat → List Int} (h : RowsC E H L C) (hm : MC L C L.length 0) : RowsC E H L (fun i => mks i (rw_ L i).n) := by
  intro i hi
  have h1 := h i hi
  have e : C i = mks i (rw_ L i).n := by
    apply List.ext_getElem?
    intro t
    by_cases ht : t < (rw_ L i).n
    · have h2 := hm i t hi ht (.inl hi)
      have h3 : t < (C i).length := by rw [h1.len8]; exact ht
      have h4 : t < (mks i (rw_ L i).n).length := by rw [mks_len]; exact ht
      have h5 := mks_get i (rw_ L i).n t ht
      rw [List.getElem?_eq_getElem h3, List.getElem?_eq_getElem h4]
      have g : ∀ (l : List Int) (h : t < l.length), l.getD t 0 = l[t] := fun l h => by simp [List.getD_eq_getElem?_getD, List.getElem?_eq_getElem h]
      rw [g _ h3] at h2
      rw [g _ h4] at h5
      rw [h2, h5]
    · rw [List.getElem?_eq_none (by rw [h1.len8]; omega), List.getElem?_eq_none (by rw [mks_len]; omega)]
  simp only [← e]; exact h1
abbrev mksOf (X : List Rw) : Nat → List Int := fun i => mks i (rw_ X i).n
theorem rw_set {X : List Rw} {k : Nat} {y : Rw} (hk : k < X.length) (i : Nat) : rw_ (X.set k y) i = if i = k then y else rw_ X i := by
  by_cases e : i = k
  · subst e; simp [List.getD_eq_getElem?_getD, List.getElem?_set_self hk]
  · rw [if_neg e]; simp [List.getD_eq_getElem?_getD, List.getElem?_set_ne (Ne.symm e)]
theorem Holds.le' {H H' : Hp} {w n cap : Nat} {a : Option Addr} {cs : List Value} (h : Holds H w (.slice a n cap) n cs) (k : ∀ A o, a = some A → H A.block = some o → H' A.block = some o) : Holds H' w (.slice a n cap) n cs := by
  obtain ⟨h1, h2 | ⟨b, o, cap', c, T, f, e, h4, h5⟩⟩ := h
  · exact ⟨h1, .inl h2⟩
  · cases e
    exact ⟨h1, .inr ⟨b, o, _, c, T, f, rfl, k _ _ rfl h4, h5⟩⟩
def gext (k t i : Nat) : Nat := if i < k then 10 else if i = k then t else 0
structure GI (E : TypeId) (H0 H : Hp) (L X : List Rw) (k t : Nat) : Prop where
  len : X.length = L.length
  rows : RowsC E H X (mksOf X)
  dis : RDis X
  ns : ∀ i, i < L.length → (rw_ X i).n = (rw_ L i).n + gext k t i
  old : ∀ i, i < L.length → Holds H 1 (rw_ L i).v (rw_ L i).n (u8s (mks i (rw_ L i).n))
  eq : ∀ i, i < L.length → gext k t i = 0 → rw_ X i = rw_ L i
  fresh : ∀ i, i < L.length → ∀ r, (rw_ X i).rs = some r → (rw_ L i).rs = some r ∨ H0 r = none
  frame : ∀ b o, H0 b = some o → ¬ rown L b → H b = some o
  kn : ∀ b, H b = none → H0 b = none
theorem Grow.none {H H' : Hp} {rs : Option Nat} (h : Grow H rs H') : ∀ b, H' b = none → H b = none := by
  intro b hb
  rcases h with rfl | ⟨r, o, _, rfl⟩
  · exact hb
  · by_cases e : b = r
    · subst e; rw [zax] at hb; cases hb
    · rwa [zaA _ _ e] at hb
theorem Holds.pref {H : Hp} {E : TypeId} {v : Value} {n m : Nat} {i : Nat} {r : Nat} {cap : Nat} (h : OwnS H E 1 v n (u8s (mks i n)) (some r)) (hm : m ≤ n) : Holds H 1 (.slice (some ⟨r, 0, none⟩) m cap) m (u8s (mks i m)) := by
  obtain ⟨_, ⟨_, _, h0⟩ | ⟨r', cap', c, e1, e2, e3, e4, e5, e6⟩⟩ := h
  · cases h0
  · cases e6
    refine ⟨by simp [mks_len], .inr ⟨r, 0, cap, c, E, _, rfl, e2, by omega, ?_⟩⟩
    have : (c.extract 0 m).toList = (u8s (mks i n)).take m := by
      rw [← e5]; simp [Array.toList_extract, List.extract_eq_take_drop, List.take_take, Nat.min_eq_left hm]
    simp only [Nat.zero_add, Nat.mul_one]
    rw [this, u8s, ← List.map_take, mks_take i hm]
theorem GI.grow {E : TypeId} {H0 H H' : Hp} {L X : List Rw} {k t : Nat} (g : GI E H0 H L X k t) (hk : k < L.length) (hL : ∀ i, i < L.length → (rw_ L i).n = 0 ∨ ∃ r, (rw_ L i).a = some ⟨r, 0, none⟩ ∧ (rw_ L i).rs = some r)
    (hdL : RDis L) (hkn : ∀ i, i < L.length → ∀ r, (rw_ L i).rs = some r → H0 r ≠ none) {a' : Option Addr} {cap' : Nat} {rs' : Option Nat} (hg : Grow H (rw_ X k).rs H') (ho : OwnS H' E 1 (.slice a' ((rw_ X k).n + 1) cap') ((rw_ X k).n + 1) (u8s (mks k (rw_ X k).n) ++ [.int .u8 (mkB k (rw_ X k).n)]) rs')
    (hr : ∀ r, rs' = some r → (rw_ X k).rs = some r ∨ H r = none) : GI E H0 H' L (X.set k ⟨a', (rw_ X k).n + 1, cap', rs'⟩) k (t + 1) := by
  have hkx : k < X.length := by rw [g.len]; exact hk
  have ho' : OwnS H' E 1 (.slice a' ((rw_ X k).n + 1) cap') ((rw_ X k).n + 1) (u8s (mks k ((rw_ X k).n + 1))) rs' := by
    rw [mks_succ, u8s, List.map_append]; exact ho
  -- blocks of other rows stand
  have stay : ∀ i, i < L.length → i ≠ k → ∀ b o, (rw_ X i).rs = some b → H b = some o → H' b = some o := fun i hi hik b o hb hbo =>
    hg.known b o hbo (fun e => g.dis k i hkx (by rw [g.len]; exact hi) (Ne.symm hik) b e hb)
  refine ⟨by simp [g.len], ?_, ?_, ?_, ?_, ?_, ?_, ?_, fun b hb => g.kn b (hg.none b hb)⟩
  · intro i hi
    have hi' : i < L.length := by simp [g.len] at hi; exact hi
    simp only [mksOf, rw_set hkx]
    by_cases e : i = k
    · subst e; simp only [if_true]; exact ho'
    · simp only [if_neg e]; exact (g.rows i (by rw [g.len]; exact hi')).stay (stay i hi' e)
  · intro i j hi hj hij r
    have hi' : i < L.length := by simp [g.len] at hi; exact hi
    have hj' : j < L.length := by simp [g.len] at hj; exact hj
    rw [rw_set hkx, rw_set hkx]
    by_cases e : i = k
    · subst e
      rw [if_pos rfl, if_neg (Ne.symm hij)]
      intro h1 h2
      rcases hr r h1 with h3 | h3
      · exact g.dis i j hkx (by rw [g.len]; exact hj') hij r h3 h2
      · exact (g.rows j (by rw [g.len]; exact hj')).known r h2 h3
    · rw [if_neg e]
      by_cases e2 : j = k
      · subst e2
        rw [if_pos rfl]
        intro h1 h2
        rcases hr r h2 with h3 | h3
        · exact g.dis i j (by rw [g.len]; exact hi') hkx hij r h1 h3
        · exact (g.rows i (by rw [g.len]; exact hi')).known r h1 h3
      · rw [if_neg e2]
        exact g.dis i j (by rw [g.len]; exact hi') (by rw [g.len]; exact hj') hij r
  · intro i hi
    rw [rw_set hkx]
    by_cases e : i = k
    · subst e; rw [if_pos rfl]
      have := g.ns i hi
      simp only [gext, Nat.lt_irrefl, if_false, if_true] at this ⊢; omega
    · rw [if_neg e]
      have := g.ns i hi
      simp only [gext, e, if_false] at this ⊢; exact this
  · intro i hi
    have hold := g.old i hi
    rcases hL i hi with h0 | ⟨r, ha, hrs⟩
    · have e0 : mks i (rw_ L i).n = [] := by rw [h0]; rfl
      refine ⟨by rw [e0, h0]; rfl, .inl ⟨(rw_ L i).a, (rw_ L i).cap, ?_, h0⟩⟩
      rw [Rw.v, h0]
    · by_cases e : i = k
      · subst e
        by_cases e2 : rs' = some r
        · rw [e2] at ho'
          have hle : (rw_ L i).n ≤ (rw_ X i).n + 1 := by have := g.ns i hi; omega
          have := Holds.pref (cap := (rw_ L i).cap) ho' hle
          rw [Rw.v, ha]; exact this
        · rw [Rw.v] at hold ⊢
          refine hold.le' ?_
          intro A o hA hAo
          rw [ha] at hA; cases hA
          rcases hg with rfl | ⟨r2, o2, h2, rfl⟩
          · exact hAo
          · rw [zaA _ _ ?_]; exact hAo
            intro e3
            simp only at e3
            subst e3
            -- the block that was changed is r: so it is the new slice's
            obtain ⟨_, ⟨_, h5, _⟩ | ⟨r4, _, _, _, h6, _, _, _, h7⟩⟩ := ho'
            · omega
            · rcases hr r4 h7 with h8 | h8
              · rcases h2 with h2 | h2
                · rw [h2] at h8; cases h8; exact e2 h7
                · rw [h2] at hAo; cases hAo
              · by_cases e5 : r4 = r
                · subst e5; exact e2 h7
                · rw [zaA _ _ e5, h8] at h6; cases h6
      · rw [Rw.v] at hold ⊢
        refine hold.le' ?_
        intro A o hA hAo
        rw [ha] at hA; cases hA
        refine hg.known _ _ hAo (fun e2 => ?_)
        rcases g.fresh k hk r e2 with h3 | h3
        · exact hdL k i hk hi (Ne.symm e) r h3 hrs
        · exact hkn i hi r hrs h3
  · intro i hi h0
    rw [rw_set hkx]
    by_cases e : i = k
    · subst e; simp [gext] at h0
    · rw [if_neg e]
      refine g.eq i hi ?_
      simpa [gext, e] using h0
  · intro i hi r
    rw [rw_set hkx]
    by_cases e : i = k
    · subst e; rw [if_pos rfl]
      intro h1
      rcases hr r h1 with h3 | h3
      · exact g.fresh i hi r h3
      · exact .inr (g.kn r h3)
    · rw [if_neg e]; exact g.fresh i hi r
  · intro b o hb hn
    refine hg.known b o (g.frame b o hb hn) (fun e => ?_)
    rcases g.fresh k hk b e with h3 | h3
    · exact hn ⟨k, hk, h3⟩
    · rw [hb] at h3; cases h3
theorem GI.next {E : TypeId} {H0 H : Hp} {L X : List Rw} {k : Nat} (g : GI E H0 H L X k 10) : GI E H0 H L X (k + 1) 0 := by
  have e : ∀ i, gext (k + 1) 0 i = gext k 10 i := fun i => by
    unfold gext
    by_cases h : i < k
    · rw [if_pos h, if_pos (by omega)]
    · by_cases h2 : i = k
      · rw [if_pos (by omega), if_neg h, if_pos h2]
      · rw [if_neg (by omega), if_neg h, if_neg h2]; simp
  exact ⟨g.len, g.rows, g.dis, fun i hi => by rw [e]; exact g.ns i hi, g.old, fun i hi h => g.eq i hi (by rw [← e]; exact h), g.fresh, g.frame, g.kn⟩
theorem GI.keep {E : TypeId} {H0 H H' : Hp} {L X : List Rw} {k t : Nat} (g : GI E H0 H L X k t) (hs : ∀ b o, H b = some o → (rown L b ∨ rown X b ∨ H0 b ≠ none) → H' b = some o)
    (hL : ∀ i, i < L.length → (rw_ L i).n = 0 ∨ ∃ r, (rw_ L i).a = some ⟨r, 0, none⟩ ∧ (rw_ L i).rs = some r) (hk : ∀ b, H' b = none → H b = none) : GI E H0 H' L X k t := by
  refine ⟨g.len, fun i hi => (g.rows i hi).stay (fun b o hb ho => hs b o ho (.inr (.inl ⟨i, hi, hb⟩))), g.dis, g.ns, fun i hi => ?_, g.eq, g.fresh, fun b o hb hn => hs b o (g.frame b o hb hn) (.inr (.inr (by rw [hb]; simp))), fun b hb => g.kn b (hk b hb)⟩
  rcases hL i hi with h0 | ⟨r, ha, hrs⟩
  · have e0 : mks i (rw_ L i).n = [] := by rw [h0]; rfl
    refine ⟨by rw [e0, h0]; rfl, .inl ⟨(rw_ L i).a, (rw_ L i).cap, ?_, h0⟩⟩
    rw [Rw.v, h0]
  · have hold := g.old i hi
    rw [Rw.v] at hold ⊢
    refine hold.le' ?_
    intro A o hA hAo
    rw [ha] at hA; cases hA
    exact hs _ _ hAo (.inl ⟨i, hi, hrs⟩)
theorem upd_none {H : Hp} {x b : Nat} {o : Obj} (h : H.upd x o b = none) : H b = none := by
  by_cases e : b = x
  · subst e; rw [zax] at h; cases h
  · rwa [zaA _ _ e] at h
theorem GI.new {E : TypeId} {H0 H : Hp} {L X : List Rw} {k t : Nat} (g : GI E H0 H L X k t) (hL : ∀ i, i < L.length → (rw_ L i).n = 0 ∨ ∃ r, (rw_ L i).a = some ⟨r, 0, none⟩ ∧ (rw_ L i).rs = some r) {b : Nat} (hb : H b = none) (o : Obj) : GI E H0 (H.upd b o) L X k t :=
  g.keep (fun x o' hx _ => (zaA _ _ (zai hx hb)).trans hx) hL (fun _ h => upd_none h)
theorem RowsC.form {E : TypeId} {H : Hp} {L : List Rw} {C : Nat → List Int} (h : RowsC E H L C) : ∀ i, i < L.length → (rw_ L i).n = 0 ∨ ∃ r, (rw_ L i).a = some ⟨r, 0, none⟩ ∧ (rw_ L i).rs = some r := by
  intro i hi
  by_cases e : (rw_ L i).n = 0
  · exact .inl e
  · obtain ⟨r, c, h1, h2, _⟩ := h.row hi (by omega)
    exact .inr ⟨r, h1, h2⟩
theorem zbi {P : Program} {H : Hp} {t e : TypeId} (hu : P.underlying t = some (.slice e)) {m : Nat} (hs : szOf P e = some m) {a : Option Addr} {b o n cap : Nat} (ha : a = some ⟨b, o, none⟩) {k : IntKind} {i : Int} (h0 : 0 ≤ i) (h1 : i < n) {K : Value → Hp → Prop}
    (h : K (.pointer (some ⟨b, o + i.toNat * m, none⟩)) H) : Lt P (Instr.indexAt t (.slice a n cap) (.int k i)) H K := by
  subst ha
  refine Lt_indexS hu hs h0 h1 ?_
  rw [zap]; exact h
end Go.Proofs.Ytcjdkfhmlnfedaa.HL
end
section
namespace Go.Proofs.Ytcjdkfhmlnfedaa.HL
open Go Go.Proofs
set_option linter.unusedSimpArgs false
set_option linter.unusedVariables false
attribute [local irreducible] Lt Lq CW OW TW CallH
theorem foldl_put : ∀ (l : List Value) (k off : Nat) (c : Array Value), (l.zipIdx k).foldl (fun cs (p : Value × Nat) => cs.setIfInBounds (off + p.2) p.1) c = putCells c (off + k) l
  | [], _, _, _ => rfl
  | v :: r, k, off, c => by
    simp only [List.zipIdx_cons, List.foldl_cons, putCells]
    rw [foldl_put r (k + 1) off]; rfl
theorem fill_many {place : Nat → Option (Nat × Nat)} {c : Array Value} {i off n : Nat} {v : Value} {l : List Value} {r : List (Nat × Value)} (hp : place i = some (off, n)) (hv : v.cells = l.toArray) (hn : l.length = n) (ho : off + n ≤ c.size) : Instr.fill place c ((i, v) :: r) = Instr.fill place (putCells c off l) r := by
  simp only [Instr.fill, hp, hv]
  rw [if_neg (by simp; omega)]
  congr 1
  rw [← Array.foldl_toList, Array.toList_zipIdx]
  exact foldl_put l 0 off c
theorem put_one {a : Value} {z l : List Value} (h : z.length = l.length) : putCells (a :: z).toArray 1 l = (a :: l).toArray := by
  apply Array.ext'
  rw [putCells_toList l _ 1 (by simp; omega)]
  rw [List.drop_eq_nil_of_le (by simp; omega)]; simp
theorem bw_ok (H : Hp) (K : Value → Hp → Prop) (i : Int) (x : Sec) : Lt Try.prog (Instr.build 120 #[(0, .int .i64 i), (1, .agg x.c.toArray)]) H K = K (.agg (Wt.c ⟨i, x⟩).toArray) H := by
  rw [bp120]
  rw [fill_one rfl rfl (by simp)]
  rw [fill_many (l := x.c) (n := 64) rfl rfl x.len (by simp), fill_nil, zal]
  simp only [List.setIfInBounds_toArray, List.set_cons_zero]
  rw [put_one (by rw [x.len]; rfl)]
theorem wt_holds {H : Hp} {b : Nat} {w : Wt} (hb : H b = some (.cells w.c.toArray 120)) : Holds H 65 (.slice (some ⟨b, 0, none⟩) 1 1) 1 w.c := by
  refine ⟨by rw [Wt.len], .inr ⟨b, 0, 1, _, _, _, rfl, hb, by simp [Sec.h], ?_⟩⟩
  rw [Array.toList_extract, List.extract_eq_take_drop]
  exact List.take_of_length_le (by rw [List.drop_zero, Wt.len]; omega)
theorem SX.mono {F K : Hp} {p : Nat} {s : St} {r cap : Nat} {bs : List Nat} {Fs : Nat → Hp} (h : SX F p s r cap bs Fs) (k : Le F K) : SX K p s r cap bs Fs :=
  ⟨k _ _ h.hd, h.len, h.own.le k, h.dev, fun i hi => Le.trans (h.le i hi) k, h.fp, h.sep⟩
theorem SX.ne {F : Hp} {p : Nat} {s : St} {r cap : Nat} {bs : List Nat} {Fs : Nat → Hp} (h : SX F p s r cap bs Fs) : r ≠ p := by
  obtain ⟨_, ⟨h0, _, _⟩ | ⟨r', cc, c, h1, h2, _⟩⟩ := h.own
  · cases h0
  · injection h1 with h1 _ _
    injection h1 with h1
    injection h1 with h1 _ _
    subst h1
    intro e; subst e
    rw [h.hd] at h2; injection h2 with h2; injection h2 with _ h2; revert h2; decide
theorem SX.put2 {F K : Hp} {p : Nat} {s t : St} {r cap : Nat} {bs : List Nat} {Fs : Nat → Hp} (h : SX F p s r cap bs Fs) {i : Nat} (hi : i < s.dv.length) {Fi : Hp} {d : Dv} (hd : DvX Fi (bs.getD i 0) d) (ht : t.dv = s.dv.set i d)
    (hK : K p = some (.cells #[.int .i64 t.steps, .int .i64 t.left, .bool t.armed, .bool t.gone, .slice (some ⟨r, 0, none⟩) s.dv.length cap] 78)) (hle : Le Fi K) (hkeep : ∀ x o, F x = some o → Fs i x = none → x ≠ p → K x = some o) (hnew : ∀ x, Fi x ≠ none → Fs i x ≠ none ∨ F x = none) : ∃ Fs', SX K p t r cap bs Fs' ∧ Fs' = (fun j => if j = i then Fi else Fs j) := by
  have hl : t.dv.length = s.dv.length := by rw [ht]; simp
  have hFp : ∀ x, F x ≠ none → Fs i x = none → Fi x = none := fun x hx hn => by
    cases hc : Fi x with
    | none => rfl
    | some o => rcases hnew x (by rw [hc]; simp) with h1 | h1
                · exact absurd hn h1
                · exact absurd h1 hx
  have hr : F r ≠ none := h.own.known r rfl
  refine ⟨fun j => if j = i then Fi else Fs j, ⟨by rw [hl]; exact hK, by rw [hl]; exact h.len, ?_, ?_, ?_, ?_, ?_⟩, rfl⟩
  · rw [hl]; exact h.own.stay (fun b o hb ho => by cases hb; exact hkeep r o ho (h.fp i hi).2 h.ne)
  · intro j hj
    rw [hl] at hj
    by_cases e : j = i
    · subst e; simp only [if_true]; rw [ht]; simpa [List.getD_eq_getElem?_getD, List.getElem?_set_self hi] using hd
    · simp only [if_neg e]; rw [ht]
      have := h.dev j hj
      simpa [List.getD_eq_getElem?_getD, List.getElem?_set_ne (Ne.symm e)] using this
  · intro j hj
    rw [hl] at hj
    by_cases e : j = i
    · subst e; simp only [if_true]; exact hle
    · simp only [if_neg e]
      intro x o hx
      refine hkeep x o (h.le j hj x o hx) (h.sep j i hj hi e x (by rw [hx]; simp)) (fun e2 => by subst e2; rw [(h.fp j hj).1] at hx; cases hx)
  · intro j hj
    rw [hl] at hj
    by_cases e : j = i
    · subst e; simp only [if_true]
      exact ⟨hFp p (by rw [h.hd]; simp) (h.fp j hj).1, hFp r hr (h.fp j hj).2⟩
    · simp only [if_neg e]; exact h.fp j hj
  · intro j k hj hk hjk x hx
    rw [hl] at hj hk
    by_cases e : j = i
    · subst e
      simp only [if_true] at hx
      simp only [if_neg (Ne.symm hjk)]
      rcases hnew x hx with h1 | h1
      · exact h.sep j k hj hk hjk x h1
      · exact zaj (h.le k hk) h1
    · simp only [if_neg e] at hx
      by_cases e2 : k = i
      · subst e2
        simp only [if_true]
        refine hFp x ?_ (h.sep j k hj hk hjk x hx)
        cases hc : Fs j x with
        | none => exact absurd hc hx
        | some o => rw [h.le j hj x o hc]; simp
      · simp only [if_neg e2]; exact h.sep j k hj hk hjk x hx
theorem SX.put {F K : Hp} {p : Nat} {s t : St} {r cap : Nat} {bs : List Nat} {Fs : Nat → Hp} (h : SX F p s r cap bs Fs) {i : Nat} (hi : i < s.dv.length) {Fi : Hp} {d : Dv} (hd : DvX Fi (bs.getD i 0) d) (ht : t.dv = s.dv.set i d)
    (hK : K p = some (.cells #[.int .i64 t.steps, .int .i64 t.left, .bool t.armed, .bool t.gone, .slice (some ⟨r, 0, none⟩) s.dv.length cap] 78)) (hle : Le Fi K) (hkeep : ∀ x o, F x = some o → Fs i x = none → x ≠ p → K x = some o) (hnew : ∀ x, Fi x ≠ none → Fs i x ≠ none ∨ F x = none) : SetX K p t := by
  obtain ⟨Fs', h', _⟩ := h.put2 hi hd ht hK hle hkeep hnew
  exact ⟨r, cap, bs, Fs', h'⟩
theorem SX.head {F K : Hp} {p : Nat} {s t : St} {r cap : Nat} {bs : List Nat} {Fs : Nat → Hp} (h : SX F p s r cap bs Fs) (ht : t.dv = s.dv)
    (hK : K p = some (.cells #[.int .i64 t.steps, .int .i64 t.left, .bool t.armed, .bool t.gone, .slice (some ⟨r, 0, none⟩) s.dv.length cap] 78)) (hkeep : ∀ x o, F x = some o → x ≠ p → K x = some o) : SX K p t r cap bs Fs := by
  refine ⟨by rw [ht]; exact hK, by rw [ht]; exact h.len, by rw [ht]; exact h.own.stay (fun b o hb ho => by cases hb; exact hkeep r o ho h.ne), by rw [ht]; exact h.dev, ?_, by rw [ht]; exact h.fp, by rw [ht]; exact h.sep⟩
  rw [ht]
  exact fun i hi x o hx => hkeep x o (h.le i hi x o hx) (fun e => by subst e; rw [(h.fp i hi).1] at hx; cases hx)
theorem DvX.put {K : Hp} {b m : Nat} {d : Dv} {w : Wt} {es : Array MapEntry} {c : Nat} {wv' : Value} {wrs' : Option Nat} (hb : K b = some (.cells #[.int .i64 d.size, .map (some m), wv'] 83)) (hm : K m = some (.map es c)) (hs : MapS es d.sure) (ho : OwnS K 120 65 wv' (d.wait.length + 1) (wts d.wait ++ w.c) wrs') :
    ∃ Fi, DvX Fi b (d.put w) ∧ Le Fi K ∧ ∀ x, Fi x ≠ none → x = b ∨ x = m ∨ wrs' = some x := by
  refine ⟨fun x => if x = b ∨ x = m ∨ wrs' = some x then K x else none, ⟨m, es, c, wv', wrs', by simpa [Dv.put] using hb, by simpa using hm, hs, ?_, fun x hx => ?_⟩, fun x o hx => ?_, fun x hx => ?_⟩
  · have e : wts (d.put w).wait = wts d.wait ++ w.c := by simp [Dv.put, wts]
    have e2 : (d.put w).wait.length = d.wait.length + 1 := by simp [Dv.put]
    rw [e, e2]
    exact ho.stay (fun b o hb ho => by simp [hb, ho])
  · by_cases h : x = b ∨ x = m ∨ wrs' = some x
    · exact h
    · simp [h] at hx
  · by_cases h : x = b ∨ x = m ∨ wrs' = some x
    · simpa [h] using hx
    · simp [h] at hx
  · by_cases h : x = b ∨ x = m ∨ wrs' = some x
    · exact h
    · simp [h] at hx
theorem has_dev (H : Hp) (p : Nat) (s : St) (rd cap : Nat) (bs : List Nat) (Fs : Nat → Hp) (h : SX H p s rd cap bs Fs) (dev i : Int) : CallH Try.prog 47 #[devV s bs dev, .int .i64 i] H (fun v H' => v = .bool (s.has dev i) ∧ H' = H) := by
  unfold devV St.has
  by_cases hin : 0 ≤ dev ∧ dev < s.dv.length
  · rw [if_pos hin]
    obtain ⟨m, wv, hb⟩ := (h.dev dev.toNat (by omega)).blk
    refine (has_ok H _ _ _ _ (h.le dev.toNat (by omega) _ _ hb) i).mono ?_
    rintro v H' ⟨rfl, rfl⟩
    exact ⟨by simp [hin], rfl⟩
  · rw [if_neg hin]
    refine (has_nil H i).mono ?_
    rintro v H' ⟨rfl, rfl⟩
    exact ⟨by simp [hin], rfl⟩
set_option maxRecDepth 100000 in
set_option maxHeartbeats 4000000 in
theorem write_ok (H : Hp) (p : Nat) (s : St) (rd cap : Nat) (bs : List Nat) (Fs : Nat → Hp) (h : SX H p s rd cap bs Fs) (hl : s.dv.length ≤ 1000) (hw : ∀ i, (s.dv.getD i default).wait.length ≤ 1000000) (dev i : Int) (x : Sec) : CallH Try.prog 21 #[(.pointer (some ⟨p, 0, none⟩)), .int .i64 dev, .int .i64 i, x.v] H (fun v H' => v = errV (s.wr dev i x).2 ∧ SetX H' p (s.wr dev i x).1) := by
 refine zaB (l := [_, _, _, _]) (rl := [.tmp 8]) (n := 43) Try.func21 rfl rfl rfl rfl rfl ?_
 simp only [envOf, Nat.reduceAdd]
 refine zad (fun K1 hK1 => ?_)
 refine zaa ?_
 refine zac (fun K hK r => ?_)
 simp only [x_box, Value.cells, eX, ↓reduceIte, Nat.reduceEqDiff, Int.reduceToNat]
 intro b7 hb7
 have f7_H : H b7 = none := zaj lhA hb7
 have h7 := h.mono (le_upd H b7 (.cells x.c.toArray 45) hb7)
 have k7p := h7.hd
 try simp only [eX, ↓reduceIte, Nat.reduceEqDiff, Int.reduceToNat]
 refine hK _ _ ?_; clear hK K
 refine zao rfl ?_
 refine zae ?_
 try simp only [Ex.thnH, Ex.inBlockH, ↓reduceIte, Nat.reduceEqDiff]
 refine hK1 _ _ ?_; try clear hK1 K1
 refine zad (fun K2 hK2 => ?_)
 refine zaa ?_
 refine zam rfl ?_
 refine zam rfl ?_
 refine zac (fun K hK r => ?_)
 simp only [zaT _ bd46, List.map_toArray, List.map_cons, List.map_nil, eX, ↓reduceIte, Nat.reduceEqDiff, Int.reduceToNat]
 refine (device_ok _ p s rd cap bs Fs h7 dev hl).mono ?_
 rintro v H' ⟨rfl, rfl⟩
 try simp only [eX, ↓reduceIte, Nat.reduceEqDiff, Int.reduceToNat]
 refine hK _ _ ?_; clear hK K
 refine zao rfl ?_
 refine zae ?_
 try simp only [Ex.thnH, Ex.inBlockH, ↓reduceIte, Nat.reduceEqDiff]
 refine hK2 _ _ ?_; try clear hK2 K2
 refine zad (fun K3 hK3 => ?_)
 refine zaV ?_
 refine zad (fun K4 hK4 => ?_)
 refine zaa ?_
 refine zam rfl ?_
 refine zac (fun K hK r => ?_)
 simp only [zaF, zaH, g_bool, zbo, zbk, g_slice, g_map, g_func, zbl, g_iface, zbe, g_nil_r, g_nil_l, eX, ↓reduceIte, Nat.reduceEqDiff, Int.reduceToNat]
 rw [e_eql _ _ _ _ (by simp)]
 rw [q_equal]
 first | rw [q_ptr_nil _ _ _ Try.underlying31] | rw [q_nil_ptr _ _ _ Try.underlying31]
 try simp only [eX, ↓reduceIte, Nat.reduceEqDiff, Int.reduceToNat]
 refine hK _ _ ?_; clear hK K
 refine zao rfl ?_
 refine zae ?_
 try simp only [Ex.thnH, Ex.inBlockH, ↓reduceIte, Nat.reduceEqDiff]
 refine hK4 _ _ ?_; try clear hK4 K4
 refine zaG (fun r => rfl) (fun c14 => ?_) (fun c14 => ?_)
 ·first
  |(exfalso; exact cnA c14; done)
  |skip
   (try simp only [decide_eq_true_eq, decide_eq_false_iff_not, Bool.not_eq_true, Bool.not_eq_false, Bool.and_eq_true, Bool.or_eq_true, Bool.or_eq_false_iff, Bool.not_eq_eq_eq_not, Bool.not_true, Bool.not_false] at c14)
   refine zad (fun K5 hK5 => ?_)
   refine zaa ?_
   refine zac (fun K hK r => ?_)
   simp only [zbf, zbg, Try.underlying73, zal, eX, ↓reduceIte, Nat.reduceEqDiff, Int.reduceToNat]
   refine hK _ _ ?_; clear hK K
   refine zao rfl ?_
   refine zae ?_
   try simp only [Ex.thnH, Ex.inBlockH, ↓reduceIte, Nat.reduceEqDiff]
   refine hK5 _ _ ?_; try clear hK5 K5
   refine zaR ?_
   try simp only [Ex.thnH, Ex.inBlockH, ↓reduceIte, Nat.reduceEqDiff]
   skip
 ·first
  |(exfalso; exact cnA c14; done)
  |skip
   (try simp only [decide_eq_true_eq, decide_eq_false_iff_not, Bool.not_eq_true, Bool.not_eq_false, Bool.and_eq_true, Bool.or_eq_true, Bool.or_eq_false_iff, Bool.not_eq_eq_eq_not, Bool.not_true, Bool.not_false] at c14)
   refine zad (fun K6 hK6 => ?_)
   refine zaa ?_
   refine zam rfl ?_
   refine zam rfl ?_
   refine zac (fun K hK r => ?_)
   simp only [zaT _ bd47, List.map_toArray, List.map_cons, List.map_nil, eX, ↓reduceIte, Nat.reduceEqDiff, Int.reduceToNat]
   refine (has_dev _ p s rd cap bs Fs h7 dev i).mono ?_
   rintro v H' ⟨rfl, rfl⟩
   try simp only [eX, ↓reduceIte, Nat.reduceEqDiff, Int.reduceToNat]
   refine hK _ _ ?_; clear hK K
   refine zac (fun K hK r => ?_)
   simp only [x_un, u_not, eX, ↓reduceIte, Nat.reduceEqDiff, Int.reduceToNat]
   refine hK _ _ ?_; clear hK K
   refine zao rfl ?_
   refine zae ?_
   try simp only [Ex.thnH, Ex.inBlockH, ↓reduceIte, Nat.reduceEqDiff]
   refine hK6 _ _ ?_; try clear hK6 K6
   refine zaG (fun r => rfl) (fun c18 => ?_) (fun c18 => ?_)
   ·first
    |(exfalso; exact cnA c18; done)
    |skip
     (try simp only [decide_eq_true_eq, decide_eq_false_iff_not, Bool.not_eq_true, Bool.not_eq_false, Bool.and_eq_true, Bool.or_eq_true, Bool.or_eq_false_iff, Bool.not_eq_eq_eq_not, Bool.not_true, Bool.not_false] at c18)
     have hno : s.has dev i = false := by simpa using c18
     refine zad (fun K7 hK7 => ?_)
     refine zaa ?_
     refine zac (fun K hK r => ?_)
     simp only [zbf, zbg, Try.underlying73, zal, eX, ↓reduceIte, Nat.reduceEqDiff, Int.reduceToNat]
     refine hK _ _ ?_; clear hK K
     refine zao rfl ?_
     refine zae ?_
     try simp only [Ex.thnH, Ex.inBlockH, ↓reduceIte, Nat.reduceEqDiff]
     refine hK7 _ _ ?_; try clear hK7 K7
     refine zaR ?_
     try simp only [Ex.thnH, Ex.inBlockH, ↓reduceIte, Nat.reduceEqDiff]
     refine ⟨[_], ⟨rfl, trivial⟩, _, Le.refl _, ?_, ?_⟩
     ·show _ = errV _
      unfold St.wr; rw [if_neg (by rw [hno]; simp)]; rfl
     ·unfold St.wr; rw [if_neg (by rw [hno]; simp)]; exact ⟨rd, cap, bs, Fs, h7⟩
   ·first
    |(exfalso; exact cnA c18; done)
    |skip
     (try simp only [decide_eq_true_eq, decide_eq_false_iff_not, Bool.not_eq_true, Bool.not_eq_false, Bool.and_eq_true, Bool.or_eq_true, Bool.or_eq_false_iff, Bool.not_eq_eq_eq_not, Bool.not_true, Bool.not_false] at c18)
     have hyes : s.has dev i = true := by simpa using c18
     have hin : 0 ≤ dev ∧ dev < s.dv.length := by unfold St.has at hyes; simp at hyes; omega
     have hk : dev.toNat < s.dv.length := by omega
     have hdv : devV s bs dev = ptrV (bs.getD dev.toNat 0) := by unfold devV; rw [if_pos hin]
     rw [hdv]
     obtain ⟨b, hbd⟩ : ∃ b, b = bs.getD dev.toNat 0 := ⟨_, rfl⟩
     rw [← hbd]
     obtain ⟨m, es, c, wv, wrs, hb0, hm0, hms, how, hdom⟩ := hbd ▸ h.dev dev.toNat hk
     have hle := h.le dev.toNat hk
     have hfp := h.fp dev.toNat hk
     have hbp : b ≠ p := fun e => by rw [e, hfp.1] at hb0; cases hb0
     have hmp : m ≠ p := fun e => by rw [e, hfp.1] at hm0; cases hm0
     have hb7' : b ≠ b7 := zai (hle _ _ hb0) hb7
     have hm7' : m ≠ b7 := zai (hle _ _ hm0) hb7
     have hp7 : p ≠ b7 := zai h.hd hb7
     have kb := hle _ _ hb0
     have km := hle _ _ hm0
     obtain ⟨wa, wcp, rfl⟩ := how.holds.form
     refine zaO ?_
     try simp only [Ex.thnH, Ex.inBlockH, ↓reduceIte, Nat.reduceEqDiff]
     refine hK3 _ _ ?_; try clear hK3 K3
     refine zad (fun K8 hK8 => ?_)
     refine zad (fun K9 hK9 => ?_)
     refine zaa ?_
     refine zam rfl ?_
     refine zac (fun K hK r => ?_)
     rw [zbh _ _ rfl]
     simp only [eX, ↓reduceIte, Nat.reduceEqDiff, Int.reduceToNat]
     refine hK _ _ ?_; clear hK K
     refine zac (fun K hK r => ?_)
     simp only [zah, fa78_0, zap, Nat.reduceAdd, Nat.zero_add, eX, ↓reduceIte, Nat.reduceEqDiff, Int.reduceToNat]
     refine hK _ _ ?_; clear hK K
     refine zac (fun K hK r => ?_)
     simp only [zaT _ bd48, List.map_toArray, List.map_cons, List.map_nil, eX, ↓reduceIte, Nat.reduceEqDiff, Int.reduceToNat]
     refine (step_ok _ p s _ h7.hd).mono ?_
     rintro v H' ⟨rfl, rfl⟩
     try simp only [eX, ↓reduceIte, Nat.reduceEqDiff, Int.reduceToNat]
     refine hK _ _ ?_; clear hK K
     refine zao rfl ?_
     refine zae ?_
     try simp only [Ex.thnH, Ex.inBlockH, ↓reduceIte, Nat.reduceEqDiff]
     refine hK9 _ _ ?_; try clear hK9 K9
     refine zad (fun K10 hK10 => ?_)
     refine zaa ?_
     refine zam rfl ?_
     refine zac (fun K hK r => ?_)
     simp only [zaF, zaH, g_bool, zbo, zbk, g_slice, g_map, g_func, zbl, g_err, g_iface, zbe, g_nil_r, g_nil_l, eX, ↓reduceIte, Nat.reduceEqDiff, Int.reduceToNat]
     first | rw [b_err_neq _ _ Try.underlying33] | (rw [e_neq _ _ _ _ (by simp), q_equal]; first | rw [q_iface_nil _ _ _ Try.underlying33] | rw [q_nil_iface _ _ _ Try.underlying33] | rw [q_nil_nil _ _ _ Try.underlying33])
     try simp only [eX, ↓reduceIte, Nat.reduceEqDiff, Int.reduceToNat]
     refine hK _ _ ?_; clear hK K
     refine zae ?_
     try simp only [Ex.thnH, Ex.inBlockH, ↓reduceIte, Nat.reduceEqDiff]
     refine hK10 _ _ ?_; try clear hK10 K10
     refine zaG (fun r => rfl) (fun c29 => ?_) (fun c29 => ?_)
     ·first
      |(exfalso; exact cnA c29; done)
      |skip
       (try simp only [decide_eq_true_eq, decide_eq_false_iff_not, Bool.not_eq_true, Bool.not_eq_false, Bool.and_eq_true, Bool.or_eq_true, Bool.or_eq_false_iff, Bool.not_eq_eq_eq_not, Bool.not_true, Bool.not_false] at c29)
       have hst : s.step.2 = false := by cases hc : s.step.2 with
        |false => rfl
        |true => rw [hc] at c29; simp at c29
       refine zad (fun K11 hK11 => ?_)
       refine zaa ?_
       refine zam rfl ?_
       refine zao rfl ?_
       refine zae ?_
       try simp only [Ex.thnH, Ex.inBlockH, ↓reduceIte, Nat.reduceEqDiff]
       refine hK11 _ _ ?_; try clear hK11 K11
       refine zaR ?_
       try simp only [Ex.thnH, Ex.inBlockH, ↓reduceIte, Nat.reduceEqDiff]
       have hwr : s.wr dev i x = (s.step.1, some 3) := by
        unfold St.wr; rw [if_pos hyes]
        generalize hq : s.step = q at *
        obtain ⟨t, bb⟩ := q
        simp only at hst; subst hst; rfl
       refine ⟨[_], ⟨rfl, trivial⟩, _, Le.refl _, ?_, ?_⟩
       ·rw [hwr, hst]; rfl
       ·rw [hwr]; exact ⟨rd, cap, bs, Fs, h7.head (step_dv s) (zax _ _ _) (fun z o hz hzp => (zaA _ _ hzp).trans hz)⟩
     ·first
      |(exfalso; exact cnA c29; done)
      |skip
       (try simp only [decide_eq_true_eq, decide_eq_false_iff_not, Bool.not_eq_true, Bool.not_eq_false, Bool.and_eq_true, Bool.or_eq_true, Bool.or_eq_false_iff, Bool.not_eq_eq_eq_not, Bool.not_true, Bool.not_false] at c29)
       have hst : s.step.2 = true := by cases hc : s.step.2 with
        |true => rfl
        |false => rw [hc] at c29; simp at c29
       have hwl := hw dev.toNat
       refine zaO ?_
       try simp only [Ex.thnH, Ex.inBlockH, ↓reduceIte, Nat.reduceEqDiff]
       refine hK8 _ _ ?_; try clear hK8 K8
       refine zad (fun K12 hK12 => ?_)
       obtain ⟨R9, hR9⟩ : ∃ R : Hp, R = (emptyHp.upd b (.cells #[.int .i64 (s.dv.getD dev.toNat default).size, .map (some m), .slice wa (s.dv.getD dev.toNat default).wait.length wcp] 83)).upd b7 (.cells x.c.toArray 45) := ⟨_, rfl⟩
       refine CW_drawR [0, 0, 0, 0, 1, 0, 1, 0, 2, 2, 0, 0, 3] [0, 1, 2, 3, 4, 5, 6, 7, 8, 9, 10, 11, 12] R9 (by kernel_rfl) (by kernel_rfl) (by subst hR9; exact le_put (le_put (le_empty _) hbA) hbA) (fun lR9 => ?_)
       apply zay rfl (zab (by decide)) rfl
       ·intro r
        simp only [zaU, eX, ↓reduceIte, Nat.reduceEqDiff]
        exact ⟨rfl, Le.refl _⟩
       simp only [eX, ↓reduceIte, Nat.reduceEqDiff, Int.reduceToNat]
       apply zay rfl (zab (by decide)) rfl
       ·intro r
        simp only [zaU, eX, ↓reduceIte, Nat.reduceEqDiff]
        exact ⟨rfl, Le.refl _⟩
       simp only [eX, ↓reduceIte, Nat.reduceEqDiff, Int.reduceToNat]
       apply zay rfl (zab (by decide)) rfl
       ·intro r
        rw [zbh _ _ rfl]
        exact ⟨rfl, Le.refl _⟩
       simp only [eX, ↓reduceIte, Nat.reduceEqDiff, Int.reduceToNat]
       apply zay rfl (zab (by decide)) rfl
       ·intro r
        simp only [zah, fa83_2, zap, Nat.reduceAdd, Nat.zero_add, eX, ↓reduceIte, Nat.reduceEqDiff]
        exact ⟨rfl, Le.refl _⟩
       simp only [eX, ↓reduceIte, Nat.reduceEqDiff, Int.reduceToNat]
       apply TW_look rfl (zab (by decide)) rfl
       ·intro r
        simp only [zan, eX, ↓reduceIte, Nat.reduceEqDiff]
        refine zak Try.underlying81 rfl hbA ldA ?_
        exact ⟨rfl, Le.refl _⟩
       simp only [eX, ↓reduceIte, Nat.reduceEqDiff, Int.reduceToNat]
       apply zay rfl (zab (by decide)) rfl
       ·intro r
        simp only [zaU, eX, ↓reduceIte, Nat.reduceEqDiff]
        exact ⟨rfl, Le.refl _⟩
       simp only [eX, ↓reduceIte, Nat.reduceEqDiff, Int.reduceToNat]
       apply TW_look rfl (zab (by decide)) rfl
       ·intro r
        simp only [zan, eX, ↓reduceIte, Nat.reduceEqDiff]
        refine zaN Try.underlying45 rfl sz45 hbA (by simp [x.h]) ?_
        exact ⟨rfl, Le.refl _⟩
       simp only [eX, ↓reduceIte, Nat.reduceEqDiff, Int.reduceToNat]
       apply zay rfl (zab (by decide)) rfl
       ·intro r
        simp only [x_build, List.map_toArray, List.map_cons, List.map_nil, eX, ↓reduceIte, Nat.reduceEqDiff]
        rw [bw_ok]
        exact ⟨rfl, Le.refl _⟩
       simp only [eX, ↓reduceIte, Nat.reduceEqDiff, Int.reduceToNat]
       refine TW_chain rfl (zab (by decide)) rfl (fun K hK r => ?_)
       simp only [zbn, List.map_toArray, List.map_cons, List.map_nil, eX, ↓reduceIte, Nat.reduceEqDiff, Int.reduceToNat]
       refine zbm (vs := [.agg (Wt.c ⟨i, x⟩).toArray]) Try.underlying81 sz120 zr120 rfl (fun v hv => by simp at hv; subst hv; show (Wt.c ⟨i, x⟩).toArray.size = 65; simp [Sec.h]) (by first | decide | (simp; done)) ?_
       simp only [List.flatMap_cons, List.flatMap_nil, Value.cells, List.append_nil]
       intro b39 hb39
       have n39b : b ≠ b39 := zai hbA hb39
       have n39b7 : b7 ≠ b39 := zai hbA hb39
       have n39p : p ≠ b39 := zai hbA hb39
       have f39_R9 : R9 b39 = none := zaj lR9 hb39
       refine hK _ _ leA ?_; clear hK K
       refine TW_chain rfl (zab (by decide)) rfl (fun K hK r => ?_)
       simp only [zaM, l_append, List.map_toArray, List.map_cons, List.map_nil, eX, ↓reduceIte, Nat.reduceEqDiff, Int.reduceToNat]
       have how40 : OwnS ((H.upd b7 (.cells x.c.toArray 45)).upd p (.cells #[.int .i64 s.step.1.steps, .int .i64 s.step.1.left, .bool s.step.1.armed, .bool s.step.1.gone, .slice (some ⟨rd, 0, none⟩) s.dv.length cap] 78)) 120 65 (.slice wa (s.dv.getD dev.toNat default).wait.length wcp) (s.dv.getD dev.toNat default).wait.length (wts (s.dv.getD dev.toNat default).wait) wrs := (how.le hle).stay (fun z o hz ho => by
        have hzp : z ≠ p := fun e => by subst e; have := how.known z hz; rw [hfp.1] at this; exact this rfl
        rw [zaA _ _ hzp, zaA _ _ (zai ho hb7)]; exact ho)
       refine Lt_append Try.underlying81 Try.underlying81 (by simp) sz120 by120 (by decide) zr120 rfl _ (n := (s.dv.getD dev.toNat default).wait.length) (m := 1) (ds := Wt.c ⟨i, x⟩) (how40.make hb39) (fun Kx => len_slice _ _ _ Kx) (fun Kx => first_slice (w := 65) (n := 1) (cs := Wt.c ⟨i, x⟩) (wt_holds (w := ⟨i, x⟩) hbA) Kx) (by rw [Wt.len]) (Wt.plain _) (by omega) ?_
       intro v40 H40 rs40 hg40 ho40 hr40
       obtain ⟨wa40, wc40, rfl⟩ := ho40.holds.form
       have hwb : wrs ≠ some b := fun e => by
        obtain ⟨_, ⟨_, _, h0⟩ | ⟨r', cc, c', _, h2, _, _, _, h3⟩⟩ := how
        ·rw [e] at h0; cases h0
        ·rw [e] at h3; cases h3; rw [hb0] at h2; injection h2 with h2; injection h2 with _ h2; revert h2; decide
       have hw7 : wrs ≠ some b7 := fun e => how.known b7 e (zaj hle hb7)
       have hwp : wrs ≠ some p := fun e => how.known p e hfp.1
       have hwm : wrs ≠ some m := fun e => by
        obtain ⟨_, ⟨_, _, h0⟩ | ⟨r', cc, c', _, h2, _, _, _, h3⟩⟩ := how
        ·rw [e] at h0; cases h0
        ·rw [e] at h3; cases h3; rw [hm0] at h2; cases h2
       have hbm : b ≠ m := fun e => by rw [e, hm0] at hb0; cases hb0
       have kb40 := hg40.known b _ hbA hwb
       have k740 := hg40.known b7 _ hbA hw7
       have kp40 := hg40.known p _ hbA hwp
       have lR40 : Le R9 H40 := by rw [hR9]; exact le_put (le_put (le_empty _) kb40) k740
       have keep40 : ∀ x o, H x = some o → Fs dev.toNat x = none → x ≠ p → H40 x = some o := fun z o hz hn hzp => hg40.known z o ((zaA _ _ (zai ((zaA _ _ hzp).trans ((zaA _ _ (zai hz hb7)).trans hz)) hb39)).trans ((zaA _ _ hzp).trans ((zaA _ _ (zai hz hb7)).trans hz))) (fun e => how.known z e hn)
       have km40 : H40 m = some (.map es c) := hg40.known m _ ((zaA _ _ (zai ((zaA _ _ hmp).trans ((zaA _ _ hm7').trans km)) hb39)).trans ((zaA _ _ hmp).trans ((zaA _ _ hm7').trans km))) hwm
       refine hK _ _ leA ?_; clear hK K
       apply zay rfl (zab (by decide)) rfl
       ·intro r
        rw [zbh _ _ rfl]
        exact ⟨rfl, Le.refl _⟩
       simp only [eX, ↓reduceIte, Nat.reduceEqDiff, Int.reduceToNat]
       apply zay rfl (zab (by decide)) rfl
       ·intro r
        simp only [zah, fa83_2, zap, Nat.reduceAdd, Nat.zero_add, eX, ↓reduceIte, Nat.reduceEqDiff]
        exact ⟨rfl, Le.refl _⟩
       simp only [eX, ↓reduceIte, Nat.reduceEqDiff, Int.reduceToNat]
       refine TW_last rfl (zaJ) rfl (fun K hK r => ?_)
       simp only [zaL, eX, ↓reduceIte, Nat.reduceEqDiff, Int.reduceToNat]
       refine zaY sz81 hbA bdA plA fzA ?_
       try simp only [setL0, setL1, setL2, setL3, setL4, setL5, setL6, setL7, setL8, setL9]
       try simp only [eX, ↓reduceIte, Nat.reduceEqDiff, Int.reduceToNat]
       refine hK _ _ ?_; clear hK K
       refine TW_nil ?_
       try simp only [Ex.thnH, Ex.inBlockH, ↓reduceIte, Nat.reduceEqDiff]
       refine hK12 _ _ ?_; try clear hK12 K12
       refine zad (fun K13 hK13 => ?_)
       refine zaa ?_
       refine zao rfl ?_
       refine zae ?_
       try simp only [Ex.thnH, Ex.inBlockH, ↓reduceIte, Nat.reduceEqDiff]
       refine hK13 _ _ ?_; try clear hK13 K13
       refine zaR ?_
       try simp only [Ex.thnH, Ex.inBlockH, ↓reduceIte, Nat.reduceEqDiff]
       have hwr : s.wr dev i x = ({ s.step.1 with dv := s.dv.set dev.toNat ((s.dv.getD dev.toNat default).put ⟨i, x⟩) }, none) := by
        unfold St.wr; rw [if_pos hyes]
        have hdq := step_dv s
        generalize hq : s.step = q at *
        obtain ⟨t, bb⟩ := q
        simp only at hst hdq; subst hst; rw [← hdq]
       obtain ⟨Fi, hFi, hlFi, hdFi⟩ := DvX.put (w := ⟨i, x⟩) (K := H40.upd b (.cells #[.int .i64 (s.dv.getD dev.toNat default).size, .map (some m), .slice wa40 ((s.dv.getD dev.toNat default).wait.length + 1) wc40] 83)) (zax _ _ _) ((zaA _ _ (Ne.symm hbm)).trans km40) hms (ho40.upd (fun e => by
        rcases hr40 b e with h1 | h1
        ·exact hwb h1
        ·have h2 := upd_none h1
         rw [zaA _ _ hbp, zaA _ _ hb7', kb] at h2; cases h2))
       have hbF : Fs dev.toNat b ≠ none := by rw [hb0]; simp
       have hmF : Fs dev.toNat m ≠ none := by rw [hm0]; simp
       refine ⟨[_], ⟨rfl, trivial⟩, _, Le.refl _, ?_, ?_⟩
       ·rw [hwr]; rfl
       ·rw [hwr]
        refine h.put hk (hbd ▸ hFi) rfl ((zaA _ _ (Ne.symm hbp)).trans kp40) hlFi (fun z o hz hn hzp => (zaA _ _ (fun e => by subst e; exact hbF hn)).trans (keep40 z o hz hn hzp)) (fun z hz => ?_)
        rcases hdFi z hz with rfl | rfl | h1
        ·exact .inl hbF
        ·exact .inl hmF
        ·rcases hr40 z h1 with h2 | h2
         ·exact .inl (how.known z h2)
         ·have h3 := upd_none h2
          by_cases e : z = p
          ·subst e; rw [zax] at h3; cases h3
          ·rw [zaA _ _ e] at h3
           exact .inr (upd_none h3)
end Go.Proofs.Ytcjdkfhmlnfedaa.HL
end
