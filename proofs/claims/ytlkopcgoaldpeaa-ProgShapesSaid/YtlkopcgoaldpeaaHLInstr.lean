/- What each instruction comes to on a partial heap, where its operands are known: equations for 'simp'. -/
import Derived.Test.YtlkopcgoaldpeaaHLOps
namespace Go.Proofs.Ytlkopcgoaldpeaa.HL
open Go
set_option linter.unusedSimpArgs false
set_option linter.unusedVariables false

section
variable {P : Program} {H : Hp}
/-! ### addresses -/
theorem i_fieldAt (t : TypeId) (a : Addr) (f : Nat) (K : Value → Hp → Prop) : Lt P (Instr.fieldAt t (.pointer (some a)) f) H K =
    orF (P.underlying t) (fun d => match d with
      | .struct fs => orF fs[f]? (fun fd => orF (szOf P fd.type) (fun n => if n = 0 then Lt P (partAt a fd.offset fd.byteOffset) H (fun a' H' => K (.pointer (some a')) H') else K (.pointer (some (a.add fd.offset))) H))
      | _ => False) := by
  simp only [Instr.fieldAt, l_bind, l_und]
  cases P.underlying t with
  | none => rfl
  | some d =>
    simp only [orF_some]
    cases d <;> try rfl
    rename_i fs
    simp only []
    cases hf : fs[f]? with
    | none => rfl
    | some fd =>
      simp only [orF_some, l_bind, l_sureAddr, fieldPlace, l_size, l_pure]
      cases szOf P fd.type with
      | none => rfl
      | some n => simp only [orF_some]; split <;> rfl
theorem i_indexSlice (t : TypeId) (e : TypeId) (hu : P.underlying t = some (.slice e)) (a : Addr) (len cap : Nat) (k : IntKind) (i : Int) (h0 : 0 ≤ i) (h1 : i < len) (K : Value → Hp → Prop) :
    Lt P (Instr.indexAt t (.slice (some a) len cap) (.int k i)) H K = orF (szOf P e) (fun n => K (.pointer (some (a.add (i.toNat * n)))) H) := by
  simp only [Instr.indexAt, l_bind, l_asIntOf, l_und, hu, orF_some, l_pure, if_pos (And.intro h0 h1), l_size]
theorem i_indexArray (t : TypeId) (e : TypeId) (n : Nat) (hu : P.underlying t = some (.array n e)) (a : Addr) (k : IntKind) (i : Int) (h0 : 0 ≤ i) (h1 : i < n) (K : Value → Hp → Prop) :
    Lt P (Instr.indexAt t (.pointer (some a)) (.int k i)) H K = orF (szOf P e) (fun m => K (.pointer (some (a.add (i.toNat * m)))) H) := by
  simp only [Instr.indexAt, l_bind, l_asIntOf, l_und, hu, orF_some, l_pure, l_sureAddr]
  by_cases hl : n ≤ 1 <;> simp [hl, l_bind, l_map, l_und, hu, orF_some, l_pure, l_size, h0, h1]
theorem i_sliceBound (k : IntKind) (i : Int) (y : Nat) (c : BoundsCode) (h0 : 0 ≤ i) (h1 : i ≤ y) (K : Nat → Hp → Prop) : Lt P (Instr.sliceBound (.int k i) y c) H K = K i.toNat H := by
  simp only [Instr.sliceBound, l_bind, l_asIntOf, if_pos (And.intro h0 h1), l_pure]
/-- The bounds of a slice expression. -/
def bound (v : Option Value) (d : Nat) : Option Nat := match v with | none => some d | some (.int _ i) => if 0 ≤ i then some i.toNat else none | _ => none
theorem i_sliceBounds (isS : Bool) (len cap : Nat) (lo hi mx : Option Value) (l h m : Nat) (hm : bound mx cap = some m) (hh : bound hi len = some h) (hl : bound lo 0 = some l) (h1 : l ≤ h) (h2 : hi.isSome = true → h ≤ m) (h3 : mx.isSome = true → m ≤ cap ∧ hi.isSome = true) (K : Nat × Nat × Nat → Hp → Prop) :
    Lt P (Instr.sliceBounds isS len cap lo hi mx) H K = K (l, h, m) H := by
  have key : ∀ (v : Value) (d y n : Nat) (c : BoundsCode) (K : Nat → Hp → Prop), bound (some v) d = some n → n ≤ y → Lt P (Instr.sliceBound v y c) H K = K n H := by
    intro v d y n c K hv hn
    cases v <;> simp only [bound] at hv <;> try (cases hv; done)
    rename_i k i
    split at hv
    · rename_i h0; cases hv; exact i_sliceBound k i y c h0 (by omega) K
    · cases hv
  have k0 : ∀ v, lo = some v → ∀ c K, Lt P (Instr.sliceBound v h c) H K = K l H := fun v hv c K => key v 0 h l c K (hv ▸ hl) h1
  have k1 : ∀ v, hi = some v → ∀ c K, Lt P (Instr.sliceBound v m c) H K = K h H := fun v hv c K => key v len m h c K (hv ▸ hh) (h2 (by rw [hv]; rfl))
  have k2 : ∀ v, mx = some v → ∀ c K, Lt P (Instr.sliceBound v cap c) H K = K m H := fun v hv c K => key v cap cap m c K (hv ▸ hm) (h3 (by rw [hv]; rfl)).1
  cases mx with
  | none =>
    simp only [bound, Option.some.injEq] at hm; subst hm
    cases hi with
    | none =>
      simp only [bound, Option.some.injEq] at hh; subst hh
      cases lo with
      | none => simp only [bound, Option.some.injEq] at hl; subst hl; simp only [Instr.sliceBounds, l_bind, l_pure]
      | some v => simp only [Instr.sliceBounds, l_bind, l_pure, k0 v rfl]
    | some u =>
      cases lo with
      | none => simp only [bound, Option.some.injEq] at hl; subst hl; simp only [Instr.sliceBounds, l_bind, l_pure, k1 u rfl]
      | some v => simp only [Instr.sliceBounds, l_bind, l_pure, k1 u rfl, k0 v rfl]
  | some x =>
    cases hi with
    | none => cases (h3 rfl).2
    | some u =>
      cases lo with
      | none => simp only [bound, Option.some.injEq] at hl; subst hl; simp only [Instr.sliceBounds, l_bind, l_pure, k2 x rfl, k1 u rfl]
      | some v => simp only [Instr.sliceBounds, l_bind, l_pure, k2 x rfl, k1 u rfl, k0 v rfl]
/-- A slice of a slice. -/
theorem i_sliceSlice (t e : TypeId) (hu : P.underlying t = some (.slice e)) (a : Option Addr) (len cap : Nat) (lo hi mx : Option Value) (l h m : Nat) (hm : bound mx cap = some m) (hh : bound hi len = some h) (hl : bound lo 0 = some l) (h1 : l ≤ h) (h2 : hi.isSome = true → h ≤ m) (h3 : mx.isSome = true → m ≤ cap ∧ hi.isSome = true) (K : Value → Hp → Prop) :
    Lt P (Instr.sliceAt t (.slice a len cap) lo hi mx) H K = orF (szOf P e) (fun n => K (.slice (if m = l then a else a.map (·.add (l * n))) (h - l) (m - l)) H) := by
  simp only [Instr.sliceAt, Instr.slice, l_bind, l_und, hu, orF_some]
  rw [i_sliceBounds true len cap lo hi mx l h m hm hh hl h1 h2 h3]
  simp only [l_bind, l_size]; cases szOf P e <;> rfl
/-- A slice of an array, by its address. -/
theorem i_sliceArray (t e : TypeId) (n : Nat) (hu : P.underlying t = some (.array n e)) (a : Addr) (lo hi mx : Option Value) (l h m : Nat) (hm : bound mx n = some m) (hh : bound hi n = some h) (hl : bound lo 0 = some l) (h1 : l ≤ h) (h2 : hi.isSome = true → h ≤ m) (h3 : mx.isSome = true → m ≤ n ∧ hi.isSome = true) (K : Value → Hp → Prop) :
    Lt P (Instr.sliceAt t (.pointer (some a)) lo hi mx) H K = orF (szOf P e) (fun s => K (.slice (some (if m = l then a else a.add (l * s))) (h - l) (m - l)) H) := by
  simp only [Instr.sliceAt, l_bind, l_und, hu, orF_some, l_sureAddr]
  rw [i_sliceBounds false n n lo hi mx l h m hm hh hl h1 h2 h3]
  simp only [l_bind, l_size]; cases szOf P e <;> rfl
/-- A slice of a string. -/
theorem i_sliceString (t : TypeId) (hu : P.underlying t = some .string) (s : ByteArray) (lo hi : Option Value) (l h : Nat) (hh : bound hi s.size = some h) (hl : bound lo 0 = some l) (h1 : l ≤ h) (h2 : h ≤ s.size) (K : Value → Hp → Prop) :
    Lt P (Instr.sliceAt t (.string s) lo hi none) H K = K (.string (s.extract l h)) H := by
  simp only [Instr.sliceAt, Instr.slice, l_bind, l_und, hu, orF_some, Option.isSome_none, Bool.false_eq_true, if_false, l_pure]
  rw [i_sliceBounds false s.size s.size lo hi none l h s.size rfl hh hl h1 (fun _ => h2) (by simp)]
theorem i_indexString (t : TypeId) (hu : P.underlying t = some .string) (s : ByteArray) (k : IntKind) (i : Int) (h0 : 0 ≤ i) (b : UInt8) (h1 : s[i.toNat]? = some b) (K : Value → Hp → Prop) :
    Lt P (Instr.index t (.string s) (.int k i)) H K = K (.int .u8 b.toNat) H := by
  simp only [Instr.index, l_bind, l_asIntOf, l_und, hu, orF_some, if_pos h0, h1, l_pure]

/-! ### values -/
theorem i_makeInterface (t : TypeId) (x : Value) (K : Value → Hp → Prop) : Lt P (Instr.makeInterface t x) H K = orF (P.underlying t) (fun d => match d with | .interface _ => False | _ => K (.iface t x) H) := by
  simp only [Instr.makeInterface, l_bind, l_und]; cases P.underlying t with
  | none => rfl
  | some d => cases d <;> rfl
theorem i_extract (vs : Array Value) (i : Nat) (K : Value → Hp → Prop) : Lt P (Instr.extract (.tuple vs) i) H K = orF vs[i]? (fun v => K v H) := by
  simp only [Instr.extract]; cases vs[i]? <;> rfl
theorem i_len_string (t : TypeId) (hu : P.underlying t = some .string) (ty : TypeId) (s : ByteArray) (K : Value → Hp → Prop) : Lt P (Builtin.len_ #[t] ty #[.string s]) H K = K (.int .i64 s.size) H := by
  simp [Builtin.len_, l_bind, l_und, hu, orF_some, l_pure, goInt]
theorem i_len_slice (t e : TypeId) (hu : P.underlying t = some (.slice e)) (ty : TypeId) (a : Option Addr) (n c : Nat) (K : Value → Hp → Prop) : Lt P (Builtin.len_ #[t] ty #[.slice a n c]) H K = K (.int .i64 n) H := by
  simp [Builtin.len_, l_bind, l_und, hu, orF_some, l_pure, goInt]
theorem i_len_array (t e : TypeId) (n : Nat) (hu : P.underlying t = some (.array n e)) (ty : TypeId) (v : Value) (K : Value → Hp → Prop) : Lt P (Builtin.len_ #[t] ty #[v]) H K = K (.int .i64 n) H := by
  simp [Builtin.len_, l_bind, l_und, hu, orF_some, l_pure, goInt]
theorem i_cap_slice (t e : TypeId) (hu : P.underlying t = some (.slice e)) (ty : TypeId) (a : Option Addr) (n c : Nat) (K : Value → Hp → Prop) : Lt P (Builtin.cap_ #[t] ty #[.slice a n c]) H K = K (.int .i64 c) H := by
  simp [Builtin.cap_, l_bind, l_und, hu, orF_some, l_pure, goInt]
theorem i_min2 (ts : Array TypeId) (ty : TypeId) (k k' : IntKind) (x y : Int) (K : Value → Hp → Prop) : Lt P (Builtin.min_ ts ty #[.int k x, .int k' y]) H K = K (.int k (if y < x then y else x)) H := by
  simp [Builtin.min_, Builtin.min2, l_pure, l_bind]
theorem i_max2 (ts : Array TypeId) (ty : TypeId) (k k' : IntKind) (x y : Int) (K : Value → Hp → Prop) : Lt P (Builtin.max_ ts ty #[.int k x, .int k' y]) H K = K (.int k (if y > x then y else x)) H := by
  simp [Builtin.max_, Builtin.max2, l_pure, l_bind]
/-! ### arithmetic -/
theorem g_int (op : BinOp) (t : TypeId) (x y : Operand) (k : IntKind) (a : Int) (v : Value) (K : Unit → Hp → Prop) : Lt P (eqGuard op t x y (.int k a) v) H K = K () H := by
  cases op <;> rfl
theorem g_bool (op : BinOp) (t : TypeId) (x y : Operand) (a : Bool) (v : Value) (K : Unit → Hp → Prop) : Lt P (eqGuard op t x y (.bool a) v) H K = K () H := by
  cases op <;> rfl
theorem g_string (op : BinOp) (t : TypeId) (x y : Operand) (a : ByteArray) (v : Value) (K : Unit → Hp → Prop) : Lt P (eqGuard op t x y (.string a) v) H K = K () H := by
  cases op <;> rfl
theorem g_pointer (op : BinOp) (t : TypeId) (x y : Operand) (a : Option Addr) (v : Value) (K : Unit → Hp → Prop) : Lt P (eqGuard op t x y (.pointer a) v) H K = K () H := by
  cases op <;> rfl
theorem g_slice (op : BinOp) (t : TypeId) (x y : Operand) (a : Option Addr) (n c : Nat) (v : Value) (K : Unit → Hp → Prop) : Lt P (eqGuard op t x y (.slice a n c) v) H K = K () H := by
  cases op <;> rfl
theorem g_map (op : BinOp) (t : TypeId) (x y : Operand) (a : Option Nat) (v : Value) (K : Unit → Hp → Prop) : Lt P (eqGuard op t x y (.map a) v) H K = K () H := by
  cases op <;> rfl
theorem g_func (op : BinOp) (t : TypeId) (x y : Operand) (f : Fn) (a b : Array Value) (v : Value) (K : Unit → Hp → Prop) : Lt P (eqGuard op t x y (.func f a b) v) H K = K () H := by
  cases op <;> rfl
theorem g_nilFunc (op : BinOp) (t : TypeId) (x y : Operand) (v : Value) (K : Unit → Hp → Prop) : Lt P (eqGuard op t x y .nilFunc v) H K = K () H := by
  cases op <;> rfl
theorem g_iface (op : BinOp) (t : TypeId) (x y : Operand) (u : TypeId) (a v : Value) (K : Unit → Hp → Prop) : Lt P (eqGuard op t x y (.iface u a) v) H K = K () H := by
  cases op <;> rfl
theorem g_nil_iface (op : BinOp) (t : TypeId) (x y : Operand) (u : TypeId) (a : Value) (K : Unit → Hp → Prop) : Lt P (eqGuard op t x y .nilIface (.iface u a)) H K = K () H := by
  cases op <;> rfl
theorem g_nil_r (op : BinOp) (t : TypeId) (x : Operand) (c : Value) (K : Unit → Hp → Prop) : Lt P (eqGuard op t x (.const c) .nilIface .nilIface) H K = K () H := by
  cases op <;> cases x <;> rfl
theorem g_nil_l (op : BinOp) (t : TypeId) (y : Operand) (c : Value) (K : Unit → Hp → Prop) : Lt P (eqGuard op t (.const c) y .nilIface .nilIface) H K = K () H := by
  cases op <;> rfl
section
variable (t : TypeId) (k : IntKind) (a b : Int) (K : Value → Hp → Prop)
theorem b_add : Lt P (binOp .add t (.int k a) (.int k b)) H K = K (.int k (k.wrap (a + b))) H := by simp only [binOp, ne_eq, not_true_eq_false, if_false, Op.intArith, l_pure]
theorem b_sub : Lt P (binOp .sub t (.int k a) (.int k b)) H K = K (.int k (k.wrap (a - b))) H := by simp only [binOp, ne_eq, not_true_eq_false, if_false, Op.intArith, l_pure]
theorem b_mul : Lt P (binOp .mul t (.int k a) (.int k b)) H K = K (.int k (k.wrap (a * b))) H := by simp only [binOp, ne_eq, not_true_eq_false, if_false, Op.intArith, l_pure]
theorem b_quo (h : b ≠ 0) : Lt P (binOp .quo t (.int k a) (.int k b)) H K = K (.int k (k.wrap (a.tdiv b))) H := by simp only [binOp, ne_eq, not_true_eq_false, if_false, Op.intDiv, if_neg h, l_pure]
theorem b_rem (h : b ≠ 0) : Lt P (binOp .rem t (.int k a) (.int k b)) H K = K (.int k (a.tmod b)) H := by simp only [binOp, ne_eq, not_true_eq_false, if_false, Op.intDiv, if_neg h, l_pure]
theorem b_and : Lt P (binOp .and t (.int k a) (.int k b)) H K = K (.int k (k.wrap (BitVec.ofInt k.bits a &&& BitVec.ofInt k.bits b).toNat)) H := by simp only [binOp, ne_eq, not_true_eq_false, if_false, Op.intBits, l_pure]
theorem b_or : Lt P (binOp .or t (.int k a) (.int k b)) H K = K (.int k (k.wrap (BitVec.ofInt k.bits a ||| BitVec.ofInt k.bits b).toNat)) H := by simp only [binOp, ne_eq, not_true_eq_false, if_false, Op.intBits, l_pure]
theorem b_xor : Lt P (binOp .xor t (.int k a) (.int k b)) H K = K (.int k (k.wrap (BitVec.ofInt k.bits a ^^^ BitVec.ofInt k.bits b).toNat)) H := by simp only [binOp, ne_eq, not_true_eq_false, if_false, Op.intBits, l_pure]
theorem b_eql : Lt P (binOp .eql t (.int k a) (.int k b)) H K = K (.bool (decide (a = b))) H := by
  simp only [binOp, ne_eq, not_true_eq_false, if_false, Op.intCmp, l_pure]; congr
theorem b_neq : Lt P (binOp .neq t (.int k a) (.int k b)) H K = K (.bool (!decide (a = b))) H := by
  simp only [binOp, ne_eq, not_true_eq_false, if_false, Op.intCmp, l_pure]; rfl
theorem b_lss : Lt P (binOp .lss t (.int k a) (.int k b)) H K = K (.bool (decide (a < b))) H := by simp only [binOp, ne_eq, not_true_eq_false, if_false, Op.intCmp, l_pure]
theorem b_leq : Lt P (binOp .leq t (.int k a) (.int k b)) H K = K (.bool (decide (a ≤ b))) H := by simp only [binOp, ne_eq, not_true_eq_false, if_false, Op.intCmp, l_pure]
theorem b_gtr : Lt P (binOp .gtr t (.int k a) (.int k b)) H K = K (.bool (decide (b < a))) H := by simp only [binOp, ne_eq, not_true_eq_false, if_false, Op.intCmp, l_pure]
theorem b_geq : Lt P (binOp .geq t (.int k a) (.int k b)) H K = K (.bool (decide (b ≤ a))) H := by simp only [binOp, ne_eq, not_true_eq_false, if_false, Op.intCmp, l_pure]
theorem b_shl (k' : IntKind) (h : 0 ≤ b) : Lt P (binOp .shl t (.int k a) (.int k' b)) H K = K (.int k (k.wrap (a * 2 ^ (min b.toNat k.bits)))) H := by
  simp only [binOp, Op.shift, if_neg (Int.not_lt.2 h), l_pure]
theorem b_shr (k' : IntKind) (h : 0 ≤ b) : Lt P (binOp .shr t (.int k a) (.int k' b)) H K = K (.int k (a.fdiv (2 ^ (min b.toNat k.bits)))) H := by
  simp only [binOp, Op.shift, if_neg (Int.not_lt.2 h), l_pure]
theorem u_neg : Lt P (Op.unary .neg (.int k a)) H K = K (.int k (k.wrap (0 - a))) H := rfl
theorem u_xor : Lt P (Op.unary .xor (.int k a)) H K = K (.int k (k.wrap (BitVec.ofInt k.bits (if k.signed then -1 else k.max) ^^^ BitVec.ofInt k.bits a).toNat)) H := rfl
theorem u_not (x : Bool) : Lt P (Op.unary .not (.bool x)) H K = K (.bool (!x)) H := rfl
end
theorem b_seql (t : TypeId) (a b : ByteArray) (K : Value → Hp → Prop) : Lt P (binOp .eql t (.string a) (.string b)) H K = K (.bool (a.toList == b.toList)) H := rfl
theorem b_sneq (t : TypeId) (a b : ByteArray) (K : Value → Hp → Prop) : Lt P (binOp .neq t (.string a) (.string b)) H K = K (.bool (!(a.toList == b.toList))) H := rfl
/-! ### '==' of other kinds -/
theorem e_eql (t : TypeId) (x y : Value) (K : Value → Hp → Prop) (hx : (∀ k n, x ≠ .int k n) ∧ (∀ k n, x ≠ .float k n) ∧ (∀ k n m, x ≠ .complex k n m) ∧ ∀ s, x ≠ .string s) : Lt P (binOp .eql t x y) H K = Lt P (Op.equal t x y) H (fun b H' => K (.bool b) H') := by
  obtain ⟨h1, h2, h3, h4⟩ := hx
  cases x <;> first | exact absurd rfl (h1 _ _) | exact absurd rfl (h2 _ _) | exact absurd rfl (h3 _ _ _) | exact absurd rfl (h4 _) | (cases y <;> simp only [binOp, l_bind, l_pure])
theorem e_neq (t : TypeId) (x y : Value) (K : Value → Hp → Prop) (hx : (∀ k n, x ≠ .int k n) ∧ (∀ k n, x ≠ .float k n) ∧ (∀ k n m, x ≠ .complex k n m) ∧ ∀ s, x ≠ .string s) : Lt P (binOp .neq t x y) H K = Lt P (Op.equal t x y) H (fun b H' => K (.bool (!b)) H') := by
  obtain ⟨h1, h2, h3, h4⟩ := hx
  cases x <;> first | exact absurd rfl (h1 _ _) | exact absurd rfl (h2 _ _) | exact absurd rfl (h3 _ _ _) | exact absurd rfl (h4 _) | (cases y <;> simp only [binOp, l_bind, l_pure])
end
end Go.Proofs.Ytlkopcgoaldpeaa.HL
