/- More instructions on a partial heap: conversions, '==' of wider kinds, makes, append, copy. -/
import Derived.Test.YtlkopcgoaldpeaaHLInstr
namespace Go.Proofs.Ytlkopcgoaldpeaa.HL
open Go
set_option linter.unusedSimpArgs false
set_option linter.unusedVariables false

section
variable {P : Program} {H : Hp}
theorem c_int (s t : TypeId) (k : IntKind) (ds : TypeDesc) (hs : P.underlying s = some ds) (ht : P.underlying t = some (.int k)) (k' : IntKind) (n : Int) (K : Value → Hp → Prop) : Lt P (Go.convert s t (.int k' n)) H K = K (.int k (k.wrap n)) H := by
  simp only [Go.convert, l_bind, l_und, hs, ht, orF_some]
  cases ds <;> rfl
theorem c_str (s t : TypeId) (hs : P.underlying s = some .string) (ht : P.underlying t = some .string) (x : ByteArray) (K : Value → Hp → Prop) : Lt P (Go.convert s t (.string x)) H K = K (.string x) H := by
  simp only [Go.convert, l_bind, l_und, hs, ht, orF_some, l_pure]
/-- The bytes of cells. -/
def byteOfV : Value → Option UInt8
  | .int .u8 n => some (UInt8.ofNat n.toNat)
  | _ => none
def bytesOf : List Value → Option (List UInt8)
  | [] => some []
  | v :: r => match byteOfV v, bytesOf r with | some b, some l => some (b :: l) | _, _ => none
theorem bytes_loop (g : Value → ByteArray → Sem (ForInStep ByteArray)) (hg : ∀ n r, g (.int .u8 n) r = pure (ForInStep.yield (r.push (UInt8.ofNat n.toNat)))) :
    ∀ (vs : List Value) (l : List UInt8) (acc : ByteArray), bytesOf vs = some l → ∀ (K : ByteArray → Hp → Prop), Lt P (forIn vs acc g) H K = K ⟨acc.data ++ l.toArray⟩ H := by
  intro vs
  induction vs with
  | nil => intro l acc h K; simp only [bytesOf, Option.some.injEq] at h; subst h; simp [l_pure]
  | cons v r ih =>
    intro l acc h K
    simp only [bytesOf] at h
    cases hv : byteOfV v with
    | none => simp [hv] at h
    | some x =>
      cases hr : bytesOf r with
      | none => simp [hv, hr] at h
      | some l' =>
        simp only [hv, hr, Option.some.injEq] at h; subst h
        have hv' : ∃ n, v = .int .u8 n ∧ x = UInt8.ofNat n.toNat := by
          cases v with
          | int k n => cases k <;> simp [byteOfV] at hv; exact ⟨n, rfl, hv.symm⟩
          | _ => simp [byteOfV] at hv
        obtain ⟨n, rfl, rfl⟩ := hv'
        simp only [List.forIn_cons, l_bind, l_pure, hg]
        rw [ih l' _ hr K]
        congr 1
        simp [ByteArray.push]
theorem c_bytesStr (s t e : TypeId) (hs : P.underlying s = some (.slice e)) (he : P.underlying e = some (.int .u8)) (ht : P.underlying t = some .string) (b o len cap : Nat) (c : Array Value) (ty : TypeId) (f : Nat × Nat) (hb : H b = some (.cells c ty f)) (hn : o + len ≤ c.size)
    (l : List UInt8) (hl : bytesOf (c.extract o (o + len)).toList = some l) (K : Value → Hp → Prop) : Lt P (Go.convert s t (.slice (some ⟨b, o, none⟩) len cap)) H K = K (.string ⟨l.toArray⟩) H := by
  simp only [Go.convert, l_bind, l_und, hs, ht, he, orF_some, Conv.bytesToString, loadCells_lt hb o len hn, l_pure]
  rw [← Array.forIn_toList]
  refine (bytes_loop _ (fun n r => rfl) _ l ByteArray.empty hl _).trans ?_
  have e0 : (ByteArray.empty.data ++ l.toArray) = l.toArray := by apply Array.ext'; rw [Array.toList_append]; rfl
  rw [e0]
theorem c_nilStr (s t e : TypeId) (hs : P.underlying s = some (.slice e)) (he : P.underlying e = some (.int .u8)) (ht : P.underlying t = some .string) (len cap : Nat) (K : Value → Hp → Prop) : Lt P (Go.convert s t (.slice none len cap)) H K = K (.string ByteArray.empty) H := by
  simp only [Go.convert, l_bind, l_und, hs, ht, he, orF_some, Conv.bytesToString, l_pure]
/-- '[]byte(s)': a new array, of some capacity; the byte behind its end is marked. -/
theorem c_strBytes (s t e : TypeId) (hs : P.underlying s = some .string) (ht : P.underlying t = some (.slice e)) (he : P.underlying e = some (.int .u8)) (x : ByteArray) (K : Value → Hp → Prop)
    (h : ∀ r cap, x.size ≤ cap → H r = none → ∀ f, K (.slice (some ⟨r, 0, none⟩) x.size cap) (H.upd r (.cells ((x.data.map fun b => .int .u8 b.toNat) ++ Array.replicate (cap - x.size) (.int .u8 0)) e f))) : Lt P (Go.convert s t (.string x)) H K := by
  simp only [Go.convert, l_bind, l_und, hs, ht, he, orF_some, Conv.stringToBytes, l_newRow, markStringish, l_pure]
  refine ⟨fun hf => by simp [Question.forced] at hf, fun _ n r hr => ?_⟩
  refine ⟨_, upd_same _ _ _, ?_⟩
  simp only [shapeOf, l_bind]
  refine .inr ⟨by decide, _, upd_same _ _ _, ?_⟩
  simp only [freezeIn, upd_upd]
  exact h r _ (by simp [Question.cut]) hr _

/-! ### '==' -/
section
variable (d : Nat)
theorem q_iface_ne (t : TypeId) (ms : Array (String × TypeId)) (hu : P.underlying t = some (.interface ms)) (u u' : TypeId) (h : u ≠ u') (x y : Value) (K : Bool → Hp → Prop) : Lt P (Op.equalIn (d + 1) t (.iface u x) (.iface u' y)) H K = K false H := by
  simp only [Op.equalIn, l_bind, l_und, hu, orF_some, ne_eq, h, not_false_eq_true, if_true, l_pure]
theorem q_iface_eq (t : TypeId) (ms : Array (String × TypeId)) (hu : P.underlying t = some (.interface ms)) (u : TypeId) (hc : (P.info? u).map (·.comparable) = some true) (x y : Value) (K : Bool → Hp → Prop) : Lt P (Op.equalIn (d + 1) t (.iface u x) (.iface u y)) H K = Lt P (Op.equalIn d u x y) H K := by
  simp only [Op.equalIn, l_bind, l_und, hu, orF_some, ne_eq, not_true_eq_false, if_false, typeInfo, program]
  cases hi : P.info? u with
  | none => rw [hi] at hc; cases hc
  | some i =>
    rw [hi] at hc
    have hc' : i.comparable = true := by simpa using hc
    simp only [Bind.bind, Lt_bind, Lt, hi, Pure.pure, hc', Bool.not_true, Bool.false_eq_true, if_false]
theorem q_iface_nil (t : TypeId) (ms : Array (String × TypeId)) (hu : P.underlying t = some (.interface ms)) (u : TypeId) (x : Value) (K : Bool → Hp → Prop) : Lt P (Op.equalIn (d + 1) t (.iface u x) .nilIface) H K = K false H := by
  simp only [Op.equalIn, l_bind, l_und, hu, orF_some, l_pure]
theorem q_nil_iface (t : TypeId) (ms : Array (String × TypeId)) (hu : P.underlying t = some (.interface ms)) (u : TypeId) (x : Value) (K : Bool → Hp → Prop) : Lt P (Op.equalIn (d + 1) t .nilIface (.iface u x)) H K = K false H := by
  simp only [Op.equalIn, l_bind, l_und, hu, orF_some, l_pure]
theorem q_nil_nil (t : TypeId) (ms : Array (String × TypeId)) (hu : P.underlying t = some (.interface ms)) (K : Bool → Hp → Prop) : Lt P (Op.equalIn (d + 1) t .nilIface .nilIface) H K = K true H := by
  simp only [Op.equalIn, l_bind, l_und, hu, orF_some, l_pure]
theorem q_bool (t : TypeId) (hu : P.underlying t = some .bool) (a b : Bool) (K : Bool → Hp → Prop) : Lt P (Op.equalIn (d + 1) t (.bool a) (.bool b)) H K = K (a == b) H := by
  simp only [Op.equalIn, l_bind, l_und, hu, orF_some, l_pure]
theorem q_ptr_nil (t e : TypeId) (hu : P.underlying t = some (.pointer e)) (a : Option Addr) (K : Bool → Hp → Prop) : Lt P (Op.equalIn (d + 1) t (.pointer a) (.pointer none)) H K = K a.isNone H := by
  cases a <;> simp only [Op.equalIn, l_bind, l_und, hu, orF_some, l_pure, Option.isNone_none, Option.isNone_some]
theorem q_nil_ptr (t e : TypeId) (hu : P.underlying t = some (.pointer e)) (a : Option Addr) (K : Bool → Hp → Prop) : Lt P (Op.equalIn (d + 1) t (.pointer none) (.pointer a)) H K = K a.isNone H := by
  simp only [Op.equalIn, l_bind, l_und, hu, orF_some, l_pure]
theorem q_slice_nil (t e : TypeId) (hu : P.underlying t = some (.slice e)) (a : Option Addr) (n c : Nat) (n' c' : Nat) (K : Bool → Hp → Prop) : Lt P (Op.equalIn (d + 1) t (.slice a n c) (.slice none n' c')) H K = K a.isNone H := by
  cases a <;> simp only [Op.equalIn, l_bind, l_und, hu, orF_some, l_pure, Option.isNone_none, Option.isNone_some]
theorem q_map_nil (t k e : TypeId) (hu : P.underlying t = some (.map k e)) (a : Option Nat) (K : Bool → Hp → Prop) : Lt P (Op.equalIn (d + 1) t (.map a) (.map none)) H K = K a.isNone H := by
  cases a <;> simp only [Op.equalIn, l_bind, l_und, hu, orF_some, l_pure, Option.isNone_none, Option.isNone_some]
theorem q_func_nil (t : TypeId) (a b : Array TypeId) (v : Bool) (hu : P.underlying t = some (.func a b v)) (f : Fn) (x y : Array Value) (K : Bool → Hp → Prop) : Lt P (Op.equalIn (d + 1) t (.func f x y) .nilFunc) H K = K false H := by
  simp only [Op.equalIn, l_bind, l_und, hu, orF_some, l_pure]
theorem q_int (t : TypeId) (k : IntKind) (hu : P.underlying t = some (.int k)) (k' : IntKind) (a b : Int) (K : Bool → Hp → Prop) : Lt P (Op.equalIn (d + 1) t (.int k' a) (.int k' b)) H K = K (decide (a = b)) H := by
  simp only [Op.equalIn, l_bind, l_und, hu, orF_some, if_true, l_pure]; rfl
theorem q_string (t : TypeId) (hu : P.underlying t = some .string) (a b : ByteArray) (K : Bool → Hp → Prop) : Lt P (Op.equalIn (d + 1) t (.string a) (.string b)) H K = K (a == b) H := by
  simp only [Op.equalIn, l_bind, l_und, hu, orF_some, l_pure]
end
/-! ### type assertions -/
theorem t_same (xt t : TypeId) (dd : TypeDesc) (hu : P.underlying t = some dd) (hd : ∀ ms, dd ≠ .interface ms) (v : Value) (ok : Bool) (K : Value → Hp → Prop) :
    Lt P (Instr.typeAssert (.iface t v) xt t ok) H K = K (if ok then .tuple #[v, .bool true] else v) H := by
  simp only [Instr.typeAssert, l_bind, l_und, hu, orF_some]
  cases dd <;> first | exact absurd rfl (hd _) | (simp only [if_true, l_pure])
theorem t_other (xt t u : TypeId) (dd : TypeDesc) (hu : P.underlying t = some dd) (hd : ∀ ms, dd ≠ .interface ms) (hne : u ≠ t) (v z : Value) (hz : zrOf P t = some (some z)) (K : Value → Hp → Prop) :
    Lt P (Instr.typeAssert (.iface u v) xt t true) H K = K (.tuple #[z, .bool false]) H := by
  simp only [Instr.typeAssert, l_bind, l_und, hu, orF_some]
  cases dd <;> first | exact absurd rfl (hd _) | (simp only [if_neg hne, if_true, l_bind, l_zero, hz, orF_some, l_pure])
theorem t_nil (xt t : TypeId) (dd : TypeDesc) (hu : P.underlying t = some dd) (hd : ∀ ms, dd ≠ .interface ms) (z : Value) (hz : zrOf P t = some (some z)) (K : Value → Hp → Prop) :
    Lt P (Instr.typeAssert .nilIface xt t true) H K = K (.tuple #[z, .bool false]) H := by
  simp only [Instr.typeAssert, l_bind, l_und, hu, orF_some]
  cases dd <;> first | exact absurd rfl (hd _) | (simp only [if_true, l_bind, l_zero, hz, orF_some, l_pure])
theorem q_equal (t : TypeId) (x y : Value) (K : Bool → Hp → Prop) : Lt P (Op.equal t x y) H K = Lt P (Op.equalIn (9999 + 1) t x y) H K := rfl
end
end Go.Proofs.Ytlkopcgoaldpeaa.HL
