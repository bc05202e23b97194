/- More plain facts. -/
import Derived.Test.YtlkopcgoaldpeaaHLAuto
namespace Go.Proofs.Ytlkopcgoaldpeaa.HL
open Go
set_option linter.unusedSimpArgs false
set_option linter.unusedVariables false
theorem or_i64 (a x : Int) (k : Nat) (h0 : 0 ≤ a) (h1 : a < 2 ^ k) (hx : 0 ≤ x) (h2 : a + x * 2 ^ k ≤ 9223372036854775807) :
    IntKind.i64.wrap (BitVec.ofInt IntKind.i64.bits a ||| BitVec.ofInt IntKind.i64.bits (x * 2 ^ k)).toNat = a + x * 2 ^ k := by
  obtain ⟨n, rfl⟩ := Int.eq_ofNat_of_zero_le h0
  obtain ⟨m, rfl⟩ := Int.eq_ofNat_of_zero_le hx
  have e0 : ((2 : Int) ^ k) = ((2 ^ k : Nat) : Int) := by rw [Int.natCast_pow]; rfl
  rw [e0] at h1
  have h1' : n < 2 ^ k := by omega
  have e1 : ((m : Int) * 2 ^ k) = ((m * 2 ^ k : Nat) : Int) := by rw [Int.natCast_mul, Int.natCast_pow]; rfl
  have h2' : n + m * 2 ^ k ≤ 9223372036854775807 := by rw [e1] at h2; omega
  have hb : IntKind.i64.bits = 64 := rfl
  rw [e1, hb, BitVec.toNat_or]
  have t0 : ∀ z : Nat, z ≤ 9223372036854775807 → (BitVec.ofInt 64 (z : Int)).toNat = z := fun z hz => by
    rw [BitVec.ofInt_natCast, BitVec.toNat_ofNat]; exact Nat.mod_eq_of_lt (by omega)
  have t1 : (BitVec.ofInt 64 (n : Int)).toNat = n := t0 n (by omega)
  have t2 : (BitVec.ofInt 64 ((m * 2 ^ k : Nat) : Int)).toNat = m * 2 ^ k := t0 _ (by omega)
  rw [t1, t2, Nat.or_comm, Nat.mul_comm m, ← Nat.two_pow_add_eq_or_of_lt h1', wrap_i64 _ (by omega) (by rw [Nat.mul_comm]; omega)]
  rw [Nat.mul_comm]; omega
/-- An error that is nil, or a number. -/
def errVT (T : TypeId) : Option Int → Value
  | none => .nilIface
  | some k => .iface T (.int .i64 k)
theorem g_err {P : Program} {H : Hp} (op : BinOp) (t : TypeId) (x : Operand) (c : Value) (T : TypeId) (o : Option Int) (K : Unit → Hp → Prop) : Lt P (eqGuard op t x (.const c) (errVT T o) .nilIface) H K = K () H := by
  cases o with
  | none => exact g_nil_r op t x c K
  | some k => exact g_iface op t x (.const c) T _ _ K
theorem b_err_neq {P : Program} {H : Hp} (t : TypeId) (ms : Array (String × TypeId)) (hu : P.underlying t = some (.interface ms)) (T : TypeId) (o : Option Int) (K : Value → Hp → Prop) : Lt P (binOp .neq t (errVT T o) .nilIface) H K = K (.bool o.isSome) H := by
  cases o with
  | none => show Lt P (binOp .neq t .nilIface .nilIface) H K = _; rw [e_neq _ _ _ _ (by simp), q_equal, q_nil_nil _ t ms hu]; rfl
  | some k => show Lt P (binOp .neq t (.iface T (.int .i64 k)) .nilIface) H K = _; rw [e_neq _ _ _ _ (by simp), q_equal, q_iface_nil _ t ms hu]; rfl
theorem b_err_eql {P : Program} {H : Hp} (t : TypeId) (ms : Array (String × TypeId)) (hu : P.underlying t = some (.interface ms)) (T : TypeId) (o : Option Int) (K : Value → Hp → Prop) : Lt P (binOp .eql t (errVT T o) .nilIface) H K = K (.bool o.isNone) H := by
  cases o with
  | none => show Lt P (binOp .eql t .nilIface .nilIface) H K = _; rw [e_eql _ _ _ _ (by simp), q_equal, q_nil_nil _ t ms hu]; rfl
  | some k => show Lt P (binOp .eql t (.iface T (.int .i64 k)) .nilIface) H K = _; rw [e_eql _ _ _ _ (by simp), q_equal, q_iface_nil _ t ms hu]; rfl
theorem u8s_get (l : List Int) (i : Nat) (h : i < l.length) : (u8s l)[i]? = some (.int .u8 l[i]) := by simp [h]
theorem getD_of_lt (l : List Int) (i : Nat) (h : i < l.length) : l[i]? = some (l.getD i 0) := by simp [List.getD_eq_getElem?_getD, h]
theorem u8s_at (L : List Int) (i : Nat) (h : i < L.length) : (u8s L).toArray[i]? = some (.int .u8 (L.getD i 0)) := by simp [List.getD_eq_getElem?_getD, h]
theorem getD_byte {L : List Int} (hB : ByteL L) (i : Nat) : 0 ≤ L.getD i 0 ∧ L.getD i 0 ≤ 255 := by
  rw [List.getD_eq_getElem?_getD]
  by_cases h : i < L.length
  · rw [List.getElem?_eq_getElem h]; exact hB _ (List.getElem_mem h)
  · rw [List.getElem?_eq_none (by omega)]; exact ⟨by decide, by decide⟩
theorem Lt_loadAll {P : Program} {H : Hp} {t : TypeId} {n : Nat} {td : TypeDesc} (hu : P.underlying t = some td) (ha : isAggD td = true) (hs : szOf P t = some n) {b : Nat} {c : Array Value} {T : TypeId} {f : Nat × Nat} (hb : H b = some (.cells c T f)) (ho : c.size = n) {K : Value → Hp → Prop}
    (h : K (.agg c) H) : Lt P (Instr.loadAt t (.pointer (some ⟨b, 0, none⟩))) H K := by
  refine Lt_loadAtA hu ha hs hb (by omega) ?_
  have : c.extract 0 (0 + n) = c := by rw [← ho]; simp
  rw [this]; exact h
theorem Lq_loadAll {P : Program} {H : Hp} {t : TypeId} {td : TypeDesc} (hu : P.underlying t = some td) (ha : isAggD td = true) {n : Nat} (hs : szOf P t = some n) {b : Nat} {c : Array Value} {T : TypeId} {f : Nat × Nat} (hb : H b = some (.cells c T f)) (hc : c.size = n) : Lq P (loadVar t ⟨b, 0, none⟩) H (fun x => x = .agg c) := by
  have h := Lq_loadA hu ha hs hb (o := 0) (by omega)
  have : c.extract 0 (0 + n) = c := by rw [← hc]; simp
  rw [this] at h; exact h
theorem OwnS.upd {H : Hp} {E : TypeId} {w : Nat} {v : Value} {n : Nat} {cs : List Value} {rs : Option Nat} (h : OwnS H E w v n cs rs) {b : Nat} {o : Obj} (hb : rs ≠ some b) : OwnS (H.upd b o) E w v n cs rs := by
  obtain ⟨h1, h2⟩ := h
  refine ⟨h1, h2.imp id ?_⟩
  rintro ⟨r, cap, c, h3, h4, h5, h6, h7, rfl⟩
  exact ⟨r, cap, c, h3, by rw [upd_ne _ _ (fun e => hb (by rw [e]))]; exact h4, h5, h6, h7, rfl⟩
theorem OwnS.ne_fresh {H : Hp} {E : TypeId} {w : Nat} {v : Value} {n : Nat} {cs : List Value} {rs : Option Nat} (h : OwnS H E w v n cs rs) {b : Nat} (hb : H b = none) : rs ≠ some b := by
  obtain ⟨h1, ⟨_, _, rfl⟩ | ⟨r, cap, c, h3, h4, h5, h6, h7, rfl⟩⟩ := h
  · intro e; cases e
  · intro e; cases e; rw [h4] at hb; cases hb
theorem OwnS.make {H : Hp} {E : TypeId} {w : Nat} {v : Value} {n : Nat} {cs : List Value} {rs : Option Nat} (h : OwnS H E w v n cs rs) {b : Nat} {o : Obj} (hb : H b = none) : OwnS (H.upd b o) E w v n cs rs := h.upd (h.ne_fresh hb)
theorem OwnS.le {H H' : Hp} {E : TypeId} {w : Nat} {v : Value} {n : Nat} {cs : List Value} {rs : Option Nat} (h : OwnS H E w v n cs rs) (hl : Le H H') : OwnS H' E w v n cs rs := by
  obtain ⟨h1, h2⟩ := h
  refine ⟨h1, h2.imp id ?_⟩
  rintro ⟨r, cap, c, h3, h4, h5⟩
  exact ⟨r, cap, c, h3, hl _ _ h4, h5⟩
theorem fresh_ne {H : Hp} {rs : Option Nat} (h : ∀ r, rs = some r → H r = none) {b : Nat} {o : Obj} (hb : H b = some o) : rs ≠ some b := fun e => by rw [h b e] at hb; cases hb
theorem l_buildArr {P : Program} {H : Hp} {t e : TypeId} {n s : Nat} {z : Value} (hu : P.underlying t = some (.array n e)) (hs : szOf P e = some s) (hz : zrOf P t = some (some z)) (ps : Array (Nat × Value)) (K : Value → Hp → Prop) : Lt P (Instr.build t ps) H K = orF (Instr.fill (fun i => some (i * s, s)) z.cells ps.toList) (fun c => K (.agg c) H) := by
  simp only [Instr.build, l_bind, l_zero, hz, orF_some, l_und, hu, l_size, hs]
  cases Instr.fill _ _ _ <;> rfl
theorem setL0 ( v x : Value) (l : List Value) : (List.toArray (v :: l)).setIfInBounds 0 x = List.toArray (x :: l) := by simp
theorem setL1 (a0 v x : Value) (l : List Value) : (List.toArray (a0 :: v :: l)).setIfInBounds 1 x = List.toArray (a0 :: x :: l) := by simp
theorem setL2 (a0 a1 v x : Value) (l : List Value) : (List.toArray (a0 :: a1 :: v :: l)).setIfInBounds 2 x = List.toArray (a0 :: a1 :: x :: l) := by simp
theorem setL3 (a0 a1 a2 v x : Value) (l : List Value) : (List.toArray (a0 :: a1 :: a2 :: v :: l)).setIfInBounds 3 x = List.toArray (a0 :: a1 :: a2 :: x :: l) := by simp
theorem setL4 (a0 a1 a2 a3 v x : Value) (l : List Value) : (List.toArray (a0 :: a1 :: a2 :: a3 :: v :: l)).setIfInBounds 4 x = List.toArray (a0 :: a1 :: a2 :: a3 :: x :: l) := by simp
theorem setL5 (a0 a1 a2 a3 a4 v x : Value) (l : List Value) : (List.toArray (a0 :: a1 :: a2 :: a3 :: a4 :: v :: l)).setIfInBounds 5 x = List.toArray (a0 :: a1 :: a2 :: a3 :: a4 :: x :: l) := by simp
theorem setL6 (a0 a1 a2 a3 a4 a5 v x : Value) (l : List Value) : (List.toArray (a0 :: a1 :: a2 :: a3 :: a4 :: a5 :: v :: l)).setIfInBounds 6 x = List.toArray (a0 :: a1 :: a2 :: a3 :: a4 :: a5 :: x :: l) := by simp
theorem setL7 (a0 a1 a2 a3 a4 a5 a6 v x : Value) (l : List Value) : (List.toArray (a0 :: a1 :: a2 :: a3 :: a4 :: a5 :: a6 :: v :: l)).setIfInBounds 7 x = List.toArray (a0 :: a1 :: a2 :: a3 :: a4 :: a5 :: a6 :: x :: l) := by simp
theorem setL8 (a0 a1 a2 a3 a4 a5 a6 a7 v x : Value) (l : List Value) : (List.toArray (a0 :: a1 :: a2 :: a3 :: a4 :: a5 :: a6 :: a7 :: v :: l)).setIfInBounds 8 x = List.toArray (a0 :: a1 :: a2 :: a3 :: a4 :: a5 :: a6 :: a7 :: x :: l) := by simp
theorem setL9 (a0 a1 a2 a3 a4 a5 a6 a7 a8 v x : Value) (l : List Value) : (List.toArray (a0 :: a1 :: a2 :: a3 :: a4 :: a5 :: a6 :: a7 :: a8 :: v :: l)).setIfInBounds 9 x = List.toArray (a0 :: a1 :: a2 :: a3 :: a4 :: a5 :: a6 :: a7 :: a8 :: x :: l) := by simp
/-- A conversion of bytes to bytes marks them. -/
theorem Lt_convSS {P : Program} {H : Hp} {s e : TypeId} (hs : P.underlying s = some (.slice e)) (he : P.underlying e = some (.int .u8)) {b o n cap : Nat} {c : Array Value} {T : TypeId} (hb : H b = some (.cells c T)) {K : Value → Hp → Prop}
    (h : K (.slice (some ⟨b, o, none⟩) n cap) (H.upd b (.cells c T (c.size, c.size + 1)))) : Lt P (Go.convert s s (.slice (some ⟨b, o, none⟩) n cap)) H K := by
  simp only [Go.convert, l_bind, l_und, hs, orF_some, he, beq_self_eq_true, markStringish]
  refine ⟨_, hb, .inr ⟨by decide, _, hb, ?_⟩⟩
  exact h
theorem Lt_storeAll {P : Program} {H : Hp} {t : TypeId} {vs : Array Value} {n : Nat} (hs : szOf P t = some n) (hvs : vs.size = n) {b : Nat} {c : Array Value} {T : TypeId} {f : Nat × Nat} (hb : H b = some (.cells c T f)) (ho : vs.size = c.size) (hv : PlainL vs.toList) (hf : f.2 ≤ f.1) {K : Unit → Hp → Prop}
    (h : K () (H.upd b (.cells vs T f))) : Lt P (Instr.storeAt t (.pointer (some ⟨b, 0, none⟩)) (.agg vs)) H K := by
  refine Lt_storeAtA hs hvs hb (by omega) hv hf ?_
  rw [putCells_all _ _ (by simpa using ho)]
  exact h
end Go.Proofs.Ytlkopcgoaldpeaa.HL
