/- Parts of the proof, one behind the other: HLFrame, HLFrame2, HLOwn, HLNum, HLFlat, HLApi, MdAp, HLShort, T11, Md04. -/
import Derived.Carry
import Derived.ChangeOld
import Derived.OpenShut
import Derived.ChangeSlices
import Derived.Laws.Externs
import Derived.Laws.MathBits
import Derived.Test.YthpflieimocfbaaX1
set_option linter.unusedSimpArgs false
set_option linter.unusedVariables false
section
namespace Go.Proofs.Ythpflieimocfbaa.HL
open Go Go.RowKit Go.ChangeShapes Go.WideShapes

/-- The whole heap that there is. -/
def oldH (w : World) : Hp := fun b => w.heap[b]?
theorem oldH_sub (w : World) : Sub (oldH w) w := fun _ _ h => h
theorem calls_of_old {P : Program} {f : FuncId} {args : Array Value} {w : World}
    (h : CallH P f args (oldH w) (fun v H' => v = .bool true ∧ Le (oldH w) H')) : Calls P f args w fun e w' => e = .returned (.bool true) ∧ Below w.heap.size w w' := by
  refine (h w (oldH_sub w)).mono fun e w' ⟨v, he, H', ⟨hv, hl⟩, hx⟩ => ⟨by rw [he, hv], hx.os, hx.tape, hx.output, hx.size, fun k hk => ?_⟩
  have h1 : w.heap[k]? = some w.heap[k] := by simp [hk]
  rw [h1]; exact hx.sub _ _ (hl _ _ h1)

theorem byteL_of_wf {L : List Int} (h : ∀ n ∈ L, (Lit.int .u8 n).wf = true) : ByteL L := fun x hx => by
  have := h x hx
  simp [Lit.wf, IntKind.min, IntKind.max, IntKind.signed, IntKind.bits] at this
  omega
theorem i64_of_wf {n : Int} (h : (Lit.int .i64 n).wf = true) : -9223372036854775808 ≤ n ∧ n ≤ 9223372036854775807 := by
  simp [Lit.wf, IntKind.min, IntKind.max, IntKind.signed, IntKind.bits] at h
  omega

section
variable {H : Type} {enc : TypeId × Value → H} {P : Program} {w : World} {base : Nat} {spare : Nat → Bool} {held : Bool} {fuel : Nat} {t : TypeId} {cs : List Value} {x : DataW H × List MemPlace}

theorem val_of_agg {r : Reach} {b0 : Nat} {v : Value} (ht : (∃ fs, P.underlying t = some (.struct fs)) ∨ ∃ n e, P.underlying t = some (.array n e)) (h : Value.okWide P w r b0 t v) : v = .agg v.cells := by
  unfold Value.okWide at h
  rcases ht with ⟨fs, ht⟩ | ⟨n, e, ht⟩ <;> rw [ht] at h <;> obtain ⟨c, rfl, _⟩ := h <;> rfl

theorem open_ints_slice {e : TypeId} {k : IntKind} (ht : P.underlying t = some (.slice e)) (he : P.underlying e = some (.int k)) (hc : P.cellsOf e = 1)
    (h : DataW.trod enc P w base spare held fuel t cs = some x) : ∃ (a : Option Addr) (len cap : Nat) (L : List Int), cs = [.slice a len cap] ∧ Holds (oldH w) 1 (.slice a len cap) len (L.map (.int k ·)) ∧ L.length = len ∧ len ≤ maxLen ∧ ∀ z ∈ L, (Lit.int k z).wf = true := by
  rcases open_ints ht he hc h with ⟨rfl, _⟩ | ⟨a, len, cap, zs, rfl, _, hl, hm, hz, _, hcell, hw⟩
  · exact ⟨none, 0, 0, [], rfl, ⟨by simp, .inl ⟨none, 0, rfl, rfl⟩⟩, rfl, by decide, by simp⟩
  · have hzl : len ≤ zs.length := by rw [hz]; split <;> omega
    have hTl : (zs.take len).length = len := by simp; omega
    refine ⟨some a, len, cap, zs.take len, rfl, ⟨by simp; omega, ?_⟩, hTl, by omega, fun z hz' => hw z (List.mem_of_mem_take hz')⟩
    by_cases h0 : len = 0
    · subst h0; exact .inl ⟨some a, cap, rfl, rfl⟩
    · right
      obtain ⟨b, o, sp⟩ := a
      have hc0 := hcell 0 (by omega)
      cases hb : w.heap[b]? with
      | none => simp [World.cell?, Addr.add, hb] at hc0
      | some ob =>
        cases ob with
        | cells c T f =>
          have hsp : sp = none := by
            cases sp with
            | none => rfl
            | some q => simp [World.cell?, Addr.add, hb] at hc0
          subst hsp
          have hcell' : ∀ i, i < zs.length → c[o + i]? = some (.int k (zs.getD i 0)) := by
            intro i hi
            have := hcell i hi
            rcases Nat.eq_zero_or_pos i with h0' | h0'
            · subst h0'; simpa [World.cell?, Addr.add, hb] using this
            · have hne : i ≠ 0 := by omega
              simpa [World.cell?, Addr.add, hb, hne] using this
          have hsz : o + len ≤ c.size := by
            have := hcell' (len - 1) (by omega)
            have := (Array.getElem?_eq_some_iff.1 this).1
            omega
          refine ⟨b, o, cap, c, T, f, rfl, hb, by omega, ?_⟩
          apply List.ext_getElem?
          intro i
          rw [Nat.mul_one, Array.toList_extract, List.extract_eq_take_drop]
          by_cases hi : i < len
          · rw [List.getElem?_take_of_lt (by omega), List.getElem?_drop]
            have h2 : i < zs.length := by omega
            have h1 := hcell' i h2
            simp only [Array.getElem?_toList, h1, List.getElem?_map, List.getElem?_take_of_lt hi]
            simp [h2]
          · rw [List.getElem?_eq_none (by simp; omega), List.getElem?_eq_none (by simp; omega)]
        | _ => simp [World.cell?, Addr.add, hb] at hc0

theorem open_field {fs : Array Field} (ht : P.underlying t = some (.struct fs)) (h : DataW.trod enc P w base spare held fuel t cs = some x) (i : Nat) {f : Field} (hf : fs[i]? = some f) :
    ∃ y n, DataW.trod enc P w base spare held n f.type ((cs.drop f.offset).take (P.cellsOf f.type)) = some y := by
  obtain ⟨xs, n, _, _, hl, hx, hi⟩ := DataW.trod_struct ht h
  have h1 := hi i f hf
  have hlt : i < fs.size := (Array.getElem?_eq_some_iff.1 hf).1
  rw [List.getElem?_eq_getElem (by omega)] at h1
  exact ⟨_, n, h1⟩
theorem struct_len {fs : Array Field} (ht : P.underlying t = some (.struct fs)) (h : DataW.trod enc P w base spare held fuel t cs = some x) : cs.length = P.cellsOf t := by
  obtain ⟨xs, n, _, _, hl, _⟩ := DataW.trod_struct ht h
  exact hl
/-! ### arguments of a kind -/
variable {r : Reach} {b0 : Nat} {v : Value} {d : DataW H} {ps : List MemPlace}
/-- A struct of one-cell fields: its cells, each read by its field's type. -/
theorem open_struct1s {fs : Array Field} (ht : P.underlying t = some (.struct fs)) (hct : P.cellsOf t = fs.size)
    (hf : ∀ (i : Nat) (f : Field), fs[i]? = some f → f.offset = i ∧ P.cellsOf f.type = 1) (h : DataW.trod enc P w base spare held fuel t cs = some x) :
    cs.length = fs.size ∧ ∀ (i : Nat) (f : Field), fs[i]? = some f → ∃ v y n, cs[i]? = some v ∧ DataW.trod enc P w base spare held n f.type [v] = some y := by
  have hl := struct_len ht h
  refine ⟨hl.trans hct, fun i f hi => ?_⟩
  obtain ⟨y, n, hy⟩ := open_field ht h i hi
  obtain ⟨h1, h2⟩ := hf i f hi
  have hlt : i < cs.length := by rw [hl, hct]; exact (Array.getElem?_eq_some_iff.1 hi).1
  rw [h1, h2] at hy
  refine ⟨cs[i], y, n, by simp, ?_⟩
  have : (cs.drop i).take 1 = [cs[i]] := by
    rw [List.drop_eq_getElem_cons hlt]; rfl
  rw [this] at hy; exact hy
/-- Two numbers and a slice of bytes. -/
theorem arg_slab {f0 f1 f2 : Field} {e : TypeId} (ht : P.underlying t = some (.struct #[f0, f1, f2])) (hct : P.cellsOf t = 3)
    (h0 : f0.offset = 0 ∧ P.cellsOf f0.type = 1 ∧ P.underlying f0.type = some (.int .i64)) (h1 : f1.offset = 1 ∧ P.cellsOf f1.type = 1 ∧ P.underlying f1.type = some (.int .i64))
    (h2 : f2.offset = 2 ∧ P.cellsOf f2.type = 1 ∧ P.underlying f2.type = some (.slice e)) (he : P.underlying e = some (.int .u8)) (hc : P.cellsOf e = 1)
    (hval : Value.okWide P w r b0 t v) (hd : DataW.Trod enc P w base spare held t v d ps) :
    ∃ (a b : Int) (u : Value) (L : List Int), v = .agg #[.int .i64 a, .int .i64 b, u] ∧ Holds (oldH w) 1 u L.length (u8s L) ∧ ByteL L ∧ L.length ≤ maxLen ∧
      (-9223372036854775808 ≤ a ∧ a ≤ 9223372036854775807) ∧ (-9223372036854775808 ≤ b ∧ b ≤ 9223372036854775807) := by
  have hv := val_of_agg (.inl ⟨_, ht⟩) hval
  obtain ⟨fuel, hf⟩ := hd
  obtain ⟨hl, hi⟩ := open_struct1s ht hct (by
    intro i f hif
    match i, hif with
    | 0, hif => cases hif; exact ⟨h0.1, h0.2.1⟩
    | 1, hif => cases hif; exact ⟨h1.1, h1.2.1⟩
    | 2, hif => cases hif; exact ⟨h2.1, h2.2.1⟩
    | i + 3, hif => simp at hif) hf
  obtain ⟨c0, y0, n0, g0, k0⟩ := hi 0 f0 rfl
  obtain ⟨c1, y1, n1, g1, k1⟩ := hi 1 f1 rfl
  obtain ⟨c2, y2, n2, g2, k2⟩ := hi 2 f2 rfl
  obtain ⟨a, e0, _, w0⟩ := DataW.trod_int h0.2.2 k0
  obtain ⟨b, e1, _, w1⟩ := DataW.trod_int h1.2.2 k1
  obtain ⟨a', len, cap, L, e2, q1, q2, q3, q4⟩ := open_ints_slice h2.2.2 he hc k2
  cases e0; cases e1; cases e2
  subst q2
  refine ⟨a, b, _, L, ?_, q1, byteL_of_wf q4, q3, i64_of_wf w0, i64_of_wf w1⟩
  rw [hv]; congr 1
  apply Array.ext'
  apply List.ext_getElem?
  intro i
  match i with
  | 0 => simpa using g0
  | 1 => simpa using g1
  | 2 => simpa using g2
  | i + 3 => rw [List.getElem?_eq_none (by rw [hl]; simp)]; simp
end
end Go.Proofs.Ythpflieimocfbaa.HL
end
section
namespace Go.Proofs.Ythpflieimocfbaa.HL
open Go Go.ChangeShapes Go.WideShapes
variable {P : Program} {H : Type} {enc : TypeId × Value → H} {w : World} {base : Nat} {spare : Nat → Bool} {held : Bool} {r : Reach} {b0 : Nat} {t : TypeId} {v : Value} {d : DataW H} {ps : List MemPlace}
end Go.Proofs.Ythpflieimocfbaa.HL
end
section
namespace Go.Proofs.Ythpflieimocfbaa.HL
open Go
/-- From H to H' all known blocks outside S stand; the blocks of S' are of S, or were not known. -/
def Frm (H : Hp) (S : Nat → Prop) (H' : Hp) (S' : Nat → Prop) : Prop := (∀ b o, H b = some o → ¬ S b → H' b = some o) ∧ ∀ b, S' b → S b ∨ H b = none
theorem Frm.refl (H : Hp) (S : Nat → Prop) : Frm H S H S := ⟨fun _ _ h _ => h, fun _ h => .inl h⟩
theorem Frm.trans {H H1 H2 : Hp} {S S1 S2 : Nat → Prop} (h1 : Frm H S H1 S1) (h2 : Frm H1 S1 H2 S2) : Frm H S H2 S2 := by
  refine ⟨fun b o hb hn => ?_, fun b hb => ?_⟩
  · refine h2.1 b o (h1.1 b o hb hn) fun hs => ?_
    rcases h1.2 b hs with h | h
    · exact hn h
    · rw [h] at hb; cases hb
  · rcases h2.2 b hb with h | h
    · exact h1.2 b h
    · by_cases hs : S b
      · exact .inl hs
      · right
        cases ho : H b with
        | none => rfl
        | some o => rw [h1.1 b o ho hs] at h; cases h
theorem Frm.new {H H1 : Hp} {S S1 : Nat → Prop} (h : Frm H S H1 S1) {b : Nat} {o : Obj} (hb : H1 b = none) : Frm H S (H1.upd b o) S1 := by
  refine ⟨fun x o' hx hn => ?_, h.2⟩
  have := h.1 x o' hx hn
  rw [upd_ne _ _ (by intro e; subst e; rw [this] at hb; cases hb)]; exact this
theorem Frm.le {H0 H H' : Hp} {S S' : Nat → Prop} (h : Frm H S H' S') (hl : Le H0 H) (hs : ∀ b, S b → H0 b = none) : Le H0 H' := fun b o hb =>
  h.1 b o (hl b o hb) fun hS => by rw [hs b hS] at hb; cases hb
theorem Frm.stay {H H' : Hp} {S S' T : Nat → Prop} (h : Frm H S H' S') (hd : ∀ b, T b → ¬ S b) : ∀ b o, T b → H b = some o → H' b = some o := fun b o hb ho => h.1 b o ho (hd b hb)
theorem Frm.of_le {H H' : Hp} (S : Nat → Prop) (h : Le H H') : Frm H S H' S := ⟨fun b o hb _ => h b o hb, fun _ hb => .inl hb⟩
theorem OwnS.stay {H H' : Hp} {E : TypeId} {w : Nat} {v : Value} {n : Nat} {cs : List Value} {rs : Option Nat} (h : OwnS H E w v n cs rs) (k : ∀ b o, rs = some b → H b = some o → H' b = some o) : OwnS H' E w v n cs rs := by
  obtain ⟨h1, h2⟩ := h
  refine ⟨h1, h2.imp id ?_⟩
  rintro ⟨r, cap, c, h3, h4, h5, h6, h7, h8⟩
  exact ⟨r, cap, c, h3, k r _ h8 h4, h5, h6, h7, h8⟩
theorem OwnS.known {H : Hp} {E : TypeId} {w : Nat} {v : Value} {n : Nat} {cs : List Value} {rs : Option Nat} (h : OwnS H E w v n cs rs) : ∀ b, rs = some b → H b ≠ none := by
  obtain ⟨_, ⟨_, _, h3⟩ | ⟨r, cap, c, _, h4, _, _, _, h8⟩⟩ := h
  · intro b hb; rw [h3] at hb; cases hb
  · intro b hb; rw [h8] at hb; cases hb; rw [h4]; simp
theorem Grow.known {H H' : Hp} {rs : Option Nat} (h : Grow H rs H') : ∀ b o, H b = some o → rs ≠ some b → H' b = some o := by
  intro b o hb hn
  rcases h with rfl | ⟨r, o', hr, rfl⟩
  · exact hb
  · rw [upd_ne]
    · exact hb
    · intro e; subst e
      rcases hr with hr | hr
      · exact hn hr
      · rw [hr] at hb; cases hb
end Go.Proofs.Ythpflieimocfbaa.HL
namespace Go.Proofs.Ythpflieimocfbaa.HL
open Go
theorem OwnS.set {H : Hp} {E : TypeId} {k : IntKind} {r n cap : Nat} {l : List Int} {c : Array Value} (h : OwnS H E 1 (.slice (some ⟨r, 0, none⟩) n cap) n (l.map (Value.int k ·)) (some r)) (hc : H r = some (.cells c E)) (i : Nat) (hi : i < n) (y : Int) : OwnS (H.upd r (.cells (c.setIfInBounds i (.int k y)) E)) E 1 (.slice (some ⟨r, 0, none⟩) n cap) n ((l.set i y).map (Value.int k ·)) (some r) := by
  obtain ⟨h1, ⟨h2, _, _⟩ | ⟨r', cap', c', h3, h4, h5, h6, h7, h8⟩⟩ := h
  · cases h2
  · cases h3
    rw [hc] at h4; cases h4
    refine ⟨by simpa using h1, .inr ⟨r, cap, _, rfl, upd_same _ _ _, h5, by simpa using h6, ?_, rfl⟩⟩
    have e : (l.set i y).map (Value.int k ·) = (l.map (Value.int k ·)).set i (.int k y) := by rw [List.map_set]
    rw [e, ← h7]
    simp only [Array.toList_extract, List.extract_eq_take_drop, Array.toList_setIfInBounds, List.drop_zero, Nat.sub_zero, List.take_set]
end Go.Proofs.Ythpflieimocfbaa.HL
end
section
namespace Go.Proofs.Ythpflieimocfbaa.HL
open Go
set_option linter.unusedSimpArgs false
set_option linter.unusedVariables false

section
variable {P : Program} {H : Hp} {e : Env} {r : Nat → Value} {d : Option Nat} {ty : TypeId} {p : String} {af : Array Edge} {g : Option (Nat × Bool)}
end
abbrev i64s (l : List Int) : List Value := l.map (.int .i64 ·)
def I64L (l : List Int) : Prop := ∀ x ∈ l, -9223372036854775808 ≤ x ∧ x ≤ 9223372036854775807
theorem I64L.at {l : List Int} (h : I64L l) (i : Nat) : -9223372036854775808 ≤ l.getD i 0 ∧ l.getD i 0 ≤ 9223372036854775807 := by
  by_cases hi : i < l.length
  · rw [List.getD_eq_getElem?_getD, List.getElem?_eq_getElem hi]; exact h _ (List.getElem_mem hi)
  · rw [List.getD_eq_getElem?_getD, List.getElem?_eq_none (by omega)]; simp
end Go.Proofs.Ythpflieimocfbaa.HL
end
section
namespace Go.Proofs.Ythpflieimocfbaa.HL
open Go
set_option linter.unusedSimpArgs false
set_option linter.unusedVariables false

abbrev CK := Option IntKind
def fitC : CK → Value → Prop
  | none, v => ∃ b, v = .bool b
  | some k, v => ∃ n, v = .int k n
def Fit (ks : List CK) (vs : List Value) : Prop := vs.length = ks.length ∧ ∀ (i : Nat) (k : CK) (v : Value), ks[i]? = some k → vs[i]? = some v → fitC k v
noncomputable def eqV (xs ys : List Value) : Bool := @decide (xs = ys) (Classical.propDecidable _)
theorem eqV_iff {xs ys : List Value} : eqV xs ys = true ↔ xs = ys := by unfold eqV; exact @decide_eq_true_iff _ (Classical.propDecidable _)
theorem eqV_of {xs ys : List Value} {p : Prop} [Decidable p] (h : xs = ys ↔ p) : eqV xs ys = decide p := by
  rw [Bool.eq_iff_iff, eqV_iff, h]; simp
theorem Fit.cut {a b : List CK} {vs : List Value} (h : Fit (a ++ b) vs) : Fit a (vs.take a.length) ∧ Fit b (vs.drop a.length) := by
  obtain ⟨h1, h2⟩ := h
  rw [List.length_append] at h1
  refine ⟨⟨by rw [List.length_take]; omega, fun i k v hk hv => ?_⟩, ⟨by rw [List.length_drop]; omega, fun i k v hk hv => ?_⟩⟩
  · have hi : i < a.length := (List.getElem?_eq_some_iff.1 hk).1
    rw [List.getElem?_take_of_lt hi] at hv
    exact h2 i k v (by rw [List.getElem?_append_left hi]; exact hk) hv
  · rw [List.getElem?_drop] at hv
    exact h2 (a.length + i) k v (by rw [List.getElem?_append_right (by omega)]; simpa using hk) hv
def fieldsK (g : TypeId → Option (List CK)) : Nat → List Field → Option (List CK)
  | _, [] => some []
  | off, f :: r => if f.name = "_" ∨ f.offset ≠ off then none else (g f.type).bind fun k => (fieldsK g (off + k.length) r).map (k ++ ·)
def flatK (P : Program) : Nat → TypeId → Option (List CK)
  | 0, _ => none
  | d + 1, t =>
    match P.underlying t with
    | some .bool => some [none]
    | some (.int k) => some [some k]
    | some (.struct fs) => if P.stoodInHeld t = true then none else fieldsK (fun t => (flatK P d t).bind fun k => if szOf P t = some k.length then some k else none) 0 fs.toList
    | _ => none
def wrapT (P : Program) (t : TypeId) (vs : List Value) : Value := if (P.underlying t).any isAggD = true then .agg vs.toArray else vs.getD 0 undef

section
variable {P : Program}
end
end Go.Proofs.Ythpflieimocfbaa.HL
end
section
namespace Go.Proofs.Ythpflieimocfbaa.HL
open Go

/-- api.Write -/
structure Wr where
  t : Int
  k : Int
  v : Int
  dead : Bool
deriving DecidableEq, Inhabited
abbrev Wr.c (w : Wr) : List Value := [.int .i64 w.t, .int .i64 w.k, .int .i64 w.v, .bool w.dead]
def wrK : List CK := [some .i64, some .i64, some .i64, none]
theorem Wr.inj {a b : Wr} : a.c = b.c ↔ a = b := by
  obtain ⟨t, k, v, d⟩ := a
  obtain ⟨t', k', v', d'⟩ := b
  simp [Wr.c]
theorem Wr.len (w : Wr) : w.c.length = 4 := rfl
def Wr.ok (w : Wr) : Prop := (-9223372036854775808 ≤ w.t ∧ w.t ≤ 9223372036854775807) ∧ (-9223372036854775808 ≤ w.k ∧ w.k ≤ 9223372036854775807) ∧ (-9223372036854775808 ≤ w.v ∧ w.v ≤ 9223372036854775807)
theorem Wr.eqV {a b : Wr} : Go.Proofs.Ythpflieimocfbaa.HL.eqV a.c b.c = decide (a = b) := eqV_of Wr.inj
abbrev wrs (L : List Wr) : List Value := L.flatMap Wr.c
/-- 'append' of one number that stands in a block of one cell. -/
theorem Lt_append1 {P : Program} {H : Hp} {t1 E : TypeId} {by_ : Nat} {z : Value} (hu : P.underlying t1 = some (.slice E)) (hw : szOf P E = some 1) (hby : byOf P E = some by_) (hby0 : 0 < by_)
    (hz : zrOf P E = some (some z)) (hzw : z.cells.size = 1) (ty : TypeId) {v : Value} {n : Nat} {cs : List Value} {rs : Option Nat} (hv : OwnS H E 1 v n cs rs) {b : Nat} {x : Value} (hb : H b = some (.cells #[x] E)) (hp : plainCell x = true)
    (hroom : (4 * (n + 1) + 2000) * by_ ≤ 281474976710656) {K : Value → Hp → Prop}
    (h : ∀ v' H' rs', Grow H rs H' → OwnS H' E 1 v' (n + 1) (cs ++ [x]) rs' → (∀ r, rs' = some r → rs = some r ∨ H r = none) → K v' H') : Lt P (Builtin.append_ #[t1, t1] ty #[v, .slice (some ⟨b, 0, none⟩) 1 1]) H K := by
  have hx : Holds H 1 (.slice (some ⟨b, 0, none⟩) 1 1) 1 [x] := ⟨rfl, .inr ⟨b, 0, 1, _, _, _, rfl, hb, by simp, by simp⟩⟩
  exact Lt_append hu hu (by simp) hw hby hby0 hz hzw ty (n := n) (m := 1) (cs := cs) (ds := [x]) (rs := rs) hv (fun K => len_holds hx K) (fun K => first_slice hx K) rfl (PlainL.cons hp PlainL.nil) hroom h
end Go.Proofs.Ythpflieimocfbaa.HL
end
section
namespace Go.Proofs.Ythpflieimocfbaa.HL
open Go
set_option linter.unusedSimpArgs false
structure Rw where
  a : Option Addr
  n : Nat
  cap : Nat
  rs : Option Nat
deriving Inhabited
abbrev Rw.v (r : Rw) : Value := .slice r.a r.n r.cap
abbrev rvs (L : List Rw) : List Value := L.map Rw.v
def mkB (i t : Nat) : Int := IntKind.u8.wrap (31 * (i : Int) + 3 * (t : Int) + 1)
def mks (i n : Nat) : List Int := (List.range n).map (mkB i)
theorem mks_len (i n : Nat) : (mks i n).length = n := by simp [mks]
theorem mks_succ (i n : Nat) : mks i (n + 1) = mks i n ++ [mkB i n] := by simp [mks, List.range_succ]
theorem mks_get (i n t : Nat) (h : t < n) : (mks i n).getD t 0 = mkB i t := by
  simp [mks, List.getD_eq_getElem?_getD, List.getElem?_map, List.getElem?_range h]
theorem mks_take (i : Nat) {n m : Nat} (h : m ≤ n) : (mks i n).take m = mks i m := by
  simp [mks, ← List.map_take, List.take_range, Nat.min_eq_left h]
/-- an element of a list of rows -/
abbrev rw_ (L : List Rw) (i : Nat) : Rw := L.getD i default
def RowsC (E : TypeId) (H : Hp) (L : List Rw) (C : Nat → List Int) : Prop := ∀ i, i < L.length → OwnS H E 1 (rw_ L i).v (rw_ L i).n (u8s (C i)) (rw_ L i).rs
def RDis (L : List Rw) : Prop := ∀ i j, i < L.length → j < L.length → i ≠ j → ∀ r, (rw_ L i).rs = some r → (rw_ L j).rs ≠ some r
def rown (L : List Rw) (b : Nat) : Prop := ∃ i, i < L.length ∧ (rw_ L i).rs = some b
def MC (L : List Rw) (C : Nat → List Int) (k j : Nat) : Prop := ∀ i t, i < L.length → t < (rw_ L i).n → (i < k ∨ (i = k ∧ t < j)) → (C i).getD t 0 = mkB i t
theorem OwnS.len8 {H : Hp} {E : TypeId} {v : Value} {n : Nat} {l : List Int} {rs : Option Nat} (h : OwnS H E 1 v n (u8s l) rs) : l.length = n := by have := h.1; simp at this; omega
/-- A row that isn't empty: its block. -/
theorem RowsC.row {E : TypeId} {H : Hp} {L : List Rw} {C : Nat → List Int} (h : RowsC E H L C) {k : Nat} (hk : k < L.length) (hn : 0 < (rw_ L k).n) :
    ∃ r c, (rw_ L k).a = some ⟨r, 0, none⟩ ∧ (rw_ L k).rs = some r ∧ H r = some (.cells c E) ∧ (rw_ L k).n ≤ c.size ∧ (c.extract 0 (rw_ L k).n).toList = u8s (C k) := by
  obtain ⟨_, ⟨_, h0, _⟩ | ⟨r, cap, c, e1, e2, e3, e4, e5, e6⟩⟩ := h k hk
  · omega
  · injection e1 with e1 _ e7
    exact ⟨r, c, e1, e6, e2, by omega, by simpa using e5⟩
theorem RowsC.set {E : TypeId} {H : Hp} {L : List Rw} {C : Nat → List Int} (h : RowsC E H L C) (hd : RDis L) {k t : Nat} (hk : k < L.length) (ht : t < (rw_ L k).n) (x : Int) {r : Nat} {c : Array Value}
    (ha : (rw_ L k).a = some ⟨r, 0, none⟩) (hr : (rw_ L k).rs = some r) (hc : H r = some (.cells c E)) : RowsC E (H.upd r (.cells (c.setIfInBounds t (.int .u8 x)) E)) L (fun i => if i = k then (C k).set t x else C i) := by
  intro i hi
  by_cases e : i = k
  · subst e
    simp only [if_true]
    have h1 := h i hi
    rw [hr] at h1 ⊢
    have h2 : (rw_ L i).v = .slice (some ⟨r, 0, none⟩) (rw_ L i).n (rw_ L i).cap := by simp only [Rw.v, ha]
    rw [h2] at h1 ⊢
    exact h1.set hc t ht x
  · simp only [if_neg e]
    exact (h i hi).upd (hd k i hk hi (Ne.symm e) r hr)
theorem MC.set {L : List Rw} {C : Nat → List Int} {k j : Nat} (h : MC L C k j) (hj : j < (C k).length) : MC L (fun i => if i = k then (C k).set j (mkB k j) else C i) k (j + 1) := by
  intro i t hi ht hc
  by_cases e : i = k
  · subst e
    simp only [if_true]
    by_cases e2 : t = j
    · subst e2
      simp [List.getD_eq_getElem?_getD, List.getElem?_set_self hj]
    · have := h i t hi ht (by omega)
      rw [← this]
      simp [List.getD_eq_getElem?_getD, List.getElem?_set_ne (Ne.symm e2)]
  · simp only [if_neg e]
    exact h i t hi ht (by omega)
theorem MC.next {L : List Rw} {C : Nat → List Int} {k : Nat} (h : MC L C k (rw_ L k).n) : MC L C (k + 1) 0 := by
  intro i t hi ht hc
  refine h i t hi ht ?_
  rcases hc with hc | hc
  · by_cases e : i = k
    · subst e; exact .inr ⟨rfl, ht⟩
    · exact .inl (by omega)
  · omega
theorem MC.all {E : TypeId} {H : Hp} {L : List Rw} {C : Nat → List Int} (h : RowsC E H L C) (hm : MC L C L.length 0) : RowsC E H L (fun i => mks i (rw_ L i).n) := by
  intro i hi
  have h1 := h i hi
  have e : C i = mks i (rw_ L i).n := by
    apply List.ext_getElem?
    intro t
    by_cases ht : t < (rw_ L i).n
    · have h2 := hm i t hi ht (.inl hi)
      have h3 : t < (C i).length := by rw [h1.len8]; exact ht
      have h4 : t < (mks i (rw_ L i).n).length := by rw [mks_len]; exact ht
      have h5 := mks_get i (rw_ L i).n t ht
      rw [List.getElem?_eq_getElem h3, List.getElem?_eq_getElem h4]
      have g : ∀ (l : List Int) (h : t < l.length), l.getD t 0 = l[t] := fun l h => by simp [List.getD_eq_getElem?_getD, List.getElem?_eq_getElem h]
      rw [g _ h3] at h2
      rw [g _ h4] at h5
      rw [h2, h5]
    · rw [List.getElem?_eq_none (by rw [h1.len8]; omega), List.getElem?_eq_none (by rw [mks_len]; omega)]
  simp only [← e]; exact h1
abbrev mksOf (X : List Rw) : Nat → List Int := fun i => mks i (rw_ X i).n
theorem rw_set {X : List Rw} {k : Nat} {y : Rw} (hk : k < X.length) (i : Nat) : rw_ (X.set k y) i = if i = k then y else rw_ X i := by
  by_cases e : i = k
  · subst e; simp [List.getD_eq_getElem?_getD, List.getElem?_set_self hk]
  · rw [if_neg e]; simp [List.getD_eq_getElem?_getD, List.getElem?_set_ne (Ne.symm e)]
theorem Holds.le' {H H' : Hp} {w n cap : Nat} {a : Option Addr} {cs : List Value} (h : Holds H w (.slice a n cap) n cs) (k : ∀ A o, a = some A → H A.block = some o → H' A.block = some o) : Holds H' w (.slice a n cap) n cs := by
  obtain ⟨h1, h2 | ⟨b, o, cap', c, T, f, e, h4, h5⟩⟩ := h
  · exact ⟨h1, .inl h2⟩
  · cases e
    exact ⟨h1, .inr ⟨b, o, _, c, T, f, rfl, k _ _ rfl h4, h5⟩⟩
/-- What stands of the rows while they are grown: rows behind k as they were, row k longer by t, rows ahead by 10. -/
def gext (k t i : Nat) : Nat := if i < k then 10 else if i = k then t else 0
structure GI (E : TypeId) (H0 H : Hp) (L X : List Rw) (k t : Nat) : Prop where
  len : X.length = L.length
  rows : RowsC E H X (mksOf X)
  dis : RDis X
  ns : ∀ i, i < L.length → (rw_ X i).n = (rw_ L i).n + gext k t i
  old : ∀ i, i < L.length → Holds H 1 (rw_ L i).v (rw_ L i).n (u8s (mks i (rw_ L i).n))
  eq : ∀ i, i < L.length → gext k t i = 0 → rw_ X i = rw_ L i
  fresh : ∀ i, i < L.length → ∀ r, (rw_ X i).rs = some r → (rw_ L i).rs = some r ∨ H0 r = none
  frame : ∀ b o, H0 b = some o → ¬ rown L b → H b = some o
  kn : ∀ b, H b = none → H0 b = none
theorem Grow.none {H H' : Hp} {rs : Option Nat} (h : Grow H rs H') : ∀ b, H' b = none → H b = none := by
  intro b hb
  rcases h with rfl | ⟨r, o, _, rfl⟩
  · exact hb
  · by_cases e : b = r
    · subst e; rw [upd_same] at hb; cases hb
    · rwa [upd_ne _ _ e] at hb
theorem Holds.pref {H : Hp} {E : TypeId} {v : Value} {n m : Nat} {i : Nat} {r : Nat} {cap : Nat} (h : OwnS H E 1 v n (u8s (mks i n)) (some r)) (hm : m ≤ n) : Holds H 1 (.slice (some ⟨r, 0, none⟩) m cap) m (u8s (mks i m)) := by
  obtain ⟨_, ⟨_, _, h0⟩ | ⟨r', cap', c, e1, e2, e3, e4, e5, e6⟩⟩ := h
  · cases h0
  · cases e6
    refine ⟨by simp [mks_len], .inr ⟨r, 0, cap, c, E, _, rfl, e2, by omega, ?_⟩⟩
    have : (c.extract 0 m).toList = (u8s (mks i n)).take m := by
      rw [← e5]; simp [Array.toList_extract, List.extract_eq_take_drop, List.take_take, Nat.min_eq_left hm]
    simp only [Nat.zero_add, Nat.mul_one]
    rw [this, u8s, ← List.map_take, mks_take i hm]
theorem GI.grow {E : TypeId} {H0 H H' : Hp} {L X : List Rw} {k t : Nat} (g : GI E H0 H L X k t) (hk : k < L.length) (hL : ∀ i, i < L.length → (rw_ L i).n = 0 ∨ ∃ r, (rw_ L i).a = some ⟨r, 0, none⟩ ∧ (rw_ L i).rs = some r)
    (hdL : RDis L) (hkn : ∀ i, i < L.length → ∀ r, (rw_ L i).rs = some r → H0 r ≠ none) {a' : Option Addr} {cap' : Nat} {rs' : Option Nat} (hg : Grow H (rw_ X k).rs H') (ho : OwnS H' E 1 (.slice a' ((rw_ X k).n + 1) cap') ((rw_ X k).n + 1) (u8s (mks k (rw_ X k).n) ++ [.int .u8 (mkB k (rw_ X k).n)]) rs')
    (hr : ∀ r, rs' = some r → (rw_ X k).rs = some r ∨ H r = none) : GI E H0 H' L (X.set k ⟨a', (rw_ X k).n + 1, cap', rs'⟩) k (t + 1) := by
  have hkx : k < X.length := by rw [g.len]; exact hk
  have ho' : OwnS H' E 1 (.slice a' ((rw_ X k).n + 1) cap') ((rw_ X k).n + 1) (u8s (mks k ((rw_ X k).n + 1))) rs' := by
    rw [mks_succ, u8s, List.map_append]; exact ho
  -- blocks of other rows stand
  have stay : ∀ i, i < L.length → i ≠ k → ∀ b o, (rw_ X i).rs = some b → H b = some o → H' b = some o := fun i hi hik b o hb hbo =>
    hg.known b o hbo (fun e => g.dis k i hkx (by rw [g.len]; exact hi) (Ne.symm hik) b e hb)
  refine ⟨by simp [g.len], ?_, ?_, ?_, ?_, ?_, ?_, ?_, fun b hb => g.kn b (hg.none b hb)⟩
  · intro i hi
    have hi' : i < L.length := by simp [g.len] at hi; exact hi
    simp only [mksOf, rw_set hkx]
    by_cases e : i = k
    · subst e; simp only [if_true]; exact ho'
    · simp only [if_neg e]; exact (g.rows i (by rw [g.len]; exact hi')).stay (stay i hi' e)
  · intro i j hi hj hij r
    have hi' : i < L.length := by simp [g.len] at hi; exact hi
    have hj' : j < L.length := by simp [g.len] at hj; exact hj
    rw [rw_set hkx, rw_set hkx]
    by_cases e : i = k
    · subst e
      rw [if_pos rfl, if_neg (Ne.symm hij)]
      intro h1 h2
      rcases hr r h1 with h3 | h3
      · exact g.dis i j hkx (by rw [g.len]; exact hj') hij r h3 h2
      · exact (g.rows j (by rw [g.len]; exact hj')).known r h2 h3
    · rw [if_neg e]
      by_cases e2 : j = k
      · subst e2
        rw [if_pos rfl]
        intro h1 h2
        rcases hr r h2 with h3 | h3
        · exact g.dis i j (by rw [g.len]; exact hi') hkx hij r h1 h3
        · exact (g.rows i (by rw [g.len]; exact hi')).known r h1 h3
      · rw [if_neg e2]
        exact g.dis i j (by rw [g.len]; exact hi') (by rw [g.len]; exact hj') hij r
  · intro i hi
    rw [rw_set hkx]
    by_cases e : i = k
    · subst e; rw [if_pos rfl]
      have := g.ns i hi
      simp only [gext, Nat.lt_irrefl, if_false, if_true] at this ⊢; omega
    · rw [if_neg e]
      have := g.ns i hi
      simp only [gext, e, if_false] at this ⊢; exact this
  · intro i hi
    have hold := g.old i hi
    rcases hL i hi with h0 | ⟨r, ha, hrs⟩
    · have e0 : mks i (rw_ L i).n = [] := by rw [h0]; rfl
      refine ⟨by rw [e0, h0]; rfl, .inl ⟨(rw_ L i).a, (rw_ L i).cap, ?_, h0⟩⟩
      rw [Rw.v, h0]
    · by_cases e : i = k
      · subst e
        by_cases e2 : rs' = some r
        · rw [e2] at ho'
          have hle : (rw_ L i).n ≤ (rw_ X i).n + 1 := by have := g.ns i hi; omega
          have := Holds.pref (cap := (rw_ L i).cap) ho' hle
          rw [Rw.v, ha]; exact this
        · rw [Rw.v] at hold ⊢
          refine hold.le' ?_
          intro A o hA hAo
          rw [ha] at hA; cases hA
          rcases hg with rfl | ⟨r2, o2, h2, rfl⟩
          · exact hAo
          · rw [upd_ne _ _ ?_]; exact hAo
            intro e3
            simp only at e3
            subst e3
            -- the block that was changed is r: so it is the new slice's
            obtain ⟨_, ⟨_, h5, _⟩ | ⟨r4, _, _, _, h6, _, _, _, h7⟩⟩ := ho'
            · omega
            · rcases hr r4 h7 with h8 | h8
              · rcases h2 with h2 | h2
                · rw [h2] at h8; cases h8; exact e2 h7
                · rw [h2] at hAo; cases hAo
              · by_cases e5 : r4 = r
                · subst e5; exact e2 h7
                · rw [upd_ne _ _ e5, h8] at h6; cases h6
      · rw [Rw.v] at hold ⊢
        refine hold.le' ?_
        intro A o hA hAo
        rw [ha] at hA; cases hA
        refine hg.known _ _ hAo (fun e2 => ?_)
        rcases g.fresh k hk r e2 with h3 | h3
        · exact hdL k i hk hi (Ne.symm e) r h3 hrs
        · exact hkn i hi r hrs h3
  · intro i hi h0
    rw [rw_set hkx]
    by_cases e : i = k
    · subst e; simp [gext] at h0
    · rw [if_neg e]
      refine g.eq i hi ?_
      simpa [gext, e] using h0
  · intro i hi r
    rw [rw_set hkx]
    by_cases e : i = k
    · subst e; rw [if_pos rfl]
      intro h1
      rcases hr r h1 with h3 | h3
      · exact g.fresh i hi r h3
      · exact .inr (g.kn r h3)
    · rw [if_neg e]; exact g.fresh i hi r
  · intro b o hb hn
    refine hg.known b o (g.frame b o hb hn) (fun e => ?_)
    rcases g.fresh k hk b e with h3 | h3
    · exact hn ⟨k, hk, h3⟩
    · rw [hb] at h3; cases h3
theorem GI.next {E : TypeId} {H0 H : Hp} {L X : List Rw} {k : Nat} (g : GI E H0 H L X k 10) : GI E H0 H L X (k + 1) 0 := by
  have e : ∀ i, gext (k + 1) 0 i = gext k 10 i := fun i => by
    unfold gext
    by_cases h : i < k
    · rw [if_pos h, if_pos (by omega)]
    · by_cases h2 : i = k
      · rw [if_pos (by omega), if_neg h, if_pos h2]
      · rw [if_neg (by omega), if_neg h, if_neg h2]; simp
  exact ⟨g.len, g.rows, g.dis, fun i hi => by rw [e]; exact g.ns i hi, g.old, fun i hi h => g.eq i hi (by rw [← e]; exact h), g.fresh, g.frame, g.kn⟩
theorem GI.keep {E : TypeId} {H0 H H' : Hp} {L X : List Rw} {k t : Nat} (g : GI E H0 H L X k t) (hs : ∀ b o, H b = some o → (rown L b ∨ rown X b ∨ H0 b ≠ none) → H' b = some o)
    (hL : ∀ i, i < L.length → (rw_ L i).n = 0 ∨ ∃ r, (rw_ L i).a = some ⟨r, 0, none⟩ ∧ (rw_ L i).rs = some r) (hk : ∀ b, H' b = none → H b = none) : GI E H0 H' L X k t := by
  refine ⟨g.len, fun i hi => (g.rows i hi).stay (fun b o hb ho => hs b o ho (.inr (.inl ⟨i, hi, hb⟩))), g.dis, g.ns, fun i hi => ?_, g.eq, g.fresh, fun b o hb hn => hs b o (g.frame b o hb hn) (.inr (.inr (by rw [hb]; simp))), fun b hb => g.kn b (hk b hb)⟩
  rcases hL i hi with h0 | ⟨r, ha, hrs⟩
  · have e0 : mks i (rw_ L i).n = [] := by rw [h0]; rfl
    refine ⟨by rw [e0, h0]; rfl, .inl ⟨(rw_ L i).a, (rw_ L i).cap, ?_, h0⟩⟩
    rw [Rw.v, h0]
  · have hold := g.old i hi
    rw [Rw.v] at hold ⊢
    refine hold.le' ?_
    intro A o hA hAo
    rw [ha] at hA; cases hA
    exact hs _ _ hAo (.inl ⟨i, hi, hrs⟩)
theorem GI.start {E : TypeId} {H0 H : Hp} {L : List Rw} (h : RowsC E H L (mksOf L)) (hd : RDis L) (hf : ∀ b o, H0 b = some o → ¬ rown L b → H b = some o) : GI E H0 H L L 0 0 := by
  have hkn : ∀ b, H b = none → H0 b = none := fun b hb => by
    cases ho : H0 b with
    | none => rfl
    | some o =>
      by_cases e : rown L b
      · obtain ⟨i, hi, h1⟩ := e
        exact absurd hb ((h i hi).known b h1)
      · rw [hf b o ho e] at hb; cases hb
  refine ⟨rfl, h, hd, fun i _ => by simp [gext], fun i hi => (h i hi).holds, fun _ _ _ => rfl, fun i _ r hr => .inl hr, hf, hkn⟩
theorem upd_none {H : Hp} {x b : Nat} {o : Obj} (h : H.upd x o b = none) : H b = none := by
  by_cases e : b = x
  · subst e; rw [upd_same] at h; cases h
  · rwa [upd_ne _ _ e] at h
/-- a new block beside it -/
theorem GI.new {E : TypeId} {H0 H : Hp} {L X : List Rw} {k t : Nat} (g : GI E H0 H L X k t) (hL : ∀ i, i < L.length → (rw_ L i).n = 0 ∨ ∃ r, (rw_ L i).a = some ⟨r, 0, none⟩ ∧ (rw_ L i).rs = some r) {b : Nat} (hb : H b = none) (o : Obj) : GI E H0 (H.upd b o) L X k t :=
  g.keep (fun x o' hx _ => (upd_ne _ _ (ne_of_none hx hb)).trans hx) hL (fun _ h => upd_none h)
theorem RowsC.form {E : TypeId} {H : Hp} {L : List Rw} {C : Nat → List Int} (h : RowsC E H L C) : ∀ i, i < L.length → (rw_ L i).n = 0 ∨ ∃ r, (rw_ L i).a = some ⟨r, 0, none⟩ ∧ (rw_ L i).rs = some r := by
  intro i hi
  by_cases e : (rw_ L i).n = 0
  · exact .inl e
  · obtain ⟨r, c, h1, h2, _⟩ := h.row hi (by omega)
    exact .inr ⟨r, h1, h2⟩
theorem rv_at {L : List Rw} {c : Array Value} {o n : Nat} (h : ∀ j, j < n * 1 → c[o + j]? = (rvs L)[j]?) (hn : n = L.length) (k : Nat) (hk : k < L.length) : c[o + k]? = some (Value.slice (rw_ L k).a (rw_ L k).n (rw_ L k).cap) := by
  rw [h k (by omega), rvs, List.getElem?_map, List.getElem?_eq_getElem hk]
  simp [List.getD_eq_getElem?_getD, List.getElem?_eq_getElem hk]
theorem mks_at {c : Array Value} {i n j : Nat} (h : (c.extract 0 n).toList = u8s (mks i n)) (hj : j < n) : c[j]? = some (.int .u8 (mkB i j)) := by
  have h1 : (c.extract 0 n).toList[j]? = c[j]? := by
    simp only [Array.toList_extract, List.extract_eq_take_drop, Nat.sub_zero, List.drop_zero, List.getElem?_take, if_pos hj, Array.getElem?_toList]
  rw [← h1, h, u8s, List.getElem?_map, List.getElem?_eq_getElem (by rw [mks_len]; exact hj)]
  have := mks_get i n j hj
  rw [List.getD_eq_getElem?_getD, List.getElem?_eq_getElem (by rw [mks_len]; exact hj), Option.getD_some] at this
  rw [← this]; rfl
/-- a grown row's block; an old row's block -/
theorem GI.newrow {E : TypeId} {H0 H : Hp} {L X : List Rw} {k t : Nat} (g : GI E H0 H L X k t) {i : Nat} (hi : i < X.length) (hn : 0 < (rw_ X i).n) : ∃ r c, (rw_ X i).a = some ⟨r, 0, none⟩ ∧ H r = some (.cells c E) ∧ ∀ j, j < (rw_ X i).n → c[j]? = some (.int .u8 (mkB i j)) := by
  obtain ⟨r, c, h1, _, h2, _, h4⟩ := g.rows.row hi hn
  exact ⟨r, c, h1, h2, fun j hj => mks_at h4 hj⟩
theorem GI.oldrow {E : TypeId} {H0 H : Hp} {L X : List Rw} {k t : Nat} (g : GI E H0 H L X k t) {i : Nat} (hi : i < L.length) : ∃ r o c T f, 0 < (rw_ L i).n → (rw_ L i).a = some ⟨r, o, none⟩ ∧ H r = some (.cells c T f) ∧ ∀ j, j < (rw_ L i).n → c[o + j]? = some (.int .u8 (mkB i j)) := by
  by_cases e : 0 < (rw_ L i).n
  · obtain ⟨b, o, c, T, f, h1, h2, h3, h4⟩ := (g.old i hi).at e
    refine ⟨b, o, c, T, f, fun _ => ⟨h1, h2, fun j hj => ?_⟩⟩
    rw [h4 j (by omega), u8s, List.getElem?_map, List.getElem?_eq_getElem (by rw [mks_len]; exact hj)]
    have := mks_get i _ j hj
    rw [List.getD_eq_getElem?_getD, List.getElem?_eq_getElem (by rw [mks_len]; exact hj), Option.getD_some] at this
    rw [← this]; rfl
  · exact ⟨0, 0, #[], 0, (0, 0), fun h => absurd h e⟩
theorem Lt_indexSof {P : Program} {H : Hp} {t e : TypeId} (hu : P.underlying t = some (.slice e)) {m : Nat} (hs : szOf P e = some m) {a : Option Addr} {b o n cap : Nat} (ha : a = some ⟨b, o, none⟩) {k : IntKind} {i : Int} (h0 : 0 ≤ i) (h1 : i < n) {K : Value → Hp → Prop}
    (h : K (.pointer (some ⟨b, o + i.toNat * m, none⟩)) H) : Lt P (Instr.indexAt t (.slice a n cap) (.int k i)) H K := by
  subst ha
  refine Lt_indexS hu hs h0 h1 ?_
  rw [add_mk]; exact h
end Go.Proofs.Ythpflieimocfbaa.HL
end
section
namespace Go.Proofs.Ythpflieimocfbaa.HL
open Go
/-- environments, and what comes behind an operation -/
theorem eX :
    (∀ (e : Env) (r : Nat → Value) (t : Nat), ev e r (.tmp t) = (e.get t).getD (r t)) ∧ (∀ (e : Env) (r : Nat → Value) (v : Value), ev e r (.const v) = v) ∧
    (∀ (e : Env) (r : Nat → Value) (k : Nat), ev e r (.global k) = .pointer (some ⟨k, 0, none⟩)) ∧ (∀ (e : Env) (r : Nat → Value) (k : Nat), ev e r (.func k) = .func (.func k) #[] #[]) ∧
    (∀ t : Nat, Env.get [] t = none) ∧ (∀ (e : Env) (k t : Nat) (v : Value), Env.get ((k, v) :: e) t = if t = k then some v else Env.get e t) ∧ (∀ v u : Value, (some v).getD u = v) ∧
    (∀ (P : Program) (v : Value) (H : Hp) (R : Value → Hp → Prop), NextH P (.value v) H R = R v H) ∧ (∀ (e : Env) (t : Nat) (v : Value), Env.putO e (some t) v = e.put t v) ∧ (∀ (e : Env) (v : Value), Env.putO e none v = e) ∧
    (∀ (t : Nat) (v : Value), Env.put [] t v = [(t, v)]) ∧ (∀ (e : Env) (k t : Nat) (u v : Value), Env.put ((k, u) :: e) t v = if t = k then (k, v) :: e else (k, u) :: Env.put e t v) ∧
    (∀ (H : Hp) (b : Nat) (o o' : Obj), (H.upd b o).upd b o' = H.upd b o') ∧ (∀ (P : Program) (f : FuncId) (args : Array Value) (H : Hp) (R : Value → Hp → Prop), NextH P (.enter f args) H R = CallH P f args H R) :=
  ⟨fun _ _ _ => rfl, fun _ _ _ => rfl, fun _ _ _ => rfl, fun _ _ _ => rfl, fun _ => rfl, fun _ _ _ _ => rfl, fun _ _ => rfl, fun _ _ _ _ => rfl, fun _ _ _ => rfl, fun _ _ => rfl, fun _ _ => rfl, fun _ _ _ _ _ => rfl, fun _ _ _ _ => upd_upd _ _ _ _, fun _ _ _ _ _ => rfl⟩
section
variable {P : Program} {n : Nat} {ops : Array Oper} {Q : Env → Hp → Prop} {d : Nat} {op : Op} {ty : TypeId} {p : String} {af : Array Edge} {rest : List Oper} {e : Env} {H : Hp}
theorem OW_opS (h : ∀ K : Env → Hp → Prop, (∀ e H, OW P n ops Q rest e H → K e H) → ∀ r, Lt P (execOp (ev e r) ⟨some d, op, ty, p, af, none⟩) H (fun nx H' => NextH P nx H' (fun v H'' => K (e.putO (some d) v) H''))) (hd : noDefer ⟨some d, op, ty, p, af, none⟩ = true := by rfl) (ht : d < n := by decide) :
    OW P n ops Q (⟨some d, op, ty, p, af, none⟩ :: rest) e H := OW_op hd (lt_some ht) h
/-- What an operand is, where it is known. -/
def evO (e : Env) : Operand → Option Value
  | .tmp t => e.get t
  | .const v => some v
  | _ => none
theorem evO_ev {e : Env} {x : Operand} {v : Value} (h : evO e x = some v) (r : Nat → Value) : ev e r x = v := by
  cases x with
  | tmp t => simp only [evO] at h; simp only [ev, h, Option.getD_some]
  | const c => simp only [evO, Option.some.injEq] at h; subst h; rfl
  | _ => simp [evO] at h
theorem OW_mv {x : Operand} {v : Value} (hv : evO e x = some v) (h : OW P n ops Q rest (e.put d v) H) (hd : noDefer ⟨some d, .move x, ty, p, af, none⟩ = true := by rfl) (ht : d < n := by decide) : OW P n ops Q (⟨some d, .move x, ty, p, af, none⟩ :: rest) e H :=
  OW_op hd (lt_some ht) fun K hK r => by
    rw [x_move, evO_ev hv r]
    exact hK _ _ h
theorem OW_as {x : Operand} {v : Value} (hv : evO e x = some v) (h : OW P n ops Q rest (e.put d v) H) (hd : noDefer ⟨some d, .assign x, ty, p, af, none⟩ = true := by rfl) (ht : d < n := by decide) : OW P n ops Q (⟨some d, .assign x, ty, p, af, none⟩ :: rest) e H :=
  OW_op hd (lt_some ht) fun K hK r => by
    rw [x_assign, evO_ev hv r]
    exact hK _ _ h
end
end Go.Proofs.Ythpflieimocfbaa.HL
end
section
namespace Go.Proofs.Ythpflieimocfbaa.HL
open Go Go.Proofs
set_option linter.unusedSimpArgs false
set_option linter.unusedVariables false
attribute [local irreducible] Lt Lq CW OW TW CallH

set_option maxRecDepth 100000 in
set_option maxHeartbeats 8000000 in
theorem Apart_ok (H : Hp) (a0 : Option Addr) (c0 : Nat) (L : List Rw) (C0 : Nat → List Int) (hv : Holds H 1 (.slice a0 L.length c0) L.length (rvs L)) (hva : ∀ A, a0 = some A → ¬ rown L A.block) (hrows : RowsC 5 H L C0) (hd : RDis L) (hN : L.length ≤ 1000) (hns : ∀ i, i < L.length → (rw_ L i).n ≤ 100000) : CallH Try.prog 17 #[.slice a0 L.length c0] H (fun v H' => v = .bool true ∧ ∀ b o, H b = some o → ¬ rown L b → H' b = some o) := by
  refine CallH_enter (l := [_]) (rl := [.tmp 2]) (n := 117) Try.func17 rfl rfl rfl rfl rfl ?_
  simp only [envOf, Nat.reduceAdd]
  have hLf := hrows.form
  have hkn : ∀ i, i < L.length → ∀ r, (rw_ L i).rs = some r → H r ≠ none := fun i hi => (hrows i hi).known
  refine CW_seq (fun K1 hK1 => ?_)
  refine CW_region ?_
  refine OW_as rfl ?_
  refine OW_nil ?_
  try simp only [Ex.thnH, Ex.inBlockH, ↓reduceIte, Nat.reduceEqDiff]
  refine hK1 _ _ ?_; try clear hK1 K1
  refine CW_seq (fun K2 hK2 => ?_)
  refine CW_seq (fun K3 hK3 => ?_)
  refine CW_region ?_
  refine OW_mv rfl ?_
  refine OW_opS (fun K hK r => ?_)
  simp only [x_builtin, l_len, List.map_toArray, List.map_cons, List.map_nil, i_len_slice _ _ Try.underlying43, eX, ↓reduceIte, Nat.reduceEqDiff, Int.reduceToNat]
  refine hK _ _ ?_; clear hK K
  refine OW_mv rfl ?_
  refine OW_nil ?_
  try simp only [Ex.thnH, Ex.inBlockH, ↓reduceIte, Nat.reduceEqDiff]
  refine hK3 _ _ ?_; try clear hK3 K3
  refine CW_block ?_
  refine CW_loop (fun m e H_ => ∃ (k : Nat) (C : Nat → List Int), k ≤ L.length ∧ m = L.length - k ∧ RowsC 5 H_ L C ∧ MC L C k 0 ∧ (∀ b o, H b = some o → ¬ rown L b → H_ b = some o) ∧ Env.has [(0, .slice a0 L.length c0), (13, .slice a0 L.length c0), (14, .int .i64 L.length), (15, .int .i64 k)] e) (L.length) ?_ ?_
  · skip
    exact ⟨0, C0, by omega, by omega, hrows, (fun i t _ _ h => by omega), (fun b o hb _ => hb), rfl, rfl, rfl, rfl, trivial⟩
  intro m_ e_ H_ hI_
  obtain ⟨k, C, hk, rfl, hrc, hmc, hfr, he⟩ := hI_
  refine CW_env he.sub ?_; clear he e_
  refine CW_seq (fun K4 hK4 => ?_)
  refine CW_region ?_
  refine OW_opS (fun K hK r => ?_)
  simp (disch := (first | omega | decide)) only [x_bin, g_int, b_lss, dec_lt_t, dec_lt_f, dec_le_t, dec_le_f, dec_eq_t, dec_eq_f, Bool.not_true, Bool.not_false, eX, ↓reduceIte, Nat.reduceEqDiff, Int.reduceToNat]
  refine hK _ _ ?_; clear hK K
  refine OW_nil ?_
  try simp only [Ex.thnH, Ex.inBlockH, ↓reduceIte, Nat.reduceEqDiff]
  refine hK4 _ _ ?_; try clear hK4 K4
  refine CW_seq (fun K5 hK5 => ?_)
  refine CW_cond (fun r => rfl) (fun c16 => ?_) (fun c16 => ?_)
  · first
    | (exfalso; exact cnA c16; done)
    | skip
      (try simp only [decide_eq_true_eq, decide_eq_false_iff_not, Bool.not_eq_true, Bool.not_eq_false, Bool.and_eq_true, Bool.or_eq_true, Bool.or_eq_false_iff, Bool.not_eq_true, Bool.not_eq_eq_eq_not, Bool.not_true, Bool.not_false] at c16)
      have hvk : Holds H_ 1 (.slice a0 L.length c0) L.length (rvs L) := hv.le' (fun A o hA ho => hfr _ o ho (hva A hA))
      obtain ⟨bl, ol, ql, Tl, Fl, eal, hbl, hsl, atl⟩ := hvk.at (by omega)
      refine CW_skip ?_
      try simp only [Ex.thnH, Ex.inBlockH, ↓reduceIte, Nat.reduceEqDiff]
      refine hK5 _ _ ?_; try clear hK5 K5
      refine CW_seq (fun K6 hK6 => ?_)
      refine CW_block ?_
      refine CW_seq (fun K7 hK7 => ?_)
      refine CW_region ?_
      refine OW_mv rfl ?_
      refine OW_opS (fun K hK r => ?_)
      simp only [x_indexAddr, eX, ↓reduceIte, Nat.reduceEqDiff, Int.reduceToNat]
      refine Lt_indexSof Try.underlying43 sz22 eal ixA ixA ?_
      try simp only [Nat.mul_one, Int.toNat_natCast]
      refine hK _ _ ?_; clear hK K
      refine OW_opS (fun K hK r => ?_)
      simp only [x_load, eX, ↓reduceIte, Nat.reduceEqDiff, Int.reduceToNat]
      refine Lt_loadAt1 Try.underlying22 rfl hbA (v := .slice (rw_ L k).a (rw_ L k).n (rw_ L k).cap) (by first | exact rv_at atl rfl k (by omega) | (simp only [Int.toNat_natCast, Nat.mul_one]; exact rv_at atl rfl k (by omega))) ?_
      refine hK _ _ ?_; clear hK K
      refine OW_as rfl ?_
      refine OW_as rfl ?_
      refine OW_nil ?_
      try simp only [Ex.thnH, Ex.inBlockH, ↓reduceIte, Nat.reduceEqDiff]
      refine hK7 _ _ ?_; try clear hK7 K7
      refine CW_seq (fun K8 hK8 => ?_)
      refine CW_region ?_
      refine OW_mv rfl ?_
      refine OW_opS (fun K hK r => ?_)
      simp only [x_builtin, l_len, List.map_toArray, List.map_cons, List.map_nil, i_len_slice _ _ Try.underlying22, eX, ↓reduceIte, Nat.reduceEqDiff, Int.reduceToNat]
      refine hK _ _ ?_; clear hK K
      refine OW_mv rfl ?_
      refine OW_nil ?_
      try simp only [Ex.thnH, Ex.inBlockH, ↓reduceIte, Nat.reduceEqDiff]
      refine hK8 _ _ ?_; try clear hK8 K8
      refine CW_block ?_
      refine CW_loop (fun m e H_ => ∃ (j : Nat) (C : Nat → List Int), j ≤ (rw_ L k).n ∧ m = (rw_ L k).n - j ∧ RowsC 5 H_ L C ∧ MC L C k j ∧ (∀ b o, H b = some o → ¬ rown L b → H_ b = some o) ∧ Env.has [(0, .slice a0 L.length c0), (3, .int .i64 k), (4, .slice (rw_ L k).a (rw_ L k).n (rw_ L k).cap), (13, .slice a0 L.length c0), (14, .int .i64 L.length), (15, .int .i64 k), (21, .int .i64 (rw_ L k).n), (22, .int .i64 j)] e) ((rw_ L k).n) ?_ ?_
      · skip
        exact ⟨0, C, by omega, by omega, hrc, hmc, hfr, rfl, rfl, rfl, rfl, rfl, rfl, rfl, rfl, trivial⟩
      intro m_ e_ H_ hI_
      obtain ⟨j, Cj, hj, rfl, hrj, hmj, hfj, he⟩ := hI_
      have hkL : k < L.length := by omega
      have hnk := hns k hkL
      refine CW_env he.sub ?_; clear he e_
      refine CW_seq (fun K9 hK9 => ?_)
      refine CW_region ?_
      refine OW_opS (fun K hK r => ?_)
      simp (disch := (first | omega | decide)) only [x_bin, g_int, b_lss, dec_lt_t, dec_lt_f, dec_le_t, dec_le_f, dec_eq_t, dec_eq_f, Bool.not_true, Bool.not_false, eX, ↓reduceIte, Nat.reduceEqDiff, Int.reduceToNat]
      refine hK _ _ ?_; clear hK K
      refine OW_nil ?_
      try simp only [Ex.thnH, Ex.inBlockH, ↓reduceIte, Nat.reduceEqDiff]
      refine hK9 _ _ ?_; try clear hK9 K9
      refine CW_seq (fun K10 hK10 => ?_)
      refine CW_cond (fun r => rfl) (fun c23 => ?_) (fun c23 => ?_)
      · first
        | (exfalso; exact cnA c23; done)
        | skip
          (try simp only [decide_eq_true_eq, decide_eq_false_iff_not, Bool.not_eq_true, Bool.not_eq_false, Bool.and_eq_true, Bool.or_eq_true, Bool.or_eq_false_iff, Bool.not_eq_true, Bool.not_eq_eq_eq_not, Bool.not_true, Bool.not_false] at c23)
          obtain ⟨r4, c4, ha4, hrs4, hc4, hsz4, hex4⟩ := hrj.row hkL (by omega)
          refine CW_skip ?_
          try simp only [Ex.thnH, Ex.inBlockH, ↓reduceIte, Nat.reduceEqDiff]
          refine hK10 _ _ ?_; try clear hK10 K10
          refine CW_seq (fun K11 hK11 => ?_)
          refine CW_block ?_
          refine CW_seq (fun K12 hK12 => ?_)
          refine CW_region ?_
          refine OW_mv rfl ?_
          refine OW_as rfl ?_
          refine OW_nil ?_
          try simp only [Ex.thnH, Ex.inBlockH, ↓reduceIte, Nat.reduceEqDiff]
          refine hK12 _ _ ?_; try clear hK12 K12
          refine CW_region ?_
          refine OW_mv rfl ?_
          refine OW_mv rfl ?_
          refine OW_mv rfl ?_
          refine OW_opS (fun K hK r => ?_)
          simp (disch := (first | omega | decide)) only [x_bin, g_int, b_mul, wrap_i64, wrap_u64, wrap_u32, wrap_u8, eX, ↓reduceIte, Nat.reduceEqDiff, Int.reduceToNat]
          refine hK _ _ ?_; clear hK K
          refine OW_mv rfl ?_
          refine OW_opS (fun K hK r => ?_)
          simp (disch := (first | omega | decide)) only [x_bin, g_int, b_mul, wrap_i64, wrap_u64, wrap_u32, wrap_u8, eX, ↓reduceIte, Nat.reduceEqDiff, Int.reduceToNat]
          refine hK _ _ ?_; clear hK K
          refine OW_opS (fun K hK r => ?_)
          simp (disch := (first | omega | decide)) only [x_bin, g_int, b_add, wrap_i64, wrap_u64, wrap_u32, wrap_u8, eX, ↓reduceIte, Nat.reduceEqDiff, Int.reduceToNat]
          refine hK _ _ ?_; clear hK K
          refine OW_opS (fun K hK r => ?_)
          simp (disch := (first | omega | decide)) only [x_bin, g_int, b_add, wrap_i64, wrap_u64, wrap_u32, wrap_u8, eX, ↓reduceIte, Nat.reduceEqDiff, Int.reduceToNat]
          refine hK _ _ ?_; clear hK K
          refine OW_opS (fun K hK r => ?_)
          simp (disch := (first | omega | decide)) only [x_convert, c_int _ _ _ _ Try.underlying3 Try.underlying5, wrap_i64, wrap_u64, wrap_u32, wrap_u8, eX, ↓reduceIte, Nat.reduceEqDiff, Int.reduceToNat]
          refine hK _ _ ?_; clear hK K
          refine OW_opS (fun K hK r => ?_)
          simp only [x_indexAddr, eX, ↓reduceIte, Nat.reduceEqDiff, Int.reduceToNat]
          refine Lt_indexSof Try.underlying22 sz5 ha4 ixA ixA ?_
          simp only [Nat.mul_one, Nat.zero_add, Int.toNat_natCast]
          refine hK _ _ ?_; clear hK K
          refine OW_op rfl (lt_none) (fun K hK r => ?_)
          simp only [x_store, eX, ↓reduceIte, Nat.reduceEqDiff, Int.reduceToNat]
          refine Lt_storeAt1 sz5 hc4 (by omega) plA fzA ?_
          refine hK _ _ ?_; clear hK K
          refine OW_nil ?_
          try simp only [Ex.thnH, Ex.inBlockH, ↓reduceIte, Nat.reduceEqDiff]
          refine hK11 _ _ ?_; try clear hK11 K11
          refine CW_region ?_
          refine OW_opS (fun K hK r => ?_)
          simp (disch := (first | omega | decide)) only [x_bin, g_int, b_add, wrap_i64, wrap_u64, wrap_u32, wrap_u8, eX, ↓reduceIte, Nat.reduceEqDiff, Int.reduceToNat]
          refine hK _ _ ?_; clear hK K
          refine OW_mv rfl ?_
          refine OW_nil ?_
          try simp only [Ex.thnH, Ex.inBlockH, ↓reduceIte, Nat.reduceEqDiff]
          refine ⟨(rw_ L k).n - (j + 1), by omega, j + 1, _, by omega, rfl, hrj.set hd hkL (by omega) (mkB k j) ha4 hrs4 hc4, hmj.set (by rw [(hrj k hkL).len8]; omega), ?_, rfl, rfl, rfl, rfl, rfl, rfl, rfl, rfl, trivial⟩
          exact fun b o hb hn => by rw [upd_ne _ _ (fun e => hn ⟨k, hkL, by rw [e]; exact hrs4⟩)]; exact hfj b o hb hn
      · first
        | (exfalso; exact cnA c23; done)
        | skip
          (try simp only [decide_eq_true_eq, decide_eq_false_iff_not, Bool.not_eq_true, Bool.not_eq_false, Bool.and_eq_true, Bool.or_eq_true, Bool.or_eq_false_iff, Bool.not_eq_true, Bool.not_eq_eq_eq_not, Bool.not_true, Bool.not_false] at c23)
          refine CW_exit ?_
          try simp only [Ex.thnH, Ex.inBlockH, ↓reduceIte, Nat.reduceEqDiff]
          refine hK6 _ _ ?_; try clear hK6 K6
          refine CW_region ?_
          refine OW_opS (fun K hK r => ?_)
          simp (disch := (first | omega | decide)) only [x_bin, g_int, b_add, wrap_i64, wrap_u64, wrap_u32, wrap_u8, eX, ↓reduceIte, Nat.reduceEqDiff, Int.reduceToNat]
          refine hK _ _ ?_; clear hK K
          refine OW_mv rfl ?_
          refine OW_nil ?_
          try simp only [Ex.thnH, Ex.inBlockH, ↓reduceIte, Nat.reduceEqDiff]
          have hj' : j = (rw_ L k).n := by omega
          subst hj'
          exact ⟨L.length - (k + 1), by omega, k + 1, Cj, by omega, rfl, hrj, hmj.next, hfj, rfl, rfl, rfl, rfl, trivial⟩
  · first
    | (exfalso; exact cnA c16; done)
    | skip
      (try simp only [decide_eq_true_eq, decide_eq_false_iff_not, Bool.not_eq_true, Bool.not_eq_false, Bool.and_eq_true, Bool.or_eq_true, Bool.or_eq_false_iff, Bool.not_eq_true, Bool.not_eq_eq_eq_not, Bool.not_true, Bool.not_false] at c16)
      have ek : k = L.length := by omega
      subst ek
      obtain ⟨H1, hH1⟩ : ∃ H1 : Hp, H1 = H_ := ⟨_, rfl⟩
      have hg0 := GI.start (MC.all hrc hmc) hd hfr
      refine CW_exit ?_
      try simp only [Ex.thnH, Ex.inBlockH, ↓reduceIte, Nat.reduceEqDiff]
      refine hK2 _ _ ?_; try clear hK2 K2
      refine CW_seq (fun K13 hK13 => ?_)
      refine CW_region ?_
      refine OW_opS (fun K hK r => ?_)
      simp only [x_buildSlice, List.map_toArray, List.map_cons, List.map_nil, eX, ↓reduceIte, Nat.reduceEqDiff, Int.reduceToNat]
      refine Lt_buildSlice (vs := []) Try.underlying43 sz22 zr22 rfl bsA (by first | decide | (simp; done)) ?_
      simp only [List.flatMap_cons, List.flatMap_nil, Value.cells, List.append_nil, List.cons_append, List.nil_append, List.length_cons, List.length_nil, Nat.zero_add, Nat.reduceAdd]
      intro b37 hb37
      try simp only [eX, ↓reduceIte, Nat.reduceEqDiff, Int.reduceToNat]
      refine hK _ _ ?_; clear hK K
      refine OW_as rfl ?_
      refine OW_nil ?_
      try simp only [Ex.thnH, Ex.inBlockH, ↓reduceIte, Nat.reduceEqDiff]
      refine hK13 _ _ ?_; try clear hK13 K13
      refine CW_seq (fun K14 hK14 => ?_)
      refine CW_seq (fun K15 hK15 => ?_)
      refine CW_region ?_
      refine OW_mv rfl ?_
      refine OW_opS (fun K hK r => ?_)
      simp only [x_builtin, l_len, List.map_toArray, List.map_cons, List.map_nil, i_len_slice _ _ Try.underlying43, eX, ↓reduceIte, Nat.reduceEqDiff, Int.reduceToNat]
      refine hK _ _ ?_; clear hK K
      refine OW_mv rfl ?_
      refine OW_nil ?_
      try simp only [Ex.thnH, Ex.inBlockH, ↓reduceIte, Nat.reduceEqDiff]
      refine hK15 _ _ ?_; try clear hK15 K15
      refine CW_block ?_
      refine CW_loop (fun m e H_ => ∃ (k : Nat) (X : List Rw) (gv : Value) (grs : Option Nat), k ≤ L.length ∧ m = L.length - k ∧ GI 5 H H_ L X k 0 ∧ OwnS H_ 22 1 gv k ((X.take k).map Rw.v) grs ∧ (∀ r, grs = some r → H r = none ∧ ¬ rown X r) ∧ Env.has [(0, .slice a0 L.length c0), (6, gv), (38, .slice a0 L.length c0), (39, .int .i64 L.length), (40, .int .i64 k)] e) (L.length) ?_ ?_
      · skip
        exact ⟨0, L, _, some b37, by omega, by omega, hg0.new hLf hb37 _, ⟨rfl, .inr ⟨b37, 0, _, rfl, upd_same _ _ _, Nat.le_refl _, rfl, by simp, rfl⟩⟩, (fun r hr => by cases hr; exact ⟨hg0.kn b37 hb37, fun ⟨i, hi, h⟩ => (hg0.rows i hi).known b37 h hb37⟩), rfl, rfl, rfl, rfl, rfl, trivial⟩
      intro m_ e_ H_ hI_
      obtain ⟨k, X, gv, grs, hk, rfl, hg, hgo, hgr, he⟩ := hI_
      have hfr := hg.frame
      refine CW_env he.sub ?_; clear he e_
      refine CW_seq (fun K16 hK16 => ?_)
      refine CW_region ?_
      refine OW_opS (fun K hK r => ?_)
      simp (disch := (first | omega | decide)) only [x_bin, g_int, b_lss, dec_lt_t, dec_lt_f, dec_le_t, dec_le_f, dec_eq_t, dec_eq_f, Bool.not_true, Bool.not_false, eX, ↓reduceIte, Nat.reduceEqDiff, Int.reduceToNat]
      refine hK _ _ ?_; clear hK K
      refine OW_nil ?_
      try simp only [Ex.thnH, Ex.inBlockH, ↓reduceIte, Nat.reduceEqDiff]
      refine hK16 _ _ ?_; try clear hK16 K16
      refine CW_seq (fun K17 hK17 => ?_)
      refine CW_cond (fun r => rfl) (fun c41 => ?_) (fun c41 => ?_)
      · first
        | (exfalso; exact cnA c41; done)
        | skip
          (try simp only [decide_eq_true_eq, decide_eq_false_iff_not, Bool.not_eq_true, Bool.not_eq_false, Bool.and_eq_true, Bool.or_eq_true, Bool.or_eq_false_iff, Bool.not_eq_true, Bool.not_eq_eq_eq_not, Bool.not_true, Bool.not_false] at c41)
          have hvk : Holds H_ 1 (.slice a0 L.length c0) L.length (rvs L) := hv.le' (fun A o hA ho => hfr _ o ho (hva A hA))
          obtain ⟨bl, ol, ql, Tl, Fl, eal, hbl, hsl, atl⟩ := hvk.at (by omega)
          refine CW_skip ?_
          try simp only [Ex.thnH, Ex.inBlockH, ↓reduceIte, Nat.reduceEqDiff]
          refine hK17 _ _ ?_; try clear hK17 K17
          refine CW_seq (fun K18 hK18 => ?_)
          refine CW_block ?_
          refine CW_seq (fun K19 hK19 => ?_)
          refine CW_region ?_
          refine OW_mv rfl ?_
          refine OW_opS (fun K hK r => ?_)
          simp only [x_indexAddr, eX, ↓reduceIte, Nat.reduceEqDiff, Int.reduceToNat]
          refine Lt_indexSof Try.underlying43 sz22 eal ixA ixA ?_
          try simp only [Nat.mul_one, Int.toNat_natCast]
          refine hK _ _ ?_; clear hK K
          refine OW_opS (fun K hK r => ?_)
          simp only [x_load, eX, ↓reduceIte, Nat.reduceEqDiff, Int.reduceToNat]
          refine Lt_loadAt1 Try.underlying22 rfl hbA (v := .slice (rw_ L k).a (rw_ L k).n (rw_ L k).cap) (by first | exact rv_at atl rfl k (by omega) | (simp only [Int.toNat_natCast, Nat.mul_one]; exact rv_at atl rfl k (by omega))) ?_
          refine hK _ _ ?_; clear hK K
          refine OW_as rfl ?_
          refine OW_as rfl ?_
          refine OW_nil ?_
          try simp only [Ex.thnH, Ex.inBlockH, ↓reduceIte, Nat.reduceEqDiff]
          refine hK19 _ _ ?_; try clear hK19 K19
          refine CW_seq (fun K20 hK20 => ?_)
          refine CW_region ?_
          refine OW_mv rfl ?_
          refine OW_opS (fun K hK r => ?_)
          simp only [x_builtin, l_len, List.map_toArray, List.map_cons, List.map_nil, i_len_slice _ _ Try.underlying22, eX, ↓reduceIte, Nat.reduceEqDiff, Int.reduceToNat]
          refine hK _ _ ?_; clear hK K
          refine OW_as rfl ?_
          refine OW_nil ?_
          try simp only [Ex.thnH, Ex.inBlockH, ↓reduceIte, Nat.reduceEqDiff]
          refine hK20 _ _ ?_; try clear hK20 K20
          refine CW_seq (fun K21 hK21 => ?_)
          refine CW_block ?_
          refine CW_loop (fun m e H_ => ∃ (t : Nat) (X : List Rw), t ≤ 10 ∧ m = 10 - t ∧ GI 5 H H_ L X k t ∧ OwnS H_ 22 1 gv k ((X.take k).map Rw.v) grs ∧ (∀ r, grs = some r → H r = none ∧ ¬ rown X r) ∧ Env.has [(0, .slice a0 L.length c0), (6, gv), (7, .int .i64 k), (8, .slice (rw_ X k).a (rw_ X k).n (rw_ X k).cap), (9, .int .i64 (rw_ L k).n), (38, .slice a0 L.length c0), (39, .int .i64 L.length), (40, .int .i64 k)] e) (10) ?_ ?_
          · skip
            exact ⟨0, X, by omega, rfl, hg, hgo, hgr, rfl, rfl, rfl, (by rw [hg.eq k (by omega) (by simp [gext])]; rfl), rfl, rfl, rfl, rfl, trivial⟩
          intro m_ e_ H_ hI_
          obtain ⟨t, Xt, ht, rfl, hgt, hgot, hgrt, he⟩ := hI_
          have hkL : k < L.length := by omega
          have hkx : k < Xt.length := by rw [hgt.len]; exact hkL
          have hnk := hns k hkL
          have hnx : (rw_ Xt k).n = (rw_ L k).n + t := by have := hgt.ns k hkL; simpa [gext] using this
          refine CW_env he.sub ?_; clear he e_
          refine CW_seq (fun K22 hK22 => ?_)
          refine CW_seq (fun K23 hK23 => ?_)
          refine CW_region ?_
          refine OW_mv rfl ?_
          refine OW_opS (fun K hK r => ?_)
          simp only [x_builtin, l_len, List.map_toArray, List.map_cons, List.map_nil, i_len_slice _ _ Try.underlying22, eX, ↓reduceIte, Nat.reduceEqDiff, Int.reduceToNat]
          refine hK _ _ ?_; clear hK K
          refine OW_mv rfl ?_
          refine OW_opS (fun K hK r => ?_)
          simp (disch := (first | omega | decide)) only [x_bin, g_int, b_add, wrap_i64, wrap_u64, wrap_u32, wrap_u8, eX, ↓reduceIte, Nat.reduceEqDiff, Int.reduceToNat]
          refine hK _ _ ?_; clear hK K
          refine OW_opS (fun K hK r => ?_)
          simp (disch := (first | omega | decide)) only [x_bin, g_int, b_lss, dec_lt_t, dec_lt_f, dec_le_t, dec_le_f, dec_eq_t, dec_eq_f, Bool.not_true, Bool.not_false, eX, ↓reduceIte, Nat.reduceEqDiff, Int.reduceToNat]
          refine hK _ _ ?_; clear hK K
          refine OW_nil ?_
          try simp only [Ex.thnH, Ex.inBlockH, ↓reduceIte, Nat.reduceEqDiff]
          refine hK23 _ _ ?_; try clear hK23 K23
          refine CW_cond (fun r => rfl) (fun c51 => ?_) (fun c51 => ?_)
          · first
            | (exfalso; exact cnA c51; done)
            | skip
              (try simp only [decide_eq_true_eq, decide_eq_false_iff_not, Bool.not_eq_true, Bool.not_eq_false, Bool.and_eq_true, Bool.or_eq_true, Bool.or_eq_false_iff, Bool.not_eq_true, Bool.not_eq_eq_eq_not, Bool.not_true, Bool.not_false] at c51)
              refine CW_skip ?_
              try simp only [Ex.thnH, Ex.inBlockH, ↓reduceIte, Nat.reduceEqDiff]
              refine hK22 _ _ ?_; try clear hK22 K22
              refine CW_block ?_
              refine CW_region ?_
              refine OW_mv rfl ?_
              refine OW_mv rfl ?_
              refine OW_opS (fun K hK r => ?_)
              simp (disch := (first | omega | decide)) only [x_bin, g_int, b_mul, wrap_i64, wrap_u64, wrap_u32, wrap_u8, eX, ↓reduceIte, Nat.reduceEqDiff, Int.reduceToNat]
              refine hK _ _ ?_; clear hK K
              refine OW_mv rfl ?_
              refine OW_opS (fun K hK r => ?_)
              simp only [x_builtin, l_len, List.map_toArray, List.map_cons, List.map_nil, i_len_slice _ _ Try.underlying22, eX, ↓reduceIte, Nat.reduceEqDiff, Int.reduceToNat]
              refine hK _ _ ?_; clear hK K
              refine OW_opS (fun K hK r => ?_)
              simp (disch := (first | omega | decide)) only [x_bin, g_int, b_mul, wrap_i64, wrap_u64, wrap_u32, wrap_u8, eX, ↓reduceIte, Nat.reduceEqDiff, Int.reduceToNat]
              refine hK _ _ ?_; clear hK K
              refine OW_opS (fun K hK r => ?_)
              simp (disch := (first | omega | decide)) only [x_bin, g_int, b_add, wrap_i64, wrap_u64, wrap_u32, wrap_u8, eX, ↓reduceIte, Nat.reduceEqDiff, Int.reduceToNat]
              refine hK _ _ ?_; clear hK K
              refine OW_opS (fun K hK r => ?_)
              simp (disch := (first | omega | decide)) only [x_bin, g_int, b_add, wrap_i64, wrap_u64, wrap_u32, wrap_u8, eX, ↓reduceIte, Nat.reduceEqDiff, Int.reduceToNat]
              refine hK _ _ ?_; clear hK K
              refine OW_opS (fun K hK r => ?_)
              simp (disch := (first | omega | decide)) only [x_convert, c_int _ _ _ _ Try.underlying3 Try.underlying5, wrap_i64, wrap_u64, wrap_u32, wrap_u8, eX, ↓reduceIte, Nat.reduceEqDiff, Int.reduceToNat]
              refine hK _ _ ?_; clear hK K
              refine OW_opS (fun K hK r => ?_)
              simp only [x_buildSlice, List.map_toArray, List.map_cons, List.map_nil, eX, ↓reduceIte, Nat.reduceEqDiff, Int.reduceToNat]
              refine Lt_buildSlice (vs := [_]) Try.underlying22 sz5 zr5 rfl bsA (by first | decide | (simp; done)) ?_
              simp only [List.flatMap_cons, List.flatMap_nil, Value.cells, List.append_nil, List.cons_append, List.nil_append, List.length_cons, List.length_nil, Nat.zero_add, Nat.reduceAdd]
              intro b61 hb61
              try have n61_b37 : b37 ≠ b61 := ne_of_none hbA hb61
              try simp only [eX, ↓reduceIte, Nat.reduceEqDiff, Int.reduceToNat]
              refine hK _ _ ?_; clear hK K
              refine OW_opS (fun K hK r => ?_)
              simp only [x_builtin, l_append, List.map_toArray, List.map_cons, List.map_nil, eX, ↓reduceIte, Nat.reduceEqDiff, Int.reduceToNat]
              refine Lt_append1 Try.underlying22 sz5 by5 (by decide) zr5 rfl _ (n := (rw_ Xt k).n) ((hgt.new hLf hb61 _).rows k hkx) (upd_same _ _ _) rfl (by omega) ?_
              intro v62 H62 rs62 hg62 ho62 hr62
              have hgn := hgt.new hLf hb61 (.cells #[.int .u8 (mkB k (rw_ Xt k).n)] 5)
              obtain ⟨a62, c62, rfl⟩ := ho62.holds.form
              have hg62' := hgn.grow hkL hLf hd hkn hg62 ho62 hr62
              have hgo62 := hgot.stay (fun b o hb ho => hg62.known b o ((upd_ne _ _ (ne_of_none ho hb61)).trans ho) (fun e => (hgrt b hb).2 ⟨k, hkx, e⟩))
              refine hK _ _ ?_; clear hK K
              refine OW_as rfl ?_
              refine OW_nil ?_
              try simp only [Ex.thnH, Ex.inBlockH, ↓reduceIte, Nat.reduceEqDiff]
              refine ⟨10 - (t + 1), by omega, t + 1, Xt.set k ⟨a62, (rw_ Xt k).n + 1, c62, rs62⟩, by omega, rfl, hg62', ?_, ?_, rfl, rfl, rfl, ?_, rfl, rfl, rfl, rfl, trivial⟩
              · rw [List.take_set_of_le (Nat.le_refl k)]; exact hgo62
              · intro r hr
                refine ⟨(hgrt r hr).1, fun ⟨i, hi, h⟩ => ?_⟩
                rw [rw_set hkx] at h
                by_cases e : i = k
                · rw [if_pos e] at h
                  rcases hr62 r h with h1 | h1
                  · exact (hgrt r hr).2 ⟨k, hkx, h1⟩
                  · exact hgot.known r hr (upd_none h1)
                · rw [if_neg e] at h
                  exact (hgrt r hr).2 ⟨i, by simpa using hi, h⟩
              · show some (Value.slice _ _ _) = some (Value.slice _ _ _)
                rw [rw_set hkx, if_pos rfl]
          · first
            | (exfalso; exact cnA c51; done)
            | skip
              (try simp only [decide_eq_true_eq, decide_eq_false_iff_not, Bool.not_eq_true, Bool.not_eq_false, Bool.and_eq_true, Bool.or_eq_true, Bool.or_eq_false_iff, Bool.not_eq_true, Bool.not_eq_eq_eq_not, Bool.not_true, Bool.not_false] at c51)
              have ht10 : t = 10 := by omega
              subst ht10
              refine CW_exit ?_
              try simp only [Ex.thnH, Ex.inBlockH, ↓reduceIte, Nat.reduceEqDiff]
              refine hK21 _ _ ?_; try clear hK21 K21
              refine CW_region ?_
              refine OW_mv rfl ?_
              refine OW_mv rfl ?_
              refine OW_opS (fun K hK r => ?_)
              simp only [x_buildSlice, List.map_toArray, List.map_cons, List.map_nil, eX, ↓reduceIte, Nat.reduceEqDiff, Int.reduceToNat]
              refine Lt_buildSlice (vs := [_]) Try.underlying43 sz22 zr22 rfl bsA (by first | decide | (simp; done)) ?_
              simp only [List.flatMap_cons, List.flatMap_nil, Value.cells, List.append_nil, List.cons_append, List.nil_append, List.length_cons, List.length_nil, Nat.zero_add, Nat.reduceAdd]
              intro b65 hb65
              try have n65_b37 : b37 ≠ b65 := ne_of_none hbA hb65
              try simp only [eX, ↓reduceIte, Nat.reduceEqDiff, Int.reduceToNat]
              refine hK _ _ ?_; clear hK K
              refine OW_opS (fun K hK r => ?_)
              simp only [x_builtin, l_append, List.map_toArray, List.map_cons, List.map_nil, eX, ↓reduceIte, Nat.reduceEqDiff, Int.reduceToNat]
              refine Lt_append1 Try.underlying43 sz22 by22 (by decide) zr22 rfl _ (n := k) (hgot.make hb65) hbA rfl (by omega) ?_
              intro v66 H66 rs66 hgr66_ ho66 hr66
              have hgN := hgt.new hLf hb65 (.cells #[.slice (rw_ Xt k).a (rw_ Xt k).n (rw_ Xt k).cap] 22)
              have hg66 : GI 5 H H66 L Xt (k + 1) 0 := (hgN.keep (fun b o hb hc => hgr66_.known b o hb (fun e => by
                rcases hc with ⟨i, hi, h⟩ | h | h
                · exact hkn i hi b h (hgrt b e).1
                · exact (hgrt b e).2 h
                · exact h (hgrt b e).1)) hLf (fun b hb => hgr66_.none b hb)).next
              have hgr66 : ∀ r, rs66 = some r → H r = none ∧ ¬ rown Xt r := fun r hr => by
                rcases hr66 r hr with h | h
                · exact hgrt r h
                · exact ⟨hgN.kn r h, fun ⟨i, hi, h1⟩ => (hgN.rows i hi).known r h1 h⟩
              refine hK _ _ ?_; clear hK K
              refine OW_as rfl ?_
              refine OW_nil ?_
              try simp only [Ex.thnH, Ex.inBlockH, ↓reduceIte, Nat.reduceEqDiff]
              refine hK18 _ _ ?_; try clear hK18 K18
              refine CW_region ?_
              refine OW_opS (fun K hK r => ?_)
              simp (disch := (first | omega | decide)) only [x_bin, g_int, b_add, wrap_i64, wrap_u64, wrap_u32, wrap_u8, eX, ↓reduceIte, Nat.reduceEqDiff, Int.reduceToNat]
              refine hK _ _ ?_; clear hK K
              refine OW_mv rfl ?_
              refine OW_nil ?_
              try simp only [Ex.thnH, Ex.inBlockH, ↓reduceIte, Nat.reduceEqDiff]
              refine ⟨L.length - (k + 1), by omega, k + 1, Xt, v66, rs66, by omega, rfl, hg66, ?_, hgr66, rfl, rfl, rfl, rfl, rfl, trivial⟩
              have e1 : (Xt.take (k + 1)).map Rw.v = (Xt.take k).map Rw.v ++ [(rw_ Xt k).v] := by
                rw [List.take_succ_eq_append_getElem hkx, List.map_append]
                simp [List.getD_eq_getElem?_getD, List.getElem?_eq_getElem hkx]
              rw [e1]; exact ho66
      · first
        | (exfalso; exact cnA c41; done)
        | skip
          (try simp only [decide_eq_true_eq, decide_eq_false_iff_not, Bool.not_eq_true, Bool.not_eq_false, Bool.and_eq_true, Bool.or_eq_true, Bool.or_eq_false_iff, Bool.not_eq_true, Bool.not_eq_eq_eq_not, Bool.not_true, Bool.not_false] at c41)
          have ek : k = L.length := by omega
          rw [ek] at hg hgo
          have eTk : X.take L.length = X := by rw [← hg.len, List.take_length]
          rw [eTk] at hgo
          obtain ⟨ag, cg, rfl⟩ := hgo.holds.form
          obtain ⟨Hf, hHf⟩ : ∃ Hf : Hp, H_ = Hf := ⟨_, rfl⟩
          rw [hHf] at hg hgo
          have hXl := hg.len
          have hvf : Holds Hf 1 (.slice a0 L.length c0) L.length (rvs L) := hv.le' (fun A o hA ho => hg.frame _ o ho (hva A hA))
          rw [ek]
          refine CW_exit ?_
          try simp only [Ex.thnH, Ex.inBlockH, ↓reduceIte, Nat.reduceEqDiff]
          refine hK14 _ _ ?_; try clear hK14 K14
          refine CW_seq (fun K24 hK24 => ?_)
          refine CW_seq (fun K25 hK25 => ?_)
          refine CW_region ?_
          refine OW_mv rfl ?_
          refine OW_opS (fun K hK r => ?_)
          simp only [x_builtin, l_len, List.map_toArray, List.map_cons, List.map_nil, i_len_slice _ _ Try.underlying43, eX, ↓reduceIte, Nat.reduceEqDiff, Int.reduceToNat]
          refine hK _ _ ?_; clear hK K
          refine OW_mv rfl ?_
          refine OW_nil ?_
          try simp only [Ex.thnH, Ex.inBlockH, ↓reduceIte, Nat.reduceEqDiff]
          refine hK25 _ _ ?_; try clear hK25 K25
          refine CW_block ?_
          refine CW_loop (fun m e H_ => ∃ i : Nat, i ≤ L.length ∧ m = L.length - i ∧ H_ = Hf ∧ Env.has [(0, .slice a0 L.length c0), (68, .slice ag L.length cg), (69, .int .i64 L.length), (70, .int .i64 i)] e) (L.length) ?_ ?_
          · skip
            exact ⟨0, by omega, by omega, hHf, rfl, rfl, rfl, rfl, trivial⟩
          intro m_ e_ H_ hI_
          obtain ⟨i, hi, rfl, hH_, he⟩ := hI_
          have hH_ := hH_.symm; subst hH_
          refine CW_env he.sub ?_; clear he e_
          refine CW_seq (fun K26 hK26 => ?_)
          refine CW_region ?_
          refine OW_opS (fun K hK r => ?_)
          simp (disch := (first | omega | decide)) only [x_bin, g_int, b_lss, dec_lt_t, dec_lt_f, dec_le_t, dec_le_f, dec_eq_t, dec_eq_f, Bool.not_true, Bool.not_false, eX, ↓reduceIte, Nat.reduceEqDiff, Int.reduceToNat]
          refine hK _ _ ?_; clear hK K
          refine OW_nil ?_
          try simp only [Ex.thnH, Ex.inBlockH, ↓reduceIte, Nat.reduceEqDiff]
          refine hK26 _ _ ?_; try clear hK26 K26
          refine CW_seq (fun K27 hK27 => ?_)
          refine CW_cond (fun r => rfl) (fun c71 => ?_) (fun c71 => ?_)
          · first
            | (exfalso; exact cnA c71; done)
            | skip
              (try simp only [decide_eq_true_eq, decide_eq_false_iff_not, Bool.not_eq_true, Bool.not_eq_false, Bool.and_eq_true, Bool.or_eq_true, Bool.or_eq_false_iff, Bool.not_eq_true, Bool.not_eq_eq_eq_not, Bool.not_true, Bool.not_false] at c71)
              have hgo_ : Holds Hf 1 (.slice ag L.length cg) L.length (rvs X) := hgo.holds
              obtain ⟨bg, og, qg, Tg, Fg, eag, hbg, hsg, atg⟩ := hgo_.at (by omega)
              obtain ⟨bl, ol, ql, Tl, Fl, eal, hbl, hsl, atl⟩ := hvf.at (by omega)
              have hnxi : (rw_ X i).n = (rw_ L i).n + 10 := by have := hg.ns i (by omega); simpa [gext, show i < L.length by omega] using this
              have hni := hns i (by omega)
              obtain ⟨rn, cn, han, hbn, hcn⟩ := hg.newrow (i := i) (by omega) (by omega)
              obtain ⟨ro, oo, co, To, Fo, hro⟩ := hg.oldrow (i := i) (by omega)
              refine CW_skip ?_
              try simp only [Ex.thnH, Ex.inBlockH, ↓reduceIte, Nat.reduceEqDiff]
              refine hK27 _ _ ?_; try clear hK27 K27
              refine CW_seq (fun K28 hK28 => ?_)
              refine CW_block ?_
              refine CW_seq (fun K29 hK29 => ?_)
              refine CW_region ?_
              refine OW_mv rfl ?_
              refine OW_opS (fun K hK r => ?_)
              simp only [x_indexAddr, eX, ↓reduceIte, Nat.reduceEqDiff, Int.reduceToNat]
              refine Lt_indexSof Try.underlying43 sz22 eag ixA ixA ?_
              try simp only [Nat.mul_one, Int.toNat_natCast]
              refine hK _ _ ?_; clear hK K
              refine OW_opS (fun K hK r => ?_)
              simp only [x_load, eX, ↓reduceIte, Nat.reduceEqDiff, Int.reduceToNat]
              refine Lt_loadAt1 Try.underlying22 rfl hbA (v := .slice (rw_ X i).a (rw_ X i).n (rw_ X i).cap) (by first | exact rv_at atg (by omega) i (by omega) | (simp only [Int.toNat_natCast, Nat.mul_one]; exact rv_at atg (by omega) i (by omega))) ?_
              refine hK _ _ ?_; clear hK K
              refine OW_as rfl ?_
              refine OW_as rfl ?_
              refine OW_nil ?_
              try simp only [Ex.thnH, Ex.inBlockH, ↓reduceIte, Nat.reduceEqDiff]
              refine hK29 _ _ ?_; try clear hK29 K29
              refine CW_seq (fun K30 hK30 => ?_)
              refine CW_region ?_
              refine OW_mv rfl ?_
              refine OW_opS (fun K hK r => ?_)
              simp only [x_builtin, l_len, List.map_toArray, List.map_cons, List.map_nil, i_len_slice _ _ Try.underlying22, eX, ↓reduceIte, Nat.reduceEqDiff, Int.reduceToNat]
              refine hK _ _ ?_; clear hK K
              refine OW_mv rfl ?_
              refine OW_nil ?_
              try simp only [Ex.thnH, Ex.inBlockH, ↓reduceIte, Nat.reduceEqDiff]
              refine hK30 _ _ ?_; try clear hK30 K30
              refine CW_block ?_
              refine CW_loop (fun m e H_ => ∃ j : Nat, j ≤ (rw_ X i).n ∧ m = (rw_ X i).n - j ∧ H_ = Hf ∧ Env.has [(0, .slice a0 L.length c0), (10, .int .i64 i), (11, .slice (rw_ X i).a (rw_ X i).n (rw_ X i).cap), (68, .slice ag L.length cg), (69, .int .i64 L.length), (70, .int .i64 i), (76, .int .i64 (rw_ X i).n), (77, .int .i64 j)] e) ((rw_ X i).n) ?_ ?_
              · skip
                exact ⟨0, by omega, by omega, rfl, rfl, rfl, rfl, rfl, rfl, rfl, rfl, rfl, trivial⟩
              intro m_ e_ H_ hI_
              obtain ⟨j, hj, rfl, hH_, he⟩ := hI_
              have hH_ := hH_.symm; subst hH_
              refine CW_env he.sub ?_; clear he e_
              refine CW_seq (fun K31 hK31 => ?_)
              refine CW_region ?_
              refine OW_opS (fun K hK r => ?_)
              simp (disch := (first | omega | decide)) only [x_bin, g_int, b_lss, dec_lt_t, dec_lt_f, dec_le_t, dec_le_f, dec_eq_t, dec_eq_f, Bool.not_true, Bool.not_false, eX, ↓reduceIte, Nat.reduceEqDiff, Int.reduceToNat]
              refine hK _ _ ?_; clear hK K
              refine OW_nil ?_
              try simp only [Ex.thnH, Ex.inBlockH, ↓reduceIte, Nat.reduceEqDiff]
              refine hK31 _ _ ?_; try clear hK31 K31
              refine CW_seq (fun K32 hK32 => ?_)
              refine CW_cond (fun r => rfl) (fun c78 => ?_) (fun c78 => ?_)
              · first
                | (exfalso; exact cnA c78; done)
                | skip
                  (try simp only [decide_eq_true_eq, decide_eq_false_iff_not, Bool.not_eq_true, Bool.not_eq_false, Bool.and_eq_true, Bool.or_eq_true, Bool.or_eq_false_iff, Bool.not_eq_true, Bool.not_eq_eq_eq_not, Bool.not_true, Bool.not_false] at c78)
                  refine CW_skip ?_
                  try simp only [Ex.thnH, Ex.inBlockH, ↓reduceIte, Nat.reduceEqDiff]
                  refine hK32 _ _ ?_; try clear hK32 K32
                  refine CW_seq (fun K33 hK33 => ?_)
                  refine CW_block ?_
                  refine CW_seq (fun K34 hK34 => ?_)
                  refine CW_region ?_
                  refine OW_mv rfl ?_
                  refine OW_as rfl ?_
                  refine OW_nil ?_
                  try simp only [Ex.thnH, Ex.inBlockH, ↓reduceIte, Nat.reduceEqDiff]
                  refine hK34 _ _ ?_; try clear hK34 K34
                  refine CW_seq (fun K35 hK35 => ?_)
                  refine CW_drawE [0, 0, 0, 1, 0, 0, 0, 0, 0, 0, 0, 0, 0, 0, 0, 0, 0, 1, 0, 0, 0, 0, 0, 0, 1, 0, 0, 1, 0, 0, 0, 1, 0, 0, 0] [0, 1, 2, 3, 4, 5, 6, 7, 8, 9, 10, 11, 12, 13, 14, 15, 16, 17, 18, 19, 20, 21, 22, 23, 24, 25, 26, 27, 28, 29, 30, 31, 32, 33, 34] (by kernel_rfl) (by kernel_rfl) (fun R25 hR25 => ?_)
                  apply TW_pure rfl (lt_some (by decide)) rfl
                  · intro r
                    simp only [x_move, eX, ↓reduceIte, Nat.reduceEqDiff]
                    exact ⟨rfl, Le.refl _⟩
                  simp only [eX, ↓reduceIte, Nat.reduceEqDiff, Int.reduceToNat]
                  apply TW_pure rfl (lt_some (by decide)) rfl
                  · intro r
                    simp only [x_move, eX, ↓reduceIte, Nat.reduceEqDiff]
                    exact ⟨rfl, Le.refl _⟩
                  simp only [eX, ↓reduceIte, Nat.reduceEqDiff, Int.reduceToNat]
                  apply TW_pure rfl (lt_some (by decide)) rfl
                  · intro r
                    simp only [x_indexAddr, eX, ↓reduceIte, Nat.reduceEqDiff]
                    refine Lt_indexSof Try.underlying22 sz5 han ixA ixA ?_
                    exact ⟨rfl, Le.refl _⟩
                  simp only [eX, ↓reduceIte, Nat.reduceEqDiff, Int.reduceToNat]
                  apply TW_look rfl (lt_some (by decide)) rfl
                  · intro r
                    simp only [x_load, eX, ↓reduceIte, Nat.reduceEqDiff]
                    refine Lt_loadAt1 Try.underlying5 rfl hbA (v := .int .u8 (mkB i j)) (by first | exact hcn j (by omega) | (simp only [Int.toNat_natCast, Nat.mul_one, Nat.zero_add]; exact hcn j (by omega))) ?_
                    exact ⟨rfl, Le.refl _⟩
                  simp only [eX, ↓reduceIte, Nat.reduceEqDiff, Int.reduceToNat]
                  apply TW_pure rfl (lt_some (by decide)) rfl
                  · intro r
                    simp only [x_move, eX, ↓reduceIte, Nat.reduceEqDiff]
                    exact ⟨rfl, Le.refl _⟩
                  simp only [eX, ↓reduceIte, Nat.reduceEqDiff, Int.reduceToNat]
                  apply TW_pure rfl (lt_some (by decide)) rfl
                  · intro r
                    simp (disch := (first | omega | decide)) only [x_bin, g_int, b_mul, wrap_i64, wrap_u64, wrap_u32, wrap_u8, eX, ↓reduceIte, Nat.reduceEqDiff]
                    exact ⟨rfl, Le.refl _⟩
                  simp only [eX, ↓reduceIte, Nat.reduceEqDiff, Int.reduceToNat]
                  apply TW_pure rfl (lt_some (by decide)) rfl
                  · intro r
                    simp only [x_move, eX, ↓reduceIte, Nat.reduceEqDiff]
                    exact ⟨rfl, Le.refl _⟩
                  simp only [eX, ↓reduceIte, Nat.reduceEqDiff, Int.reduceToNat]
                  apply TW_pure rfl (lt_some (by decide)) rfl
                  · intro r
                    simp (disch := (first | omega | decide)) only [x_bin, g_int, b_mul, wrap_i64, wrap_u64, wrap_u32, wrap_u8, eX, ↓reduceIte, Nat.reduceEqDiff]
                    exact ⟨rfl, Le.refl _⟩
                  simp only [eX, ↓reduceIte, Nat.reduceEqDiff, Int.reduceToNat]
                  apply TW_pure rfl (lt_some (by decide)) rfl
                  · intro r
                    simp (disch := (first | omega | decide)) only [x_bin, g_int, b_add, wrap_i64, wrap_u64, wrap_u32, wrap_u8, eX, ↓reduceIte, Nat.reduceEqDiff]
                    exact ⟨rfl, Le.refl _⟩
                  simp only [eX, ↓reduceIte, Nat.reduceEqDiff, Int.reduceToNat]
                  apply TW_pure rfl (lt_some (by decide)) rfl
                  · intro r
                    simp (disch := (first | omega | decide)) only [x_bin, g_int, b_add, wrap_i64, wrap_u64, wrap_u32, wrap_u8, eX, ↓reduceIte, Nat.reduceEqDiff]
                    exact ⟨rfl, Le.refl _⟩
                  simp only [eX, ↓reduceIte, Nat.reduceEqDiff, Int.reduceToNat]
                  apply TW_pure rfl (lt_some (by decide)) rfl
                  · intro r
                    simp (disch := (first | omega | decide)) only [x_convert, c_int _ _ _ _ Try.underlying3 Try.underlying5, wrap_i64, wrap_u64, wrap_u32, wrap_u8, eX, ↓reduceIte, Nat.reduceEqDiff]
                    exact ⟨rfl, Le.refl _⟩
                  simp only [eX, ↓reduceIte, Nat.reduceEqDiff, Int.reduceToNat]
                  apply TW_pure rfl (lt_some (by decide)) rfl
                  · intro r
                    simp (disch := (first | omega | decide)) only [x_bin, g_int, b_neq, dec_lt_t, dec_lt_f, dec_le_t, dec_le_f, dec_eq_t, dec_eq_f, Bool.not_true, Bool.not_false, eX, ↓reduceIte, Nat.reduceEqDiff]
                    rw [show decide (mkB i j = IntKind.u8.wrap (31 * (i : Int) + 3 * (j : Int) + 1)) = true from decide_eq_true rfl, Bool.not_true]
                    exact ⟨rfl, Le.refl _⟩
                  simp only [eX, ↓reduceIte, Nat.reduceEqDiff, Int.reduceToNat]
                  apply TW_pure rfl (lt_some (by decide)) rfl
                  · intro r
                    simp only [x_move, eX, ↓reduceIte, Nat.reduceEqDiff]
                    exact ⟨rfl, Le.refl _⟩
                  simp only [eX, ↓reduceIte, Nat.reduceEqDiff, Int.reduceToNat]
                  (first | refine TW_split (d := 92) rfl (fun g92 => ?_) (fun g92 => ?_) | skip)
                  all_goals try (exfalso; exact cnA g92)
                  all_goals (try simp only [decide_eq_true_eq, decide_eq_false_iff_not, Bool.not_eq_true, Bool.not_eq_false, Bool.and_eq_true, Bool.or_eq_true, Bool.or_eq_false_iff, Bool.not_eq_true, Bool.not_eq_eq_eq_not, Bool.not_true, Bool.not_false] at g92)
                  all_goals
                    try simp only [eX, ↓reduceIte, Nat.reduceEqDiff, Int.reduceToNat]
                    first
                    | apply TW_pureG rfl (lt_some (by decide)) rfl rfl
                      · intro r
                        simp only [x_move, eX, ↓reduceIte, Nat.reduceEqDiff]
                        exact ⟨rfl, Le.refl _⟩
                      simp only [eX, ↓reduceIte, Nat.reduceEqDiff, Int.reduceToNat]
                    | refine TW_guardF rfl (lt_some (by decide)) rfl ?_
                      simp only [eX, ↓reduceIte, Nat.reduceEqDiff, Int.reduceToNat]
                    first
                    | apply TW_pureG rfl (lt_some (by decide)) rfl rfl
                      · intro r
                        simp only [x_move, eX, ↓reduceIte, Nat.reduceEqDiff]
                        exact ⟨rfl, Le.refl _⟩
                      simp only [eX, ↓reduceIte, Nat.reduceEqDiff, Int.reduceToNat]
                    | refine TW_guardF rfl (lt_some (by decide)) rfl ?_
                      simp only [eX, ↓reduceIte, Nat.reduceEqDiff, Int.reduceToNat]
                    first
                    | apply TW_pureG rfl (lt_some (by decide)) rfl rfl
                      · intro r
                        simp only [x_move, eX, ↓reduceIte, Nat.reduceEqDiff]
                        exact ⟨rfl, Le.refl _⟩
                      simp only [eX, ↓reduceIte, Nat.reduceEqDiff, Int.reduceToNat]
                    | refine TW_guardF rfl (lt_some (by decide)) rfl ?_
                      simp only [eX, ↓reduceIte, Nat.reduceEqDiff, Int.reduceToNat]
                    first
                    | apply TW_pureG rfl (lt_some (by decide)) rfl rfl
                      · intro r
                        simp only [x_indexAddr, eX, ↓reduceIte, Nat.reduceEqDiff]
                        refine Lt_indexSof Try.underlying43 sz22 eal ixA ixA ?_
                        try simp only [Nat.mul_one, Int.toNat_natCast]
                        exact ⟨rfl, Le.refl _⟩
                      simp only [eX, ↓reduceIte, Nat.reduceEqDiff, Int.reduceToNat]
                    | refine TW_guardF rfl (lt_some (by decide)) rfl ?_
                      simp only [eX, ↓reduceIte, Nat.reduceEqDiff, Int.reduceToNat]
                    first
                    | apply TW_lookG rfl (lt_some (by decide)) rfl rfl
                      · intro r
                        simp only [x_load, eX, ↓reduceIte, Nat.reduceEqDiff]
                        refine Lt_loadAt1 Try.underlying22 rfl hbA (v := .slice (rw_ L i).a (rw_ L i).n (rw_ L i).cap) (by first | exact rv_at atl rfl i (by omega) | (simp only [Int.toNat_natCast, Nat.mul_one]; exact rv_at atl rfl i (by omega))) ?_
                        exact ⟨rfl, Le.refl _⟩
                      simp only [eX, ↓reduceIte, Nat.reduceEqDiff, Int.reduceToNat]
                    | refine TW_guardF rfl (lt_some (by decide)) rfl ?_
                      simp only [eX, ↓reduceIte, Nat.reduceEqDiff, Int.reduceToNat]
                    first
                    | apply TW_pureG rfl (lt_some (by decide)) rfl rfl
                      · intro r
                        simp only [x_builtin, l_len, List.map_toArray, List.map_cons, List.map_nil, i_len_slice _ _ Try.underlying22, eX, ↓reduceIte, Nat.reduceEqDiff]
                        exact ⟨rfl, Le.refl _⟩
                      simp only [eX, ↓reduceIte, Nat.reduceEqDiff, Int.reduceToNat]
                    | refine TW_guardF rfl (lt_some (by decide)) rfl ?_
                      simp only [eX, ↓reduceIte, Nat.reduceEqDiff, Int.reduceToNat]
                    first
                    | apply TW_pureG rfl (lt_some (by decide)) rfl rfl
                      · intro r
                        simp (disch := (first | omega | decide)) only [x_bin, g_int, b_lss, dec_lt_t, dec_lt_f, dec_le_t, dec_le_f, dec_eq_t, dec_eq_f, Bool.not_true, Bool.not_false, eX, ↓reduceIte, Nat.reduceEqDiff]
                        exact ⟨rfl, Le.refl _⟩
                      simp only [eX, ↓reduceIte, Nat.reduceEqDiff, Int.reduceToNat]
                    | refine TW_guardF rfl (lt_some (by decide)) rfl ?_
                      simp only [eX, ↓reduceIte, Nat.reduceEqDiff, Int.reduceToNat]
                    first
                    | apply TW_pureG rfl (lt_some (by decide)) rfl rfl
                      · intro r
                        simp only [x_move, eX, ↓reduceIte, Nat.reduceEqDiff]
                        exact ⟨rfl, Le.refl _⟩
                      simp only [eX, ↓reduceIte, Nat.reduceEqDiff, Int.reduceToNat]
                    | refine TW_guardF rfl (lt_some (by decide)) rfl ?_
                      simp only [eX, ↓reduceIte, Nat.reduceEqDiff, Int.reduceToNat]
                    (first | refine TW_split (d := 100) rfl (fun g100 => ?_) (fun g100 => ?_) | skip)
                    all_goals try (exfalso; exact cnA g100)
                    all_goals (try simp only [decide_eq_true_eq, decide_eq_false_iff_not, Bool.not_eq_true, Bool.not_eq_false, Bool.and_eq_true, Bool.or_eq_true, Bool.or_eq_false_iff, Bool.not_eq_true, Bool.not_eq_eq_eq_not, Bool.not_true, Bool.not_false] at g100)
                    all_goals
                      try simp only [eX, ↓reduceIte, Nat.reduceEqDiff, Int.reduceToNat]
                      first
                      | apply TW_pureG rfl (lt_some (by decide)) rfl rfl
                        · intro r
                          simp only [x_move, eX, ↓reduceIte, Nat.reduceEqDiff]
                          exact ⟨rfl, Le.refl _⟩
                        simp only [eX, ↓reduceIte, Nat.reduceEqDiff, Int.reduceToNat]
                      | refine TW_guardF rfl (lt_some (by decide)) rfl ?_
                        simp only [eX, ↓reduceIte, Nat.reduceEqDiff, Int.reduceToNat]
                      first
                      | apply TW_pureG rfl (lt_some (by decide)) rfl rfl
                        · intro r
                          simp only [x_move, eX, ↓reduceIte, Nat.reduceEqDiff]
                          exact ⟨rfl, Le.refl _⟩
                        simp only [eX, ↓reduceIte, Nat.reduceEqDiff, Int.reduceToNat]
                      | refine TW_guardF rfl (lt_some (by decide)) rfl ?_
                        simp only [eX, ↓reduceIte, Nat.reduceEqDiff, Int.reduceToNat]
                      first
                      | apply TW_pureG rfl (lt_some (by decide)) rfl rfl
                        · intro r
                          simp only [x_indexAddr, eX, ↓reduceIte, Nat.reduceEqDiff]
                          refine Lt_indexSof Try.underlying43 sz22 eal ixA ixA ?_
                          try simp only [Nat.mul_one, Int.toNat_natCast]
                          exact ⟨rfl, Le.refl _⟩
                        simp only [eX, ↓reduceIte, Nat.reduceEqDiff, Int.reduceToNat]
                      | refine TW_guardF rfl (lt_some (by decide)) rfl ?_
                        simp only [eX, ↓reduceIte, Nat.reduceEqDiff, Int.reduceToNat]
                      first
                      | apply TW_lookG rfl (lt_some (by decide)) rfl rfl
                        · intro r
                          simp only [x_load, eX, ↓reduceIte, Nat.reduceEqDiff]
                          refine Lt_loadAt1 Try.underlying22 rfl hbA (v := .slice (rw_ L i).a (rw_ L i).n (rw_ L i).cap) (by first | exact rv_at atl rfl i (by omega) | (simp only [Int.toNat_natCast, Nat.mul_one]; exact rv_at atl rfl i (by omega))) ?_
                          exact ⟨rfl, Le.refl _⟩
                        simp only [eX, ↓reduceIte, Nat.reduceEqDiff, Int.reduceToNat]
                      | refine TW_guardF rfl (lt_some (by decide)) rfl ?_
                        simp only [eX, ↓reduceIte, Nat.reduceEqDiff, Int.reduceToNat]
                      first
                      | apply TW_pureG rfl (lt_some (by decide)) rfl rfl
                        · intro r
                          simp only [x_move, eX, ↓reduceIte, Nat.reduceEqDiff]
                          exact ⟨rfl, Le.refl _⟩
                        simp only [eX, ↓reduceIte, Nat.reduceEqDiff, Int.reduceToNat]
                      | refine TW_guardF rfl (lt_some (by decide)) rfl ?_
                        simp only [eX, ↓reduceIte, Nat.reduceEqDiff, Int.reduceToNat]
                      first
                      | apply TW_pureG rfl (lt_some (by decide)) rfl rfl
                        · intro r
                          simp only [x_indexAddr, eX, ↓reduceIte, Nat.reduceEqDiff]
                          refine Lt_indexSof Try.underlying22 sz5 (hro (by omega)).1 ixA ixA ?_
                          exact ⟨rfl, Le.refl _⟩
                        simp only [eX, ↓reduceIte, Nat.reduceEqDiff, Int.reduceToNat]
                      | refine TW_guardF rfl (lt_some (by decide)) rfl ?_
                        simp only [eX, ↓reduceIte, Nat.reduceEqDiff, Int.reduceToNat]
                      first
                      | apply TW_lookG rfl (lt_some (by decide)) rfl rfl
                        · intro r
                          simp only [x_load, eX, ↓reduceIte, Nat.reduceEqDiff]
                          refine Lt_loadAt1 Try.underlying5 rfl (hR25.symm ▸ (hro (by omega)).2.1) (v := .int .u8 (mkB i j)) (by simp only [Int.toNat_natCast, Nat.mul_one]; exact (hro (by omega)).2.2 j (by omega)) ?_
                          exact ⟨rfl, Le.refl _⟩
                        simp only [eX, ↓reduceIte, Nat.reduceEqDiff, Int.reduceToNat]
                      | refine TW_guardF rfl (lt_some (by decide)) rfl ?_
                        simp only [eX, ↓reduceIte, Nat.reduceEqDiff, Int.reduceToNat]
                      first
                      | apply TW_pureG rfl (lt_some (by decide)) rfl rfl
                        · intro r
                          simp only [x_move, eX, ↓reduceIte, Nat.reduceEqDiff]
                          exact ⟨rfl, Le.refl _⟩
                        simp only [eX, ↓reduceIte, Nat.reduceEqDiff, Int.reduceToNat]
                      | refine TW_guardF rfl (lt_some (by decide)) rfl ?_
                        simp only [eX, ↓reduceIte, Nat.reduceEqDiff, Int.reduceToNat]
                      first
                      | apply TW_pureG rfl (lt_some (by decide)) rfl rfl
                        · intro r
                          simp only [x_move, eX, ↓reduceIte, Nat.reduceEqDiff]
                          exact ⟨rfl, Le.refl _⟩
                        simp only [eX, ↓reduceIte, Nat.reduceEqDiff, Int.reduceToNat]
                      | refine TW_guardF rfl (lt_some (by decide)) rfl ?_
                        simp only [eX, ↓reduceIte, Nat.reduceEqDiff, Int.reduceToNat]
                      first
                      | apply TW_pureG rfl (lt_some (by decide)) rfl rfl
                        · intro r
                          simp only [x_indexAddr, eX, ↓reduceIte, Nat.reduceEqDiff]
                          refine Lt_indexSof Try.underlying22 sz5 han ixA ixA ?_
                          exact ⟨rfl, Le.refl _⟩
                        simp only [eX, ↓reduceIte, Nat.reduceEqDiff, Int.reduceToNat]
                      | refine TW_guardF rfl (lt_some (by decide)) rfl ?_
                        simp only [eX, ↓reduceIte, Nat.reduceEqDiff, Int.reduceToNat]
                      first
                      | apply TW_lookG rfl (lt_some (by decide)) rfl rfl
                        · intro r
                          simp only [x_load, eX, ↓reduceIte, Nat.reduceEqDiff]
                          refine Lt_loadAt1 Try.underlying5 rfl hbA (v := .int .u8 (mkB i j)) (by first | exact hcn j (by omega) | (simp only [Int.toNat_natCast, Nat.mul_one, Nat.zero_add]; exact hcn j (by omega))) ?_
                          exact ⟨rfl, Le.refl _⟩
                        simp only [eX, ↓reduceIte, Nat.reduceEqDiff, Int.reduceToNat]
                      | refine TW_guardF rfl (lt_some (by decide)) rfl ?_
                        simp only [eX, ↓reduceIte, Nat.reduceEqDiff, Int.reduceToNat]
                      first
                      | apply TW_pureG rfl (lt_some (by decide)) rfl rfl
                        · intro r
                          simp (disch := (first | omega | decide)) only [x_bin, g_int, b_neq, dec_lt_t, dec_lt_f, dec_le_t, dec_le_f, dec_eq_t, dec_eq_f, Bool.not_true, Bool.not_false, eX, ↓reduceIte, Nat.reduceEqDiff]
                          simp only [decide_true, Bool.not_true]
                          exact ⟨rfl, Le.refl _⟩
                        simp only [eX, ↓reduceIte, Nat.reduceEqDiff, Int.reduceToNat]
                      | refine TW_guardF rfl (lt_some (by decide)) rfl ?_
                        simp only [eX, ↓reduceIte, Nat.reduceEqDiff, Int.reduceToNat]
                      first
                      | apply TW_pureG rfl (lt_some (by decide)) rfl rfl
                        · intro r
                          simp only [x_pick, l_asBool, HL.ite_bool, if_true, if_false, Bool.false_eq_true, eX, ↓reduceIte, Nat.reduceEqDiff]
                          exact ⟨rfl, Le.refl _⟩
                        simp only [eX, ↓reduceIte, Nat.reduceEqDiff, Int.reduceToNat]
                      | refine TW_guardF rfl (lt_some (by decide)) rfl ?_
                        simp only [eX, ↓reduceIte, Nat.reduceEqDiff, Int.reduceToNat]
                      apply TW_pure rfl (lt_some (by decide)) rfl
                      · intro r
                        simp only [x_pick, l_asBool, HL.ite_bool, if_true, if_false, Bool.false_eq_true, eX, ↓reduceIte, Nat.reduceEqDiff]
                        exact ⟨rfl, Le.refl _⟩
                      simp only [eX, ↓reduceIte, Nat.reduceEqDiff, Int.reduceToNat]
                      refine TW_nil ?_
                      try simp only [Ex.thnH, Ex.inBlockH, ↓reduceIte, Nat.reduceEqDiff]
                      refine hK35 _ _ ?_; try clear hK35 K35
                      refine CW_cond (fun r => rfl) (fun c114 => ?_) (fun c114 => ?_)
                      · first
                        | (exfalso; exact cnA c114; done)
                        | skip
                          (try simp only [decide_eq_true_eq, decide_eq_false_iff_not, Bool.not_eq_true, Bool.not_eq_false, Bool.and_eq_true, Bool.or_eq_true, Bool.or_eq_false_iff, Bool.not_eq_true, Bool.not_eq_eq_eq_not, Bool.not_true, Bool.not_false] at c114)
                          refine CW_seq (fun K36 hK36 => ?_)
                          refine CW_region ?_
                          refine OW_as rfl ?_
                          refine OW_nil ?_
                          try simp only [Ex.thnH, Ex.inBlockH, ↓reduceIte, Nat.reduceEqDiff]
                          refine hK36 _ _ ?_; try clear hK36 K36
                          refine CW_ret ?_
                          try simp only [Ex.thnH, Ex.inBlockH, ↓reduceIte, Nat.reduceEqDiff]
                          skip
                      · first
                        | (exfalso; exact cnA c114; done)
                        | skip
                          (try simp only [decide_eq_true_eq, decide_eq_false_iff_not, Bool.not_eq_true, Bool.not_eq_false, Bool.and_eq_true, Bool.or_eq_true, Bool.or_eq_false_iff, Bool.not_eq_true, Bool.not_eq_eq_eq_not, Bool.not_true, Bool.not_false] at c114)
                          refine CW_skip ?_
                          try simp only [Ex.thnH, Ex.inBlockH, ↓reduceIte, Nat.reduceEqDiff]
                          refine hK33 _ _ ?_; try clear hK33 K33
                          refine CW_region ?_
                          refine OW_opS (fun K hK r => ?_)
                          simp (disch := (first | omega | decide)) only [x_bin, g_int, b_add, wrap_i64, wrap_u64, wrap_u32, wrap_u8, eX, ↓reduceIte, Nat.reduceEqDiff, Int.reduceToNat]
                          refine hK _ _ ?_; clear hK K
                          refine OW_mv rfl ?_
                          refine OW_nil ?_
                          try simp only [Ex.thnH, Ex.inBlockH, ↓reduceIte, Nat.reduceEqDiff]
                          refine ⟨(rw_ X i).n - (j + 1), by omega, j + 1, by omega, rfl, ?_⟩
                          repeat (first | exact trivial | refine ⟨rfl, ?_⟩ | refine ⟨trivial, ?_⟩)
              · first
                | (exfalso; exact cnA c78; done)
                | skip
                  (try simp only [decide_eq_true_eq, decide_eq_false_iff_not, Bool.not_eq_true, Bool.not_eq_false, Bool.and_eq_true, Bool.or_eq_true, Bool.or_eq_false_iff, Bool.not_eq_true, Bool.not_eq_eq_eq_not, Bool.not_true, Bool.not_false] at c78)
                  refine CW_exit ?_
                  try simp only [Ex.thnH, Ex.inBlockH, ↓reduceIte, Nat.reduceEqDiff]
                  refine hK28 _ _ ?_; try clear hK28 K28
                  refine CW_region ?_
                  refine OW_opS (fun K hK r => ?_)
                  simp (disch := (first | omega | decide)) only [x_bin, g_int, b_add, wrap_i64, wrap_u64, wrap_u32, wrap_u8, eX, ↓reduceIte, Nat.reduceEqDiff, Int.reduceToNat]
                  refine hK _ _ ?_; clear hK K
                  refine OW_mv rfl ?_
                  refine OW_nil ?_
                  try simp only [Ex.thnH, Ex.inBlockH, ↓reduceIte, Nat.reduceEqDiff]
                  refine ⟨L.length - (i + 1), by omega, i + 1, by omega, rfl, ?_⟩
                  repeat (first | exact trivial | refine ⟨rfl, ?_⟩ | refine ⟨trivial, ?_⟩)
          · first
            | (exfalso; exact cnA c71; done)
            | skip
              (try simp only [decide_eq_true_eq, decide_eq_false_iff_not, Bool.not_eq_true, Bool.not_eq_false, Bool.and_eq_true, Bool.or_eq_true, Bool.or_eq_false_iff, Bool.not_eq_true, Bool.not_eq_eq_eq_not, Bool.not_true, Bool.not_false] at c71)
              refine CW_exit ?_
              try simp only [Ex.thnH, Ex.inBlockH, ↓reduceIte, Nat.reduceEqDiff]
              refine hK24 _ _ ?_; try clear hK24 K24
              refine CW_seq (fun K37 hK37 => ?_)
              refine CW_region ?_
              refine OW_as rfl ?_
              refine OW_nil ?_
              try simp only [Ex.thnH, Ex.inBlockH, ↓reduceIte, Nat.reduceEqDiff]
              refine hK37 _ _ ?_; try clear hK37 K37
              refine CW_ret ?_
              try simp only [Ex.thnH, Ex.inBlockH, ↓reduceIte, Nat.reduceEqDiff]
              exact ⟨[_], ⟨rfl, trivial⟩, _, Le.refl _, rfl, hg.frame⟩

end Go.Proofs.Ythpflieimocfbaa.HL
end
section
namespace Go.Proofs.Ythpflieimocfbaa.HL
open Go
set_option linter.unusedSimpArgs false
set_option linter.unusedVariables false

/-- A number of bytes, the smallest first. -/
def leI : List Int → Int
  | [] => 0
  | x :: r => x + 256 * leI r
/-- The bytes of a number. -/
def leR : Nat → Int → List Int
  | 0, _ => []
  | k + 1, n => (n % 256) :: leR k (n / 256)
theorem leR_len : ∀ (k : Nat) (n : Int), (leR k n).length = k
  | 0, _ => rfl
  | k + 1, n => by simp [leR, leR_len k]
theorem leR_byte : ∀ (k : Nat) (n : Int), ByteL (leR k n)
  | 0, _ => by intro x hx; cases hx
  | k + 1, n => by
    intro x hx
    rcases List.mem_cons.1 hx with rfl | hx
    · omega
    · exact leR_byte k _ x hx
theorem leI_leR : ∀ (k : Nat) (n : Int), leI (leR k n) = n % 256 ^ k
  | 0, n => by simp [leI, leR]
  | k + 1, n => by
    have hp : (0 : Int) < 256 ^ k := Int.pow_pos (by decide)
    rw [leR, leI, leI_leR k, Int.pow_succ, Int.mul_comm (256 ^ k) 256]
    have h1 := Int.emod_nonneg (n / 256) (Int.ne_of_gt hp)
    have h2 := Int.emod_lt_of_pos (n / 256) hp
    have h3 := Int.mul_ediv_add_emod (n / 256) (256 ^ k)
    have h4 := ((Int.ediv_emod_unique (a := n) (b := 256 * 256 ^ k) (r := n % 256 + 256 * (n / 256 % 256 ^ k)) (q := n / 256 / 256 ^ k) (by omega)).2 ⟨?_, by omega, by omega⟩).2
    · exact h4.symm
    · rw [Int.mul_assoc]; omega
theorem leI_range : ∀ (l : List Int), ByteL l → 0 ≤ leI l ∧ leI l < 256 ^ l.length
  | [], _ => by simp [leI]
  | x :: r, h => by
    have hx := h x (by simp)
    have := leI_range r (fun y hy => h y (by simp [hy]))
    simp only [List.length_cons, leI, Int.pow_succ]
    omega
theorem leI_snoc : ∀ (l : List Int) (x : Int), leI (l ++ [x]) = leI l + x * 256 ^ l.length
  | [], x => by simp [leI]
  | y :: r, x => by
    have h1 := leI_snoc r x
    simp only [List.cons_append, List.length_cons, leI, h1, Int.pow_succ]
    rw [Int.mul_add, Int.add_assoc, ← Int.mul_assoc x, Int.mul_comm (x * 256 ^ r.length) 256]

def stampI (n : Int) : List Int := [0, 1, 2, 3, 4, 5].map fun k => IntKind.u8.wrap (n.fdiv (2 ^ (8 * k)))
abbrev stampL (n : Int) : List Value := u8s (stampI n)
theorem stampL_step (n : Int) (k : Nat) (h : k < 6) : (stampL n).take (k + 1) = (stampL n).take k ++ [.int .u8 (IntKind.u8.wrap (n.fdiv (2 ^ (min (8 * (k : Int)).toNat IntKind.i64.bits))))] := by
  rcases k with _ | _ | _ | _ | _ | _ | k <;> first | rfl | omega
theorem stampI_len (n : Int) : (stampI n).length = 6 := rfl
theorem stampI_eq (n : Int) : stampI n = leR 6 n := by
  have e : ∀ b : Int, 0 ≤ b → n.fdiv b = n / b := fun b h => Int.fdiv_eq_ediv_of_nonneg n h
  simp only [stampI, leR, List.map_cons, List.map_nil, u8_def, Nat.mul_zero, Nat.reduceMul, Int.reducePow, List.cons.injEq, and_true, e 1 (by decide), e 256 (by decide), e 65536 (by decide), e 16777216 (by decide), e 4294967296 (by decide), e 1099511627776 (by decide)]
  refine ⟨?_, ?_, ?_, ?_, ?_, ?_⟩ <;> first | omega | trivial
theorem leI_stamp (n : Int) (h0 : 0 ≤ n) (h1 : n ≤ 281474976710655) : leI (stampI n) = n := by
  rw [stampI_eq, leI_leR]; simp only [Int.reducePow]; omega
theorem stamp_byte (n : Int) : ByteL (stampI n) := by rw [stampI_eq]; exact leR_byte 6 n

theorem le_step (D : List Int) (k : Nat) (hk : k < 6) (hl : k < D.length) (hB : ByteL D) :
    IntKind.i64.wrap (BitVec.ofInt IntKind.i64.bits (leI (D.take k)) ||| BitVec.ofInt IntKind.i64.bits (IntKind.i64.wrap (IntKind.i64.wrap (D.getD k 0) * 2 ^ min (8 * (k : Int)).toNat IntKind.i64.bits))).toNat = leI (D.take (k + 1)) := by
  have hx : 0 ≤ D.getD k 0 ∧ D.getD k 0 ≤ 255 := by
    rw [List.getD_eq_getElem?_getD, List.getElem?_eq_getElem hl]; exact hB _ (List.getElem_mem hl)
  have hr := leI_range (D.take k) (fun x h => hB x (List.mem_of_mem_take h))
  have hlen : (D.take k).length = k := by simp; omega
  rw [hlen] at hr
  have e1 : min (8 * (k : Int)).toNat IntKind.i64.bits = 8 * k := by
    have : IntKind.i64.bits = 64 := rfl
    omega
  have e2 : (2 : Int) ^ (8 * k) = 256 ^ k := by rw [Int.pow_mul]; rfl
  have e3 : (256 : Int) ^ k ≤ 1099511627776 := (show ∀ j, j < 6 → (256 : Int) ^ j ≤ 1099511627776 by decide) k hk
  have hp : (0 : Int) < 256 ^ k := Int.pow_pos (by decide)
  have e4 : D.getD k 0 * 256 ^ k ≤ 255 * 1099511627776 := Int.mul_le_mul hx.2 e3 (by omega) (by decide)
  have e5 : 0 ≤ D.getD k 0 * 256 ^ k := Int.mul_nonneg hx.1 (by omega)
  have e6 : D.take (k + 1) = D.take k ++ [D.getD k 0] := by
    rw [List.take_add_one, List.getD_eq_getElem?_getD, List.getElem?_eq_getElem hl]; rfl
  rw [wrap_i64 (D.getD k 0) (by omega) (by omega), e1, e2, wrap_i64 (D.getD k 0 * 256 ^ k) (by omega) (by omega), ← e2, or_i64 _ _ _ hr.1 (by rw [e2]; exact hr.2) hx.1 (by rw [e2]; omega), e6, leI_snoc, hlen, e2]

/-- A sealed sector's bytes. -/
def sealL (st kd : Int) (l : List Int) : List Int := stampI st ++ [kd, (l.length : Int)] ++ l ++ List.replicate (50 - l.length) 0 ++ stampI st
def badI (st kd : Int) (l : List Int) : Option Int := if st < 1 ∨ st > 281474976710655 ∨ kd < 1 ∨ kd > 255 then some 1 else if l.length > 50 then some 2 else none
def zeroS : List Int := List.replicate 64 0
/-- The sector that is told, and the error. -/
def sealI (st kd : Int) (l : List Int) : List Int := match badI st kd l with | some _ => zeroS | none => sealL st kd l
theorem badI_none {st kd : Int} {l : List Int} (h : badI st kd l = none) : 1 ≤ st ∧ st ≤ 281474976710655 ∧ 1 ≤ kd ∧ kd ≤ 255 ∧ l.length ≤ 50 := by
  unfold badI at h; split at h <;> try cases h
  split at h <;> try cases h
  omega
theorem sealL_len {st kd : Int} {l : List Int} (h : l.length ≤ 50) : (sealL st kd l).length = 64 := by
  simp [sealL, stampI_len]; omega
theorem sealL_byte {st kd : Int} {l : List Int} (hb : ByteL l) (h : badI st kd l = none) : ByteL (sealL st kd l) := by
  have := badI_none h
  intro x hx
  simp only [sealL, List.mem_append, List.mem_cons, List.mem_replicate, List.not_mem_nil, or_false] at hx
  rcases hx with (((hx | hx) | hx) | hx) | hx
  · exact stamp_byte _ x hx
  · omega
  · exact hb x hx
  · omega
  · exact stamp_byte _ x hx
/-- The parts of a sector. -/
def stOf (L : List Int) : Int := leI (L.take 6)
def tailOf (L : List Int) : Int := leI ((L.drop 58).take 6)
def kdOf (L : List Int) : Int := L.getD 6 0
def szS (L : List Int) : Int := L.getD 7 0
def dtOf (L : List Int) : List Int := (L.drop 8).take (szS L).toNat
theorem sealI_len (st kd : Int) (l : List Int) : (sealI st kd l).length = 64 := by
  unfold sealI; split
  · rfl
  · rename_i h; exact sealL_len (badI_none h).2.2.2.2
theorem dtOf_len {L : List Int} (hc : L.length = 64) (h : szS L ≤ 50) : (dtOf L).length = (szS L).toNat := by simp [dtOf]; omega
def goodI (L : List Int) : Bool := decide (stOf L = tailOf L ∧ szS L ≤ 50 ∧ badI (stOf L) (kdOf L) (dtOf L) = none ∧ sealL (stOf L) (kdOf L) (dtOf L) = L)
def openI (L : List Int) : Option (Int × Int × List Int) := if goodI L = true then some (stOf L, kdOf L, dtOf L) else none
theorem open_none_bad {L : List Int} (h : (badI (stOf L) (kdOf L) (dtOf L)).isSome = true) : openI L = none := by
  rw [openI, if_neg]; rw [goodI]; intro hh; simp only [decide_eq_true_eq] at hh; rw [hh.2.2.1] at h; cases h
theorem open_none_ne {L : List Int} (h : ¬ sealI (stOf L) (kdOf L) (dtOf L) = L) : openI L = none := by
  rw [openI, if_neg]; rw [goodI]; intro hh; simp only [decide_eq_true_eq] at hh
  apply h; rw [sealI, hh.2.2.1]; exact hh.2.2.2
theorem open_some {L : List Int} (h1 : leI (L.take 6) = leI ((L.drop 58).take 6)) (h2 : L.getD 7 0 ≤ 50) (h3 : (badI (stOf L) (kdOf L) (dtOf L)).isSome = false) (h4 : sealI (stOf L) (kdOf L) (dtOf L) = L) : openI L = some (stOf L, kdOf L, dtOf L) := by
  have h5 : badI (stOf L) (kdOf L) (dtOf L) = none := by cases h : badI (stOf L) (kdOf L) (dtOf L) <;> simp_all
  rw [openI, if_pos]
  rw [goodI, decide_eq_true_eq]
  refine ⟨h1, h2, h5, ?_⟩
  rw [sealI, h5] at h4; exact h4
def opS (L : List Int) : Int := match openI L with | some (s, _, _) => s | none => 0
def opK (L : List Int) : Int := match openI L with | some (_, k, _) => k | none => 0
def opD (L : List Int) : List Int := match openI L with | some (_, _, d) => d | none => []
def opE (L : List Int) : Option Int := match openI L with | some _ => none | none => some 9
def isB (L : List Int) (st kd : Int) : Bool := (opE L).isNone && decide (opS L = st) && decide (opK L = kd)
def isD (L : List Int) (st kd : Int) : List Int := if isB L st kd = true then opD L else []
/-- What is left of a number. -/
def dvK : Nat → Int → Int
  | 0, n => n
  | k + 1, n => dvK k (n / 256)
theorem dvK_succ : ∀ (k : Nat) (n : Int), dvK (k + 1) n = dvK k n / 256
  | 0, _ => rfl
  | k + 1, n => by rw [dvK, dvK_succ k]; rfl
theorem dvK_range : ∀ (k : Nat) (n : Int), 0 ≤ n → n ≤ 281474976710655 → 0 ≤ dvK k n ∧ dvK k n ≤ 281474976710655
  | 0, _, h, h2 => ⟨h, h2⟩
  | k + 1, n, h, h2 => by rw [dvK]; exact dvK_range k _ (by omega) (by omega)
theorem leR_snoc : ∀ (k : Nat) (n : Int), leR (k + 1) n = leR k n ++ [dvK k n % 256]
  | 0, _ => rfl
  | k + 1, n => by rw [leR, leR_snoc k]; rfl
/-- The document's sector, half written. -/
def refS (st : Int) (k : Nat) : List Int := leR k st ++ List.replicate (58 - k) 0 ++ (leR k st ++ List.replicate (6 - k) 0)
def refD (st kd : Int) (l : List Int) (k : Nat) : List Int := leR 6 st ++ [kd, (l.length : Int)] ++ (l.take k ++ List.replicate (50 - k) 0) ++ leR 6 st
theorem u8s_set (l : List Int) (i : Nat) (x : Int) : (u8s l).toArray.setIfInBounds i (.int .u8 x) = (u8s (l.set i x)).toArray := by simp [List.map_set]
theorem set_mid (A : List Int) (n : Nat) (B : List Int) (i : Nat) (x : Int) (h : A.length = i) (hn : 0 < n) : (A ++ List.replicate n 0 ++ B).set i x = A ++ [x] ++ List.replicate (n - 1) 0 ++ B := by
  obtain ⟨m, rfl⟩ : ∃ m, n = m + 1 := ⟨n - 1, by omega⟩
  subst h
  rw [List.append_assoc, List.set_append_right _ _ (Nat.le_refl _), Nat.sub_self]
  simp [List.replicate_succ]
theorem refS_step (st : Int) (k : Nat) (hk : k < 6) : ((refS st k).set k (dvK k st % 256)).set (58 + k) (dvK k st % 256) = refS st (k + 1) := by
  have h1 : (refS st k).set k (dvK k st % 256) = leR (k + 1) st ++ List.replicate (58 - (k + 1)) 0 ++ (leR k st ++ List.replicate (6 - k) 0) := by
    rw [refS, set_mid _ _ _ _ _ (leR_len k st) (by omega), leR_snoc]; rfl
  rw [h1]
  have h2 := set_mid (leR (k + 1) st ++ List.replicate (58 - (k + 1)) 0 ++ leR k st) (6 - k) [] (58 + k) (dvK k st % 256) (by simp [leR_len]; omega) (by omega)
  simp only [List.append_nil, List.append_assoc] at h2 ⊢
  rw [h2, refS, leR_snoc]
  simp only [List.append_assoc]
  rfl
theorem refS_size (st : Int) (k : Nat) (hk : k ≤ 6) : (refS st k).length = 64 := by simp [refS, leR_len]; omega
theorem refD_size (st kd : Int) (l : List Int) (k : Nat) (hk : k ≤ 50) (hl : k ≤ l.length) : (refD st kd l k).length = 64 := by simp [refD, leR_len]; omega
theorem refD_zero (st kd : Int) (l : List Int) : ((refS st 6).set 6 kd).set 7 l.length = refD st kd l 0 := rfl
theorem refD_step (st kd : Int) (l : List Int) (k : Nat) (hk : k < l.length) (h5 : l.length ≤ 50) : (refD st kd l k).set (8 + k) (l.getD k 0) = refD st kd l (k + 1) := by
  have h2 := set_mid (leR 6 st ++ [kd, (l.length : Int)] ++ l.take k) (50 - k) (leR 6 st) (8 + k) (l.getD k 0) (by simp [leR_len]; omega) (by omega)
  have e6 : l.take (k + 1) = l.take k ++ [l.getD k 0] := by
    rw [List.take_add_one, List.getD_eq_getElem?_getD, List.getElem?_eq_getElem hk]; rfl
  have e7 : 50 - k - 1 = 50 - (k + 1) := by omega
  rw [refD, refD, e6]
  simp only [List.append_assoc, e7] at h2 ⊢
  exact h2
theorem refD_full (st kd : Int) (l : List Int) (h : badI st kd l = none) : refD st kd l l.length = sealI st kd l := by
  rw [sealI, h, refD, sealL, stampI_eq, List.take_length]; simp
theorem parts_seal {st kd : Int} {l : List Int} (h : badI st kd l = none) : stOf (sealL st kd l) = st ∧ tailOf (sealL st kd l) = st ∧ kdOf (sealL st kd l) = kd ∧ szS (sealL st kd l) = l.length ∧ dtOf (sealL st kd l) = l := by
  obtain ⟨h1, h2, h3, h4, h5⟩ := badI_none h
  have e1 : stOf (sealL st kd l) = st := by
    rw [stOf, sealL, List.append_assoc, List.append_assoc, List.append_assoc, List.take_left' (stampI_len st)]; exact leI_stamp st (by omega) h2
  have e5 : (sealL st kd l).drop 58 = stampI st := by
    rw [sealL, List.drop_left' (by simp [stampI_len]; omega)]
  have e2 : tailOf (sealL st kd l) = st := by
    rw [tailOf, e5, List.take_of_length_le (by simp [stampI_len])]; exact leI_stamp st (by omega) h2
  have e6 : (sealL st kd l).drop 6 = [kd, (l.length : Int)] ++ l ++ List.replicate (50 - l.length) 0 ++ stampI st := by
    rw [sealL, List.append_assoc, List.append_assoc, List.append_assoc, List.drop_left' (stampI_len st)]; simp
  have e3 : kdOf (sealL st kd l) = kd := by
    have : (sealL st kd l)[6]? = some kd := by
      have := congrArg (·[0]?) e6; simpa [List.getElem?_drop] using this
    rw [kdOf, List.getD_eq_getElem?_getD, this]; rfl
  have e4 : szS (sealL st kd l) = l.length := by
    have : (sealL st kd l)[7]? = some (l.length : Int) := by
      have := congrArg (·[1]?) e6; simpa [List.getElem?_drop] using this
    rw [szS, List.getD_eq_getElem?_getD, this]; rfl
  have e8 : (sealL st kd l).drop 8 = l ++ (List.replicate (50 - l.length) 0 ++ stampI st) := by
    have : (sealL st kd l).drop 8 = ((sealL st kd l).drop 6).drop 2 := by rw [List.drop_drop]
    rw [this, e6]; simp
  refine ⟨e1, e2, e3, e4, ?_⟩
  rw [dtOf, e4, e8]; simp
theorem good_seal {st kd : Int} {l : List Int} (h : badI st kd l = none) : goodI (sealL st kd l) = true := by
  obtain ⟨h1, h2, h3, h4, h5⟩ := parts_seal h
  have h6 := badI_none h
  simp only [goodI, h1, h2, h3, h4, h5, h, and_true, true_and, decide_eq_true_eq]; omega
theorem open_seal {st kd : Int} {l : List Int} (h : badI st kd l = none) : openI (sealL st kd l) = some (st, kd, l) := by
  obtain ⟨h1, h2, h3, h4, h5⟩ := parts_seal h
  rw [openI, if_pos (good_seal h), h1, h3, h5]
theorem good_iff {L : List Int} : goodI L = true ↔ (stOf L = tailOf L ∧ szS L ≤ 50 ∧ badI (stOf L) (kdOf L) (dtOf L) = none ∧ sealL (stOf L) (kdOf L) (dtOf L) = L) := by simp [goodI]
/-- The data that the document reads. -/
def rdOf (L : List Int) : List Int := (L.drop 8).take (min (szS L).toNat 50)
theorem badI_zero {st kd : Int} {l : List Int} (h : (badI st kd l).getD 0 = 0) : badI st kd l = none := by
  unfold badI at *; split <;> rename_i h1
  · rw [if_pos h1] at h; simp at h
  · rw [if_neg h1] at h; split at h
    · simp at h
    · rename_i h2; rw [if_neg h2]
theorem open_vals {L : List Int} {s k : Int} {d : List Int} (h : openI L = some (s, k, d)) : opS L = s ∧ opK L = k ∧ opD L = d ∧ opE L = none := by simp [opS, opK, opD, opE, h]
theorem open_nones {L : List Int} (h : openI L = none) : opS L = 0 ∧ opK L = 0 ∧ opD L = [] ∧ opE L = some 9 := by simp [opS, opK, opD, opE, h]

end Go.Proofs.Ythpflieimocfbaa.HL
end
