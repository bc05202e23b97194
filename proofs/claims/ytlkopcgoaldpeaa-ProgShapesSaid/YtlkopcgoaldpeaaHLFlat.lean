/- Structs of numbers and truth values compared: cell by cell. -/
import Derived.Test.YtlkopcgoaldpeaaHLNum
namespace Go.Proofs.Ytlkopcgoaldpeaa.HL
open Go
set_option linter.unusedSimpArgs false
set_option linter.unusedVariables false

abbrev CK := Option IntKind
def fitC : CK → Value → Prop
  | none, v => ∃ b, v = .bool b
  | some k, v => ∃ n, v = .int k n
def Fit (ks : List CK) (vs : List Value) : Prop := vs.length = ks.length ∧ ∀ (i : Nat) (k : CK) (v : Value), ks[i]? = some k → vs[i]? = some v → fitC k v
noncomputable def eqV (xs ys : List Value) : Bool := @decide (xs = ys) (Classical.propDecidable _)
theorem eqV_iff {xs ys : List Value} : eqV xs ys = true ↔ xs = ys := by unfold eqV; exact @decide_eq_true_iff _ (Classical.propDecidable _)
theorem eqV_of {xs ys : List Value} {p : Prop} [Decidable p] (h : xs = ys ↔ p) : eqV xs ys = decide p := by
  rw [Bool.eq_iff_iff, eqV_iff, h]; simp
theorem Fit.cut {a b : List CK} {vs : List Value} (h : Fit (a ++ b) vs) : Fit a (vs.take a.length) ∧ Fit b (vs.drop a.length) := by
  obtain ⟨h1, h2⟩ := h
  rw [List.length_append] at h1
  refine ⟨⟨by rw [List.length_take]; omega, fun i k v hk hv => ?_⟩, ⟨by rw [List.length_drop]; omega, fun i k v hk hv => ?_⟩⟩
  · have hi : i < a.length := (List.getElem?_eq_some_iff.1 hk).1
    rw [List.getElem?_take_of_lt hi] at hv
    exact h2 i k v (by rw [List.getElem?_append_left hi]; exact hk) hv
  · rw [List.getElem?_drop] at hv
    exact h2 (a.length + i) k v (by rw [List.getElem?_append_right (by omega)]; simpa using hk) hv
def fieldsK (g : TypeId → Option (List CK)) : Nat → List Field → Option (List CK)
  | _, [] => some []
  | off, f :: r => if f.name = "_" ∨ f.offset ≠ off then none else (g f.type).bind fun k => (fieldsK g (off + k.length) r).map (k ++ ·)
def flatK (P : Program) : Nat → TypeId → Option (List CK)
  | 0, _ => none
  | d + 1, t =>
    match P.underlying t with
    | some .bool => some [none]
    | some (.int k) => some [some k]
    | some (.struct fs) => if P.stoodInHeld t = true then none else fieldsK (fun t => (flatK P d t).bind fun k => if szOf P t = some k.length then some k else none) 0 fs.toList
    | _ => none
def wrapT (P : Program) (t : TypeId) (vs : List Value) : Value := if (P.underlying t).any isAggD = true then .agg vs.toArray else vs.getD 0 undef

section
variable {P : Program}
theorem flat_scalar {d : Nat} {t : TypeId} {ks : List CK} (h : flatK P d t = some ks) (hs : (P.underlying t).any isAggD = false) : ks.length = 1 := by
  cases d with
  | zero => cases h
  | succ d =>
    unfold flatK at h
    cases hu : P.underlying t with
    | none => rw [hu] at h; cases h
    | some td =>
      rw [hu] at h hs
      cases td <;> simp at h
      · subst h; rfl
      · subst h; rfl
      · simp [isAggD] at hs
theorem part_flat {d : Nat} {t : TypeId} {ks : List CK} (h : flatK P d t = some ks) (hz : szOf P t = some ks.length) (X : List Value) (off : Nat) (ho : off + ks.length ≤ X.length) (H : Hp) (K : Value → Hp → Prop) :
    Lt P (part t X.toArray off) H K = K (wrapT P t ((X.drop off).take ks.length)) H := by
  have hd : ∃ td, P.underlying t = some td := by
    cases d with
    | zero => cases h
    | succ d =>
      unfold flatK at h
      cases hu : P.underlying t with
      | none => rw [hu] at h; cases h
      | some td => exact ⟨td, rfl⟩
  obtain ⟨td, hu⟩ := hd
  by_cases ha : isAggD td = true
  · simp only [part, l_bind, l_isAgg, hu, orF_some, ha, if_true, l_size, hz, l_pure, wrapT, Option.any_some]
    congr 2
    apply Array.ext'
    rw [Array.toList_extract, List.extract_eq_take_drop]
    simp
  · have ha' : isAggD td = false := by simpa using ha
    have h1 := flat_scalar h (by rw [hu]; exact ha')
    simp only [part, l_bind, l_isAgg, hu, orF_some, ha', Bool.false_eq_true, if_false, wrapT, Option.any_some]
    have h2 : X.toArray[off]? = some (X[off]'(by omega)) := by simp
    rw [h2]
    have h3 : ((X.drop off).take ks.length).getD 0 undef = X[off]'(by omega) := by
      rw [h1, List.getD_eq_getElem?_getD, List.getElem?_take_of_lt (by omega), List.getElem?_drop, Nat.add_zero, List.getElem?_eq_getElem (by omega)]
      rfl
    rw [h3]; rfl
theorem all_loop' {α σ : Type} {H : Hp} (s0 s1 : σ) (cond : α → Bool) (g : α → σ → Sem (ForInStep σ)) : ∀ (l : List α), (∀ i ∈ l, ∀ K : ForInStep σ → Hp → Prop, Lt P (g i s0) H K = if cond i then K (.yield s0) H else K (.done s1) H) →
    ∀ K : σ → Hp → Prop, Lt P (forIn l s0 g) H K = K (if l.all cond then s0 else s1) H
  | [], _, K => by simp [l_pure]
  | i :: r, h, K => by
    simp only [List.forIn_cons, l_bind, h i (by simp), List.all_cons]
    by_cases hc : cond i = true
    · simp only [hc, if_true, Bool.true_and]
      exact all_loop' s0 s1 cond g r (fun j hj => h j (by simp [hj])) K
    · have hc' : cond i = false := by simpa using hc
      simp [hc', l_pure]
/-- The fields of a list, each its own cells. -/
theorem fields_mem {g : TypeId → Option (List CK)} : ∀ {fs : List Field} {off : Nat} {ks : List CK}, fieldsK g off fs = some ks → ∀ f ∈ fs, f.name ≠ "_" ∧ ∃ k, g f.type = some k ∧ off ≤ f.offset ∧ f.offset + k.length ≤ off + ks.length ∧ ∀ vs, Fit ks vs → Fit k ((vs.drop (f.offset - off)).take k.length)
  | [], _, _, _, f, hf => by cases hf
  | f0 :: r, off, ks, h, f, hf => by
    unfold fieldsK at h
    split at h
    · cases h
    · rename_i hn
      simp only [not_or, Decidable.not_not] at hn
      obtain ⟨k, hk, h⟩ := Option.bind_eq_some_iff.1 h
      obtain ⟨ks', hks, rfl⟩ := Option.map_eq_some_iff.1 h
      rcases List.mem_cons.1 hf with rfl | hf
      · refine ⟨hn.1, k, hk, by omega, by rw [List.length_append]; omega, fun vs hv => ?_⟩
        rw [hn.2, Nat.sub_self, List.drop_zero]
        exact hv.cut.1
      · obtain ⟨h1, k', hk', h2, h3, h4⟩ := fields_mem hks f hf
        refine ⟨h1, k', hk', by omega, by rw [List.length_append]; omega, fun vs hv => ?_⟩
        have := h4 _ hv.cut.2
        rw [List.drop_drop] at this
        have e : k.length + (f.offset - (off + k.length)) = f.offset - off := by omega
        rw [e] at this; exact this
theorem fields_all {g : TypeId → Option (List CK)} (xs ys : List Value) : ∀ {fs : List Field} {off : Nat} {ks : List CK}, fieldsK g off fs = some ks → xs.length = off + ks.length → ys.length = off + ks.length →
    fs.all (fun f => eqV ((xs.drop f.offset).take ((g f.type).getD []).length) ((ys.drop f.offset).take ((g f.type).getD []).length)) = eqV (xs.drop off) (ys.drop off)
  | [], off, ks, h, hx, hy => by
    cases h
    simp at hx hy
    rw [List.drop_eq_nil_of_le (by omega), List.drop_eq_nil_of_le (by omega)]; exact (eqV_iff.2 rfl).symm
  | f0 :: r, off, ks, h, hx, hy => by
    unfold fieldsK at h
    split at h
    · cases h
    · rename_i hn
      simp only [not_or, Decidable.not_not] at hn
      obtain ⟨k, hk, h⟩ := Option.bind_eq_some_iff.1 h
      obtain ⟨ks', hks, rfl⟩ := Option.map_eq_some_iff.1 h
      rw [List.length_append] at hx hy
      rw [List.all_cons, fields_all xs ys hks (by omega) (by omega), hn.2, hk]
      simp only [Option.getD_some]
      rw [Bool.eq_iff_iff]
      simp only [Bool.and_eq_true, eqV_iff]
      constructor
      · rintro ⟨e1, e2⟩
        rw [← List.take_append_drop k.length (xs.drop off), ← List.take_append_drop k.length (ys.drop off), e1, List.drop_drop, List.drop_drop, e2]
      · intro e
        rw [e]
        refine ⟨rfl, ?_⟩
        have := congrArg (List.drop k.length) e
        rw [List.drop_drop, List.drop_drop] at this
        exact this
theorem q_flat : ∀ (d : Nat) (t : TypeId) (ks : List CK), flatK P d t = some ks → ∀ D, d ≤ D → ∀ xs ys, Fit ks xs → Fit ks ys → ∀ (H : Hp) (K : Bool → Hp → Prop), Lt P (Op.equalIn D t (wrapT P t xs) (wrapT P t ys)) H K = K (eqV xs ys) H
  | 0, t, ks, h, _, _, _, _, _, _, _, _ => by cases h
  | d + 1, t, ks, h, D, hD, xs, ys, fx, fy, H, K => by
    obtain ⟨D', rfl⟩ : ∃ D', D = D' + 1 := ⟨D - 1, by omega⟩
    unfold flatK at h
    cases hu : P.underlying t with
    | none => rw [hu] at h; cases h
    | some td =>
      rw [hu] at h
      cases td <;> simp at h
      · subst h
        obtain ⟨x, rfl⟩ : ∃ x, xs = [x] := List.length_eq_one_iff.1 fx.1
        obtain ⟨y, rfl⟩ : ∃ y, ys = [y] := List.length_eq_one_iff.1 fy.1
        obtain ⟨a, rfl⟩ := fx.2 0 none x rfl rfl
        obtain ⟨b, rfl⟩ := fy.2 0 none y rfl rfl
        simp only [wrapT, hu, Option.any_some, isAggD, Bool.false_eq_true, if_false, List.getD_cons_zero]
        rw [q_bool D' t hu]
        congr 1; rw [Bool.eq_iff_iff, eqV_iff]; cases a <;> cases b <;> simp
      · subst h
        obtain ⟨x, rfl⟩ : ∃ x, xs = [x] := List.length_eq_one_iff.1 fx.1
        obtain ⟨y, rfl⟩ : ∃ y, ys = [y] := List.length_eq_one_iff.1 fy.1
        obtain ⟨a, rfl⟩ := fx.2 0 _ x rfl rfl
        obtain ⟨b, rfl⟩ := fy.2 0 _ y rfl rfl
        simp only [wrapT, hu, Option.any_some, isAggD, Bool.false_eq_true, if_false, List.getD_cons_zero]
        rw [q_int D' t _ hu]
        congr 1; rw [Bool.eq_iff_iff, eqV_iff]; simp
      · obtain ⟨hst, h⟩ := h
        simp only [wrapT, hu, Option.any_some, isAggD, if_true]
        rw [Op.equalIn]
        simp only [l_bind, l_und, hu, orF_some, l_program, hst, Bool.false_eq_true, if_false]
        rw [← Array.forIn_toList]
        refine (all_loop' (none, ()) (some false, ()) (fun f => eqV ((xs.drop f.offset).take ((((flatK P d f.type).bind fun k => if szOf P f.type = some k.length then some k else none)).getD []).length) ((ys.drop f.offset).take ((((flatK P d f.type).bind fun k => if szOf P f.type = some k.length then some k else none)).getD []).length)) _ _ ?_ _).trans ?_
        · intro f hf K
          obtain ⟨hn, k, hk, h2, h3, h4⟩ := fields_mem h f hf
          obtain ⟨k', hk', hz⟩ := Option.bind_eq_some_iff.1 hk
          split at hz
          · rename_i hsz
            cases hz
            have gx := h4 xs fx
            have gy := h4 ys fy
            rw [Nat.sub_zero] at gx gy
            have lx := fx.1
            have ly := fy.1
            simp only [ne_eq, hn, not_false_eq_true, if_true, l_bind]
            rw [part_flat hk' hsz xs f.offset (by omega), part_flat hk' hsz ys f.offset (by omega)]
            rw [q_flat d f.type k hk' D' (by omega) _ _ gx gy]
            simp only [hk', Option.bind_some, hsz, if_true, Option.getD_some]
            cases hc : eqV ((xs.drop f.offset).take k.length) ((ys.drop f.offset).take k.length) <;> simp [l_pure]
          · cases hz
        · rw [fields_all xs ys h (by rw [fx.1]; omega) (by rw [fy.1]; omega)]
          simp only [List.drop_zero]
          cases hc : eqV xs ys <;> simp [l_pure]
end
end Go.Proofs.Ytlkopcgoaldpeaa.HL
