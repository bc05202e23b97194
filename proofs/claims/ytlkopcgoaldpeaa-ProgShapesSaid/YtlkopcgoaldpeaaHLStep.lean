/- Rules in the form in which they are used, one step after the other. -/
import Derived.Test.YtlkopcgoaldpeaaHLInstr2
namespace Go.Proofs.Ytlkopcgoaldpeaa.HL
open Go
set_option linter.unusedSimpArgs false
set_option linter.unusedVariables false

/-- No cell holds a struct, an array or a tuple. -/
def PlainL (l : List Value) : Prop := ∀ v ∈ l, plainCell v = true
theorem plain_int (k : IntKind) (n : Int) : plainCell (.int k n) = true := rfl
theorem plain_slice (a : Option Addr) (n c : Nat) : plainCell (.slice a n c) = true := rfl
theorem PlainL.nil : PlainL [] := fun _ h => by cases h
theorem PlainL.cons {v : Value} {l : List Value} (h : plainCell v = true) (k : PlainL l) : PlainL (v :: l) := fun u hu => by
  rcases List.mem_cons.1 hu with rfl | hu; exact h; exact k u hu
theorem PlainL.append {a b : List Value} (h : PlainL a) (k : PlainL b) : PlainL (a ++ b) := fun u hu => (List.mem_append.1 hu).elim (h u) (k u)
theorem PlainL.ints (k : IntKind) (l : List Int) : PlainL (l.map (.int k ·)) := fun u hu => by
  obtain ⟨x, _, rfl⟩ := List.mem_map.1 hu; rfl
theorem PlainL.extract {c : Array Value} (h : PlainL c.toList) (a b : Nat) : PlainL (c.extract a b).toList := fun u hu => by
  rw [Array.toList_extract, List.extract_eq_take_drop] at hu
  exact h u (List.mem_of_mem_drop (List.mem_of_mem_take hu))
theorem PlainL.set {c : Array Value} (h : PlainL c.toList) {v : Value} (hv : plainCell v = true) (i : Nat) : PlainL (c.setIfInBounds i v).toList := fun u hu => by
  rw [Array.toList_setIfInBounds] at hu
  rcases List.mem_or_eq_of_mem_set hu with h1 | h1
  · exact h u h1
  · subst h1; exact hv
theorem PlainL.putCells : ∀ {l : List Value} {c : Array Value} {o : Nat}, PlainL c.toList → PlainL l → PlainL (HL.putCells c o l).toList
  | [], _, _, h, _ => h
  | v :: r, c, o, h, k => PlainL.putCells (l := r) (h.set (k v (by simp)) o) (fun u hu => k u (by simp [hu]))
theorem PlainL.replicate (n : Nat) {v : Value} (hv : plainCell v = true) : PlainL (Array.replicate n v).toList := fun u hu => by
  simp at hu; rw [hu.2]; exact hv
def Env.has : Env → Env → Prop
  | [], _ => True
  | (t, v) :: r, e => e.get t = some v ∧ Env.has r e
theorem Env.has.sub : ∀ {l e : Env}, Env.has l e → Env.sub l e
  | [], _, _, _, _, h => by cases h
  | (k, u) :: r, e, hh, t, v, h => by
    simp only [Env.get] at h
    by_cases ht : t = k
    · subst ht; rw [if_pos rfl] at h; cases h; exact hh.1
    · rw [if_neg ht] at h; exact Env.has.sub hh.2 t v h

section
variable {P : Program} {n : Nat} {rd : Option Nat} {ops : Array Oper} {Q : Env → Hp → Prop} {e : Env} {H : Hp} {rest : List Oper} {d : Option Nat} {op : Op} {ty : TypeId} {p : String} {af : Array Edge}
theorem OW_nil (h : Q e H) : OW P n ops Q [] e H := h
theorem OW_op (hd : noDefer ⟨d, op, ty, p, af, none⟩ = true) (ht : ∀ t, d = some t → t < n)
    (h : ∀ K : Env → Hp → Prop, (∀ e H, OW P n ops Q rest e H → K e H) → ∀ r, Lt P (execOp (ev e r) ⟨d, op, ty, p, af, none⟩) H (fun nx H' => NextH P nx H' (fun v H'' => K (e.putO d v) H''))) :
    OW P n ops Q (⟨d, op, ty, p, af, none⟩ :: rest) e H :=
  ⟨hd, ht, true, rfl, fun r => h _ (fun _ _ h => h) r⟩
theorem lt_some {d n : Nat} (h : d < n) : ∀ t, some d = some t → t < n := fun t ht => by cases ht; exact h
theorem lt_none {n : Nat} : ∀ t, (none : Option Nat) = some t → t < n := fun t ht => by cases ht
/-- A guarded operation. -/
theorem OW_guard {j : Nat} {want : Bool} (hd : noDefer ⟨d, op, ty, p, af, some (j, want)⟩ = true) (ht : ∀ t, d = some t → t < n) {b : Bool} (hw : wantE ops e ⟨d, op, ty, p, af, some (j, want)⟩ = some b)
    (h1 : b = true → ∀ K : Env → Hp → Prop, (∀ e H, OW P n ops Q rest e H → K e H) → ∀ r, Lt P (execOp (ev e r) ⟨d, op, ty, p, af, some (j, want)⟩) H (fun nx H' => NextH P nx H' (fun v H'' => K (e.putO d v) H'')))
    (h0 : b = false → OW P n ops Q rest (e.putO d undef) H) :
    OW P n ops Q (⟨d, op, ty, p, af, some (j, want)⟩ :: rest) e H := by
  refine ⟨hd, ht, b, hw, ?_⟩
  cases b with
  | true => exact fun r => h1 rfl _ (fun _ _ h => h) r
  | false => exact h0 rfl
section
variable {R : Hp} {cl : Nat → Nat} {i : Nat}
theorem TW_nil (h : Q e H) : TW P n ops R cl Q [] e H := h
theorem TW_chain {rest : List (Nat × Oper)} (hd : noDefer ⟨d, op, ty, p, af, none⟩ = true) (ht : ∀ t, d = some t → t < n) (hc : cl i = 2)
    (h : ∀ K : Env → Hp → Prop, (∀ e H, Le R H → TW P n ops R cl Q rest e H → K e H) → ∀ r, Lt P (execOp (ev e r) ⟨d, op, ty, p, af, none⟩) H (fun nx H' => NextH P nx H' (fun v H'' => K (e.putO d v) H''))) :
    TW P n ops R cl Q ((i, ⟨d, op, ty, p, af, none⟩) :: rest) e H :=
  ⟨hd, ht, true, rfl, by rw [if_pos rfl, if_pos (by omega)]; exact fun r => h (fun e' H' => ∃ R', ((cl i = 2 → Le R H') ∧ (5 ≤ cl i → Le R' H') ∧ (cl i < 5 → R' = R) ∧ (cl i ≠ 5 → Le R R')) ∧ TW P n ops R' cl Q rest e' H') (fun e H hl hT => ⟨R, ⟨fun _ => hl, fun h5 => by omega, fun _ => rfl, fun _ => Le.refl _⟩, hT⟩) r⟩
theorem TW_last {rest : List (Nat × Oper)} (hd : noDefer ⟨d, op, ty, p, af, none⟩ = true) (ht : ∀ t, d = some t → t < n) (hc : cl i = 3)
    (h : ∀ K : Env → Hp → Prop, (∀ e H, TW P n ops R cl Q rest e H → K e H) → ∀ r, Lt P (execOp (ev e r) ⟨d, op, ty, p, af, none⟩) H (fun nx H' => NextH P nx H' (fun v H'' => K (e.putO d v) H''))) :
    TW P n ops R cl Q ((i, ⟨d, op, ty, p, af, none⟩) :: rest) e H :=
  ⟨hd, ht, true, rfl, by rw [if_pos rfl, if_pos (by omega)]; exact fun r => h (fun e' H' => ∃ R', ((cl i = 2 → Le R H') ∧ (5 ≤ cl i → Le R' H') ∧ (cl i < 5 → R' = R) ∧ (cl i ≠ 5 → Le R R')) ∧ TW P n ops R' cl Q rest e' H') (fun e H hT => ⟨R, ⟨fun h2 => by omega, fun h5 => by omega, fun _ => rfl, fun _ => Le.refl _⟩, hT⟩) r⟩
theorem TW_make {rest : List (Nat × Oper)} (hd : noDefer ⟨d, op, ty, p, af, none⟩ = true) (ht : ∀ t, d = some t → t < n) (hc : cl i = 4)
    (h : ∀ K : Env → Hp → Prop, (∀ e H, TW P n ops R cl Q rest e H → K e H) → ∀ r, Lt P (execOp (ev e r) ⟨d, op, ty, p, af, none⟩) H (fun nx H' => NextH P nx H' (fun v H'' => K (e.putO d v) H''))) :
    TW P n ops R cl Q ((i, ⟨d, op, ty, p, af, none⟩) :: rest) e H :=
  ⟨hd, ht, true, rfl, by rw [if_pos rfl, if_pos (by omega)]; exact fun r => h (fun e' H' => ∃ R', ((cl i = 2 → Le R H') ∧ (5 ≤ cl i → Le R' H') ∧ (cl i < 5 → R' = R) ∧ (cl i ≠ 5 → Le R R')) ∧ TW P n ops R' cl Q rest e' H') (fun e H hT => ⟨R, ⟨fun h2 => by omega, fun h5 => by omega, fun _ => rfl, fun _ => Le.refl _⟩, hT⟩) r⟩
theorem TW_fence {rest : List (Nat × Oper)} (hd : noDefer ⟨d, op, ty, p, af, none⟩ = true) (ht : ∀ t, d = some t → t < n) (hc : cl i = 5)
    (h : ∀ K : Env → Hp → Prop, (∀ e H, (∀ R' : Hp, R' = H → TW P n ops R' cl Q rest e H) → K e H) → ∀ r, Lt P (execOp (ev e r) ⟨d, op, ty, p, af, none⟩) H (fun nx H' => NextH P nx H' (fun v H'' => K (e.putO d v) H''))) :
    TW P n ops R cl Q ((i, ⟨d, op, ty, p, af, none⟩) :: rest) e H :=
  ⟨hd, ht, true, rfl, by rw [if_pos rfl, if_pos (by omega)]; exact fun r => h (fun e' H' => ∃ R', ((cl i = 2 → Le R H') ∧ (5 ≤ cl i → Le R' H') ∧ (cl i < 5 → R' = R) ∧ (cl i ≠ 5 → Le R R')) ∧ TW P n ops R' cl Q rest e' H') (fun e H hT => ⟨H, ⟨fun h2 => by omega, fun _ => Le.refl _, fun h5 => by omega, fun h5 => absurd hc h5⟩, hT H rfl⟩) r⟩
theorem TW_grow {rest : List (Nat × Oper)} (hd : noDefer ⟨d, op, ty, p, af, none⟩ = true) (ht : ∀ t, d = some t → t < n) (hc : cl i = 6)
    (h : ∀ K : Env → Hp → Prop, (∀ e H, Le R H → (∀ R' : Hp, R' = H → TW P n ops R' cl Q rest e H) → K e H) → ∀ r, Lt P (execOp (ev e r) ⟨d, op, ty, p, af, none⟩) H (fun nx H' => NextH P nx H' (fun v H'' => K (e.putO d v) H''))) :
    TW P n ops R cl Q ((i, ⟨d, op, ty, p, af, none⟩) :: rest) e H :=
  ⟨hd, ht, true, rfl, by rw [if_pos rfl, if_pos (by omega)]; exact fun r => h (fun e' H' => ∃ R', ((cl i = 2 → Le R H') ∧ (5 ≤ cl i → Le R' H') ∧ (cl i < 5 → R' = R) ∧ (cl i ≠ 5 → Le R R')) ∧ TW P n ops R' cl Q rest e' H') (fun e H hl hT => ⟨H, ⟨fun h2 => by omega, fun _ => Le.refl _, fun h5 => by omega, fun _ => hl⟩, hT H rfl⟩) r⟩
theorem TW_pure {rest : List (Nat × Oper)} (hd : noDefer ⟨d, op, ty, p, af, none⟩ = true) (ht : ∀ t, d = some t → t < n) (hc : cl i = 0) (v : Value)
    (h1 : ∀ r, Lt P (execOp (ev e r) ⟨d, op, ty, p, af, none⟩) emptyHp (fun nx H' => nx = .value v ∧ Le emptyHp H')) (h : TW P n ops R cl Q rest (e.putO d v) H) :
    TW P n ops R cl Q ((i, ⟨d, op, ty, p, af, none⟩) :: rest) e H :=
  ⟨hd, ht, true, rfl, by rw [if_pos rfl, if_neg (by omega)]; exact ⟨v, by unfold Rof; rw [if_pos hc]; exact h1, h⟩⟩
theorem TW_look {rest : List (Nat × Oper)} (hd : noDefer ⟨d, op, ty, p, af, none⟩ = true) (ht : ∀ t, d = some t → t < n) (hc : cl i = 1) (v : Value)
    (h1 : ∀ r, Lt P (execOp (ev e r) ⟨d, op, ty, p, af, none⟩) R (fun nx H' => nx = .value v ∧ Le R H')) (h : TW P n ops R cl Q rest (e.putO d v) H) :
    TW P n ops R cl Q ((i, ⟨d, op, ty, p, af, none⟩) :: rest) e H :=
  ⟨hd, ht, true, rfl, by rw [if_pos rfl, if_neg (by omega)]; exact ⟨v, by unfold Rof; rw [if_neg (by omega)]; exact h1, h⟩⟩
end
end
end Go.Proofs.Ytlkopcgoaldpeaa.HL
namespace Go.Proofs.Ytlkopcgoaldpeaa.HL
open Go
section
variable {P : Program} {H : Hp} {e : Env} {r : Nat → Value} {d : Option Nat} {ty : TypeId} {p : String} {af : Array Edge} {g : Option (Nat × Bool)}
theorem x_callF (f : FuncId) (hb : bodied P f = true) (args : Array Operand) (ts : Array TypeId) (K : Next → Hp → Prop) : Lt P (execOp (ev e r) ⟨d, .call ⟨.value (.func f), args, ts⟩, ty, p, af, g⟩) H K = K (.enter f (args.map (ev e r))) H := by
  rw [x_call]
  show Lt P (callFunc f ((#[] ++ args.map (ev e r)) ++ #[])) H K = _
  rw [l_callFunc f _ hb]; simp
theorem fieldAt_one {t : TypeId} {fs : Array Field} {f : Nat} {fd : Field} {n : Nat} (hu : P.underlying t = some (.struct fs)) (hf : fs[f]? = some fd) (hs : szOf P fd.type = some n) (hn : n ≠ 0) (a : Addr) (H : Hp) (K : Value → Hp → Prop) :
    Lt P (Instr.fieldAt t (.pointer (some a)) f) H K = K (.pointer (some (a.add fd.offset))) H := by
  rw [i_fieldAt, hu, orF_some]; simp only []; rw [hf, orF_some, hs, orF_some, if_neg hn]
theorem ne_of_none {x b : Nat} {o : Obj} (h : H x = some o) (k : H b = none) : x ≠ b := by intro e; subst e; rw [h] at k; cases k
theorem Lt_storeAt1 {t : TypeId} (hs : szOf P t = some 1) {b o : Nat} {c : Array Value} {T : TypeId} {f : Nat × Nat} {v : Value} (hb : H b = some (.cells c T f)) (ho : o < c.size) (hv : plainCell v = true) (hf : ¬ (f.1 ≤ o ∧ o < f.2)) {K : Unit → Hp → Prop}
    (h : K () (H.upd b (.cells (c.setIfInBounds o v) T f))) : Lt P (Instr.storeAt t (.pointer (some ⟨b, o, none⟩)) v) H K := by
  rw [l_storeAt, storeVar_eq, hs, orF_some]
  have hc : v.cells = #[v] := by cases v <;> first | rfl | (simp [plainCell] at hv; done)
  refine ⟨by rw [hc]; rfl, ?_⟩
  rw [hc]
  have key := storeCells_lt (P := P) (b := b) (t := T) (f := f) (o := o) [v] 0 H c K hb (by simpa using hv) (by simp; omega) (fun j h1 h2 => by
    have : j = o := by simp at h2; omega
    rw [this]; exact hf)
  rw [key]
  exact h
theorem Lt_storeAtA {t : TypeId} {vs : Array Value} {n : Nat} (hs : szOf P t = some n) (hvs : vs.size = n) {b o : Nat} {c : Array Value} {T : TypeId} {f : Nat × Nat} (hb : H b = some (.cells c T f)) (ho : o + vs.size ≤ c.size) (hv : PlainL vs.toList) (hf : f.2 ≤ f.1) {K : Unit → Hp → Prop}
    (h : K () (H.upd b (.cells (putCells c o vs.toList) T f))) : Lt P (Instr.storeAt t (.pointer (some ⟨b, o, none⟩)) (.agg vs)) H K := by
  subst hvs
  rw [l_storeAt, storeVar_eq, hs, orF_some]
  refine ⟨rfl, ?_⟩
  show Lt P (storeCells _ vs.toList) H K
  rw [storeCells_lt vs.toList 0 H c K hb hv (by simp; omega) (fun j h1 h2 => by omega)]
  exact h
theorem Lt_loadAtA {t : TypeId} {n : Nat} {td : TypeDesc} (hu : P.underlying t = some td) (ha : isAggD td = true) (hs : szOf P t = some n) {b o : Nat} {c : Array Value} {T : TypeId} {f : Nat × Nat} (hb : H b = some (.cells c T f)) (ho : o + n ≤ c.size) {K : Value → Hp → Prop}
    (h : K (.agg (c.extract o (o + n))) H) : Lt P (Instr.loadAt t (.pointer (some ⟨b, o, none⟩))) H K := by
  rw [l_loadAt, loadVar_one, hu, orF_some, ha, if_pos rfl, hs, orF_some, loadCells_lt hb o n ho]
  exact h
theorem Lt_loadAt1 {t : TypeId} {td : TypeDesc} (hu : P.underlying t = some td) (ha : isAggD td = false) {b o : Nat} {c : Array Value} {T : TypeId} {f : Nat × Nat} (hb : H b = some (.cells c T f)) {v : Value} (hc : c[o]? = some v) {K : Value → Hp → Prop}
    (h : K v H) : Lt P (Instr.loadAt t (.pointer (some ⟨b, o, none⟩))) H K := by
  rw [l_loadAt, loadVar_one, hu, orF_some, ha]
  exact ⟨v, (cell_of hb o).trans hc, h⟩
def Hp.del (H : Hp) (b : Nat) : Hp := fun x => if x = b then none else H x
theorem le_del (H : Hp) (b : Nat) : Le (H.del b) H := fun x o h => by unfold Hp.del at h; split at h; cases h; exact h
theorem le_del_upd (A : Hp) (b : Nat) (o : Obj) : Le (A.del b) (A.upd b o) := fun x o' h => by
  unfold Hp.del at h; split at h
  · cases h
  · rename_i hn; rw [upd_ne _ _ hn]; exact h
theorem del_self (H : Hp) (b : Nat) : H.del b b = none := by simp [Hp.del]
theorem del_ne (H : Hp) {b x : Nat} (h : x ≠ b) : H.del b x = H x := by simp [Hp.del, h]
theorem le_upd_of {R G : Hp} {b : Nat} {o : Obj} (h : Le R G) (hb : R b = none) : Le R (G.upd b o) := fun x o' hx => by
  rw [upd_ne]; · exact h x o' hx
  intro e; subst e; rw [hb] at hx; cases hx
theorem none_of_le {R G : Hp} {b : Nat} (h : Le R G) (hb : G b = none) : R b = none := by
  cases hr : R b with
  | none => rfl
  | some o => rw [h b o hr] at hb; cases hb
theorem Lq_loadA {t : TypeId} {td : TypeDesc} (hu : P.underlying t = some td) (ha : isAggD td = true) {n : Nat} (hs : szOf P t = some n) {b o : Nat} {c : Array Value} {T : TypeId} {f : Nat × Nat} (hb : H b = some (.cells c T f)) (hc : o + n ≤ c.size) : Lq P (loadVar t ⟨b, o, none⟩) H (fun x => x = .agg (c.extract o (o + n))) := by
  have key : ∀ (m i : Nat) (acc : Array Value) (K : Array Value → Prop), o + i + m ≤ c.size → K (acc ++ c.extract (o + i) (o + i + m)) → Lq P (loadCellsFrom ⟨b, o, none⟩ i m acc) H K := by
    intro m
    induction m with
    | zero => intro i acc K _ hk; have : c.extract (o + i) (o + i + 0) = #[] := by simp; omega
              rw [this] at hk; simpa [loadCellsFrom, Lq, Pure.pure] using hk
    | succ m ih =>
      intro i acc K hm hk
      simp only [loadCellsFrom, Bind.bind, Lq_bind, add_mk]
      refine ⟨c[o + i], by rw [cell_of hb]; simp, ?_⟩
      refine ih (i + 1) _ K (by omega) ?_
      have e1 : (acc.push c[o + i]) ++ c.extract (o + (i + 1)) (o + (i + 1) + m) = acc ++ c.extract (o + i) (o + i + (m + 1)) := by
        apply Array.ext'
        simp only [Array.toList_append, Array.toList_push, Array.toList_extract, List.append_assoc]
        congr 1
        have : o + i + (m + 1) - (o + i) = m + 1 := by omega
        have h2 : o + (i + 1) + m - (o + (i + 1)) = m := by omega
        rw [List.extract_eq_take_drop, List.extract_eq_take_drop, this, h2]
        have h3 : c.toList.drop (o + i) = c[o + i] :: c.toList.drop (o + (i + 1)) := by
          rw [List.drop_eq_getElem_cons (by simp; omega)]; rfl
        rw [h3]; simp
      rw [e1]; exact hk
  have hsz : (sizeOf t : Sem Nat) = typeInfo t >>= fun i => pure i.size := rfl
  obtain ⟨inf, hi, hin⟩ : ∃ i, P.info? t = some i ∧ i.size = n := by
    unfold szOf at hs
    cases hi : P.info? t with
    | none => rw [hi] at hs; cases hs
    | some i => rw [hi] at hs; exact ⟨i, rfl, by simpa using hs⟩
  have hagg : ∀ K : Bool → Prop, Lq P (isAgg t) H K = K true := by
    intro K
    simp only [isAgg, underlying, program, Bind.bind, Lq_bind, Lq, hu, Pure.pure]
    cases td <;> first | rfl | (simp [isAggD] at ha)
  simp only [loadVar, Bind.bind, Lq_bind, hagg, if_true, sizeOf, typeInfo, program, Lq, hi, Pure.pure, hin, loadCells]
  exact key n 0 #[] _ (by omega) (by simp)
theorem Lq_load1 {t : TypeId} {td : TypeDesc} (hu : P.underlying t = some td) (ha : isAggD td = false) {b o : Nat} {c : Array Value} {T : TypeId} {f : Nat × Nat} (hb : H b = some (.cells c T f)) {v : Value} (hc : c[o]? = some v) : Lq P (loadVar t ⟨b, o, none⟩) H (fun x => x = v) := by
  have hagg : ∀ K : Bool → Prop, Lq P (isAgg t) H K = K false := by
    intro K
    simp only [isAgg, underlying, program, Bind.bind, Lq_bind, Lq, hu, Pure.pure]
    cases td <;> first | rfl | (simp [isAggD] at ha)
  simp only [loadVar, Bind.bind, Lq_bind, hagg, Bool.false_eq_true, if_false, load, Lq]
  exact ⟨v, (cell_of hb o).trans hc, rfl⟩
theorem ite_bool (c : Prop) [Decidable c] (x y : Bool) : (if c then Value.bool x else Value.bool y) = Value.bool (if c then x else y) := by split <;> rfl
/-- Entering a function. -/
theorem CallH_enter {f : FuncId} {fn : Func} {c : Code} {n : Nat} {l : List Value} {rl : List ResultVar} {R : Value → Hp → Prop}
    (hf : P.funcs[f]? = some fn) (hb : fn.body = some c) (hrl : fn.results = rl.toArray) (h5 : rl.length.ble 5 = true) (hnt : fn.ntmps = n) (hn : l.length.ble n = true)
    (h : CW P n none c (EndH P rl R) (envOf 0 l) H) : CallH P f l.toArray H R := by
  subst hnt
  exact CallH_of_CW hf hb hrl (Nat.le_of_ble_eq_true h5) (Nat.le_of_ble_eq_true hn) h
end
end Go.Proofs.Ytlkopcgoaldpeaa.HL
namespace Go.Proofs.Ytlkopcgoaldpeaa.HL
open Go
section
variable {P : Program} {n : Nat} {ops : Array Oper} {Q : Env → Hp → Prop} {e : Env} {H : Hp} {rest : List Oper} {d : Option Nat} {op : Op} {ty : TypeId} {p : String} {af : Array Edge} {g : Nat × Bool} {R : Hp} {cl : Nat → Nat} {i : Nat}
theorem OW_guardT (hd : noDefer ⟨d, op, ty, p, af, some g⟩ = true) (ht : ∀ t, d = some t → t < n) (hw : wantE ops e ⟨d, op, ty, p, af, some g⟩ = some true)
    (h : ∀ K : Env → Hp → Prop, (∀ e H, OW P n ops Q rest e H → K e H) → ∀ r, Lt P (execOp (ev e r) ⟨d, op, ty, p, af, some g⟩) H (fun nx H' => NextH P nx H' (fun v H'' => K (e.putO d v) H''))) :
    OW P n ops Q (⟨d, op, ty, p, af, some g⟩ :: rest) e H := ⟨hd, ht, true, hw, fun r => h _ (fun _ _ h => h) r⟩
theorem OW_guardF (hd : noDefer ⟨d, op, ty, p, af, some g⟩ = true) (ht : ∀ t, d = some t → t < n) (hw : wantE ops e ⟨d, op, ty, p, af, some g⟩ = some false)
    (h : OW P n ops Q rest (e.putO d undef) H) : OW P n ops Q (⟨d, op, ty, p, af, some g⟩ :: rest) e H := ⟨hd, ht, false, hw, h⟩
theorem put_same : ∀ (e : Env) (d : Nat) (v : Value), e.get d = some v → e.put d v = e
  | [], _, _, h => by simp [Env.get] at h
  | (k, u) :: r, d, v, h => by
    simp only [Env.get, Env.put] at h ⊢
    by_cases hk : d = k
    · rw [if_pos hk] at h ⊢; cases h; rfl
    · rw [if_neg hk] at h ⊢; rw [put_same r d v h]
theorem OW_split {l : List Oper} {d : Nat} {b : Bool} (hg : e.get d = some (.bool b)) (h1 : b = true → OW P n ops Q l (e.put d (.bool true)) H) (h0 : b = false → OW P n ops Q l (e.put d (.bool false)) H) : OW P n ops Q l e H := by
  cases b with
  | true => have := h1 rfl; rwa [put_same e d _ hg] at this
  | false => have := h0 rfl; rwa [put_same e d _ hg] at this
theorem TW_split {l : List (Nat × Oper)} {d : Nat} {b : Bool} (hg : e.get d = some (.bool b)) (h1 : b = true → TW P n ops R cl Q l (e.put d (.bool true)) H) (h0 : b = false → TW P n ops R cl Q l (e.put d (.bool false)) H) : TW P n ops R cl Q l e H := by
  cases b with
  | true => have := h1 rfl; rwa [put_same e d _ hg] at this
  | false => have := h0 rfl; rwa [put_same e d _ hg] at this
theorem TW_guardF {rest : List (Nat × Oper)} (hd : noDefer ⟨d, op, ty, p, af, some g⟩ = true) (ht : ∀ t, d = some t → t < n) (hw : wantE ops e ⟨d, op, ty, p, af, some g⟩ = some false)
    (h : TW P n ops R cl Q rest (e.putO d undef) H) : TW P n ops R cl Q ((i, ⟨d, op, ty, p, af, some g⟩) :: rest) e H := ⟨hd, ht, false, hw, h⟩
theorem TW_chainG {rest : List (Nat × Oper)} (hd : noDefer ⟨d, op, ty, p, af, some g⟩ = true) (ht : ∀ t, d = some t → t < n) (hw : wantE ops e ⟨d, op, ty, p, af, some g⟩ = some true) (hc : cl i = 2)
    (h : ∀ K : Env → Hp → Prop, (∀ e H, Le R H → TW P n ops R cl Q rest e H → K e H) → ∀ r, Lt P (execOp (ev e r) ⟨d, op, ty, p, af, some g⟩) H (fun nx H' => NextH P nx H' (fun v H'' => K (e.putO d v) H''))) :
    TW P n ops R cl Q ((i, ⟨d, op, ty, p, af, some g⟩) :: rest) e H :=
  ⟨hd, ht, true, hw, by rw [if_pos rfl, if_pos (by omega)]; exact fun r => h (fun e' H' => ∃ R', ((cl i = 2 → Le R H') ∧ (5 ≤ cl i → Le R' H') ∧ (cl i < 5 → R' = R) ∧ (cl i ≠ 5 → Le R R')) ∧ TW P n ops R' cl Q rest e' H') (fun e H hl hT => ⟨R, ⟨fun _ => hl, fun h5 => by omega, fun _ => rfl, fun _ => Le.refl _⟩, hT⟩) r⟩
theorem TW_fenceG {rest : List (Nat × Oper)} (hd : noDefer ⟨d, op, ty, p, af, some g⟩ = true) (ht : ∀ t, d = some t → t < n) (hw : wantE ops e ⟨d, op, ty, p, af, some g⟩ = some true) (hc : cl i = 5)
    (h : ∀ K : Env → Hp → Prop, (∀ e H, (∀ R' : Hp, R' = H → TW P n ops R' cl Q rest e H) → K e H) → ∀ r, Lt P (execOp (ev e r) ⟨d, op, ty, p, af, some g⟩) H (fun nx H' => NextH P nx H' (fun v H'' => K (e.putO d v) H''))) :
    TW P n ops R cl Q ((i, ⟨d, op, ty, p, af, some g⟩) :: rest) e H :=
  ⟨hd, ht, true, hw, by rw [if_pos rfl, if_pos (by omega)]; exact fun r => h (fun e' H' => ∃ R', ((cl i = 2 → Le R H') ∧ (5 ≤ cl i → Le R' H') ∧ (cl i < 5 → R' = R) ∧ (cl i ≠ 5 → Le R R')) ∧ TW P n ops R' cl Q rest e' H') (fun e H hT => ⟨H, ⟨fun h2 => by omega, fun _ => Le.refl _, fun h5 => by omega, fun h5 => absurd hc h5⟩, hT H rfl⟩) r⟩
theorem TW_growG {rest : List (Nat × Oper)} (hd : noDefer ⟨d, op, ty, p, af, some g⟩ = true) (ht : ∀ t, d = some t → t < n) (hw : wantE ops e ⟨d, op, ty, p, af, some g⟩ = some true) (hc : cl i = 6)
    (h : ∀ K : Env → Hp → Prop, (∀ e H, Le R H → (∀ R' : Hp, R' = H → TW P n ops R' cl Q rest e H) → K e H) → ∀ r, Lt P (execOp (ev e r) ⟨d, op, ty, p, af, some g⟩) H (fun nx H' => NextH P nx H' (fun v H'' => K (e.putO d v) H''))) :
    TW P n ops R cl Q ((i, ⟨d, op, ty, p, af, some g⟩) :: rest) e H :=
  ⟨hd, ht, true, hw, by rw [if_pos rfl, if_pos (by omega)]; exact fun r => h (fun e' H' => ∃ R', ((cl i = 2 → Le R H') ∧ (5 ≤ cl i → Le R' H') ∧ (cl i < 5 → R' = R) ∧ (cl i ≠ 5 → Le R R')) ∧ TW P n ops R' cl Q rest e' H') (fun e H hl hT => ⟨H, ⟨fun h2 => by omega, fun _ => Le.refl _, fun h5 => by omega, fun _ => hl⟩, hT H rfl⟩) r⟩
theorem TW_pureG {rest : List (Nat × Oper)} (hd : noDefer ⟨d, op, ty, p, af, some g⟩ = true) (ht : ∀ t, d = some t → t < n) (hw : wantE ops e ⟨d, op, ty, p, af, some g⟩ = some true) (hc : cl i = 0) (v : Value)
    (h1 : ∀ r, Lt P (execOp (ev e r) ⟨d, op, ty, p, af, some g⟩) emptyHp (fun nx H' => nx = .value v ∧ Le emptyHp H')) (h : TW P n ops R cl Q rest (e.putO d v) H) :
    TW P n ops R cl Q ((i, ⟨d, op, ty, p, af, some g⟩) :: rest) e H :=
  ⟨hd, ht, true, hw, by rw [if_pos rfl, if_neg (by omega)]; exact ⟨v, by unfold Rof; rw [if_pos hc]; exact h1, h⟩⟩
theorem TW_lookG {rest : List (Nat × Oper)} (hd : noDefer ⟨d, op, ty, p, af, some g⟩ = true) (ht : ∀ t, d = some t → t < n) (hw : wantE ops e ⟨d, op, ty, p, af, some g⟩ = some true) (hc : cl i = 1) (v : Value)
    (h1 : ∀ r, Lt P (execOp (ev e r) ⟨d, op, ty, p, af, some g⟩) R (fun nx H' => nx = .value v ∧ Le R H')) (h : TW P n ops R cl Q rest (e.putO d v) H) :
    TW P n ops R cl Q ((i, ⟨d, op, ty, p, af, some g⟩) :: rest) e H :=
  ⟨hd, ht, true, hw, by rw [if_pos rfl, if_neg (by omega)]; exact ⟨v, by unfold Rof; rw [if_neg (by omega)]; exact h1, h⟩⟩
theorem OpH_mono {o : Oper} {K K' : Env → Hp → Prop} (h : OpH P o e H K) (hk : ∀ e H, K e H → K' e H) : OpH P o e H K' :=
  fun r => Lt_mono _ _ (h r) fun nx H' hn => hn.mono fun v H'' hK => hk _ _ hK
theorem OW_mono {Q' : Env → Hp → Prop} : ∀ {l : List Oper} {e : Env} {H : Hp}, OW P n ops Q l e H → (∀ e H, Q e H → Q' e H) → OW P n ops Q' l e H
  | [], _, _, h, hq => hq _ _ h
  | o :: l, e, H, ⟨h1, h2, b, h3, h4⟩, hq => ⟨h1, h2, b, h3, by
      cases b with
      | true => exact OpH_mono h4 fun e H h => OW_mono h hq
      | false => exact OW_mono h4 hq⟩
/-- A region's ways meet again. -/
theorem CW_region_cut {rd : Option Nat} {Q : Ex → Env → Hp → Prop} {id : Nat} {l : List Oper} (J : Env → Hp → Prop) (h1 : OW P n l.toArray J l e H) (h2 : ∀ e H, J e H → Q .normal e H) : CW P n rd (.region id l.toArray false) Q e H :=
  CW.mono (Q := fun x e H => x = .normal ∧ J e H) (CW_region (OW_mono h1 fun e H h => ⟨rfl, h⟩)) fun x e H ⟨hx, h⟩ => by subst hx; exact h2 e H h
/-- So do a statement's. -/
theorem CW_cut {rd : Option Nat} {Q : Ex → Env → Hp → Prop} {x y : Code} (J : Env → Hp → Prop) (h1 : CW P n rd x (Ex.thnH J Q) e H) (h2 : ∀ e H, J e H → CW P n rd y Q e H) : CW P n rd (.seq x y) Q e H :=
  CW_seq fun K hK => h1.mono fun z e H h => by cases z <;> first | exact hK _ _ (h2 _ _ h) | exact h
theorem dec_t {p : Prop} [Decidable p] (h : p) : decide p = true := decide_eq_true h
theorem dec_lt_t {a b : Int} (h : a < b) : decide (a < b) = true := decide_eq_true h
theorem dec_lt_f {a b : Int} (h : ¬ a < b) : decide (a < b) = false := decide_eq_false h
theorem dec_le_t {a b : Int} (h : a ≤ b) : decide (a ≤ b) = true := decide_eq_true h
theorem dec_le_f {a b : Int} (h : ¬ a ≤ b) : decide (a ≤ b) = false := decide_eq_false h
theorem dec_eq_t {a b : Int} (h : a = b) : decide (a = b) = true := decide_eq_true h
theorem dec_eq_f {a b : Int} (h : ¬ a = b) : decide (a = b) = false := decide_eq_false h
end
end Go.Proofs.Ytlkopcgoaldpeaa.HL
