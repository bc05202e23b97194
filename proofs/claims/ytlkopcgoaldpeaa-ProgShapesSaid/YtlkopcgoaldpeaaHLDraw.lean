/- Regions: in the text's order; and such as draw their order. -/
import Derived.Test.YtlkopcgoaldpeaaHLCode
namespace Go.Proofs.Ytlkopcgoaldpeaa.HL
open Go

section
variable {P : Program} {n : Nat} {rd : Option Nat} {Q : Ex → Env → Hp → Prop} {e : Env} {H : Hp}
theorem CW_region {id : Nat} {l : List Oper} (h : OW P n l.toArray (fun e H => Q .normal e H) l e H) : CW P n rd (.region id l.toArray false) Q e H := by
  intro B a w hr hs
  refine CR_region ?_
  have := opsR_of_OW (B := B) (H0 := H) (w0 := w) l 0 (by simp) e H a w h hr (.refl hs)
  simpa [List.range_eq_range'] using this
end

def emptyHp : Hp := fun _ => none
theorem sub_empty (w : World) : Sub emptyHp w := fun _ _ h => by cases h
theorem le_empty (H : Hp) : Le emptyHp H := fun _ _ h => by cases h

theorem Ext.float {R H H2 : Hp} {w w' : World} (hs : Sub H w) (hR : Le R H) (hx : Ext R w H2 w') (h2 : Le R H2) : Ext H w H w' := by
  refine ⟨fun b o hb => ?_, hx.size, fun b hb hn => hx.same b hb ?_, fun b hb => .inl hb, hx.os, hx.output, hx.tape⟩
  · cases hr : R b with
    | none => rw [hx.same b (hs.lt hb) hr]; exact hs b o hb
    | some o' => have := hR b o' hr; rw [hb] at this; cases this; exact hx.sub b o (h2 b o hr)
  · cases hr : R b with
    | none => rfl
    | some o' => rw [hR b o' hr] at hn; cases hn

/-- What an operation that only looks at the blocks R yields. -/
def Yields0 (P : Program) (ops : Array Oper) (R : Hp) (o : Oper) (v : Value) (a : Act) : Prop :=
  (Region.wanted o (yielded ops a.tmps) = true ∧ Lt P (execOp a.eval o) R (fun nx H' => nx = .value v ∧ Le R H')) ∨
  (Region.wanted o (yielded ops a.tmps) = false ∧ v = undef)
def YieldsF (P : Program) (ops : Array Oper) (R : Hp) (o : Oper) (v : Value) (a : Act) : Prop := ∃ R0, Le R0 R ∧ Yields0 P ops R0 o v a
theorem YieldsF.grow {P : Program} {ops : Array Oper} {R R' : Hp} {o : Oper} {v : Value} {a : Act} (h : YieldsF P ops R o v a) (k : Le R R') : YieldsF P ops R' o v a := by
  obtain ⟨R0, h1, h2⟩ := h; exact ⟨R0, Le.trans h1 k, h2⟩
theorem YieldsF.one {P : Program} {ops : Array Oper} {R : Hp} {o : Oper} {v u : Value} {a : Act} (h : YieldsF P ops R o v a) (k : YieldsF P ops R o u a) {w : World} (hs : Sub R w) : v = u := by
  obtain ⟨R1, l1, h⟩ := h
  obtain ⟨R2, l2, k⟩ := k
  rcases h with ⟨h1, h2⟩ | ⟨h1, h2⟩
  · rcases k with ⟨k1, k2⟩ | ⟨k1, k2⟩
    · obtain ⟨nx, w1, H1, hr1, ⟨rfl, _⟩, _⟩ := Lt_sound _ _ _ _ h2 (hs.le l1)
      obtain ⟨nx, w2, H2, hr2, ⟨rfl, _⟩, _⟩ := Lt_sound _ _ _ _ k2 (hs.le l2)
      have := hr1.symm.trans hr2; injection this with e _; injection e
    · rw [h1] at k1; cases k1
  · rcases k with ⟨k1, k2⟩ | ⟨k1, k2⟩
    · rw [h1] at k1; cases k1
    · rw [h2, k2]

theorem NextRuns.some {P : Program} {nx : Next} {w : World} {R : Value → World → Prop} (h : NextRuns P nx w R) : ∃ v w', R v w' := by
  cases nx <;> simp only [NextRuns] at h <;> first
    | exact ⟨_, _, h⟩
    | (obtain ⟨e, w', _, ⟨v, _, hR⟩, _⟩ := h []; exact ⟨v, w', hR⟩)
    | (obtain ⟨v, w', hR, _⟩ := h default []; exact ⟨v, w', hR⟩)
/-- Where there is a world at all, something comes of it. -/
theorem step_some {P : Program} {s : Sem Next} {H : Hp} {R : Value → Hp → Prop} (h : Lt P s H (fun nx H' => NextH P nx H' R)) (hw : ∃ w, Sub H w) : ∃ v H'', R v H'' ∧ ∃ w, Sub H'' w := by
  obtain ⟨w, hs⟩ := hw
  obtain ⟨nx, w', H', _, hn, hx⟩ := Lt_sound _ _ _ _ h hs
  obtain ⟨v, w'', H'', hR, hx'⟩ := (hn.sound hx.sub).some
  exact ⟨v, H'', hR, w'', hx'.sub⟩

/-- A world in which a block is free has one in which it is not. -/
theorem sub_new {H : Hp} {r : Nat} {o : Obj} (hw : ∃ w, Sub H w) (hr : H r = none) : ∃ w, Sub (H.upd r o) w := by
  obtain ⟨w, hs⟩ := hw
  refine ⟨{ w with heap := Array.ofFn (n := w.heap.size + r + 1) fun i => if i.1 = r then o else w.heap.getD i.1 default }, fun b o' hb => ?_⟩
  by_cases hbr : b = r
  · subst hbr; rw [upd_same] at hb; cases hb; simp only [Array.getElem?_ofFn]; rw [dif_pos (by omega)]; simp
  · rw [upd_ne _ _ hbr] at hb
    have h1 := hs b o' hb
    have h2 := hs.lt hb
    simp only [Array.getElem?_ofFn]
    rw [dif_pos (by omega), if_neg hbr]
    rw [Array.getElem?_eq_getElem h2] at h1
    simp [h2]; simpa using h1

/-- Only outcomes that have a world matter. -/
theorem Lt_world {P : Program} {α : Type} {s : Sem α} : ∀ {H : Hp} {K K' : α → Hp → Prop}, Lt P s H K → (∃ w, Sub H w) → (∀ a H', K a H' → (∃ w, Sub H' w) → K' a H') → Lt P s H K' := by
  induction s with
  | pure a => exact fun h hw hk => hk _ _ h hw
  | load m a k ih => intro H K K' ⟨v, h1, h2⟩ hw hk; exact ⟨v, h1, ih _ h2 hw hk⟩
  | store m a v k ih => intro H K K' ⟨o, h1, h2, h3, h4, h5⟩ ⟨w, hs⟩ hk; exact ⟨o, h1, h2, h3, h4, ih h5 ⟨_, (Ext.setCell hs h1 v).sub⟩ hk⟩
  | new o k ih =>
    intro H K K' h ⟨w, hs⟩ hk r hr
    exact ih _ (h r hr) (sub_new ⟨w, hs⟩ hr) hk
  | shape r k ih => intro H K K' ⟨o, h1, h2⟩ hw hk; exact ⟨o, h1, ih _ h2 hw hk⟩
  | freeze a n k ih =>
    intro H K K' h hw hk
    rcases h with ⟨h1, h2⟩ | ⟨h1, o, h2, h3⟩
    · exact .inl ⟨h1, ih h2 hw hk⟩
    · obtain ⟨w, hs⟩ := hw; exact .inr ⟨h1, o, h2, ih h3 ⟨_, (Ext.freeze hs h1 h2).sub⟩ hk⟩
  | frozen a k ih => intro H K K' ⟨o, h1, h2⟩ hw hk; exact ⟨o, h1, ih _ h2 hw hk⟩
  | getObj r k ih => intro H K K' ⟨o, h1, h2, h3⟩ hw hk; exact ⟨o, h1, h2, ih _ h3 hw hk⟩
  | setObj r o k ih => intro H K K' ⟨o0, h1, h2, h3⟩ ⟨w, hs⟩ hk; exact ⟨o0, h1, h2, ih h3 ⟨_, (Ext.set hs h1 o).sub⟩ hk⟩
  | choose q k ih => intro H K K' h hw hk; exact ⟨fun hf => ih _ (h.1 hf) hw hk, fun hf t => ih _ (h.2 hf t) hw hk⟩
  | sys c k ih => exact fun h _ _ => h.elim
  | program k ih => exact fun h hw hk => ih _ h hw hk
  | mark m k ih => exact fun h hw hk => ih h hw hk
  | halt h' => exact fun h _ _ => h.elim
theorem NextH_world {P : Program} {nx : Next} {H : Hp} {R R' : Value → Hp → Prop} (h : NextH P nx H R) (hw : ∃ w, Sub H w) (hr : ∀ v H', R v H' → (∃ w, Sub H' w) → R' v H') : NextH P nx H R' := by
  cases nx <;> simp only [NextH] at * <;> first
    | exact hr _ _ h hw
    | exact fun w hs => (h w hs).mono fun _ _ ⟨v, he, H', hR, hx⟩ => ⟨v, he, H', hr _ _ hR ⟨_, hx.sub⟩, hx⟩
    | exact fun w hs => (h w hs).mono fun v w' ⟨H', hR, hx⟩ => ⟨H', hr _ _ hR ⟨_, hx.sub⟩, hx⟩
    | exact h.elim
theorem anyR_mono {P : Program} {ops : Array Oper} {Q Q' : Act → World → Prop} (hq : ∀ a w, Q a w → Q' a w) : ∀ (fuel : Nat) (listed : Array Bool) (a : Act) (w : World), anyR P ops Q fuel listed a w → anyR P ops Q' fuel listed a w
  | 0, _, _, _, h => ⟨h.1, hq _ _ h.2⟩
  | fuel + 1, _, _, _, h => ⟨fun h0 => hq _ _ (h.1 h0), fun i hi => opR_mono (h.2 i hi) (fun a w => anyR_mono hq fuel _ a w)⟩

theorem upd_swap (H : Hp) {a b : Nat} (h : a ≠ b) (x y : Obj) : (H.upd a x).upd b y = (H.upd b y).upd a x := by
  funext i
  by_cases h1 : i = a
  · subst h1; rw [upd_ne _ _ h, upd_same, upd_same]
  · by_cases h2 : i = b
    · subst h2; rw [upd_same, upd_ne _ _ h1, upd_same]
    · rw [upd_ne _ _ h2, upd_ne _ _ h1, upd_ne _ _ h1, upd_ne _ _ h2]
theorem Ext.frame {H H' : Hp} {w w' : World} {r : Nat} {o : Obj} (hs : Sub (H.upd r o) w) (hr : H r = none) (hx : Ext H w H' w') : H' r = none ∧ Ext (H.upd r o) w (H'.upd r o) w' := by
  have hlt : r < w.heap.size := hs.lt (upd_same H r o)
  have hn : H' r = none := by
    cases hc : H' r with
    | none => rfl
    | some x => rcases hx.dom r (by rw [hc]; simp) with h | h
                · exact absurd hr h
                · omega
  refine ⟨hn, ⟨fun b o' hb => ?_, hx.size, fun b hb hbn => hx.same b hb ?_, fun b hb => ?_, hx.os, hx.output, hx.tape⟩⟩
  · by_cases e : b = r
    · subst e; rw [upd_same] at hb; cases hb; rw [hx.same b hlt hr]; exact hs b _ (upd_same H b _)
    · rw [upd_ne _ _ e] at hb; exact hx.sub b o' hb
  · by_cases e : b = r
    · subst e; exact hr
    · rw [upd_ne _ _ e] at hbn; exact hbn
  · by_cases e : b = r
    · subst e; exact .inl (by rw [upd_same]; simp)
    · rw [upd_ne _ _ e] at hb; rw [upd_ne _ _ e]; exact hx.dom b hb
theorem cell_upd {H : Hp} {r : Nat} {o : Obj} {a : Addr} {v : Value} (hr : H r = none) (h : H.cell a = some v) : (H.upd r o).cell a = some v := by
  have : a.block ≠ r := fun e => by unfold Hp.cell at h; rw [e, hr] at h; cases h
  unfold Hp.cell at *; rw [upd_ne _ _ this]; exact h
/-- A block that is not known stays as it is. -/
theorem Lt_frame {P : Program} {α : Type} (s : Sem α) {r : Nat} {o : Obj} : ∀ {H : Hp} {K : α → Hp → Prop}, Lt P s H K → H r = none → Lt P s (H.upd r o) (fun x H1 => ∃ H', H1 = H'.upd r o ∧ H' r = none ∧ K x H') := by
  have key : ∀ {H : Hp} {b : Nat} {o' : Obj}, H r = none → H b = some o' → b ≠ r := fun h1 h2 e => by rw [e, h1] at h2; cases h2
  induction s with
  | pure a => exact fun h hr => ⟨_, rfl, hr, h⟩
  | load m a k ih => intro H K ⟨v, h1, h2⟩ hr; exact ⟨v, cell_upd hr h1, ih _ h2 hr⟩
  | store m a v k ih =>
    intro H K ⟨o', h1, h2, h3, h4, h5⟩ hr
    have hb := key hr h1
    refine ⟨o', by rw [upd_ne _ _ hb]; exact h1, h2, ?_, h4, ?_⟩
    · cases hc : H.cell a with
      | none => exact absurd hc h3
      | some u => rw [cell_upd hr hc]; simp
    · rw [upd_swap _ (Ne.symm hb)]
      exact ih h5 (by rw [upd_ne _ _ (Ne.symm hb)]; exact hr)
  | new o' k ih =>
    intro H K h hr r' hr'
    have hne : r' ≠ r := fun e => by rw [e, upd_same] at hr'; cases hr'
    rw [upd_ne _ _ hne] at hr'
    rw [upd_swap _ (Ne.symm hne)]
    exact ih _ (h r' hr') (by rw [upd_ne _ _ (Ne.symm hne)]; exact hr)
  | shape r' k ih => intro H K ⟨o', h1, h2⟩ hr; exact ⟨o', by rw [upd_ne _ _ (key hr h1)]; exact h1, ih _ h2 hr⟩
  | freeze a n k ih =>
    intro H K h hr
    rcases h with ⟨h1, h2⟩ | ⟨h1, o', h2, h3⟩
    · exact .inl ⟨h1, ih h2 hr⟩
    · have hb := key hr h2
      refine .inr ⟨h1, o', by rw [upd_ne _ _ hb]; exact h2, ?_⟩
      rw [upd_swap _ (Ne.symm hb)]
      exact ih h3 (by rw [upd_ne _ _ (Ne.symm hb)]; exact hr)
  | frozen a k ih => intro H K ⟨o', h1, h2⟩ hr; exact ⟨o', by rw [upd_ne _ _ (key hr h1)]; exact h1, ih _ h2 hr⟩
  | getObj r' k ih => intro H K ⟨o', h1, h2, h3⟩ hr; exact ⟨o', by rw [upd_ne _ _ (key hr h1)]; exact h1, h2, ih _ h3 hr⟩
  | setObj r' o' k ih =>
    intro H K ⟨o0, h1, h2, h3⟩ hr
    have hb := key hr h1
    refine ⟨o0, by rw [upd_ne _ _ hb]; exact h1, h2, ?_⟩
    rw [upd_swap _ (Ne.symm hb)]
    exact ih h3 (by rw [upd_ne _ _ (Ne.symm hb)]; exact hr)
  | choose q k ih => exact fun h hr => ⟨fun hf => ih _ (h.1 hf) hr, fun hf t => ih _ (h.2 hf t) hr⟩
  | sys c k ih => exact fun h _ => h.elim
  | program k ih => exact fun h hr => ih _ h hr
  | mark m k ih => exact fun h hr => ih h hr
  | halt h' => exact fun h _ => h.elim
theorem NextH_frame {P : Program} {nx : Next} {H : Hp} {R : Value → Hp → Prop} {r : Nat} {o : Obj} (h : NextH P nx H R) (hr : H r = none) : NextH P nx (H.upd r o) (fun v H1 => ∃ H', H1 = H'.upd r o ∧ H' r = none ∧ R v H') := by
  have hle : Le H (H.upd r o) := fun b o' hb => by rw [upd_ne _ _ (fun e => by rw [e, hr] at hb; cases hb)]; exact hb
  cases nx <;> simp only [NextH] at * <;> first
    | exact ⟨_, rfl, hr, h⟩
    | exact fun w hs => (h w (hs.le hle)).mono fun _ _ ⟨v, he, H', hR, hx⟩ => ⟨v, he, H'.upd r o, ⟨H', rfl, (hx.frame hs hr).1, hR⟩, (hx.frame hs hr).2⟩
    | exact fun w hs => (h w (hs.le hle)).mono fun v w' ⟨H', hR, hx⟩ => ⟨H'.upd r o, ⟨H', rfl, (hx.frame hs hr).1, hR⟩, (hx.frame hs hr).2⟩
    | exact h.elim
/-- An operation that only makes a block. -/
def NewOp (P : Program) (o : Oper) : Prop := (∀ y, Region.wanted o y = true) ∧ ∃ (ob : Obj) (f : Nat → Value), ∀ (ρ : Operand → Value) (H : Hp) (K : Next → Hp → Prop), Lt P (execOp ρ o) H K = ∀ r, H r = none → K (.value (f r)) (H.upd r ob)

/- classes: 0: no block is looked at; 1: blocks of R are; 2: in the chain, R stays; 3: in the chain, R need not stay; 4: a block is made, whenever; 5: in the chain, and what looks stands wholly before or behind it: R is chosen anew; 6: in the chain, what looks and does not wait for it is listed before it: R grows -/
section
variable (P : Program) (ops : Array Oper) (R : Hp) (cl : Nat → Nat)
def Rof (i : Nat) : Hp := if cl i = 0 then emptyHp else R
def stepT (i : Nat) (K : Hp → Act → Hp → Prop) (a : Act) (H : Hp) : Prop :=
  match ops[i]? with
  | none => K R a H
  | some o => noDefer o = true ∧
    if 2 ≤ cl i then
      (if Region.wanted o (yielded ops a.tmps) then Lt P (execOp a.eval o) H (fun nx H' => NextH P nx H' (fun v H'' => ∃ R', ((cl i = 2 → Le R H'') ∧ (5 ≤ cl i → Le R' H'') ∧ (cl i < 5 → R' = R) ∧ (cl i ≠ 5 → Le R R')) ∧ K R' (a.put o.dst v) H'')) else K R (a.put o.dst undef) H)
    else ∃ v, YieldsF P ops (Rof R cl i) o v a ∧ K R (a.put o.dst v) H
end
section
variable (P : Program) (ops : Array Oper) (cl : Nat → Nat)
def anyT (Q : Act → Hp → Prop) : Nat → Hp → Array Bool → Act → Hp → Prop
  | 0, _, listed, a, H => Region.ready .any ops listed = [] ∧ Q a H
  | fuel + 1, R, listed, a, H =>
    (Region.ready .any ops listed = [] → Q a H) ∧
    ∀ i ∈ Region.ready .any ops listed, stepT P ops R cl i (fun R' => anyT Q fuel R' (listed.setIfInBounds i true)) a H
end
section
variable (P : Program) (ops : Array Oper) (R : Hp) (cl : Nat → Nat)
/-- The blocks R are there as long as something may look at them. -/
def Inv (listed : Array Bool) (H : Hp) : Prop := (∃ j o, ops[j]? = some o ∧ cl j = 1 ∧ listed.getD j true = false) → Le R H
/-- 'j' waits for 'i'. -/
def waitsFor (j i : Nat) : Bool := ((ops[j]?).map fun o => o.after.toList.any fun e => Region.binds .any e && e.on == i).getD false
end

variable {P : Program} {ops : Array Oper} {R : Hp} {cl : Nat → Nat} {Q : Act → Hp → Prop}

theorem stepT_mono {i : Nat} {K K' : Hp → Act → Hp → Prop} {a : Act} {H : Hp} (hk : ∀ R a H, K R a H → K' R a H) (h : stepT P ops R cl i K a H) : stepT P ops R cl i K' a H := by
  unfold stepT at *
  cases ho : ops[i]? with
  | none => simp only [ho] at h ⊢; exact hk _ _ _ h
  | some o =>
    simp only [ho] at h ⊢
    refine ⟨h.1, ?_⟩
    have h2 := h.2
    split
    · rename_i hc; rw [if_pos hc] at h2
      split
      · rename_i hw; rw [if_pos hw] at h2
        exact Lt_mono _ _ h2 fun nx H' hn => hn.mono fun v H'' ⟨R', h3, h4⟩ => ⟨R', h3, hk _ _ _ h4⟩
      · rename_i hw; rw [if_neg hw] at h2; exact hk _ _ _ h2
    · rename_i hc; rw [if_neg hc] at h2
      obtain ⟨v, hy, h3⟩ := h2
      exact ⟨v, hy, hk _ _ _ h3⟩

theorem getD_set_le {listed : Array Bool} {i k : Nat} (h : (listed.setIfInBounds i true).getD k true = false) : listed.getD k true = false := by
  by_cases hij : i = k
  · subst hij
    rcases Nat.lt_or_ge i listed.size with h' | h'
    · simp [h'] at h
    · simp at h
  · rw [getD_set_ne true hij] at h; exact h
theorem inv_listed {listed : Array Bool} {H : Hp} (h : Inv ops R cl listed H) (i : Nat) : Inv ops R cl (listed.setIfInBounds i true) H := by
  rintro ⟨j, o, h1, h2, h3⟩
  exact h ⟨j, o, h1, h2, getD_set_le h3⟩

theorem not_waits {i j : Nat} {oj : Oper} {listed : Array Bool} (hi : listed.getD i true = false) (hj : j ∈ Region.ready .any ops listed) (hoj : ops[j]? = some oj) : waitsFor ops j i = false := by
  cases hw : waitsFor ops j i with
  | false => rfl
  | true =>
    simp only [waitsFor, hoj, Option.map_some, Option.getD_some, List.any_eq_true, Bool.and_eq_true, beq_iff_eq, Array.mem_toList_iff] at hw
    obtain ⟨e, he, hb, heq⟩ := hw
    obtain ⟨_, o', ho', hall⟩ := mem_ready.1 hj
    rw [hoj] at ho'; cases ho'
    have hl := hall e he hb
    rw [heq] at hl
    rcases Nat.lt_or_ge i listed.size with h' | h'
    · simp [h'] at hl hi; rw [hl] at hi; cases hi
    · simp [Array.getElem?_eq_none h'] at hl

/-- What is listed has all listed that it waits for. -/
def Closed (ops : Array Oper) (listed : Array Bool) : Prop := ∀ m om i, ops[m]? = some om → listed[m]? = some true → waitsFor ops m i = true → listed[i]? = some true
def depsOf (ops : Array Oper) (m : Nat) : List Nat := ((ops[m]?).map fun o => o.after.toList.filterMap fun e => if Region.binds .any e then some e.on else none).getD []
def cloOf (ops : Array Oper) : Nat → List Nat → List Nat
  | 0, S => S
  | m + 1, S => cloOf ops m (if S.contains m then depsOf ops m ++ S else S)
def wait2 (ops : Array Oper) (j i : Nat) : Bool := waitsFor ops j i || (cloOf ops j (depsOf ops j)).contains i
theorem deps_waits {m i : Nat} (h : i ∈ depsOf ops m) : waitsFor ops m i = true := by
  unfold depsOf at h
  cases ho : ops[m]? with
  | none => rw [ho] at h; simp at h
  | some o =>
    rw [ho] at h
    simp only [Option.map_some, Option.getD_some, List.mem_filterMap] at h
    obtain ⟨e, he, hb⟩ := h
    split at hb
    · rename_i hbi
      cases hb
      simp only [waitsFor, ho, Option.map_some, Option.getD_some, List.any_eq_true, Bool.and_eq_true, beq_iff_eq]
      exact ⟨e, he, hbi, rfl⟩
    · cases hb
theorem wait_listed {j m : Nat} {oj : Oper} {listed : Array Bool} (hj : j ∈ Region.ready .any ops listed) (hoj : ops[j]? = some oj) (hw : waitsFor ops j m = true) : listed[m]? = some true := by
  simp only [waitsFor, hoj, Option.map_some, Option.getD_some, List.any_eq_true, Bool.and_eq_true, beq_iff_eq, Array.mem_toList_iff] at hw
  obtain ⟨e, he, hb, heq⟩ := hw
  obtain ⟨_, o', ho', hall⟩ := mem_ready.1 hj
  rw [hoj] at ho'; cases ho'
  have hl := hall e he hb
  rw [heq] at hl
  rcases Nat.lt_or_ge m listed.size with h' | h'
  · simpa [h'] using hl
  · simp [Array.getElem?_eq_none h'] at hl
theorem clo_listed {listed : Array Bool} (hc : Closed ops listed) : ∀ (m : Nat) (S : List Nat), (∀ x ∈ S, listed[x]? = some true) → ∀ x ∈ cloOf ops m S, listed[x]? = some true
  | 0, S, h, x, hx => h x hx
  | m + 1, S, h, x, hx => by
    unfold cloOf at hx
    refine clo_listed hc m _ (fun y hy => ?_) x hx
    split at hy
    · rename_i hm
      rcases List.mem_append.1 hy with hy | hy
      · have hw := deps_waits hy
        cases ho : ops[m]? with
        | none => simp [waitsFor, ho] at hw
        | some om => exact hc m om y ho (h m (by simpa using hm)) hw
      · exact h y hy
    · exact h y hy
theorem not_wait2 {i j : Nat} {oj : Oper} {listed : Array Bool} (hc : Closed ops listed) (hi : listed.getD i true = false) (hj : j ∈ Region.ready .any ops listed) (hoj : ops[j]? = some oj) : wait2 ops j i = false := by
  cases hw : wait2 ops j i with
  | false => rfl
  | true =>
    simp only [wait2, Bool.or_eq_true, List.contains_iff_mem] at hw
    rcases hw with hw | hw
    · rw [not_waits hi hj hoj] at hw; cases hw
    · have h4 := clo_listed hc j (depsOf ops j) (fun x hx => wait_listed hj hoj (deps_waits hx)) i hw
      simp [Array.getD_eq_getD_getElem?, h4] at hi
theorem Closed.set {j : Nat} {listed : Array Bool} (hc : Closed ops listed) (hj : j ∈ Region.ready .any ops listed) : Closed ops (listed.setIfInBounds j true) := by
  intro m om i hm hl hw
  have hup : listed[i]? = some true → (listed.setIfInBounds j true)[i]? = some true := by
    intro h
    by_cases e : j = i
    · subst e
      have := (Array.getElem?_eq_some_iff.1 h).1
      simp [this]
    · rw [Array.getElem?_setIfInBounds_ne e]; exact h
  by_cases e : j = m
  · subst e
    exact hup (wait_listed hj hm hw)
  · rw [Array.getElem?_setIfInBounds_ne e] at hl
    exact hup (hc m om i hm hl hw)
/-- Behind an operation that need not keep R nothing looks at R any more. -/
theorem inv_after {listed : Array Bool} {i : Nat} {o : Oper} (hkeep : ∀ j oj, ops[j]? = some oj → cl j = 1 → waitsFor ops i j = true) (_h3 : cl i = 3) (ho : ops[i]? = some o) (hr : i ∈ Region.ready .any ops listed) (H : Hp) : Inv ops R cl (listed.setIfInBounds i true) H := by
  rintro ⟨j, oj, hj, hcj, hlj⟩
  have h1 := not_waits (getD_set_le hlj) hr ho
  rw [hkeep j oj hj hcj] at h1; cases h1

/-- It is a walk of every order. -/
theorem anyR_of_anyT (hkeep : ∀ i o, ops[i]? = some o → cl i = 3 → ∀ j oj, ops[j]? = some oj → cl j = 1 → waitsFor ops i j = true) (hcl : ∀ i, i < ops.size → cl i ≤ 6) (hnew : ∀ j oj, ops[j]? = some oj → cl j = 4 → NewOp P oj) {H0 : Hp} {w0 : World} :
    ∀ (fuel : Nat) (R : Hp) (listed : Array Bool) (a : Act) (H : Hp) (w : World), Inv ops R cl listed H → Ext H0 w0 H w → anyT P ops cl Q fuel R listed a H → anyR P ops (fun a' w' => ∃ H', Q a' H' ∧ Ext H0 w0 H' w') fuel listed a w
  | 0, _, _, _, H, _, _, hx, h => ⟨h.1, H, h.2, hx⟩
  | fuel + 1, R, listed, a, H, w, hi, hx, h => by
    refine ⟨fun h0 => ⟨H, h.1 h0, hx⟩, fun i hr => ?_⟩
    have h1 := h.2 i hr
    unfold stepT at h1
    unfold opR
    cases ho : ops[i]? with
    | none => simp only [ho] at h1 ⊢; exact anyR_of_anyT hkeep hcl hnew fuel _ _ a H w (inv_listed hi i) hx h1
    | some o =>
      simp only [ho] at h1 ⊢
      refine ⟨noDefer_spec h1.1, ?_⟩
      have h2 := h1.2
      by_cases h44 : cl i = 4
      · obtain ⟨hwj, ob, f, hf⟩ := hnew i o ho h44
        rw [if_pos (by omega), hwj, if_pos rfl, hf] at h2
        rw [hwj, if_pos rfl]
        have h3 : Lt P (execOp a.eval o) H (fun nx H' => NextH P nx H' (fun v H'' => Inv ops R cl (listed.setIfInBounds i true) H'' ∧ anyT P ops cl Q fuel R (listed.setIfInBounds i true) (a.put o.dst v) H'')) := by
          rw [hf]
          exact fun r hr0 => ⟨inv_listed (fun hex b o' hb => by
            have := hi hex b o' hb
            rw [upd_ne _ _ (fun e => by rw [e, hr0] at this; cases this)]; exact this) i, by
            obtain ⟨R', ⟨_, _, h7, _⟩, h8⟩ := h2 r hr0
            have := h7 (by omega); subst this; exact h8⟩
        obtain ⟨nx, w', H', hrun, hn, hx'⟩ := Lt_sound _ _ _ _ h3 hx.sub
        exact ⟨nx, w', hrun, (hn.sound hx'.sub).mono fun v w'' ⟨H'', ⟨h3, h4⟩, hx''⟩ => anyR_of_anyT hkeep hcl hnew fuel _ _ _ H'' w'' h3 ((hx.trans hx').trans hx'') h4⟩
      by_cases hc : 2 ≤ cl i
      · rw [if_pos hc] at h2
        split
        · rename_i hw; rw [if_pos hw] at h2
          obtain ⟨nx, w', H', hrun, hn, hx'⟩ := Lt_sound _ _ _ _ h2 hx.sub
          refine ⟨nx, w', hrun, (hn.sound hx'.sub).mono fun v w'' ⟨H'', ⟨R', ⟨h3, h35, h3n, _⟩, h4⟩, hx''⟩ => anyR_of_anyT hkeep hcl hnew fuel _ _ _ H'' w'' ?_ ((hx.trans hx').trans hx'') h4⟩
          by_cases h55 : 5 ≤ cl i
          · exact fun _ => h35 h55
          have := h3n (by omega); subst this
          by_cases h22 : cl i = 2
          · exact fun _ => h3 h22
          · exact inv_after (hkeep i o ho (by have := hcl i (Array.getElem?_eq_some_iff.1 ho).1; omega)) (by have := hcl i (Array.getElem?_eq_some_iff.1 ho).1; omega) ho hr _
        · rename_i hw; rw [if_neg hw] at h2
          exact anyR_of_anyT hkeep hcl hnew fuel _ _ _ H w (inv_listed hi i) hx h2
      · rw [if_neg hc] at h2
        obtain ⟨v, hy, h3⟩ := h2
        have hs : Le (Rof R cl i) H := by
          unfold Rof
          by_cases h0 : cl i = 0
          · rw [if_pos h0]; exact le_empty H
          · rw [if_neg h0]; exact hi ⟨i, o, ho, by omega, (mem_ready.1 hr).1⟩
        obtain ⟨R0, hl0, hy⟩ := hy
        have hs := Le.trans hl0 hs
        rcases hy with ⟨hw, hv⟩ | ⟨hw, rfl⟩
        · rw [if_pos hw]
          obtain ⟨nx, w', H2, hrun, ⟨rfl, hl⟩, hx2⟩ := Lt_sound _ _ _ _ hv (hx.sub.le hs)
          exact ⟨_, w', hrun, anyR_of_anyT hkeep hcl hnew fuel _ _ _ H w' (inv_listed hi i) (hx.trans (.float hx.sub hs hx2 hl)) h3⟩
        · rw [if_neg (by rw [hw]; simp)]; exact anyR_of_anyT hkeep hcl hnew fuel _ _ _ H w (inv_listed hi i) hx h3

section apart
variable {oi oj : Oper} {i j : Nat} {v : Value}
theorem yieldsF_put {Rj : Hp} (hap : oi.apart ops oj = true) (hsj : ∀ cs b, oj.op ≠ .select cs b) {a : Act} {u : Value} : YieldsF P ops Rj oj u (a.put oi.dst v) ↔ YieldsF P ops Rj oj u a := by
  obtain ⟨h1, _, _⟩ := Oper.apart_spec hap
  unfold YieldsF Yields0
  rw [execOp_put oj hsj a oi.dst v h1, wanted_put oj a oi.dst v h1]
theorem yieldsF_put' {Ri : Hp} (hap : oi.apart ops oj = true) (hsi : ∀ cs b, oi.op ≠ .select cs b) {a : Act} {u : Value} : YieldsF P ops Ri oi u (a.put oj.dst v) ↔ YieldsF P ops Ri oi u a := by
  obtain ⟨_, _, h3⟩ := Oper.apart_spec hap
  unfold YieldsF Yields0
  rw [execOp_put oi hsi a oj.dst v h3, wanted_put oi a oj.dst v h3]

/-- 'oi' only looks and has its value ready: 'oj' does as it did. -/
theorem stepT_put (hj : ops[j]? = some oj) (hap : oi.apart ops oj = true) (hsi : ∀ cs b, oi.op ≠ .select cs b) (hsj : ∀ cs b, oj.op ≠ .select cs b) {Ri : Hp} {K : Hp → Act → Hp → Prop} {a : Act} {H : Hp}
    (hy : YieldsF P ops Ri oi v a) (h : stepT P ops R cl j K (a.put oi.dst v) H) : stepT P ops R cl j (fun R' a' H' => (cl j ≠ 5 → Le R R') ∧ YieldsF P ops Ri oi v a' ∧ K R' (a'.put oi.dst v) H') a H := by
  obtain ⟨h1, h2, h3⟩ := Oper.apart_spec hap
  unfold stepT at *
  simp only [hj] at h ⊢
  refine ⟨h.1, ?_⟩
  have hh := h.2
  rw [wanted_put oj a oi.dst v h1, execOp_put oj hsj a oi.dst v h1] at hh
  split
  · rename_i hc; rw [if_pos hc] at hh
    split
    · rename_i hw; rw [if_pos hw] at hh
      exact Lt_mono _ _ hh fun nx H' hn => hn.mono fun u H'' ⟨R', h4, h5⟩ => ⟨R', h4, h4.2.2.2, (yieldsF_put' hap hsi).2 hy, by rw [← Act.put_comm a v u h2]; exact h5⟩
    · rename_i hw; rw [if_neg hw] at hh
      exact ⟨fun _ => Le.refl _, (yieldsF_put' hap hsi).2 hy, by rw [← Act.put_comm a v undef h2]; exact hh⟩
  · rename_i hc; rw [if_neg hc] at hh
    obtain ⟨u, hu, hK⟩ := hh
    exact ⟨u, (yieldsF_put hap hsj).1 hu, fun _ => Le.refl _, (yieldsF_put' hap hsi).2 hy, by rw [← Act.put_comm a v u h2]; exact hK⟩
end apart

/-- Free to go first. -/
def Free (ops : Array Oper) (cl : Nat → Nat) (listed : Array Bool) (i : Nat) (oi : Oper) : Prop :=
  ∀ j oj, ops[j]? = some oj → j ≠ i → listed.getD j true = false → wait2 ops j i = false → oi.apart ops oj = true ∧ (2 ≤ cl i → cl j < 2 ∨ cl j = 4) ∧ (cl i = 6 → cl j ≠ 1)
theorem Free.set {listed : Array Bool} {i j : Nat} {oi : Oper} (h : Free ops cl listed i oi) : Free ops cl (listed.setIfInBounds j true) i oi :=
  fun k ok hk hki hl hw => h k ok hk hki (getD_set_le hl) hw

theorem anyT_first {i : Nat} {oi : Oper} {v : Value} (hk5 : ∀ i oi, ops[i]? = some oi → cl i = 5 → ∀ j oj, ops[j]? = some oj → cl j = 1 → wait2 ops j i = true ∨ wait2 ops i j = true) (hi : ops[i]? = some oi) (hnd : noDefer oi = true) (hc : cl i < 2) (hsel : ∀ (j : Nat) (o : Oper) cs b, ops[j]? = some o → o.op ≠ .select cs b) :
    ∀ (fuel : Nat) (R : Hp) (listed : Array Bool) (a : Act) (H : Hp), Closed ops listed → Free ops cl listed i oi →
      i ∈ Region.ready .any ops listed → YieldsF P ops (Rof R cl i) oi v a →
      anyT P ops cl Q fuel R (listed.setIfInBounds i true) (a.put oi.dst v) H → anyT P ops cl Q (fuel + 1) R listed a H := by
  have me : ∀ (R : Hp) (K : Hp → Act → Hp → Prop) (a : Act) (H : Hp), YieldsF P ops (Rof R cl i) oi v a → K R (a.put oi.dst v) H → stepT P ops R cl i K a H := fun R K a H hy hK => by
    unfold stepT; simp only [hi]; exact ⟨hnd, by rw [if_neg (by omega)]; exact ⟨v, hy, hK⟩⟩
  intro fuel
  induction fuel with
  | zero =>
    intro R listed a H _ _ hr hy G
    refine ⟨fun h => (by rw [h] at hr; cases hr), fun j hj => ?_⟩
    by_cases hji : j = i
    · subst hji; exact me _ _ _ _ hy G
    · have := ready_mono hj hji
      rw [G.1] at this; cases this
  | succ fuel ih =>
    intro R listed a H hcz hfree hr hy G
    refine ⟨fun h => (by rw [h] at hr; cases hr), fun j hj => ?_⟩
    by_cases hji : j = i
    · subst hji; exact me _ _ _ _ hy G
    · have h1 := G.2 j (ready_mono hj hji)
      obtain ⟨hjun, oj, hoj, _⟩ := mem_ready.1 hj
      have hap := (hfree j oj hoj hji hjun (not_wait2 hcz (mem_ready.1 hr).1 hj hoj)).1
      have h2 := stepT_put hoj hap (fun cs b => hsel i oi cs b hi) (fun cs b => hsel j oj cs b hoj) hy h1
      refine stepT_mono (fun R' a' H' h3 => ih R' (listed.setIfInBounds j true) a' H' (hcz.set hj) hfree.set (ready_mono hr (Ne.symm hji)) ?_ ?_) h2
      · have hro : Le (Rof R cl i) (Rof R' cl i) := by
          unfold Rof
          by_cases h0 : cl i = 0
          · rw [if_pos h0, if_pos h0]; exact Le.refl _
          · rw [if_neg h0, if_neg h0]
            refine h3.1 fun h5 => ?_
            have k1 := not_wait2 hcz (mem_ready.1 hr).1 hj hoj
            have k2 := not_wait2 hcz hjun hr hi
            rcases hk5 j oj hoj h5 i oi hi (by omega) with h | h
            · rw [k2] at h; cases h
            · rw [k1] at h; cases h
        exact h3.2.1.grow hro
      · rw [Array.setIfInBounds_comm _ _ hji]
        exact h3.2.2

theorem anyT_chain {i : Nat} {oi : Oper} (hcl : ∀ i, i < ops.size → cl i ≤ 6) (hk5 : ∀ i oi, ops[i]? = some oi → cl i = 5 → ∀ j oj, ops[j]? = some oj → cl j = 1 → wait2 ops j i = true ∨ wait2 ops i j = true) (hi : ops[i]? = some oi) (hc : 2 ≤ cl i) (hnew : ∀ j oj, ops[j]? = some oj → cl j = 4 → NewOp P oj) (hsel : ∀ (j : Nat) (o : Oper) cs b, ops[j]? = some o → o.op ≠ .select cs b) :
    ∀ (fuel : Nat) (R : Hp) (listed : Array Bool) (a : Act) (H : Hp), (∃ w, Sub H w) → Inv ops R cl listed H → Closed ops listed → Free ops cl listed i oi → i ∈ Region.ready .any ops listed →
      stepT P ops R cl i (fun R' => anyT P ops cl Q fuel R' (listed.setIfInBounds i true)) a H → anyT P ops cl Q (fuel + 1) R listed a H := by
  intro fuel
  induction fuel with
  | zero =>
    intro R listed a H hne hinv hcz hfree hr G
    refine ⟨fun h => (by rw [h] at hr; cases hr), fun j hj => ?_⟩
    by_cases hji : j = i
    · subst hji; exact G
    · have hj' := ready_mono hj hji
      unfold stepT at G
      simp only [hi] at G
      have h2 := G.2
      rw [if_pos hc] at h2
      split at h2
      · obtain ⟨u, H'', ⟨_, _, h3⟩, _⟩ := step_some h2 hne
        rw [h3.1] at hj'; cases hj'
      · rw [h2.1] at hj'; cases hj'
  | succ fuel ih =>
    intro R listed a H hne hinv hcz hfree hr G
    refine ⟨fun h => (by rw [h] at hr; cases hr), fun j hj => ?_⟩
    by_cases hji : j = i
    · subst hji; exact G
    · obtain ⟨hjun, oj, hoj, _⟩ := mem_ready.1 hj
      obtain ⟨hap, hcj, hc6⟩ := hfree j oj hoj hji hjun (not_wait2 hcz (mem_ready.1 hr).1 hj hoj)
      have hsi := fun cs b => hsel i oi cs b hi
      have hsj := fun cs b => hsel j oj cs b hoj
      obtain ⟨h1, h2, h3⟩ := Oper.apart_spec hap
      have hrun : ∀ v, execOp (a.put oj.dst v).eval oi = execOp a.eval oi := fun v => execOp_put oi hsi a oj.dst v h3
      have hwt : ∀ v, Region.wanted oi (yielded ops (a.put oj.dst v).tmps) = Region.wanted oi (yielded ops a.tmps) := fun v => wanted_put oi a oj.dst v h3
      rcases hcj hc with hcj | hcj
      rotate_left
      · -- 'j' makes a block
        obtain ⟨hwj, ob, f, hf⟩ := hnew j oj hoj hcj
        have G' := G
        unfold stepT at G'
        simp only [hi] at G'
        have h6 := G'.2
        rw [if_pos hc] at h6
        have fin : ∀ u R2 H2 r, H2 r = none → anyT P ops cl Q (fuel + 1) R2 (listed.setIfInBounds i true) (a.put oi.dst u) H2 → noDefer oj = true ∧
            anyT P ops cl Q fuel R2 ((listed.setIfInBounds i true).setIfInBounds j true) ((a.put oi.dst u).put oj.dst (f r)) (H2.upd r ob) := by
          intro u R2 H2 r hr2 h
          have h4 := h.2 j (ready_mono hj hji)
          unfold stepT at h4
          simp only [hoj] at h4
          have h5 := h4.2
          rw [if_pos (by omega), hwj, if_pos rfl, hf] at h5
          obtain ⟨R', ⟨_, _, h7, _⟩, h8⟩ := h5 r hr2
          have := h7 (by omega); subst this
          exact ⟨h4.1, h8⟩
        have hnd : noDefer oj = true := by
          obtain ⟨w0, hw0⟩ := hne
          by_cases hw : Region.wanted oi (yielded ops a.tmps) = true
          · rw [if_pos hw] at h6
            obtain ⟨u, H'', ⟨R2, _, h7⟩, w2, hw2⟩ := step_some h6 ⟨w0, hw0⟩
            have hfr : H'' w2.heap.size = none := by
              cases hcc : H'' w2.heap.size with
              | none => rfl
              | some o => exact absurd (hw2.lt hcc) (Nat.lt_irrefl _)
            exact (fin u R2 H'' _ hfr h7).1
          · rw [if_neg hw] at h6
            have hfr : H w0.heap.size = none := by
              cases hcc : H w0.heap.size with
              | none => rfl
              | some o => exact absurd (hw0.lt hcc) (Nat.lt_irrefl _)
            exact (fin undef R H _ hfr h6).1
        unfold stepT
        simp only [hoj]
        refine ⟨hnd, ?_⟩
        rw [if_pos (by omega), hwj, if_pos rfl, hf]
        intro r hr0
        have hR' : Inv ops R cl listed (H.upd r ob) := fun hex => fun b o' hb => by
          have := hinv hex b o' hb
          rw [upd_ne _ _ (fun e => by rw [e, hr0] at this; cases this)]; exact this
        refine ⟨R, ⟨fun h => by omega, fun h => by omega, fun _ => rfl, fun _ => Le.refl _⟩, ?_⟩
        refine ih R (listed.setIfInBounds j true) _ (H.upd r ob) ?_ (inv_listed hR' j) (hcz.set hj) hfree.set (ready_mono hr (Ne.symm hji)) ?_
        · exact sub_new hne hr0
        unfold stepT
        simp only [hi]
        refine ⟨G'.1, ?_⟩
        rw [if_pos hc, hwt, hrun]
        by_cases hw : Region.wanted oi (yielded ops a.tmps) = true
        · rw [if_pos hw] at h6 ⊢
          refine Lt_mono _ _ (Lt_frame (o := ob) _ h6 hr0) fun nx H1 ⟨H', e1, hn1, hn⟩ => ?_
          subst e1
          refine (NextH_frame (o := ob) hn hn1).mono fun u H2 ⟨H2', e2, hn2, R2, h8, h9⟩ => ?_
          subst e2
          obtain ⟨_, h11⟩ := fin u R2 H2' r hn2 h9
          refine ⟨R2, ⟨fun h22 b o' hb => ?_, fun h55 b o' hb => ?_, h8.2.2⟩, ?_⟩
          · have := h8.1 h22 b o' hb
            rw [upd_ne _ _ (fun e => by rw [e, hn2] at this; cases this)]; exact this
          · have := h8.2.1 h55 b o' hb
            rw [upd_ne _ _ (fun e => by rw [e, hn2] at this; cases this)]; exact this
          rw [Array.setIfInBounds_comm _ _ hji, ← Act.put_comm a u (f r) h2]
          exact h11
        · rw [if_neg hw] at h6 ⊢
          obtain ⟨_, h11⟩ := fin undef R H r hr0 h6
          rw [Array.setIfInBounds_comm _ _ hji, ← Act.put_comm a undef (f r) h2]
          exact h11
      -- at any state behind 'i', 'j' yields its value
      have hro : ∀ R2 : Hp, (cl i < 5 → R2 = R) → Rof R2 cl j = Rof R cl j := fun R2 h2 => by
        unfold Rof
        by_cases h0 : cl j = 0
        · rw [if_pos h0, if_pos h0]
        · rw [if_neg h0, if_neg h0]
          have hcj1 : cl j = 1 := by omega
          have hc66 : cl i ≠ 6 := fun h => hc6 h hcj1
          have hi6 := hcl i (Array.getElem?_eq_some_iff.1 hi).1
          apply Classical.byContradiction; intro hne5
          have h5 : cl i = 5 := Classical.byContradiction fun h5 => hne5 (h2 (by omega))
          have k1 := not_wait2 hcz (mem_ready.1 hr).1 hj hoj
          have k2 := not_wait2 hcz hjun hr hi
          rcases hk5 i oi hi h5 j oj hoj (by omega) with h | h
          · rw [k1] at h; cases h
          · rw [k2] at h; cases h
      have at_j : ∀ (u : Value) (R2 H'' : Hp), (cl i < 5 → R2 = R) → anyT P ops cl Q (fuel + 1) R2 (listed.setIfInBounds i true) (a.put oi.dst u) H'' →
          noDefer oj = true ∧ ∃ v, YieldsF P ops (Rof R cl j) oj v a ∧ anyT P ops cl Q fuel R2 ((listed.setIfInBounds i true).setIfInBounds j true) ((a.put oi.dst u).put oj.dst v) H'' := by
        intro u R2 H'' hR2 h
        have h4 := h.2 j (ready_mono hj hji)
        unfold stepT at h4
        simp only [hoj] at h4
        have h5 := h4.2
        rw [if_neg (by omega), hro R2 hR2] at h5
        obtain ⟨v, hy, hK⟩ := h5
        exact ⟨h4.1, v, (yieldsF_put hap hsj).1 hy, hK⟩
      have hle : Le (Rof R cl j) H := by
        unfold Rof
        by_cases h0 : cl j = 0
        · rw [if_pos h0]; exact le_empty H
        · rw [if_neg h0]; exact hinv ⟨j, oj, hoj, by omega, hjun⟩
      obtain ⟨w0, hw0⟩ := hne
      have goal : ∀ v, noDefer oj = true → YieldsF P ops (Rof R cl j) oj v a → anyT P ops cl Q (fuel + 1) R (listed.setIfInBounds j true) (a.put oj.dst v) H →
          stepT P ops R cl j (fun R' => anyT P ops cl Q (fuel + 1) R' (listed.setIfInBounds j true)) a H := fun v hnd hy hK => by
        unfold stepT; simp only [hoj]; exact ⟨hnd, by rw [if_neg (by omega)]; exact ⟨v, hy, hK⟩⟩
      have G' := G
      unfold stepT at G'
      simp only [hi] at G'
      have h6 := G'.2
      rw [if_pos hc] at h6
      by_cases hw : Region.wanted oi (yielded ops a.tmps) = true
      · rw [if_pos hw] at h6
        obtain ⟨u, H'', ⟨R2, h70, h7⟩, _⟩ := step_some h6 ⟨w0, hw0⟩
        obtain ⟨hnd, v, hy, _⟩ := at_j u R2 H'' h70.2.2.1 h7
        refine goal v hnd hy (ih R (listed.setIfInBounds j true) (a.put oj.dst v) H ⟨w0, hw0⟩ (inv_listed hinv j) (hcz.set hj) hfree.set (ready_mono hr (Ne.symm hji)) ?_)
        unfold stepT
        simp only [hi]
        refine ⟨G'.1, ?_⟩
        rw [if_pos hc, hwt v, if_pos hw, hrun v]
        refine Lt_mono _ _ h6 fun nx H' hn => hn.mono fun u2 H2 ⟨R2, h8, h9⟩ => ⟨R2, h8, ?_⟩
        obtain ⟨_, v2, hy2, hK2⟩ := at_j u2 R2 H2 h8.2.2.1 h9
        have := hy.one hy2 (hw0.le hle)
        subst this
        rw [Array.setIfInBounds_comm _ _ hji, ← Act.put_comm a u2 v h2]
        exact hK2
      · rw [if_neg hw] at h6
        obtain ⟨hnd, v, hy, hK⟩ := at_j undef R H (fun _ => rfl) h6
        refine goal v hnd hy (ih R (listed.setIfInBounds j true) (a.put oj.dst v) H ⟨w0, hw0⟩ (inv_listed hinv j) (hcz.set hj) hfree.set (ready_mono hr (Ne.symm hji)) ?_)
        unfold stepT
        simp only [hi]
        refine ⟨G'.1, ?_⟩
        rw [if_pos hc, hwt v, if_neg hw]
        rw [Array.setIfInBounds_comm _ _ hji, ← Act.put_comm a undef v h2]
        exact hK

/-! ### the text's order serves every order -/
def freeB (ops : Array Oper) (cl : Nat → Nat) (listed : Array Bool) (i : Nat) : Bool :=
  match ops[i]? with
  | none => false
  | some oi => (List.range ops.size).all fun j => j == i || listed.getD j true || waitsFor ops j i ||
      (((ops[j]?).map fun oj => oi.apart ops oj).getD false && (cl i < 2 || cl j < 2 || cl j == 4) && (cl i != 6 || cl j != 1)) || wait2 ops j i
theorem freeB_spec {listed : Array Bool} {i : Nat} {oi : Oper} (hi : ops[i]? = some oi) (h : freeB ops cl listed i = true) : Free ops cl listed i oi := by
  intro j oj hj hji hl hw
  unfold freeB at h
  simp only [hi, List.all_eq_true, List.mem_range] at h
  have hlt : j < ops.size := (Array.getElem?_eq_some_iff.1 hj).1
  have := h j hlt
  have hw0 : waitsFor ops j i = false := by
    cases h0 : waitsFor ops j i with
    | false => rfl
    | true => simp [wait2, h0] at hw
  simp only [hw0, hj, Option.map_some, Option.getD_some, hl, hw, Bool.or_false, Bool.or_eq_true, beq_iff_eq, Bool.and_eq_true, decide_eq_true_eq] at this
  rcases this with h1 | ⟨⟨h1, h2⟩, h3⟩
  · exact absurd h1 hji
  · exact ⟨h1, fun hc => by omega, fun h6 h7 => by simp [h6, h7] at h3⟩
def lexT (ops : Array Oper) (cl : Nat → Nat) : List Nat → Array Bool → Bool
  | [], listed => (Region.ready .any ops listed).isEmpty
  | k :: r, listed => (Region.ready .any ops listed).contains k && freeB ops cl listed k && lexT ops cl r (listed.setIfInBounds k true)
def okT (ops : Array Oper) (cl : Nat → Nat) (ord : List Nat) : Bool :=
  Region.noSelect ops && lexT ops cl ord (Array.replicate ops.size false) &&
  ((List.range ops.size).all fun i => cl i ≤ 6 && (cl i != 3 || (List.range ops.size).all fun j => cl j != 1 || waitsFor ops i j) && (cl i != 5 || (List.range ops.size).all fun j => cl j != 1 || wait2 ops j i || wait2 ops i j))
/-- The operations in an order. -/
def permL (ord : List Nat) (l : List Oper) : List (Nat × Oper) := ord.filterMap fun i => (l[i]?).map (i, ·)
theorem permL_ok (ord : List Nat) (l : List Oper) : ∀ x ∈ permL ord l, l.toArray[x.1]? = some x.2 := by
  intro x hx
  simp only [permL, List.mem_filterMap, Option.map_eq_some_iff] at hx
  obtain ⟨i, _, o, ho, rfl⟩ := hx
  simpa using ho

/-- The operations in the order that is given. -/
def TW (P : Program) (n : Nat) (ops : Array Oper) : Hp → (Nat → Nat) → (Env → Hp → Prop) → List (Nat × Oper) → Env → Hp → Prop
  | _, _, Q, [], e, H => Q e H
  | R, cl, Q, (i, o) :: rest, e, H => noDefer o = true ∧ (∀ t, o.dst = some t → t < n) ∧ ∃ b, wantE ops e o = some b ∧
      if b then
        (if 2 ≤ cl i then OpH P o e H (fun e' H' => ∃ R', ((cl i = 2 → Le R H') ∧ (5 ≤ cl i → Le R' H') ∧ (cl i < 5 → R' = R) ∧ (cl i ≠ 5 → Le R R')) ∧ TW P n ops R' cl Q rest e' H')
         else ∃ v, (∀ r, Lt P (execOp (ev e r) o) (Rof R cl i) (fun nx H' => nx = .value v ∧ Le (Rof R cl i) H')) ∧ TW P n ops R cl Q rest (e.putO o.dst v) H)
      else TW P n ops R cl Q rest (e.putO o.dst undef) H

/-- The known temporaries. -/
structure TRel (n : Nat) (e : Env) (a : Act) : Prop where
  size : a.tmps.size = n
  tmps : ∀ t v, e.get t = some v → a.tmps[t]? = some v
theorem TRel.rel {n : Nat} {e : Env} {a : Act} (h : TRel n e a) : Rel n 0 e { a with defers := [] } default emptyHp := ⟨h.size, h.tmps, [], rfl, .nil, fun _ h => by cases h⟩
theorem TRel.ev {n : Nat} {e : Env} {a : Act} (h : TRel n e a) : a.eval = HL.ev e (fun t => a.tmps.getD t undef) := by
  have := h.rel.ev
  rw [← this]; funext x; cases x <;> rfl
theorem TRel.put {n : Nat} {e : Env} {a : Act} (h : TRel n e a) {d : Option Nat} (hd : ∀ t, d = some t → t < n) (v : Value) : TRel n (e.putO d v) (a.put d v) := by
  have := h.rel.put hd v
  cases d <;> exact ⟨this.size, this.tmps⟩
theorem TRel.want {n : Nat} {e : Env} {a : Act} (h : TRel n e a) {o : Oper} {b : Bool} (hw : wantE ops e o = some b) : Region.wanted o (yielded ops a.tmps) = b := wantE_sound h.rel hw
theorem put_defers (a : Act) (d : Option Nat) (v : Value) : (a.put d v).defers = a.defers := by cases d <;> rfl

theorem anyT_of_TW {n : Nat} {Q : Env → Hp → Prop} {ds : List Deferred} (hsel : ∀ (j : Nat) (o : Oper) cs b, ops[j]? = some o → o.op ≠ .select cs b) (hcl : ∀ i, i < ops.size → cl i ≤ 6)
    (hnew : ∀ j oj, ops[j]? = some oj → cl j = 4 → NewOp P oj)
    (hkeep : ∀ i o, ops[i]? = some o → cl i = 3 → ∀ j oj, ops[j]? = some oj → cl j = 1 → waitsFor ops i j = true) (hk5 : ∀ i oi, ops[i]? = some oi → cl i = 5 → ∀ j oj, ops[j]? = some oj → cl j = 1 → wait2 ops j i = true ∨ wait2 ops i j = true) :
    ∀ (l : List (Nat × Oper)) (R : Hp) (listed : Array Bool), (∀ x ∈ l, ops[x.1]? = some x.2) → lexT ops cl (l.map (·.1)) listed = true → ∀ (e : Env) (H : Hp) (a : Act),
    (∃ w, Sub H w) → Inv ops R cl listed H → Closed ops listed → TW P n ops R cl Q l e H → TRel n e a → a.defers = ds → anyT P ops cl (fun a' H' => ∃ e', Q e' H' ∧ TRel n e' a' ∧ a'.defers = ds) l.length R listed a H
  | [], _, _, _, hB, e, H, a, _, _, _, h, hr, hd => ⟨by simpa [lexT] using hB, e, h, hr, hd⟩
  | (k, o) :: l, R, listed, hl, hB, e, H, a, hne, hinv, hcz, h, hr, hdf => by
    have h0 : ops[k]? = some o := hl (k, o) (by simp)
    have hl' : ∀ x ∈ l, ops[x.1]? = some x.2 := fun x hx => hl x (by simp [hx])
    simp only [List.map_cons, lexT, Bool.and_eq_true] at hB
    obtain ⟨⟨hrd, hf⟩, hB'⟩ := hB
    have hrd : k ∈ Region.ready .any ops listed := by simpa using hrd
    have hfree := freeB_spec h0 hf
    obtain ⟨hnd, ht, b, hb, h⟩ := h
    have hwant := hr.want hb
    have IH := fun R => anyT_of_TW (n := n) (Q := Q) (ds := ds) hsel hcl hnew hkeep hk5 l R (listed.setIfInBounds k true) hl' hB'
    by_cases hc : 2 ≤ cl k
    · refine anyT_chain hcl hk5 h0 hc hnew hsel l.length R listed a H hne hinv hcz hfree hrd ?_
      unfold stepT
      simp only [h0]
      refine ⟨hnd, ?_⟩
      rw [if_pos hc, hwant]
      cases b with
      | false => simp only [Bool.false_eq_true, if_false] at h ⊢; exact IH R _ _ _ hne (inv_listed hinv k) (hcz.set hrd) h (hr.put ht _) (by rw [put_defers]; exact hdf)
      | true =>
        simp only [if_true] at h ⊢
        rw [if_pos hc] at h
        have h1 := h (fun t => a.tmps.getD t undef)
        rw [← hr.ev] at h1
        -- what comes of it has a world of its own: the outcomes that matter are those of a world
        by_cases h44 : cl k = 4
        · obtain ⟨hwj, ob, f, hf4⟩ := hnew k o h0 h44
          rw [hf4] at h1 ⊢
          intro r hr0
          obtain ⟨R', ⟨_, _, h7, _⟩, h8⟩ := h1 r hr0
          have := h7 (by omega); subst this
          exact ⟨R', ⟨fun h => by omega, fun h => by omega, fun _ => rfl, fun _ => Le.refl _⟩, IH R' _ _ _ (sub_new hne hr0) (inv_listed (fun hex b o' hb => by
            have := hinv hex b o' hb
            rw [upd_ne _ _ (fun e => by rw [e, hr0] at this; cases this)]; exact this) k) (hcz.set hrd) h8 (hr.put ht _) (by rw [put_defers]; exact hdf)⟩
        refine Lt_world h1 hne fun nx H' hn hne' => NextH_world hn hne' fun v H'' ⟨R', hkp, hK⟩ hne'' => ⟨R', hkp, IH R' _ _ _ hne'' ?_ (hcz.set hrd) hK (hr.put ht _) (by rw [put_defers]; exact hdf)⟩
        by_cases h55 : 5 ≤ cl k
        · exact fun _ => hkp.2.1 h55
        have := hkp.2.2.1 (by omega); subst this
        by_cases h22 : cl k = 2
        · exact fun _ => hkp.1 h22
        · exact inv_after (hkeep k o h0 (by have := hcl k (Array.getElem?_eq_some_iff.1 h0).1; omega)) (by have := hcl k (Array.getElem?_eq_some_iff.1 h0).1; omega) h0 hrd _
    · cases b with
      | false =>
        simp only [Bool.false_eq_true, if_false] at h
        exact anyT_first hk5 h0 hnd (by omega) hsel l.length R listed a H hcz hfree hrd ⟨_, Le.refl _, .inr ⟨hwant, rfl⟩⟩ (IH R _ _ _ hne (inv_listed hinv k) (hcz.set hrd) h (hr.put ht _) (by rw [put_defers]; exact hdf))
      | true =>
        simp only [if_true] at h
        rw [if_neg hc] at h
        obtain ⟨v, h1, h2⟩ := h
        have h1 := h1 (fun t => a.tmps.getD t undef)
        rw [← hr.ev] at h1
        exact anyT_first hk5 h0 hnd (by omega) hsel l.length R listed a H hcz hfree hrd ⟨_, Le.refl _, .inl ⟨hwant, h1⟩⟩ (IH R _ _ _ hne (inv_listed hinv k) (hcz.set hrd) h2 (hr.put ht _) (by rw [put_defers]; exact hdf))

/-- A region that draws its order: the class of each operation; an order; the blocks that are looked at; the operations in that order. -/
theorem CW_draw {n : Nat} {rd : Option Nat} {Q : Ex → Env → Hp → Prop} {e : Env} {H : Hp} {id : Nat} {l : List Oper} (cls : List Nat) (ord : List Nat) (R : Hp) (hm : P.follows .mixedOrders = true) (hok : okT l.toArray (fun i => cls.getD i 0) ord = true)
    (hnew : ∀ j oj, l[j]? = some oj → cls.getD j 0 = 4 → NewOp P oj) (hlen : (permL ord l).map (·.1) = ord)
    (hlen2 : ord.length = l.length)
    (hR : Le R H) (h : TW P n l.toArray R (fun i => cls.getD i 0) (fun e H => Q .normal e H) (permL ord l) e H) : CW P n rd (.region id l.toArray true) Q e H := by
  intro B a w hr hs
  simp only [okT, Bool.and_eq_true, List.all_eq_true, List.mem_range] at hok
  obtain ⟨⟨hsel, hlex⟩, hk⟩ := hok
  have hsel' := Region.noSelect_spec hsel
  have hcl : ∀ i, i < l.toArray.size → cls.getD i 0 ≤ 6 := fun i hi => by simpa using (hk i hi).1.1
  have hnew' : ∀ j oj, l.toArray[j]? = some oj → cls.getD j 0 = 4 → NewOp P oj := fun j oj hj => hnew j oj (by simpa using hj)
  have hkeep : ∀ i o, l.toArray[i]? = some o → cls.getD i 0 = 3 → ∀ j oj, l.toArray[j]? = some oj → cls.getD j 0 = 1 → waitsFor l.toArray i j = true := by
    intro i o hi h3 j oj hj h1
    have hil : i < l.toArray.size := (Array.getElem?_eq_some_iff.1 hi).1
    have hjl : j < l.toArray.size := (Array.getElem?_eq_some_iff.1 hj).1
    have h2 := (hk i hil).1.2
    rw [h3] at h2
    simp only [bne_self_eq_false, Bool.false_or, List.all_eq_true, List.mem_range] at h2
    have h4 := h2 j hjl
    rw [h1] at h4
    simpa using h4
  have hk5 : ∀ i oi, l.toArray[i]? = some oi → cls.getD i 0 = 5 → ∀ j oj, l.toArray[j]? = some oj → cls.getD j 0 = 1 → wait2 l.toArray j i = true ∨ wait2 l.toArray i j = true := by
    intro i oi hi h5 j oj hj h1
    have hil : i < l.toArray.size := (Array.getElem?_eq_some_iff.1 hi).1
    have hjl : j < l.toArray.size := (Array.getElem?_eq_some_iff.1 hj).1
    have h2 := (hk i hil).2
    rw [h5] at h2
    simp only [bne_self_eq_false, Bool.false_or, List.all_eq_true, List.mem_range] at h2
    have h4 := h2 j hjl
    rw [h1] at h4
    simpa using h4
  have hx : Ext H w H { w with drawn := w.drawn + 1 } := .drew hs _
  have hll : (permL ord l).length = l.length := by rw [← hlen2, ← hlen, List.length_map, hlen]
  have h1 := anyT_of_TW (P := P) (n := n) (Q := fun e H => Q .normal e H) (ds := a.defers) hsel' hcl hnew' hkeep hk5 (permL ord l) R (Array.replicate l.toArray.size false) (permL_ok ord l) (by rw [hlen]; exact hlex) e H a ⟨w, hs⟩ (fun _ => hR) (fun m om i hm hl _ => by simp [Array.getElem?_replicate] at hl) h ⟨hr.size, hr.tmps⟩ rfl
  rw [hll] at h1
  have h2 := anyR_of_anyT hkeep hcl hnew' (H0 := H) (w0 := w) l.length R _ a H { w with drawn := w.drawn + 1 } (fun _ => hR) hx h1
  have h3 : anyR P l.toArray (Sat n B H w (Q .normal)) l.length (Array.replicate l.toArray.size false) a { w with drawn := w.drawn + 1 } := by
    refine anyR_mono (fun a' w' h => ?_) _ _ _ _ h2
    obtain ⟨H', ⟨e', hQ, ht, hd⟩, hx'⟩ := h
    refine ⟨e', H', hQ, ⟨ht.size, ht.tmps, ?_⟩, hx'⟩
    have := (hr.ext hx').marks
    rw [hd]; exact this
  exact CR_region_any hm (by simpa using h3)
end Go.Proofs.Ytlkopcgoaldpeaa.HL
