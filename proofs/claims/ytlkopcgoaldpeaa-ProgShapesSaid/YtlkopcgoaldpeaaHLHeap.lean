/- Partial heaps: the blocks that are known; a run of the model's little programs on them. -/
import Derived.Test.YtlkopcgoaldpeaaHLFunc
namespace Go.Proofs.Ytlkopcgoaldpeaa.HL
open Go

abbrev Hp := Nat → Option Obj
def Hp.upd (H : Hp) (b : Nat) (o : Obj) : Hp := fun x => if x = b then some o else H x
theorem upd_same (H : Hp) (b : Nat) (o : Obj) : H.upd b o b = some o := by simp [Hp.upd]
theorem upd_ne (H : Hp) {b x : Nat} (o : Obj) (h : x ≠ b) : H.upd b o x = H x := by simp [Hp.upd, h]

def Sub (H : Hp) (w : World) : Prop := ∀ b o, H b = some o → w.heap[b]? = some o
def Le (H H' : Hp) : Prop := ∀ b o, H b = some o → H' b = some o
theorem Le.refl (H : Hp) : Le H H := fun _ _ h => h
theorem Le.trans {A B C : Hp} (h : Le A B) (k : Le B C) : Le A C := fun b o x => k b o (h b o x)
theorem Sub.le {H H' : Hp} {w : World} (h : Sub H' w) (k : Le H H') : Sub H w := fun b o x => h b o (k b o x)
theorem Sub.lt {H : Hp} {w : World} (h : Sub H w) {b : Nat} {o : Obj} (k : H b = some o) : b < w.heap.size := by
  have := h b o k
  rcases Nat.lt_or_ge b w.heap.size with h' | h'
  · exact h'
  · simp [Array.getElem?_eq_none h'] at this
theorem le_upd (H : Hp) (b : Nat) (o : Obj) (h : H b = none) : Le H (H.upd b o) := fun x o' hx => by
  rw [upd_ne]; · exact hx
  · intro e; subst e; rw [h] at hx; cases hx

structure Ext (H : Hp) (w : World) (H' : Hp) (w' : World) : Prop where
  sub : Sub H' w'
  size : w.heap.size ≤ w'.heap.size
  same : ∀ b, b < w.heap.size → H b = none → w'.heap[b]? = w.heap[b]?
  dom : ∀ b, H' b ≠ none → H b ≠ none ∨ w.heap.size ≤ b
  os : w'.os = w.os
  output : w'.output = w.output
  tape : w'.tape = w.tape

theorem Ext.refl {H : Hp} {w : World} (h : Sub H w) : Ext H w H w := ⟨h, Nat.le_refl _, fun _ _ _ => rfl, fun _ h => .inl h, rfl, rfl, rfl⟩
theorem Ext.trans {H H' H'' : Hp} {w w' w'' : World} (h : Ext H w H' w') (k : Ext H' w' H'' w'') : Ext H w H'' w'' := by
  refine ⟨k.sub, Nat.le_trans h.size k.size, fun b hb hn => ?_, fun b hb => ?_, k.os.trans h.os, k.output.trans h.output, k.tape.trans h.tape⟩
  · have h1 : H' b = none := by
      cases hc : H' b with
      | none => rfl
      | some o =>
        rcases h.dom b (by simp [hc]) with h2 | h2
        · exact absurd hn h2
        · omega
    rw [k.same b (Nat.lt_of_lt_of_le hb h.size) h1, h.same b hb hn]
  · rcases k.dom b hb with h1 | h1
    · exact h.dom b h1
    · exact .inr (Nat.le_trans h.size h1)
/-- Blocks may be forgotten. -/
theorem Ext.forget {H H' H'' : Hp} {w w' : World} (h : Ext H w H' w') (k : Le H'' H') : Ext H w H'' w' :=
  ⟨h.sub.le k, h.size, h.same, fun b hb => h.dom b (by
    cases hc : H'' b with
    | none => exact absurd hc hb
    | some o => rw [k b o hc]; simp), h.os, h.output, h.tape⟩
theorem Ext.drew {H : Hp} {w : World} (h : Sub H w) (n : Nat) : Ext H w H { w with drawn := n } := ⟨h, Nat.le_refl _, fun _ _ _ => rfl, fun _ h => .inl h, rfl, rfl, rfl⟩
theorem Ext.new {H : Hp} {w : World} (h : Sub H w) (o : Obj) : Ext H w (H.upd w.heap.size o) { w with heap := w.heap.push o } := by
  refine ⟨fun b o' hb => ?_, by simp, fun b hb _ => by rw [Array.getElem?_push, if_neg (by omega)], fun b hb => ?_, rfl, rfl, rfl⟩
  · by_cases hx : b = w.heap.size
    · subst hx; rw [upd_same] at hb; cases hb; simp
    · rw [upd_ne _ _ hx] at hb
      have := h.lt hb
      rw [Array.getElem?_push, if_neg (by omega)]; exact h _ _ hb
  · by_cases hx : b = w.heap.size
    · exact .inr (by omega)
    · rw [upd_ne _ _ hx] at hb; exact .inl hb
theorem Ext.set {H : Hp} {w : World} (h : Sub H w) {b : Nat} {o0 : Obj} (h0 : H b = some o0) (o : Obj) : Ext H w (H.upd b o) { w with heap := w.heap.setIfInBounds b o } := by
  have hlt := h.lt h0
  refine ⟨fun x o' hx => ?_, by simp, fun x hx hn => ?_, fun x hx => ?_, rfl, rfl, rfl⟩
  · by_cases he : x = b
    · subst he; rw [upd_same] at hx; cases hx; simp [hlt]
    · rw [upd_ne _ _ he] at hx
      simp only [Array.getElem?_setIfInBounds_ne (Ne.symm he)]; exact h _ _ hx
  · have he : x ≠ b := by intro e; subst e; rw [h0] at hn; cases hn
    simp only [Array.getElem?_setIfInBounds_ne (Ne.symm he)]
  · by_cases he : x = b
    · subst he; exact .inl (by rw [h0]; simp)
    · rw [upd_ne _ _ he] at hx; exact .inl hx

/-! ### cells -/
def Hp.cell (H : Hp) (a : Addr) : Option Value :=
  match H a.block with
  | some (.cells c _ _) => if a.spot.isSome then none else c[a.off]?
  | _ => none
theorem Sub.cell {H : Hp} {w : World} (h : Sub H w) {a : Addr} {v : Value} (k : H.cell a = some v) : w.cell? a = some v := by
  unfold Hp.cell at k; unfold World.cell?
  cases hb : H a.block with
  | none => simp [hb] at k
  | some o => rw [h _ _ hb]; rw [hb] at k; exact k

def shapeOf : Obj → Option (TypeId × Nat)
  | .cells c e _ => some (e, c.size)
  | _ => none
def frozenIn (off : Nat) : Obj → Bool
  | .cells _ _ (lo, hi) => lo ≤ off && off < hi
  | _ => false
def isCells : Obj → Bool
  | .cells .. => true
  | _ => false
def setIn (a : Addr) (v : Value) : Obj → Obj
  | .cells c e f => .cells (if a.spot.isSome then c else c.setIfInBounds a.off v) e f
  | o => o
def freezeIn (a : Addr) (n : Nat) : Obj → Obj
  | .cells c elem (lo, hi) => .cells c elem (if lo == hi then (a.off, a.off + n) else (min lo a.off, max hi (a.off + n)))
  | o => o
def plainCell : Value → Bool
  | .agg _ => false
  | .tuple _ => false
  | _ => true

theorem Ext.setCell {H : Hp} {w : World} (h : Sub H w) {a : Addr} {o : Obj} (h0 : H a.block = some o) (v : Value) : Ext H w (H.upd a.block (setIn a v o)) (w.setCell a v) := by
  have := Ext.set h h0 (setIn a v o)
  have e : w.setCell a v = { w with heap := w.heap.setIfInBounds a.block (setIn a v o) } := by
    have hb := h _ _ h0
    simp only [World.setCell]
    congr 1
    apply Array.ext_getElem?
    intro i
    rw [Array.getElem?_modify]
    by_cases hi : a.block = i
    · subst hi
      rw [if_pos rfl, hb]
      have := h.lt h0
      simp [this, setIn]
      cases o <;> rfl
    · rw [if_neg hi, Array.getElem?_setIfInBounds_ne hi]
  rw [e]; exact this

theorem Ext.freeze {H : Hp} {w : World} (h : Sub H w) {a : Addr} {n : Nat} (hn : n ≠ 0) {o : Obj} (h0 : H a.block = some o) : Ext H w (H.upd a.block (freezeIn a n o)) (w.freeze a n) := by
  have := Ext.set h h0 (freezeIn a n o)
  have e : w.freeze a n = { w with heap := w.heap.setIfInBounds a.block (freezeIn a n o) } := by
    have hb := h _ _ h0
    simp only [World.freeze, if_neg hn]
    congr 1
    apply Array.ext_getElem?
    intro i
    rw [Array.getElem?_modify]
    by_cases hi : a.block = i
    · subst hi
      rw [if_pos rfl, hb]
      have := h.lt h0
      simp [this, freezeIn]
      cases o <;> rfl
    · rw [if_neg hi, Array.getElem?_setIfInBounds_ne hi]
  rw [e]; exact this

/-! ### a run on a partial heap: whatever numbers new blocks get, whatever is drawn -/
def Lt (P : Program) {α : Type} : Sem α → Hp → (α → Hp → Prop) → Prop
  | .pure a, H, K => K a H
  | .load _ a k, H, K => ∃ v, H.cell a = some v ∧ Lt P (k v) H K
  | .store _ a v k, H, K => ∃ o, H a.block = some o ∧ plainCell v = true ∧ H.cell a ≠ none ∧ frozenIn a.off o = false ∧ Lt P k (H.upd a.block (setIn a v o)) K
  | .new o k, H, K => ∀ r, H r = none → Lt P (k r) (H.upd r o) K
  | .shape r k, H, K => ∃ o, H r = some o ∧ Lt P (k (shapeOf o)) H K
  | .freeze a n k, H, K => (n = 0 ∧ Lt P k H K) ∨ (n ≠ 0 ∧ ∃ o, H a.block = some o ∧ Lt P k (H.upd a.block (freezeIn a n o)) K)
  | .frozen a k, H, K => ∃ o, H a.block = some o ∧ Lt P (k (frozenIn a.off o)) H K
  | .getObj r k, H, K => ∃ o, H r = some o ∧ isCells o = false ∧ Lt P (k o) H K
  | .setObj r o k, H, K => ∃ o0, H r = some o0 ∧ isCells o0 = false ∧ Lt P k (H.upd r o) K
  | .choose q k, H, K => (q.forced = true → Lt P (k 0) H K) ∧ (q.forced = false → ∀ t, Lt P (k (q.cut t)) H K)
  | .program k, H, K => Lt P (k P) H K
  | .mark _ k, H, K => Lt P k H K
  | .sys _ _, _, _ => False
  | .halt _, _, _ => False

theorem Lt_bind {P : Program} {α β : Type} (s : Sem α) (f : α → Sem β) (H : Hp) (K : β → Hp → Prop) : Lt P (s.bind f) H K = Lt P s H (fun a H' => Lt P (f a) H' K) := by
  induction s generalizing H with
  | pure a => rfl
  | load m a k ih => simp only [Sem.bind, Lt, ih]
  | store m a v k ih => simp only [Sem.bind, Lt, ih]
  | new o k ih => simp only [Sem.bind, Lt, ih]
  | shape r k ih => simp only [Sem.bind, Lt, ih]
  | freeze a n k ih => simp only [Sem.bind, Lt, ih]
  | frozen a k ih => simp only [Sem.bind, Lt, ih]
  | getObj r k ih => simp only [Sem.bind, Lt, ih]
  | setObj r o k ih => simp only [Sem.bind, Lt, ih]
  | choose q k ih => simp only [Sem.bind, Lt, ih]
  | sys c k ih => rfl
  | program k ih => simp only [Sem.bind, Lt, ih]
  | mark m k ih => simp only [Sem.bind, Lt, ih]
  | halt h => rfl

theorem Lt_mono {P : Program} {α : Type} (s : Sem α) (H : Hp) {K K' : α → Hp → Prop} (h : Lt P s H K) (hk : ∀ a H, K a H → K' a H) : Lt P s H K' := by
  induction s generalizing H with
  | pure a => exact hk _ _ h
  | load m a k ih => obtain ⟨v, h1, h2⟩ := h; exact ⟨v, h1, ih _ _ h2⟩
  | store m a v k ih => obtain ⟨o, h1, h2, h3, h4, h5⟩ := h; exact ⟨o, h1, h2, h3, h4, ih _ h5⟩
  | new o k ih => exact fun r hr => ih _ _ (h r hr)
  | shape r k ih => obtain ⟨o, h1, h2⟩ := h; exact ⟨o, h1, ih _ _ h2⟩
  | freeze a n k ih =>
    rcases h with ⟨h1, h2⟩ | ⟨h1, o, h2, h3⟩
    · exact .inl ⟨h1, ih _ h2⟩
    · exact .inr ⟨h1, o, h2, ih _ h3⟩
  | frozen a k ih => obtain ⟨o, h1, h2⟩ := h; exact ⟨o, h1, ih _ _ h2⟩
  | getObj r k ih => obtain ⟨o, h1, h2, h3⟩ := h; exact ⟨o, h1, h2, ih _ _ h3⟩
  | setObj r o k ih => obtain ⟨o0, h1, h2, h3⟩ := h; exact ⟨o0, h1, h2, ih _ h3⟩
  | choose q k ih => exact ⟨fun hf => ih _ _ (h.1 hf), fun hf t => ih _ _ (h.2 hf t)⟩
  | sys c k ih => exact h.elim
  | program k ih => exact ih _ _ h
  | mark m k ih => exact ih _ h
  | halt h' => exact h.elim

theorem Lt_sound {P : Program} {α : Type} (s : Sem α) : ∀ (H : Hp) (K : α → Hp → Prop) (w : World), Lt P s H K → Sub H w →
    ∃ a w' H', s.run P w = .ok a w' ∧ K a H' ∧ Ext H w H' w' := by
  induction s with
  | pure a => exact fun H K w h hs => ⟨a, w, H, rfl, h, .refl hs⟩
  | load m a k ih =>
    intro H K w ⟨v, h1, h2⟩ hs
    obtain ⟨x, w', H', hr, hk, he⟩ := ih v H K w h2 hs
    exact ⟨x, w', H', by simp only [Sem.run, hs.cell h1]; exact hr, hk, he⟩
  | store m a v k ih =>
    intro H K w ⟨o, h1, h2, h3, h4, h5⟩ hs
    have hx := Ext.setCell hs h1 v
    obtain ⟨x, w', H', hr, hk, he⟩ := ih _ K _ h5 hx.sub
    refine ⟨x, w', H', ?_, hk, hx.trans he⟩
    have hf : w.frozen? a = false := by
      unfold World.frozen?; rw [hs _ _ h1]; cases o <;> simp_all [frozenIn]
    cases hc : H.cell a with
    | none => exact absurd hc h3
    | some u =>
      have hc' := hs.cell hc
      cases v <;> first | (simp [plainCell] at h2; done) | (simp only [Sem.run, hc', hf, Bool.false_eq_true, if_false]; exact hr)
  | new o k ih =>
    intro H K w h hs
    have hn : H w.heap.size = none := by
      cases hc : H w.heap.size with
      | none => rfl
      | some o => exact absurd (hs.lt hc) (Nat.lt_irrefl _)
    have hx := Ext.new hs o
    obtain ⟨x, w', H', hr, hk, he⟩ := ih _ _ K _ (h _ hn) hx.sub
    exact ⟨x, w', H', hr, hk, hx.trans he⟩
  | shape r k ih =>
    intro H K w ⟨o, h1, h2⟩ hs
    obtain ⟨x, w', H', hr, hk, he⟩ := ih _ H K w h2 hs
    refine ⟨x, w', H', ?_, hk, he⟩
    have : w.shape? r = shapeOf o := by unfold World.shape?; rw [hs _ _ h1]; cases o <;> rfl
    simp only [Sem.run, this]; exact hr
  | freeze a n k ih =>
    intro H K w h hs
    rcases h with ⟨h1, h2⟩ | ⟨h1, o, h2, h3⟩
    · obtain ⟨x, w', H', hr, hk, he⟩ := ih H K w h2 hs
      exact ⟨x, w', H', by simp only [Sem.run, World.freeze, h1, if_true]; exact hr, hk, he⟩
    · have hx := Ext.freeze hs h1 h2
      obtain ⟨x, w', H', hr, hk, he⟩ := ih _ K _ h3 hx.sub
      exact ⟨x, w', H', hr, hk, hx.trans he⟩
  | frozen a k ih =>
    intro H K w ⟨o, h1, h2⟩ hs
    obtain ⟨x, w', H', hr, hk, he⟩ := ih _ H K w h2 hs
    refine ⟨x, w', H', ?_, hk, he⟩
    have : w.frozen? a = frozenIn a.off o := by unfold World.frozen?; rw [hs _ _ h1]; cases o <;> rfl
    simp only [Sem.run, this]; exact hr
  | getObj r k ih =>
    intro H K w ⟨o, h1, h2, h3⟩ hs
    obtain ⟨x, w', H', hr, hk, he⟩ := ih _ H K w h3 hs
    refine ⟨x, w', H', ?_, hk, he⟩
    simp only [Sem.run, hs _ _ h1]
    cases o <;> first | exact hr | simp [isCells] at h2
  | setObj r o k ih =>
    intro H K w ⟨o0, h1, h2, h3⟩ hs
    have hx := Ext.set hs h1 o
    obtain ⟨x, w', H', hr, hk, he⟩ := ih _ K _ h3 hx.sub
    refine ⟨x, w', H', ?_, hk, hx.trans he⟩
    simp only [Sem.run, hs _ _ h1]
    cases o0 <;> first | exact hr | simp [isCells] at h2
  | choose q k ih =>
    intro H K w ⟨h1, h2⟩ hs
    cases hf : q.forced with
    | true =>
      obtain ⟨x, w', H', hr, hk, he⟩ := ih _ H K w (h1 hf) hs
      exact ⟨x, w', H', by simp only [Sem.run, hf, if_true]; exact hr, hk, he⟩
    | false =>
      have hx := Ext.drew hs (w.drawn + 1)
      obtain ⟨x, w', H', hr, hk, he⟩ := ih _ H K _ (h2 hf (w.tape w.drawn q)) hx.sub
      exact ⟨x, w', H', by simp only [Sem.run, hf, Bool.false_eq_true, if_false]; exact hr, hk, hx.trans he⟩
  | sys c k ih => exact fun H K w h hs => h.elim
  | program k ih => exact fun H K w h hs => ih _ H K w h hs
  | mark m k ih => exact fun H K w h hs => ih H K w h hs
  | halt h' => exact fun H K w h hs => h.elim

/-- What only looks, at blocks of a partial heap: one value, whatever the world. -/
def Lq (P : Program) {α : Type} : Sem α → Hp → (α → Prop) → Prop
  | .pure a, _, K => K a
  | .load _ a k, H, K => ∃ v, H.cell a = some v ∧ Lq P (k v) H K
  | .shape r k, H, K => ∃ o, H r = some o ∧ Lq P (k (shapeOf o)) H K
  | .frozen a k, H, K => ∃ o, H a.block = some o ∧ Lq P (k (frozenIn a.off o)) H K
  | .getObj r k, H, K => ∃ o, H r = some o ∧ isCells o = false ∧ Lq P (k o) H K
  | .program k, H, K => Lq P (k P) H K
  | .mark _ k, H, K => Lq P k H K
  | _, _, _ => False
theorem Lq_bind {P : Program} {α β : Type} (s : Sem α) (f : α → Sem β) (H : Hp) (K : β → Prop) : Lq P (s.bind f) H K = Lq P s H (fun a => Lq P (f a) H K) := by
  induction s with
  | pure a => rfl
  | load m a k ih => simp only [Sem.bind, Lq, ih]
  | store m a v k ih => rfl
  | new o k ih => rfl
  | shape r k ih => simp only [Sem.bind, Lq, ih]
  | freeze a n k ih => rfl
  | frozen a k ih => simp only [Sem.bind, Lq, ih]
  | getObj r k ih => simp only [Sem.bind, Lq, ih]
  | setObj r o k ih => rfl
  | choose q k ih => rfl
  | sys c k ih => rfl
  | program k ih => simp only [Sem.bind, Lq, ih]
  | mark m k ih => simp only [Sem.bind, Lq, ih]
  | halt h => rfl
theorem Lq_sound {P : Program} {α : Type} (s : Sem α) : ∀ (H : Hp) (K : α → Prop), Lq P s H K → ∃ a, K a ∧ ∀ w, Sub H w → s.run P w = .ok a w := by
  induction s with
  | pure a => exact fun H K h => ⟨a, h, fun _ _ => rfl⟩
  | load m a k ih =>
    intro H K ⟨v, h1, h2⟩
    obtain ⟨x, hk, hr⟩ := ih v H K h2
    exact ⟨x, hk, fun w hs => by simp only [Sem.run, hs.cell h1]; exact hr w hs⟩
  | shape r k ih =>
    intro H K ⟨o, h1, h2⟩
    obtain ⟨x, hk, hr⟩ := ih _ H K h2
    refine ⟨x, hk, fun w hs => ?_⟩
    have : w.shape? r = shapeOf o := by unfold World.shape?; rw [hs _ _ h1]; cases o <;> rfl
    simp only [Sem.run, this]; exact hr w hs
  | frozen a k ih =>
    intro H K ⟨o, h1, h2⟩
    obtain ⟨x, hk, hr⟩ := ih _ H K h2
    refine ⟨x, hk, fun w hs => ?_⟩
    have : w.frozen? a = frozenIn a.off o := by unfold World.frozen?; rw [hs _ _ h1]; cases o <;> rfl
    simp only [Sem.run, this]; exact hr w hs
  | getObj r k ih =>
    intro H K ⟨o, h1, h2, h3⟩
    obtain ⟨x, hk, hr⟩ := ih _ H K h3
    refine ⟨x, hk, fun w hs => ?_⟩
    simp only [Sem.run, hs _ _ h1]
    cases o <;> first | exact hr w hs | simp [isCells] at h2
  | program k ih =>
    intro H K h
    obtain ⟨x, hk, hr⟩ := ih _ H K h
    exact ⟨x, hk, fun w hs => hr w hs⟩
  | mark m k ih =>
    intro H K h
    obtain ⟨x, hk, hr⟩ := ih H K h
    exact ⟨x, hk, fun w hs => hr w hs⟩
  | store m a v k ih => exact fun H K h => h.elim
  | new o k ih => exact fun H K h => h.elim
  | freeze a n k ih => exact fun H K h => h.elim
  | setObj r o k ih => exact fun H K h => h.elim
  | choose q k ih => exact fun H K h => h.elim
  | sys c k ih => exact fun H K h => h.elim
  | halt h' => exact fun H K h => h.elim
theorem Lt_of_Lq {P : Program} {α : Type} (s : Sem α) : ∀ (H : Hp) (K : α → Prop), Lq P s H K → Lt P s H (fun a H' => H' = H ∧ K a) := by
  induction s with
  | pure a => exact fun H K h => ⟨rfl, h⟩
  | load m a k ih => exact fun H K ⟨v, h1, h2⟩ => ⟨v, h1, ih _ H K h2⟩
  | shape r k ih => exact fun H K ⟨o, h1, h2⟩ => ⟨o, h1, ih _ H K h2⟩
  | frozen a k ih => exact fun H K ⟨o, h1, h2⟩ => ⟨o, h1, ih _ H K h2⟩
  | getObj r k ih => exact fun H K ⟨o, h1, h2, h3⟩ => ⟨o, h1, h2, ih _ H K h3⟩
  | program k ih => exact fun H K h => ih _ H K h
  | mark m k ih => exact fun H K h => ih H K h
  | store m a v k ih => exact fun H K h => h.elim
  | new o k ih => exact fun H K h => h.elim
  | freeze a n k ih => exact fun H K h => h.elim
  | setObj r o k ih => exact fun H K h => h.elim
  | choose q k ih => exact fun H K h => h.elim
  | sys c k ih => exact fun H K h => h.elim
  | halt h' => exact fun H K h => h.elim
end Go.Proofs.Ytlkopcgoaldpeaa.HL
