/- What a call may change: the blocks that a thing owns; all other known blocks stand. -/
import Derived.Test.YtlkopcgoaldpeaaHLFrame2
namespace Go.Proofs.Ytlkopcgoaldpeaa.HL
open Go
/-- From H to H' all known blocks outside S stand; the blocks of S' are of S, or were not known. -/
def Frm (H : Hp) (S : Nat → Prop) (H' : Hp) (S' : Nat → Prop) : Prop := (∀ b o, H b = some o → ¬ S b → H' b = some o) ∧ ∀ b, S' b → S b ∨ H b = none
theorem Frm.refl (H : Hp) (S : Nat → Prop) : Frm H S H S := ⟨fun _ _ h _ => h, fun _ h => .inl h⟩
theorem Frm.trans {H H1 H2 : Hp} {S S1 S2 : Nat → Prop} (h1 : Frm H S H1 S1) (h2 : Frm H1 S1 H2 S2) : Frm H S H2 S2 := by
  refine ⟨fun b o hb hn => ?_, fun b hb => ?_⟩
  · refine h2.1 b o (h1.1 b o hb hn) fun hs => ?_
    rcases h1.2 b hs with h | h
    · exact hn h
    · rw [h] at hb; cases hb
  · rcases h2.2 b hb with h | h
    · exact h1.2 b h
    · by_cases hs : S b
      · exact .inl hs
      · right
        cases ho : H b with
        | none => rfl
        | some o => rw [h1.1 b o ho hs] at h; cases h
theorem Frm.new {H H1 : Hp} {S S1 : Nat → Prop} (h : Frm H S H1 S1) {b : Nat} {o : Obj} (hb : H1 b = none) : Frm H S (H1.upd b o) S1 := by
  refine ⟨fun x o' hx hn => ?_, h.2⟩
  have := h.1 x o' hx hn
  rw [upd_ne _ _ (by intro e; subst e; rw [this] at hb; cases hb)]; exact this
theorem Frm.le {H0 H H' : Hp} {S S' : Nat → Prop} (h : Frm H S H' S') (hl : Le H0 H) (hs : ∀ b, S b → H0 b = none) : Le H0 H' := fun b o hb =>
  h.1 b o (hl b o hb) fun hS => by rw [hs b hS] at hb; cases hb
theorem Frm.sep {H0 H H' : Hp} {S S' : Nat → Prop} (h : Frm H S H' S') (hl : Le H0 H) (hs : ∀ b, S b → H0 b = none) : ∀ b, S' b → H0 b = none := fun b hb => by
  rcases h.2 b hb with h1 | h1
  · exact hs b h1
  · exact none_of_le hl h1
/-- Another thing's blocks stay apart. -/
theorem Frm.disj {H H' : Hp} {S S' T : Nat → Prop} (h : Frm H S H' S') (hT : ∀ b, T b → H b ≠ none) (hd : ∀ b, T b → ¬ S b) : ∀ b, T b → ¬ S' b := fun b hb hS => by
  rcases h.2 b hS with h1 | h1
  · exact hd b hb h1
  · exact hT b hb h1
theorem Frm.stay {H H' : Hp} {S S' T : Nat → Prop} (h : Frm H S H' S') (hd : ∀ b, T b → ¬ S b) : ∀ b o, T b → H b = some o → H' b = some o := fun b o hb ho => h.1 b o ho (hd b hb)
theorem Frm.of_le {H H' : Hp} (S : Nat → Prop) (h : Le H H') : Frm H S H' S := ⟨fun b o hb _ => h b o hb, fun _ hb => .inl hb⟩
theorem Holds.frm {H H' : Hp} {S S' : Nat → Prop} (h : Frm H S H' S') {w : Nat} {v : Value} {n : Nat} {cs : List Value} {H0 : Hp} (hv : Holds H0 w v n cs) (hl : Le H0 H) (hs : ∀ b, S b → H0 b = none) : Holds H' w v n cs := hv.le (h.le hl hs)
theorem OwnS.stay {H H' : Hp} {E : TypeId} {w : Nat} {v : Value} {n : Nat} {cs : List Value} {rs : Option Nat} (h : OwnS H E w v n cs rs) (k : ∀ b o, rs = some b → H b = some o → H' b = some o) : OwnS H' E w v n cs rs := by
  obtain ⟨h1, h2⟩ := h
  refine ⟨h1, h2.imp id ?_⟩
  rintro ⟨r, cap, c, h3, h4, h5, h6, h7, h8⟩
  exact ⟨r, cap, c, h3, k r _ h8 h4, h5, h6, h7, h8⟩
theorem OwnS.known {H : Hp} {E : TypeId} {w : Nat} {v : Value} {n : Nat} {cs : List Value} {rs : Option Nat} (h : OwnS H E w v n cs rs) : ∀ b, rs = some b → H b ≠ none := by
  obtain ⟨_, ⟨_, _, h3⟩ | ⟨r, cap, c, _, h4, _, _, _, h8⟩⟩ := h
  · intro b hb; rw [h3] at hb; cases hb
  · intro b hb; rw [h8] at hb; cases hb; rw [h4]; simp
theorem Grow.known {H H' : Hp} {rs : Option Nat} (h : Grow H rs H') : ∀ b o, H b = some o → rs ≠ some b → H' b = some o := by
  intro b o hb hn
  rcases h with rfl | ⟨r, o', hr, rfl⟩
  · exact hb
  · rw [upd_ne]
    · exact hb
    · intro e; subst e
      rcases hr with hr | hr
      · exact hn hr
      · rw [hr] at hb; cases hb
end Go.Proofs.Ytlkopcgoaldpeaa.HL
namespace Go.Proofs.Ytlkopcgoaldpeaa.HL
open Go
theorem OwnS.set {H : Hp} {E : TypeId} {k : IntKind} {r n cap : Nat} {l : List Int} {c : Array Value} (h : OwnS H E 1 (.slice (some ⟨r, 0, none⟩) n cap) n (l.map (Value.int k ·)) (some r)) (hc : H r = some (.cells c E)) (i : Nat) (hi : i < n) (y : Int) : OwnS (H.upd r (.cells (c.setIfInBounds i (.int k y)) E)) E 1 (.slice (some ⟨r, 0, none⟩) n cap) n ((l.set i y).map (Value.int k ·)) (some r) := by
  obtain ⟨h1, ⟨h2, _, _⟩ | ⟨r', cap', c', h3, h4, h5, h6, h7, h8⟩⟩ := h
  · cases h2
  · cases h3
    rw [hc] at h4; cases h4
    refine ⟨by simpa using h1, .inr ⟨r, cap, _, rfl, upd_same _ _ _, h5, by simpa using h6, ?_, rfl⟩⟩
    have e : (l.set i y).map (Value.int k ·) = (l.map (Value.int k ·)).set i (.int k y) := by rw [List.map_set]
    rw [e, ← h7]
    simp only [Array.toList_extract, List.extract_eq_take_drop, Array.toList_setIfInBounds, List.drop_zero, Nat.sub_zero, List.take_set]
theorem Lt_convSB {P : Program} {H : Hp} {s t e : TypeId} (hs : P.underlying s = some .string) (ht : P.underlying t = some (.slice e)) (he : P.underlying e = some (.int .u8)) {l : List Int} (hB : ByteL l) {K : Value → Hp → Prop}
    (h : ∀ r cap (C : Array Value), H r = none → l.length ≤ cap → C.size = cap → (C.extract 0 l.length).toList = u8s l → K (.slice (some ⟨r, 0, none⟩) l.length cap) (H.upd r (.cells C e (C.size, C.size + 1)))) : Lt P (Go.convert s t (.string (strOf l))) H K := by
  simp only [Go.convert, l_bind, l_und, hs, ht, he, orF_some, Conv.stringToBytes]
  refine ⟨fun hf => by simp [Question.forced] at hf, fun _ tt => ?_⟩
  simp only [Question.cut, strOf_size]
  generalize hc : l.length + tt % (2 ^ 63 - l.length) = cap
  have hle : l.length ≤ cap := by omega
  simp only [Sem.pure, l_pure', l_bind, l_newRow, l_pure]
  intro r hr
  have hm : (Array.map (fun b => Value.int IntKind.u8 ↑(UInt8.toNat b)) (strOf l).data).toList = u8s l := by
    simp only [strOf, Array.toList_map, List.map_map]
    apply List.map_congr_left
    intro x hx
    have := hB x hx
    simp only [Function.comp]
    congr 1
    rw [UInt8.toNat_ofNat']; omega
  have hsz : (Array.map (fun b => Value.int IntKind.u8 ↑(UInt8.toNat b)) (strOf l).data).size = l.length := by
    rw [← Array.length_toList, hm]; simp
  have key := h r cap (Array.map (fun b => Value.int IntKind.u8 ↑(UInt8.toNat b)) (strOf l).data ++ Array.replicate (cap - l.length) (Value.int IntKind.u8 0)) hr hle (by rw [Array.size_append, hsz]; simp; omega) (by
    rw [Array.toList_extract, List.extract_eq_take_drop]
    simp only [Array.toList_append, Nat.sub_zero, List.drop_zero, hm]
    have e0 : l.length = (u8s l).length := by simp
    rw [e0, List.take_append_of_le_length (Nat.le_refl _), List.take_length])
  simp only [markStringish]
  refine ⟨_, upd_same _ _ _, .inr ⟨by decide, _, upd_same _ _ _, ?_⟩⟩
  rw [upd_upd]
  exact key
end Go.Proofs.Ytlkopcgoaldpeaa.HL
